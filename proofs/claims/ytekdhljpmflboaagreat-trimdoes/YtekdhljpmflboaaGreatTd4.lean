/- PART 4 of 7 of a proof: see the last part. -/
import Derived.Test.YtekdhljpmflboaaGreatTd3
set_option maxRecDepth 8000
set_option maxHeartbeats 2000000
set_option linter.unusedSimpArgs false
set_option linter.unusedVariables false
set_option linter.unusedSectionVars false
namespace Go.Proofs.YtekdhljpmflboaaGreat
open Go
section
variable {P:Program} {T:TB P} {o:Oper} {fr:Fr} {hp:Hp} {Rl:List Nat} {K:Stp->Prop}
def y3e (fr:Fr) (y:Operand) (K:Stp->Prop):Prop:=vev fr y fun x=>K ⟨x,[],[],[]⟩
theorem vMove_ok {y:Operand} (ho:o.op = .move y) (h:y3e fr y K):Does P Rl o fr hp K:=by
  obtain ⟨x,hx,hk⟩:=z1i h
  exact ⟨_,hk,.pure fun c R1 fr2 hp2 ha _ _=>y0d ho (ha.ev hx (by rw [ho];simp [Op.operands]))⟩
theorem y8l {y:Operand} (ho:o.op = .assign y) (h:y3e fr y K):Does P Rl o fr hp K:=by
  obtain ⟨x,hx,hk⟩:=z1i h
  exact ⟨_,hk,.pure fun c R1 fr2 hp2 ha _ _=>zp8 ho (ha.ev hx (by rw [ho];simp [Op.operands]))⟩
def vPick (fr:Fr) (q y w:Operand) (K:Stp->Prop):Prop:=vev fr q fun b=>match b with
  | .pv (.val (.bool t))=>bsel t (y3e fr y K) (y3e fr w K)
  | _=>False
theorem vPick_ok {q y w:Operand} (ho:o.op = .pick q y w) (h:vPick fr q y w K):Does P Rl o fr hp K:=by
  obtain ⟨b,hb,hk⟩:=z1i h
  split at hk
  · rename_i t
    cases t with
    | true =>
      obtain ⟨x,hx,hk⟩:=z1i (show y3e fr y K from hk)
      exact ⟨_,hk,.pure fun c R1 fr2 hp2 ha _ _=>z8q ho (ha.ev hb (by rw [ho];simp [Op.operands])) (ha.ev hx (by rw [ho];simp [Op.operands]))⟩
    | false =>
      obtain ⟨x,hx,hk⟩:=z1i (show y3e fr w K from hk)
      exact ⟨_,hk,.pure fun c R1 fr2 hp2 ha _ _=>z7k ho (ha.ev hb (by rw [ho];simp [Op.operands])) (ha.ev hx (by rw [ho];simp [Op.operands]))⟩
  · exact hk.elim
def y9e:BinOp->Int->Int->Option Bool
  | .eql,m,n=>some (m==n)
  | .neq,m,n=>some (m != n)
  | .lss,m,n=>some (decide (m<n))
  | .leq,m,n=>some (decide (m<=n))
  | .gtr,m,n=>some (decide (m > n))
  | .geq,m,n=>some (decide (m ≥ n))
  | _,_,_=>none
theorem y9f {p:BinOp} {k:IntKind} {m n:Int} {b:Bool} (h:y9e p m n=some b):z3x p k m n=some (.bool b):=by
  cases p<;>simp only [y9e] at h<;>first | (cases h;done) | (cases h;rfl)
def y9g:BinOp->ByteArray->ByteArray->Option Bool
  | .eql,x,y=>some (x.toList==y.toList)
  | .neq,x,y=>some (!(x.toList==y.toList))
  | .lss,x,y=>some (Op.bytesLess x.toList y.toList)
  | .leq,x,y=>some (Op.bytesLess x.toList y.toList||x.toList==y.toList)
  | .gtr,x,y=>some (!(Op.bytesLess x.toList y.toList||x.toList==y.toList))
  | .geq,x,y=>some (!Op.bytesLess x.toList y.toList)
  | _,_,_=>none
theorem y9h {p:BinOp} {x y:ByteArray} {b:Bool} (h:y9g p x y=some b):y32 p x y=some (.bool b):=by
  cases p<;>simp only [y9g] at h<;>first | (cases h;done) | (cases h;rfl)
inductive VBin (p:BinOp) (k:IntKind) (m n:Int) (K:Value->Prop):Prop
  | mk {v:Value} (h:z3x p k m n=some v) (k:K v)
inductive VStr (p:BinOp) (m n:ByteArray) (K:Value->Prop):Prop
  | mk {v:Value} (h:y32 p m n=some v) (k:K v)
def vBin (T:TB P) (p:BinOp) (t:Nat) (fr:Fr) (y w:Operand) (K:Stp->Prop):Prop:=vev fr y fun a=>vev fr w fun b=>match a with
  | .pv (.val (.int k m))=>match b with
    | .pv (.val (.int k' n))=>match p with
      | .shl=>0<=n/\K ⟨.pv (.val (.int k (k.wrap (m*2 ^ (min n.toNat k.bits))))),[],[],[]⟩
      | .shr=>0<=n/\K ⟨.pv (.val (.int k (m.fdiv (2 ^ (min n.toNat k.bits))))),[],[],[]⟩
      | p=>z2c (k'==k) (match y9e p m n with
        | some v=>K ⟨.pv (.val (.bool v)),[],[],[]⟩
        | none=>VBin p k m n fun v=>K ⟨.pv (.val v),[],[],[]⟩)
    | _=>False
  | .pv (.val (.string m))=>match b with
    | .pv (.val (.string n))=>match y9g p m n with
      | some v=>K ⟨.pv (.val (.bool v)),[],[],[]⟩
      | none=>VStr p m n fun v=>K ⟨.pv (.val v),[],[],[]⟩
    | _=>False
  | .pv (.val (.bool q))=>match b with
    | .pv (.val (.bool r))=>vti T t fun e=>match e.i with
      | .bool=>match p with
        | .eql=>K ⟨.pv (.val (.bool (q==r))),[],[],[]⟩
        | .neq=>K ⟨.pv (.val (.bool (!(q==r)))),[],[],[]⟩
        | _=>False
      | _=>False
    | _=>False
  | _=>False
theorem vBin_ok {p:BinOp} {t u:Nat} {y w:Operand} (ho:o.op = .binOp p t y w u) (h:vBin T p t fr y w K):Does P Rl o fr hp K:=by
  obtain ⟨a,ha,h⟩:=z1i h
  obtain ⟨b,hb,h⟩:=z1i h
  have ea:∀ {fr2:Fr},agr fr2 fr (z17 o.op)->fr2.ev y=some a:=fun hg=>hg.ev ha (by rw [ho];simp [Op.operands])
  have eb:∀ {fr2:Fr},agr fr2 fr (z17 o.op)->fr2.ev w=some b:=fun hg=>hg.ev hb (by rw [ho];simp [Op.operands])
  split at h
  · rename_i k m
    split at h
    · rename_i k' n
      split at h
      · exact ⟨_,h.2,.pure fun c R1 fr2 hp2 hg _ _=>ok_shl ho (ea hg) (eb hg) h.1⟩
      · exact ⟨_,h.2,.pure fun c R1 fr2 hp2 hg _ _=>ok_shr ho (ea hg) (eb hg) h.1⟩
      · obtain ⟨hk,h⟩:=z0i h
        obtain rfl:=eq_of_beq hk
        split at h
        · rename_i v hv
          exact ⟨_,h,.pure fun c R1 fr2 hp2 hg _ _=>z9a ho (ea hg) (eb hg) (y9f hv)⟩
        · obtain ⟨h1,h2⟩:=h
          exact ⟨_,h2,.pure fun c R1 fr2 hp2 hg _ _=>z9a ho (ea hg) (eb hg) h1⟩
    · exact h.elim
  · split at h
    · split at h
      · rename_i v hv
        exact ⟨_,h,.pure fun c R1 fr2 hp2 hg _ _=>bSt ho (ea hg) (eb hg) (y9h hv)⟩
      · obtain ⟨h1,h2⟩:=h
        exact ⟨_,h2,.pure fun c R1 fr2 hp2 hg _ _=>bSt ho (ea hg) (eb hg) h1⟩
    · exact h.elim
  · split at h
    · obtain ⟨e,he,h⟩:=z1z h
      obtain ⟨d,hd,hi⟩:=z4c he
      split at h
      · rename_i hb
        rw [hb] at hi
        cases hi
        split at h
        · exact ⟨_,h,.pure fun c R1 fr2 hp2 hg _ _=>y48 ho (ea hg) (eb hg) hd⟩
        · exact ⟨_,h,.pure fun c R1 fr2 hp2 hg _ _=>zb1 ho (ea hg) (eb hg) hd⟩
        · exact h.elim
      · exact h.elim
    · exact h.elim
  · exact h.elim
def vUn (p:UnOp) (fr:Fr) (y:Operand) (K:Stp->Prop):Prop:=vev fr y fun a=>match p with
  | .not=>match a with
    | .pv (.val (.bool b))=>K ⟨.pv (.val (.bool (!b))),[],[],[]⟩
    | _=>False
  | .neg=>match a with
    | .pv (.val (.int k n))=>K ⟨.pv (.val (.int k (k.wrap (0 - n)))),[],[],[]⟩
    | _=>False
  | _=>False
theorem vUn_ok {p:UnOp} {t:Nat} {y:Operand} (ho:o.op = .unOp p t y) (h:vUn p fr y K):Does P Rl o fr hp K:=by
  obtain ⟨a,ha,h⟩:=z1i h
  have ea:∀ {fr2:Fr},agr fr2 fr (z17 o.op)->fr2.ev y=some a:=fun hg=>hg.ev ha (by rw [ho];simp [Op.operands])
  split at h
  · split at h
    · exact ⟨_,h,.pure fun c R1 fr2 hp2 hg _ _=>yd3 ho (ea hg)⟩
    · exact h.elim
  · split at h
    · exact ⟨_,h,.pure fun c R1 fr2 hp2 hg _ _=>ok_neg ho (ea hg)⟩
    · exact h.elim
  · exact h.elim
def vConv (T:TB P) (s t:Nat) (fr:Fr) (y:Operand) (K:Stp->Prop):Prop:=vev fr y fun a=>match a with
  | .pv (.val (.int _ n))=>vti T s fun _=>vti T t fun e=>match e.i with
    | .int k'=>K ⟨.pv (.val (.int k' (k'.wrap n))),[],[],[]⟩
    | _=>False
  | _=>False
theorem vConv_ok {s t:Nat} {y:Operand} (ho:o.op = .convert s t y) (h:vConv T s t fr y K):Does P Rl o fr hp K:=by
  obtain ⟨a,ha,h⟩:=z1i h
  have ea:∀ {fr2:Fr},agr fr2 fr (z17 o.op)->fr2.ev y=some a:=fun hg=>hg.ev ha (by rw [ho];simp [Op.operands])
  split at h
  · obtain ⟨e1,he1,h⟩:=z1z h
    obtain ⟨e,he,h⟩:=z1z h
    obtain ⟨d1,hd1,_⟩:=z4c he1
    obtain ⟨d,hd,hi⟩:=z4c he
    split at h
    · rename_i hb
      rw [hb] at hi
      cases hi
      exact ⟨_,h,.pure fun c R1 fr2 hp2 hg _ _=>zb0 ho (ea hg) ⟨d1,hd1⟩ hd⟩
    · exact h.elim
  · exact h.elim
inductive VIdx (els:List (List PV)) (m:Int) (K:List PV->Prop):Prop
  | mk {i:Nat} {el:List PV} (hi:els[i]? = some el) (hm:m=i) (k:K el)
inductive VIdR (n:Nat) (m:Int) (K:Nat->Prop):Prop
  | mk {i:Nat} (hi:i<n) (hm:m=i) (k:K i)
inductive VIdS (s:ByteArray) (m:Int) (K:UInt8->Prop):Prop
  | mk {i:Nat} {b:UInt8} (hi:s[i]? = some b) (hm:m=i) (k:K b)
def vIdxA (T:TB P) (t:Nat) (fr:Fr) (hp:Hp) (y w:Operand) (K:Stp->Prop):Prop:=vev fr y fun a=>vev fr w fun b=>match b with
  | .pv (.val (.int _ m))=>vti T t fun e=>match e.i with
    | .slice q=>vti T q fun eq=>match a with
      | .pv (.seq els)=>VIdx els m fun el=>z2c (Nat.beq el.length eq.n) (K ⟨.pv (.ept el 0),[],[],[]⟩)
      | .sl k n=>vrow hp k fun s els=>z2c (Nat.beq s.e q&&Nat.beq s.n eq.n) (els.length=n/\VIdR n m fun i=>K ⟨.rpt k n (i*s.n),[],[k],[]⟩)
      | .bs k n=>vbox hp k fun _=>z2c (Nat.beq eq.n 1) (VIdR n m fun i=>K ⟨.ptr k i,[],[k],[]⟩)
      | _=>False
    | .arr n q=>vti T q fun eq=>match a with
      | .ptr k off=>vbox hp k fun _=>VIdR n m fun i=>K ⟨.ptr k (off+i*eq.n),[],[k],[]⟩
      | _=>False
    | _=>False
  | _=>False
theorem vIdxA_ok {t:Nat} {y w:Operand} (ho:o.op = .indexAddr t y w) (h:vIdxA T t fr hp y w K):Does P Rl o fr hp K:=by
  obtain ⟨a,ha,h⟩:=z1i h
  obtain ⟨b,hb,h⟩:=z1i h
  have ea:∀ {fr2:Fr},agr fr2 fr (z17 o.op)->fr2.ev y=some a:=fun hg=>hg.ev ha (by rw [ho];simp [Op.operands])
  have eb:∀ {fr2:Fr},agr fr2 fr (z17 o.op)->fr2.ev w=some b:=fun hg=>hg.ev hb (by rw [ho];simp [Op.operands])
  split at h
  · obtain ⟨e,he,h⟩:=z1z h
    obtain ⟨d,hd,hi⟩:=z4c he
    split at h
    · rename_i q hq
      rw [hq] at hi
      cases hi
      obtain ⟨eq,heq,h⟩:=z1z h
      split at h
      · obtain ⟨h1,h2,h⟩:=h
        obtain ⟨h3,h⟩:=z0i h
        exact ⟨_,h,.pure fun c R1 fr2 hp2 hg _ _=>iSq ho (ea hg) (eb hg) hd h1 (z2g heq) (Nat.eq_of_beq_eq_true h3) h2⟩
      · rename_i k n
        obtain ⟨s,els,hk,h⟩:=z6j h
        obtain ⟨h3,h⟩:=z0i h
        obtain ⟨hn,h1,h2,h9⟩:=h
        simp only [Bool.and_eq_true] at h3
        obtain rfl:=Nat.eq_of_beq_eq_true h3.1
        exact ⟨_,h9,.pure fun c R1 fr2 hp2 hg hh _=>iRw ho (ea hg) (eb hg) (hh.at hk (.head _)) hn hd (by rw [z2g heq,Nat.eq_of_beq_eq_true h3.2]) h1 h2⟩
      · rename_i k n
        obtain ⟨cs,hk,h⟩:=z4z h
        obtain ⟨h3,h⟩:=z0i h
        obtain ⟨h1,h2,h⟩:=h
        exact ⟨_,h,.pure fun c R1 fr2 hp2 hg hh _=>y49 ho (ea hg) (eb hg) (hh.at hk (.head _)) hd (by rw [z2g heq,Nat.eq_of_beq_eq_true h3]) h1 h2⟩
      · exact h.elim
    · rename_i n q hq
      rw [hq] at hi
      cases hi
      obtain ⟨eq,heq,h⟩:=z1z h
      split at h
      · rename_i k off
        obtain ⟨cs,hk,h⟩:=z4z h
        obtain ⟨h1,h2,h⟩:=h
        exact ⟨_,h,.pure fun c R1 fr2 hp2 hg hh _=>zj8 ho (ea hg) (eb hg) (hh.at hk (.head _)) hd (z2g heq) h2 h1⟩
      · exact h.elim
    · exact h.elim
  · exact h.elim
def vIdxV (T:TB P) (t:Nat) (fr:Fr) (y w:Operand) (K:Stp->Prop):Prop:=vev fr y fun a=>vev fr w fun b=>match b with
  | .pv (.val (.int _ m))=>match a with
    | .pv (.val (.string s))=>vti T t fun e=>match e.i with
      | .str=>VIdS s m fun b=>K ⟨.pv (.val (.int .u8 b.toNat)),[],[],[]⟩
      | _=>False
    | _=>False
  | _=>False
theorem vIdxV_ok {t:Nat} {y w:Operand} (ho:o.op = .index t y w) (h:vIdxV T t fr y w K):Does P Rl o fr hp K:=by
  obtain ⟨a,ha,h⟩:=z1i h
  obtain ⟨b,hb,h⟩:=z1i h
  have ea:∀ {fr2:Fr},agr fr2 fr (z17 o.op)->fr2.ev y=some a:=fun hg=>hg.ev ha (by rw [ho];simp [Op.operands])
  have eb:∀ {fr2:Fr},agr fr2 fr (z17 o.op)->fr2.ev w=some b:=fun hg=>hg.ev hb (by rw [ho];simp [Op.operands])
  split at h
  · split at h
    · obtain ⟨e,he,h⟩:=z1z h
      obtain ⟨d,hd,hi⟩:=z4c he
      split at h
      · rename_i hq
        rw [hq] at hi
        cases hi
        obtain ⟨h1,h2,h⟩:=h
        exact ⟨_,h,.pure fun c R1 fr2 hp2 hg _ _=>z58 ho (ea hg) (eb hg) hd h1 h2⟩
      · exact h.elim
    · exact h.elim
  · exact h.elim
def yl4 (T:TB P) (t:Nat) (fr:Fr) (hp:Hp) (y:Operand) (f:Nat) (K:Stp->Prop):Prop:=vev fr y fun a=>vti T t fun e=>match e.i with
  | .struct fs=>vopt fs[f]? fun p=>vti T p.2 fun ef=>z2c (Nat.blt 0 ef.n) (match a with
    | .pv (.ept cs off)=>K ⟨.pv (.ept cs (off+p.1)),[],[],[]⟩
    | .ptr k off=>vbox hp k fun _=>K ⟨.ptr k (off+p.1),[],[k],[]⟩
    | _=>False)
  | _=>False
theorem field_ok {t f:Nat} {e ef:TE} {fs:List (Nat × Nat)} {p:Nat × Nat} (he:teB P t e=true) (hi:e.i = .struct fs) (hp:fs[f]? = some p) (hf:teB P p.2 ef=true) (hn:Nat.blt 0 ef.n=true):z0x P t f p.1:=by
  obtain ⟨d,hd,h1⟩:=z4c he
  rw [hi] at h1
  obtain ⟨a,rfl,h2⟩:=h1
  rw [<- h2,List.getElem?_map,Option.map_eq_some_iff] at hp
  obtain ⟨fd,h3,rfl⟩:=hp
  have h4:1<=ef.n:=by simpa [Nat.blt] using hn
  exact ⟨a,fd,ef.n - 1,hd,by simpa using h3,rfl,by rw [z2g hf];congr 1;omega⟩
theorem y8o {t f:Nat} {y:Operand} (ho:o.op = .fieldAddr t y f) (h:yl4 T t fr hp y f K):Does P Rl o fr hp K:=by
  obtain ⟨a,ha,h⟩:=z1i h
  have ea:∀ {fr2:Fr},agr fr2 fr (z17 o.op)->fr2.ev y=some a:=fun hg=>hg.ev ha (by rw [ho];simp [Op.operands])
  obtain ⟨e,he,h⟩:=z1z h
  split at h
  · rename_i fs hfs
    obtain ⟨p,hp',h⟩:=z0y h
    obtain ⟨ef,hef,h⟩:=z1z h
    obtain ⟨hn,h⟩:=z0i h
    have hF:=field_ok he hfs hp' hef hn
    split at h
    · exact ⟨_,h,.pure fun c R1 fr2 hp2 hg _ _=>z8n ho (ea hg) hF⟩
    · obtain ⟨cs,hk,h⟩:=z4z h
      exact ⟨_,h,.pure fun c R1 fr2 hp2 hg hh _=>z8o ho (ea hg) (hh.at hk (.head _)) hF⟩
    · exact h.elim
  · exact h.elim
theorem z8p {c:Cx} {R1:Nat->Prop} {t:Nat} {x:Operand} {d:TypeDesc} {k n i off:Nat} {s:RT} {els:List (List PV)} {el:List PV} (ho:o.op = .load t x) (hx:fr.ev x=some (.rpt k n off)) (hk:look hp k=some (.row s els)) (hn:els.length=n)
    (hoff:off=i*s.n) (hi:els[i]? = some el) (hu:P.underlying t=some d) (hd:d.isRow=true) (hs:(P.info? t).map (·.size)=some s.n) (hR1:R1 k):OkV P c R1 o fr (look hp) (.pv (.agg el)):=by
  intro ρ w a h
  obtain ⟨b,cc,r,u,hv,hρ,h3,h4,hc,hcm,hwe,hcells,hu'⟩:=h.rpt hx hk hn
  have hel:el.length=s.n:=hwe el (List.mem_of_getElem? hi)
  have hin:i<els.length:=(List.getElem?_eq_some_iff.1 hi).1
  have hle:i*s.n+s.n<=r.size:=by
    have:(i+1)*s.n<=cc*s.n:=Nat.mul_le_mul_right _ oM0
    rw [Nat.add_mul] at this;omega
  have hlen:((r.toList.drop off).take s.n).length=s.n:=by simp;omega
  refine ⟨_,fun w2 h2=>by simp only [execOp,ho,hv,Sem.run_bind,run_loadAt_mid (P:=P) w2 b off t _ d (y2h ((h2 b (h.rel.lt hρ) (.inr ⟨k,cc,hR1,hρ⟩)).trans h3) off s.n) hu hd (by rw [hlen];exact hs)];rfl,.pv _ _ (.agg _ _ (u i) ?_ ?_ ?_)⟩
  · simp;omega
  · intro j z hj
    have hjn:j<s.n:=by have:=(List.getElem?_eq_some_iff.1 hj).1;omega
    have:=hcells i el hi j z hj
    subst hoff
    simp [hjn]
    simpa using this
  · exact fun j z hj=>hu' i el hi j z hj
inductive VRow (s:RT) (els:List (List PV)) (n off:Nat) (K:PV->Prop):Prop
  | mk {i j:Nat} {el:List PV} {z:PV} (hn:els.length=n) (ho:off=i*s.n+j) (hi:els[i]? = some el) (hj:el[j]? = some z) (k:K z)
inductive VRowS (s:RT) (els:List (List PV)) (n off:Nat) (K:List PV->Prop):Prop
  | mk {i:Nat} {el:List PV} (hn:els.length=n) (ho:off=i*s.n) (hi:els[i]? = some el) (k:K el)
def yl6 (T:TB P) (t:Nat) (fr:Fr) (hp:Hp) (y:Operand) (K:Stp->Prop):Prop:=vev fr y fun a=>vti T t fun e=>match a with
  | .pv (.ept cs off)=>match e.i.row with
    | false=>vopt cs[off]? fun z=>K ⟨.pv z,[],[],[]⟩
    | true=>z2c (Nat.ble (off+e.n) cs.length) (frcP ((cs.drop off).take e.n) fun l=>K ⟨.pv (.agg l),[],[],[]⟩)
  | .ptr k off=>vbox hp k fun cs=>match e.i.row with
    | false=>vopt cs[off]? fun z=>K ⟨z,[],[k],[]⟩
    | true=>z2c (Nat.ble (off+e.n) cs.length) (match z6b ((cs.drop off).take e.n) with
      | some ps=>frcP ps fun l=>K ⟨.pv (.agg l),[],[k],[]⟩
      | none=>frcI ((cs.drop off).take e.n) fun l=>K ⟨.agg l,[],[k],[]⟩)
  | .rpt k n off=>vrow hp k fun s els=>match e.i.row with
    | false=>VRow s els n off fun z=>K ⟨.pv z,[],[k],[]⟩
    | true=>z2c (Nat.beq e.n s.n) (VRowS s els n off fun el=>K ⟨.pv (.agg el),[],[k],[]⟩)
  | _=>False
theorem vLoad_ok {t:Nat} {y:Operand} (ho:o.op = .load t y) (h:yl6 T t fr hp y K):Does P Rl o fr hp K:=by
  obtain ⟨a,ha,h⟩:=z1i h
  have ea:∀ {fr2:Fr},agr fr2 fr (z17 o.op)->fr2.ev y=some a:=fun hg=>hg.ev ha (by rw [ho];simp [Op.operands])
  obtain ⟨e,he,h⟩:=z1z h
  obtain ⟨d,hd,hi⟩:=z4c he
  have hrow:=TI.is_row hi
  split at h
  · split at h
    · rename_i hr
      obtain ⟨z,hz,h⟩:=z0y h
      exact ⟨_,h,.pure fun c R1 fr2 hp2 hg _ _=>z7j ho (ea hg) hd (hrow.trans hr) hz⟩
    · rename_i hr
      obtain ⟨hn,h⟩:=z0i h
      exact ⟨_,z6x h,.pure fun c R1 fr2 hp2 hg _ _=>lEA ho (ea hg) hd (hrow.trans hr) (z2g he) (Nat.le_of_ble_eq_true hn)⟩
  · obtain ⟨cs,hk,h⟩:=z4z h
    split at h
    · rename_i hr
      obtain ⟨z,hz,h⟩:=z0y h
      exact ⟨_,h,.pure fun c R1 fr2 hp2 hg hh hR=>z7i ho (ea hg) (hh.at hk (.head _)) hd (hrow.trans hr) hz (hR _ (.head _))⟩
    · rename_i hr
      obtain ⟨hn,h⟩:=z0i h
      split at h
      · rename_i ps hps
        exact ⟨_,z6x h,.pure fun c R1 fr2 hp2 hg hh hR=>lBP ho (ea hg) (hh.at hk (.head _)) hd (hrow.trans hr) (z2g he) (Nat.le_of_ble_eq_true hn) hps (hR _ (.head _))⟩
      · exact ⟨_,z5c h,.pure fun c R1 fr2 hp2 hg hh hR=>z66 ho (ea hg) (hh.at hk (.head _)) hd (hrow.trans hr) (z2g he) (Nat.le_of_ble_eq_true hn) (hR _ (.head _))⟩
  · obtain ⟨s,els,hk,h⟩:=z6j h
    split at h
    · rename_i hr
      obtain ⟨hn,hoff,h1,h2,h⟩:=h
      exact ⟨_,h,.pure fun c R1 fr2 hp2 hg hh hR=>lRw ho (ea hg) (hh.at hk (.head _)) hn hoff h1 h2 hd (hrow.trans hr) (hR _ (.head _))⟩
    · rename_i hr
      obtain ⟨hq,h⟩:=z0i h
      obtain ⟨hn,hoff,h1,h⟩:=h
      exact ⟨_,h,.pure fun c R1 fr2 hp2 hg hh hR=>z8p ho (ea hg) (hh.at hk (.head _)) hn hoff h1 hd (hrow.trans hr) (by rw [z2g he,Nat.eq_of_beq_eq_true hq]) (hR _ (.head _))⟩
  · exact h.elim
def yl5 (T:TB P) (t:Nat) (fr:Fr) (y:Operand) (f:Nat) (K:Stp->Prop):Prop:=vev fr y fun a=>match a with
  | .pv (.agg ps)=>vti T t fun e=>match e.i with
    | .struct fs=>vopt fs[f]? fun p=>vti T p.2 fun ef=>match ef.i.row with
      | false=>vopt ps[p.1]? fun z=>K ⟨.pv z,[],[],[]⟩
      | true=>False
    | _=>False
  | _=>False
theorem y8p {t f:Nat} {y:Operand} (ho:o.op = .field t y f) (h:yl5 T t fr y f K):Does P Rl o fr hp K:=by
  obtain ⟨a,ha,h⟩:=z1i h
  have ea:∀ {fr2:Fr},agr fr2 fr (z17 o.op)->fr2.ev y=some a:=fun hg=>hg.ev ha (by rw [ho];simp [Op.operands])
  split at h
  · obtain ⟨e,he,h⟩:=z1z h
    obtain ⟨d,hd,hi⟩:=z4c he
    split at h
    · rename_i fs hfs
      rw [hfs] at hi
      obtain ⟨q,rfl,h2⟩:=hi
      obtain ⟨p,hp',h⟩:=z0y h
      obtain ⟨ef,hef,h⟩:=z1z h
      obtain ⟨df,hdf,hif⟩:=z4c hef
      split at h
      · rename_i hr
        obtain ⟨z,hz,h9⟩:=z0y h
        rw [<- h2,List.getElem?_map,Option.map_eq_some_iff] at hp'
        obtain ⟨fd,h3,rfl⟩:=hp'
        exact ⟨_,h9,.pure fun c R1 fr2 hp2 hg _ _=>ze3 ho (ea hg) hd (by simpa using h3) hdf ((TI.is_row hif).trans hr) hz⟩
      · exact h.elim
    · exact h.elim
  · exact h.elim
def y6q (fr:Fr) (y:Operand) (i:Nat) (K:Stp->Prop):Prop:=vev fr y fun a=>match a with
  | .tup vs=>vopt vs[i]? fun z=>K ⟨z,[],[],[]⟩
  | _=>False
theorem y5e {i:Nat} {y:Operand} (ho:o.op = .extract y i) (h:y6q fr y i K):Does P Rl o fr hp K:=by
  obtain ⟨a,ha,h⟩:=z1i h
  split at h
  · obtain ⟨z,hz,h⟩:=z0y h
    exact ⟨_,h,.pure fun c R1 fr2 hp2 hg _ _=>z51 ho (hg.ev ha (by rw [ho];simp [Op.operands])) hz⟩
  · exact h.elim
def vNil (fr:Fr) (hp:Hp) (y:Operand) (K:Stp->Prop):Prop:=vev fr y fun a=>match a with
  | .ptr k off=>vbox hp k fun _=>K ⟨.ptr k off,[],[k],[]⟩
  | .pv (.ept cs off)=>K ⟨.pv (.ept cs off),[],[],[]⟩
  | _=>False
theorem vNil_ok {y:Operand} (ho:o.op = .nilCheck y) (h:vNil fr hp y K):Does P Rl o fr hp K:=by
  obtain ⟨a,ha,h⟩:=z1i h
  have ea:∀ {fr2:Fr},agr fr2 fr (z17 o.op)->fr2.ev y=some a:=fun hg=>hg.ev ha (by rw [ho];simp [Op.operands])
  split at h
  · obtain ⟨cs,hk,h⟩:=z4z h
    exact ⟨_,h,.pure fun c R1 fr2 hp2 hg hh _=>nCk ho (ea hg) (hh.at hk (.head _))⟩
  · exact ⟨_,h,.pure fun c R1 fr2 hp2 hg _ _=>zq1 ho (ea hg)⟩
  · exact h.elim
def vEnd (fr:Fr) (y:Option Operand) (n:Nat) (K:Nat->Prop):Prop:=match y with
  | none=>K n
  | some y=>vev fr y fun a=>match a with
    | .pv (.val (.int _ m))=>∃ i:Nat,m=i/\K i
    | _=>False
theorem y12 {y:Option Operand} {n:Nat} {K:Nat->Prop} (h:vEnd fr y n K):∃ i,K i/\((y=none/\i=n)∨∃ z k,y=some z/\fr.ev z=some (.pv (.val (.int k i)))):=by
  unfold vEnd at h
  split at h
  · exact ⟨n,h,.inl ⟨rfl,rfl⟩⟩
  · rename_i y
    obtain ⟨a,ha,h⟩:=z1i h
    split at h
    · rename_i k m
      obtain ⟨i,rfl,h⟩:=h
      exact ⟨i,h,.inr ⟨y,k,rfl,ha⟩⟩
    · exact h.elim
def vSlice (T:TB P) (t:Nat) (fr:Fr) (y:Operand) (lo hi:Option Operand) (K:Stp->Prop):Prop:=vev fr y fun a=>vti T t fun e=>match a with
  | .pv (.seq els)=>match e.i with
    | .slice q=>vti T q fun eq=>vEnd fr lo 0 fun i=>vEnd fr hi els.length fun j=>i<=j/\j<=els.length/\(∀ el∈els,el.length=eq.n)/\K ⟨.pv (.seq ((els.take j).drop i)),[],[],[]⟩
    | _=>False
  | .pv (.val (.string s))=>match e.i with
    | .str=>vEnd fr lo 0 fun i=>vEnd fr hi s.size fun j=>i<=j/\j<=s.size/\K ⟨.pv (.val (.string (s.extract i j))),[],[],[]⟩
    | _=>False
  | _=>False
theorem zy1 {lo:Option Operand} {n i:Nat} {fr2:Fr} (hg:agr fr2 fr (z17 o.op)) (hm:∀ z,lo=some z->z∈o.op.operands.toList) (h:(lo=none/\i=n)∨∃ z k,lo=some z/\fr.ev z=some (.pv (.val (.int k i)))):(lo=none/\i=n)∨∃ z k,lo=some z/\fr2.ev z=some (.pv (.val (.int k i))):=by
  rcases h with h | ⟨z,k,h1,h2⟩
  · exact .inl h
  · exact .inr ⟨z,k,h1,hg.ev h2 (hm z h1)⟩
theorem ym0 {t:Nat} {y:Operand} {lo hi:Option Operand} (ho:o.op = .slice t y lo hi none) (h:vSlice T t fr y lo hi K):Does P Rl o fr hp K:=by
  obtain ⟨a,ha,h⟩:=z1i h
  have ea:∀ {fr2:Fr},agr fr2 fr (z17 o.op)->fr2.ev y=some a:=fun hg=>hg.ev ha (by rw [ho];simp [Op.operands])
  have ml:∀ z,lo=some z->z∈o.op.operands.toList:=fun z hz=>by rw [ho,hz];simp [Op.operands]
  have mh:∀ z,hi=some z->z∈o.op.operands.toList:=fun z hz=>by rw [ho,hz];simp [Op.operands]
  obtain ⟨e,he,h⟩:=z1z h
  obtain ⟨d,hd,hi'⟩:=z4c he
  split at h
  · split at h
    · rename_i q hq
      rw [hq] at hi'
      cases hi'
      obtain ⟨eq,heq,h⟩:=z1z h
      obtain ⟨i,h,h1⟩:=y12 h
      obtain ⟨j,h,h2⟩:=y12 h
      exact ⟨_,h.2.2.2,.pure fun c R1 fr2 hp2 hg _ _=>y2d ho (ea hg) hd (z2g heq) (zy1 hg ml h1) (zy1 hg mh h2) h.1 h.2.1 h.2.2.1⟩
    · exact h.elim
  · split at h
    · rename_i hq
      rw [hq] at hi'
      cases hi'
      obtain ⟨i,h,h1⟩:=y12 h
      obtain ⟨j,h,h2⟩:=y12 h
      exact ⟨_,h.2.2,.pure fun c R1 fr2 hp2 hg _ _=>zj9 ho (ea hg) hd (zy1 hg ml h1) (zy1 hg mh h2) h.1 h.2.1⟩
    · exact h.elim
  · exact h.elim
def vFunc (fr:Fr) (f:Fn) (xs ys:Array Operand) (K:Stp->Prop):Prop:=vopt (evs fr xs.toList) fun us=>vopt (evs fr ys.toList) fun vs=>K ⟨.fn f us vs,[],[],[]⟩
theorem vFunc_ok {f:Fn} {xs ys:Array Operand} (ho:o.op = .makeFunc f xs ys) (h:vFunc fr f xs ys K):Does P Rl o fr hp K:=by
  obtain ⟨us,h1,h⟩:=z0y h
  obtain ⟨vs,h2,h⟩:=z0y h
  exact ⟨_,h,.pure fun c R1 fr2 hp2 hg _ _=>z67 ho (hg.evs h1 fun y hy=>by rw [ho];simp only [Op.operands,Array.toList_append];exact List.mem_append_left _ hy) (hg.evs h2 fun y hy=>by rw [ho];simp only [Op.operands,Array.toList_append];exact List.mem_append_right _ hy)⟩
inductive VAsk (d:TypeDesc) (kv:Value) (es:List (Value × PV)) (z:Value) (K:PV->Bool->Prop):Prop
  | mk {p:PV} {b:Bool} (hk:z2d d kv=true) (hes:∀ e∈es,z2d d e.1=true) (h:((z4m kv es).getD (.val z),(z4m kv es).isSome)=(p,b)) (k:K p b)
inductive VMap (d:TypeDesc) (kv:Value) (es:List (Value × PV)) (A:Prop):Prop
  | mk (hk:z2d d kv=true) (hes:∀ e∈es,z2d d e.1=true) (k:A)
def TI.key:TI->Option TypeDesc
  | .int k=>some (.int k)
  | .str=>some .string
  | _=>none
theorem zz5 {t:Nat} {e:TE} {d:TypeDesc} (he:teB P t e=true) (hd:e.i.key=some d):P.underlying t=some d:=by
  obtain ⟨d',hd',hi⟩:=z4c he
  rw [hd']
  cases hq:e.i<;>rw [hq] at hd hi<;>first | (cases hd;cases hi;rfl) | cases hd
def yl7 (T:TB P) (t:Nat) (fr:Fr) (hp:Hp) (y w:Operand) (two:Bool) (K:Stp->Prop):Prop:=vev fr y fun a=>vev fr w fun b=>match a with
  | .mp k=>match b with
    | .pv (.val kv)=>vmap hp k fun es=>vti T t fun e=>match e.i with
      | .map kt et=>vti T kt fun ek=>vti T et fun ee=>vopt ek.i.key fun d=>z2c (!ee.z.isEmpty) (VAsk d kv es ee.zv fun p b=>match two with
        | false=>K ⟨.pv p,[],[k],[]⟩
        | true=>K ⟨.tup [.pv p,iBool b],[],[k],[]⟩)
      | _=>False
    | _=>False
  | _=>False
theorem y8r {t:Nat} {y w:Operand} {two:Bool} (ho:o.op = .lookup t y w two) (h:yl7 T t fr hp y w two K):Does P Rl o fr hp K:=by
  obtain ⟨a,ha,h⟩:=z1i h
  obtain ⟨b,hb,h⟩:=z1i h
  have ea:∀ {fr2:Fr},agr fr2 fr (z17 o.op)->fr2.ev y=some a:=fun hg=>hg.ev ha (by rw [ho];simp [Op.operands])
  have eb:∀ {fr2:Fr},agr fr2 fr (z17 o.op)->fr2.ev w=some b:=fun hg=>hg.ev hb (by rw [ho];simp [Op.operands])
  split at h
  · split at h
    · obtain ⟨es,hk,h⟩:=y14 h
      obtain ⟨e,he,h⟩:=z1z h
      obtain ⟨d,hd,hi⟩:=z4c he
      split at h
      · rename_i kt et hq
        rw [hq] at hi
        cases hi
        obtain ⟨ek,hek,h⟩:=z1z h
        obtain ⟨ee,hee,h⟩:=z1z h
        obtain ⟨dk,hdk,h⟩:=z0y h
        obtain ⟨hz,h⟩:=z0i h
        have hz':ee.z≠[]:=by simpa using hz
        obtain ⟨h1,h2,h3,h⟩:=h
        have e1:=(congrArg Prod.fst h3).symm
        have e2:=(congrArg Prod.snd h3).symm
        dsimp only at e1 e2
        subst e1 e2
        split at h
        · exact ⟨_,h,.pure fun c R1 fr2 hp2 hg hh hR=>yd2 ho (ea hg) (eb hg) (hh.at hk (.head _)) hd (zz5 hek hdk) h1 h2 (z6h hee hz') (hR _ (.head _))⟩
        · exact ⟨_,h,.pure fun c R1 fr2 hp2 hg hh hR=>y7l ho (ea hg) (eb hg) (hh.at hk (.head _)) hd (zz5 hek hdk) h1 h2 (z6h hee hz') (hR _ (.head _))⟩
      · exact h.elim
    · exact h.elim
  · exact h.elim
def vLen (T:TB P) (t:Nat) (fr:Fr) (hp:Hp) (y:Operand) (K:Stp->Prop):Prop:=vev fr y fun a=>vti T t fun e=>match a with
  | .pv (.seq els)=>match e.i with
    | .slice _=>K ⟨.pv (.val (.int .i64 els.length)),[],[],[]⟩
    | _=>False
  | .pv (.val (.slice none 0 0))=>match e.i with
    | .slice _=>K ⟨.pv (.val (.int .i64 0)),[],[],[]⟩
    | _=>False
  | .pv (.val (.string s))=>match e.i with
    | .str=>K ⟨.pv (.val (.int .i64 s.size)),[],[],[]⟩
    | _=>False
  | .sl k n=>match e.i with
    | .slice _=>vrow hp k fun _ els=>els.length=n/\K ⟨.pv (.val (.int .i64 n)),[],[k],[]⟩
    | _=>False
  | .mp k=>match e.i with
    | .map ..=>vmap hp k fun es=>K ⟨.pv (vInt es.length),[],[k],[]⟩
    | _=>False
  | _=>False
theorem vLen_ok {t:Nat} {y:Operand} (ho:o.op = .call { callee:=.builtin .len,args:=#[y],argTypes:=#[t] }) (h:vLen T t fr hp y K):Does P Rl o fr hp K:=by
  obtain ⟨a,ha,h⟩:=z1i h
  have ea:∀ {fr2:Fr},agr fr2 fr (z17 o.op)->fr2.ev y=some a:=fun hg=>hg.ev ha (by rw [ho];simp [Op.operands,Call.operands])
  obtain ⟨e,he,h⟩:=z1z h
  obtain ⟨d,hd,hi⟩:=z4c he
  split at h
  · split at h
    · rename_i hq;rw [hq] at hi;cases hi
      exact ⟨_,h,.pure fun c R1 fr2 hp2 hg _ _=>zh6 ho (ea hg) hd rfl⟩
    · exact h.elim
  · split at h
    · rename_i hq;rw [hq] at hi;cases hi
      exact ⟨_,h,.pure fun c R1 fr2 hp2 hg _ _=>y7k ho (ea hg) hd⟩
    · exact h.elim
  · split at h
    · rename_i hq;rw [hq] at hi;cases hi
      exact ⟨_,h,.pure fun c R1 fr2 hp2 hg _ _=>z9c ho (ea hg) hd⟩
    · exact h.elim
  · split at h
    · rename_i hq;rw [hq] at hi;cases hi
      obtain ⟨s,els,hk,h⟩:=z6j h
      exact ⟨_,h.2,.pure fun c R1 fr2 hp2 hg hh _=>z9b ho (ea hg) (hh.at hk (.head _)) h.1 hd⟩
    · exact h.elim
  · split at h
    · rename_i hq;rw [hq] at hi;cases hi
      obtain ⟨es,hk,h⟩:=y14 h
      exact ⟨_,h,.pure fun c R1 fr2 hp2 hg hh hR=>y7j ho (ea hg) (hh.at hk (.head _)) hd (hR _ (.head _))⟩
    · exact h.elim
  · exact h.elim
def vMax (fr:Fr) (y w:Operand) (K:Stp->Prop):Prop:=vev fr y fun a=>vev fr w fun b=>match a with
  | .pv (.val (.int k m))=>match b with
    | .pv (.val (.int k' n))=>z2c (k'==k) (K ⟨.pv (.val (.int k (if m<n then n else m))),[],[],[]⟩)
    | _=>False
  | _=>False
theorem vMax_ok {t:Nat} {y w:Operand} (ho:o.op = .call { callee:=.builtin .max,args:=#[y,w],argTypes:=#[t,t] }) (h:vMax fr y w K):Does P Rl o fr hp K:=by
  obtain ⟨a,ha,h⟩:=z1i h
  obtain ⟨b,hb,h⟩:=z1i h
  split at h
  · split at h
    · obtain ⟨hk,h⟩:=z0i h
      obtain rfl:=eq_of_beq hk
      exact ⟨_,h,.pure fun c R1 fr2 hp2 hg _ _=>ok_max ho (hg.ev ha (by rw [ho];simp [Op.operands,Call.operands])) (hg.ev hb (by rw [ho];simp [Op.operands,Call.operands]))⟩
    · exact h.elim
  · exact h.elim
def vCap (T:TB P) (t:Nat) (fr:Fr) (y:Operand) (K:Stp->Prop):Prop:=vev fr y fun a=>vti T t fun e=>match a with
  | .pv (.val (.slice none 0 0))=>match e.i with
    | .slice _=>K ⟨iInt 0,[],[],[]⟩
    | _=>False
  | _=>False
theorem vCap_ok {t:Nat} {y:Operand} (ho:o.op = .call { callee:=.builtin .cap,args:=#[y],argTypes:=#[t] }) (h:vCap T t fr y K):Does P Rl o fr hp K:=by
  obtain ⟨a,ha,h⟩:=z1i h
  obtain ⟨e,he,h⟩:=z1z h
  obtain ⟨d,hd,hi⟩:=z4c he
  split at h
  · split at h
    · rename_i hq;rw [hq] at hi;cases hi
      exact ⟨_,h,.pure fun c R1 fr2 hp2 hg _ _=>y7i ho (hg.ev ha (by rw [ho];simp [Op.operands,Call.operands])) hd⟩
    · exact h.elim
  · exact h.elim
end
section
variable {P:Program} {T:TB P} {o:Oper} {fr:Fr} {hp:Hp} {Rl:List Nat} {K:Stp->Prop} {c:Cx}
theorem notR {k:Nat} (hR:∀ k,c.R k->k∈Rl) (h:nIn k Rl=false):¬ c.R k:=fun h1=>z2o h (hR k h1)
def vStore (T:TB P) (Rl:List Nat) (t:Nat) (fr:Fr) (hp:Hp) (y w:Operand) (K:Stp->Prop):Prop:=vev fr y fun a=>vev fr w fun z=>vti T t fun e=>match a with
  | .ptr k off=>z2c (!nIn k Rl) (vbox hp k fun cs=>match e.i.row with
    | false=>z2c (Nat.beq e.n 1&&Nat.blt off cs.length) (y8t hp z (frcI (cs.set off z) fun l=>K ⟨.pv (.val undef),[(k,some (.box l))],k::ze0 z,[]⟩))
    | true=>vopt z.parts fun zs=>z2c (Nat.beq e.n zs.length&&Nat.ble (off+zs.length) cs.length) (ym2 hp zs (frcI (zq4 cs off zs) fun l=>K ⟨.pv (.val undef),[(k,some (.box l))],k::zs.flatMap ze0,[]⟩)))
  | .rpt k n off=>z2c (!nIn k Rl) (vrow hp k fun s els=>match z with
    | .pv p=>z2c (Nat.beq e.n 1&&p.one) (∃ i j el,els.length=n/\off=i*s.n+j/\els[i]? = some el/\j<el.length/\K ⟨.pv (.val undef),[(k,some (.row s (els.set i (el.set j p))))],[k],[]⟩)
    | _=>False)
  | _=>False
theorem ym1 {t:Nat} {y w:Operand} (ho:o.op = .store t y w) (h:vStore T Rl t fr hp y w K):Does P Rl o fr hp K:=by
  replace h:=z1i h
  obtain ⟨a,ha,h⟩:=h
  replace h:=z1i h
  obtain ⟨z,hz,h⟩:=h
  have ea:∀ {fr2:Fr},agr fr2 fr (z17 o.op)->fr2.ev y=some a:=fun hg=>hg.ev ha (by rw [ho];simp [Op.operands])
  have eb:∀ {fr2:Fr},agr fr2 fr (z17 o.op)->fr2.ev w=some z:=fun hg=>hg.ev hz (by rw [ho];simp [Op.operands])
  replace h:=z1z h
  obtain ⟨e,he,h⟩:=h
  split at h
  · rename_i k off
    replace h:=z0i h
    obtain ⟨hR,h⟩:=h
    have hR':nIn k Rl=false:=by simpa using hR
    replace h:=z4z h
    obtain ⟨cs,hk,h⟩:=h
    split at h
    · obtain ⟨h1,h⟩:=z0i h
      simp only [Bool.and_eq_true] at h1
      replace h:=zm9 h
      obtain ⟨h,hf⟩:=h
      refine ⟨_,z5c h,fun c fr2 hp2 hc _ hg hh _=>?_⟩
      exact sBx ho (ea hg) (eb hg) (hh.at hk (.head _)) (notR hc hR') (by rw [z2g he,Nat.eq_of_beq_eq_true h1.1]) (hf hp2 fun k hk=>hh k (.tail _ hk)) (Nat.le_of_ble_eq_true h1.2)
    · obtain ⟨zs,hzs,h⟩:=z0y h
      replace h:=z0i h
      obtain ⟨h1,h⟩:=h
      simp only [Bool.and_eq_true] at h1
      replace h:=y3f h
      obtain ⟨h,hf⟩:=h
      refine ⟨_,z5c h,fun c fr2 hp2 hc _ hg hh _=>?_⟩
      exact sBA ho (ea hg) (eb hg) hzs (hh.at hk (.head _)) (notR hc hR') (by rw [z2g he,Nat.eq_of_beq_eq_true h1.1]) (hf hp2 fun k hk=>hh k (.tail _ hk)) (Nat.le_of_ble_eq_true h1.2)
  · rename_i k n off
    replace h:=z0i h
    obtain ⟨hR,h⟩:=h
    have hR':nIn k Rl=false:=by simpa using hR
    replace h:=z6j h
    obtain ⟨s,els,hk,h⟩:=h
    split at h
    · obtain ⟨h1,h⟩:=z0i h
      simp only [Bool.and_eq_true] at h1
      obtain ⟨i,j,el,hn,hoff,hi,hj,h⟩:=h
      exact ⟨_,h,fun c fr2 hp2 hc _ hg hh _=>z59 ho (ea hg) (eb hg) (hh.at hk (.head _)) hn hoff hi hj (by rw [z2g he,Nat.eq_of_beq_eq_true h1.1]) h1.2 (notR hc hR')⟩
    · exact h.elim
  · exact h.elim
def ZV.pvs:List ZV->List IV
  | []=>[]
  | z::r=>.pv (.val z.val)::ZV.pvs r
theorem ZV.pvs_eq:∀ l:List ZV,ZV.pvs l=(l.map ZV.val).map fun v=>.pv (.val v)
  | []=>rfl
  | z::r=>by simp only [ZV.pvs,List.map_cons,ZV.pvs_eq r]
def ZV.ps:List ZV->List PV
  | []=>[]
  | z::r=>.val z.val::ZV.ps r
theorem ZV.ps_eq:∀ l:List ZV,ZV.ps l=(l.map ZV.val).map .val
  | []=>rfl
  | z::r=>by simp only [ZV.ps,List.map_cons,ZV.ps_eq r]
def vAlloc (T:TB P) (t k:Nat) (K:Stp->Prop):Prop:=vti T t fun e=>z2c (!e.z.isEmpty) (frcI (ZV.pvs e.z) fun l=>K ⟨.ptr k 0,[(k,some (.box l))],[k],[k]⟩)
theorem yl0 {t k:Nat} (ho:o.op = .alloc t) (h:vAlloc T t k K):Does P Rl o fr hp K:=by
  replace h:=z1z h
  obtain ⟨e,he,h⟩:=h
  replace h:=z0i h
  obtain ⟨hz,h⟩:=h
  have hz':e.z≠[]:=by simpa using hz
  refine ⟨_,z5c h,fun c fr2 hp2 _ hc _ _ hf=>?_⟩
  obtain ⟨f1,f2,f3⟩:=z40 (hf k (.head _))
  have:=aLc (c:=c) ho (z6h he hz') f3 (hc k (.head _)) f1 f2
  rwa [(z55 he hz').1,<- ZV.pvs_eq] at this
def vBox (own:Bool) (fr:Fr) (hp:Hp) (y:Operand) (k:Nat) (K:Stp->Prop):Prop:=vev fr y fun a=>match own with
  | true=>match a with
    | .pv (.agg ps)=>frcI (ps.map .pv) fun l=>K ⟨.ptr k 0,[(k,some (.box l))],[k],[k]⟩
    | .agg cs=>z2c (!nm.nms k cs) (K ⟨.ptr k 0,[(k,some (.box cs))],[k],[k]⟩)
    | z=>z2c (!nm k z) (y8t hp z (K ⟨.ptr k 0,[(k,some (.box [z]))],k::ze0 z,[k]⟩))
  | false=>match a with
    | .pv (.agg ps)=>K ⟨.pv (.ept ps 0),[],[],[]⟩
    | .pv p=>z2c p.one (K ⟨.pv (.ept [p] 0),[],[],[]⟩)
    | _=>False
theorem vBox_ok {t k:Nat} {own:Bool} {y:Operand} (ho:o.op = .box t y) (h:vBox own fr hp y k K):Does P Rl o fr hp K:=by
  replace h:=z1i h
  obtain ⟨a,ha,h⟩:=h
  have ea:∀ {fr2:Fr},agr fr2 fr (z17 o.op)->fr2.ev y=some a:=fun hg=>hg.ev ha (by rw [ho];simp [Op.operands])
  split at h
  · split at h
    · refine ⟨_,z5c h,fun c fr2 hp2 _ hc hg _ hf=>?_⟩
      obtain ⟨f1,f2,f3⟩:=z40 (hf k (.head _))
      exact y7h ho (ea hg) f3 (hc k (.head _)) f1 f2
    · obtain ⟨hn,h⟩:=z0i h
      refine ⟨_,h,fun c fr2 hp2 _ hc hg _ hf=>?_⟩
      obtain ⟨f1,f2,f3⟩:=z40 (hf k (.head _))
      exact zp9 ho (ea hg) f3 (hc k (.head _)) f1 f2 (by simpa using hn)
    · obtain ⟨hn,h⟩:=z0i h
      replace h:=zm9 h
      obtain ⟨h,hz⟩:=h
      refine ⟨_,h,fun c fr2 hp2 _ hc hg hh hf=>?_⟩
      obtain ⟨f1,f2,f3⟩:=z40 (hf k (.head _))
      exact zh5 ho (ea hg) (hz hp2 fun k hk=>hh k (.tail _ hk)) f3 (hc k (.head _)) f1 f2 (by simpa using hn)
  · split at h
    · exact ⟨_,h,fun c fr2 hp2 _ _ hg _ _=>z3y ho (ea hg)⟩
    · obtain ⟨h1,h⟩:=z0i h
      exact ⟨_,h,fun c fr2 hp2 _ _ hg _ _=>y47 ho (ea hg) h1⟩
    · exact h.elim
def szs (T:TB P):List (Nat × Nat)->Option (List (Nat × Nat))
  | []=>some []
  | (off,t)::r=>match T.ti t with
    | some e=>match szs T r with
      | some l=>some ((off,e.n)::l)
      | none=>none
    | none=>none
theorem yj1 {w:World}:∀ {fs:List Field} {l:List (Nat × Nat)},szs T (fs.map fun f=>(f.offset,f.type))=some l->((fs.mapM fun f=>do pure (f.offset,<- sizeOf f.type)):Sem (List (Nat × Nat))).run P w = .ok l w
  | [],l,h=>by cases h;rfl
  | f::r,l,h=>by
    simp only [List.map_cons,szs] at h
    split at h
    · rename_i e he
      split at h
      · rename_i l' hl
        cases h
        have ih:=yj1 (w:=w) hl
        have hs:=z1p (z2g (T.tok _ _ he)) w
        simp only [List.mapM_cons,Sem.run_bind,hs,Result.andThen_ok,Sem.run_pure,ih]
      · cases h
    · cases h
theorem y2f {a:Array Field} {l:List (Nat × Nat)} (h:szs T (a.toList.map fun f=>(f.offset,f.type))=some l):z4o P a l.toArray:=by
  intro w
  have h1:=yj1 (P:=P) (w:=w) h
  obtain ⟨fs⟩:=a
  have h2:((#[].append fs.toArray:Array Field).mapM fun f=>(do pure (f.offset,<- sizeOf f.type):Sem (Nat × Nat)))=(fs.mapM fun f=>(do pure (f.offset,<- sizeOf f.type):Sem (Nat × Nat))) >>= fun l=>pure l.toArray:=by
    simp
  have h3:(⟨fs⟩:Array Field) = #[].append fs.toArray:=by simp
  rw [h3,h2,Sem.run_bind,h1]
  rfl
def zx9 (hp:Hp):List (Nat × IV)->Prop->Prop
  | [],A=>A
  | (_,x)::r,A=>match x.parts with
    | some _=>zx9 hp r A
    | none=>y8t hp x (zx9 hp r A)
theorem zg0:∀ {l:List (Nat × IV)} {A:Prop},zx9 hp l A->A/\∀ hp2,agh hp2 hp (l.flatMap fun p=>ze0 p.2)->z45 (look hp2) l
  | [],A,h=>⟨h,fun _ _ p hq=>by cases hq⟩
  | (i,x)::r,A,h=>by
    simp only [zx9] at h
    have split:∀ {hp2},agh hp2 hp (((i,x)::r).flatMap fun p=>ze0 p.2)->agh hp2 hp (ze0 x)/\agh hp2 hp (r.flatMap fun p=>ze0 p.2):=fun hh=>by
      simp only [List.flatMap_cons] at hh
      exact ⟨fun k hk=>hh k (List.mem_append_left _ hk),fun k hk=>hh k (List.mem_append_right _ hk)⟩
    split at h
    · rename_i ps hps
      replace h:=zg0 h
      obtain ⟨h1,h2⟩:=h
      refine ⟨h1,fun hp2 hh p hq h0=>?_⟩
      rcases List.mem_cons.1 hq with rfl | hq
      · rw [hps] at h0;cases h0
      · exact h2 hp2 (split hh).2 p hq h0
    · obtain ⟨h,hz⟩:=zm9 h
      replace h:=zg0 h
      obtain ⟨h1,h2⟩:=h
      refine ⟨h1,fun hp2 hh p hq h0=>?_⟩
      rcases List.mem_cons.1 hq with rfl | hq
      · exact hz hp2 (split hh).1
      · exact h2 hp2 (split hh).2 p hq h0
def vmade (ids:List Nat) (out:List IV) (K:Stp->Prop):Prop:=match z6b out with
  | some ps=>frcP ps fun l=>K ⟨.pv (.agg l),[],ids,[]⟩
  | none=>frcI out fun l=>K ⟨.agg l,[],ids,[]⟩
theorem zvIV {e:TE} {t:Nat} (he:teB P t e=true) (hz:e.z≠[]):z5i e.zv=ZV.pvs e.z:=by
  rw [z5i,(z55 he hz).1,<- ZV.pvs_eq]
def vBuild (T:TB P) (t:Nat) (fr:Fr) (hp:Hp) (parts:List (Nat × Operand)) (K:Stp->Prop):Prop:=vti T t fun e=>z2c (!e.z.isEmpty) (vopt (z3z fr parts) fun xs=>zx9 hp xs (match e.i with
  | .struct fs=>vopt (szs T fs) fun pl=>vopt (z56 (pl.toArray[·]?) (ZV.pvs e.z) xs) fun out=>vmade (xs.flatMap fun p=>ze0 p.2) out K
  | .arr _ q=>vti T q fun eq=>vopt (z56 (fun i=>some (i*eq.n,eq.n)) (ZV.pvs e.z) xs) fun out=>frcI out fun l=>K ⟨.agg l,[],xs.flatMap fun p=>ze0 p.2,[]⟩
  | _=>False))
theorem yl3 {t:Nat} {parts:Array (Nat × Operand)} (ho:o.op = .build t parts) (h:vBuild T t fr hp parts.toList K):Does P Rl o fr hp K:=by
  replace h:=z1z h
  obtain ⟨e,he,h⟩:=h
  replace h:=z0i h
  obtain ⟨hz,h⟩:=h
  have hz':e.z≠[]:=by simpa using hz
  replace h:=z0y h
  obtain ⟨xs,hxs,h⟩:=h
  have ex:∀ {fr2:Fr},agr fr2 fr (z17 o.op)->z3z fr2 parts.toList=some xs:=fun hg=>hg.evParts hxs fun y hy=>by
    rw [ho];simp only [Op.operands];exact List.mem_map_of_mem hy
  replace h:=zg0 h
  obtain ⟨h,hfirm⟩:=h
  obtain ⟨d,hd,hi⟩:=z4c he
  have hzi:=zvIV he hz'
  split at h
  · rename_i fs hq
    rw [hq] at hi
    obtain ⟨a,rfl,h2⟩:=hi
    replace h:=z0y h
    obtain ⟨pl,hpl,h⟩:=h
    replace h:=z0y h
    obtain ⟨out,hout,h⟩:=h
    rw [<- h2] at hpl
    unfold vmade at h
    split at h
    · rename_i ps hps
      exact ⟨_,z6x h,.pure fun c R1 fr2 hp2 hg hh _=>bPu ho (ex hg) (z6h he hz') ⟨a,hd,y2f hpl⟩ (by rw [hzi];exact hout) (hfirm hp2 hh) hps⟩
    · exact ⟨_,z5c h,.pure fun c R1 fr2 hp2 hg hh _=>zm0 ho (ex hg) (z6h he hz') ⟨a,hd,y2f hpl⟩ (by rw [hzi];exact hout) (hfirm hp2 hh)⟩
  · rename_i n q hq
    rw [hq] at hi
    cases hi
    replace h:=z1z h
    obtain ⟨eq,heq,h⟩:=h
    replace h:=z0y h
    obtain ⟨out,hout,h⟩:=h
    exact ⟨_,z5c h,.pure fun c R1 fr2 hp2 hg hh _=>zj6 ho (ex hg) (z6h he hz') hd (z2g heq) (by rw [hzi];exact hout) (hfirm hp2 hh)⟩
  · exact h.elim
def repZ (z:List ZV):Nat->List IV
  | 0=>[]
  | n+1=>ZV.pvs z++repZ z n
theorem ye5 {e:TE} {t:Nat} (he:teB P t e=true) (hz:e.z≠[]):∀ n,zb8 e.zv n=repZ e.z n
  | 0=>rfl
  | n+1=>by simp only [zb8,repZ,ye5 he hz n,zvIV he hz]
def frcE:List (List PV)->(List (List PV)->Prop)->Prop
  | [],K=>K []
  | x::r,K=>frcP x fun y=>frcE r fun l=>K (y::l)
theorem y9z:∀ {l:List (List PV)} {K:List (List PV)->Prop},frcE l K->K l
  | [],_,h=>h
  | x::r,K,h=>y9z (l:=r) (K:=fun l=>K (x::l)) (z6x (K:=fun y=>frcE r fun l=>K (y::l)) h)
def yl2 (T:TB P) (own:Bool) (t len:Nat) (fr:Fr) (hp:Hp) (parts:List (Nat × Operand)) (k:Nat) (K:Stp->Prop):Prop:=vti T t fun e=>match e.i with
  | .slice q=>vti T q fun eq=>z2c (!eq.z.isEmpty&&Nat.ble 1 eq.n&&Nat.ble (len*eq.n) (2 ^ 24)) (vopt (z3z fr parts) fun xs=>zx9 hp xs (vopt (z56 (fun i=>some (i*eq.n,eq.n)) (repZ eq.z len) xs) fun out=>match z6b out with
    | some ps=>frcE (z0c eq.n len ps) fun l=>match own with
      | false=>K ⟨.pv (.seq l),[],xs.flatMap fun p=>ze0 p.2,[]⟩
      | true=>K ⟨.sl k len,[(k,some (.row ⟨q,eq.n⟩ l))],k::xs.flatMap fun p=>ze0 p.2,[k]⟩
    | none=>z2c (!nm.nms k out) (K ⟨.bs k len,[(k,some (.box out))],k::xs.flatMap fun p=>ze0 p.2,[k]⟩)))
  | _=>False
theorem y8m {t len k:Nat} {own:Bool} {parts:Array (Nat × Operand)} (ho:o.op = .buildSlice t len parts) (h:yl2 T own t len fr hp parts.toList k K):Does P Rl o fr hp K:=by
  replace h:=z1z h
  obtain ⟨e,he,h⟩:=h
  obtain ⟨d,hd,hi⟩:=z4c he
  split at h
  · rename_i q hq
    rw [hq] at hi
    cases hi
    replace h:=z1z h
    obtain ⟨eq,heq,h⟩:=h
    replace h:=z0i h
    obtain ⟨h1,h⟩:=h
    simp only [Bool.and_eq_true] at h1
    have hz':eq.z≠[]:=by simpa using h1.1.1
    replace h:=z0y h
    obtain ⟨xs,hxs,h⟩:=h
    have ex:∀ {fr2:Fr},agr fr2 fr (z17 o.op)->z3z fr2 parts.toList=some xs:=fun hg=>hg.evParts hxs fun y hy=>by
      rw [ho];simp only [Op.operands];exact List.mem_map_of_mem hy
    replace h:=zg0 h
    obtain ⟨h,hfirm⟩:=h
    replace h:=z0y h
    obtain ⟨out,hout,h⟩:=h
    rw [<- ye5 heq hz'] at hout
    cases hps:z6b out with
    | none =>
      rw [hps] at h
      replace h:=z0i h
      obtain ⟨hn,h⟩:=h
      refine ⟨_,h,fun c fr2 hp2 _ hc hg hh hf=>?_⟩
      obtain ⟨f1,f2,f3⟩:=z40 (hf k (.head _))
      exact zq0 ho (ex hg) hd (z6h heq hz') (z2g heq) (z55 heq hz').2 h1.1.2 h1.2 hout (hfirm hp2 fun j hj=>hh j (.tail _ hj)) (by simpa using hn) f3 (hc k (.head _)) f1 f2
    | some ps =>
    rw [hps] at h
    replace h:=y9z h
    split at h
    · exact ⟨_,h,fun c fr2 hp2 _ _ hg hh _=>bSl ho (ex hg) hd (z6h heq hz') (z2g heq) (z55 heq hz').2 h1.1.2 h1.2 hout (hfirm hp2 hh) hps⟩
    · refine ⟨_,h,fun c fr2 hp2 _ hc hg hh hf=>?_⟩
      obtain ⟨f1,f2,f3⟩:=z40 (hf k (.head _))
      exact z82 ho (ex hg) hd (z6h heq hz') (z2g heq) (z55 heq hz').2 h1.1.2 h1.2 hout (hfirm hp2 fun j hj=>hh j (.tail _ hj)) hps f3 (hc k (.head _)) f1 f2
  · exact h.elim
def vMkMap (k:Nat) (K:Stp->Prop):Prop:=K ⟨.mp k,[(k,some (.map []))],[k],[k]⟩
theorem yl9 {t k:Nat} (ho:o.op = .makeMap t none) (h:vMkMap k K):Does P Rl o fr hp K:=by
  refine ⟨_,h,fun c fr2 hp2 _ hc _ _ hf=>?_⟩
  obtain ⟨f1,f2,f3⟩:=z40 (hf k (.head _))
  exact y7m ho f3 (hc k (.head _)) f1 f2
inductive VNum (m:Int) (K:Nat->Prop):Prop
  | mk {n:Nat} (hm:m=n) (hb:n<=68719476736) (k:K n)
def y6r (T:TB P) (t:Nat) (fr:Fr) (y w:Operand) (k:Nat) (K:Stp->Prop):Prop:=vti T t fun e=>match e.i with
  | .slice q=>vti T q fun eq=>z2c (!eq.z.isEmpty&&Nat.ble 1 eq.n&&Nat.ble eq.b 2048) (vev fr y fun a=>match a with
    | .pv (.val (.int .i64 m))=>vev fr w fun b=>b=a/\VNum m fun n=>frcP (ZV.ps eq.z) fun l=>K ⟨.sl k n,[(k,some (.row ⟨q,eq.n⟩ (List.replicate n l)))],[k],[k]⟩
    | _=>False)
  | _=>False
theorem y5f {t k:Nat} {y w:Operand} (ho:o.op = .makeSlice t y w) (h:y6r T t fr y w k K):Does P Rl o fr hp K:=by
  replace h:=z1z h
  obtain ⟨e,he,h⟩:=h
  obtain ⟨d,hd,hi⟩:=z4c he
  split at h
  · rename_i q hq
    rw [hq] at hi
    cases hi
    replace h:=z1z h
    obtain ⟨eq,heq,h⟩:=h
    replace h:=z0i h
    obtain ⟨h1,h⟩:=h
    simp only [Bool.and_eq_true] at h1
    have hz':eq.z≠[]:=by simpa using h1.1.1
    replace h:=z1i h
    obtain ⟨a,ha,h⟩:=h
    split at h
    · obtain ⟨b,hb,h⟩:=z1i h
      obtain ⟨rfl,h⟩:=h
      obtain ⟨rfl,hn,h9⟩:=h
      refine ⟨_,z6x h9,fun c fr2 hp2 _ hc hg _ hf=>?_⟩
      obtain ⟨f1,f2,f3⟩:=z40 (hf k (.head _))
      have h128:=Nat.le_of_ble_eq_true h1.2
      have:=z6p (c:=c) (s:=⟨q,eq.n⟩) ho (hg.ev ha (by rw [ho];simp [Op.operands])) (hg.ev hb (by rw [ho];simp [Op.operands])) hd (z6h heq hz') (te_by heq) (z55 heq hz').2 (Nat.le_of_ble_eq_true h1.1.2) oM0 (Nat.le_trans (Nat.mul_le_mul h128 hn) dC0) f3 (hc k (.head _)) f1 f2
      rwa [(z55 heq hz').1,<- ZV.ps_eq] at this
    · exact h.elim
  · exact h.elim
def y3c (T:TB P) (t:Nat) (fr:Fr) (y w:Operand) (K:Stp->Prop):Prop:=vti T t fun e=>match e.i with
  | .slice q=>vti T q fun eq=>z2c (!eq.z.isEmpty&&Nat.ble 1 eq.n&&Nat.ble eq.b 2048) (vev fr y fun a=>match a with
    | .pv (.val (.int .i64 m))=>vev fr w fun b=>b=a/\VNum m fun n=>frcP (ZV.ps eq.z) fun l=>K ⟨.pv (.seq (List.replicate n l)),[],[],[]⟩
    | _=>False)
  | _=>False
theorem y3d {t:Nat} {y w:Operand} (ho:o.op = .makeSlice t y w) (h:y3c T t fr y w K):Does P Rl o fr hp K:=by
  replace h:=z1z h
  obtain ⟨e,he,h⟩:=h
  obtain ⟨d,hd,hi⟩:=z4c he
  split at h
  · rename_i q hq
    rw [hq] at hi
    cases hi
    replace h:=z1z h
    obtain ⟨eq,heq,h⟩:=h
    replace h:=z0i h
    obtain ⟨h1,h⟩:=h
    simp only [Bool.and_eq_true] at h1
    have hz':eq.z≠[]:=by simpa using h1.1.1
    replace h:=z1i h
    obtain ⟨a,ha,h⟩:=h
    split at h
    · obtain ⟨b,hb,h⟩:=z1i h
      obtain ⟨rfl,h⟩:=h
      obtain ⟨rfl,hn,h9⟩:=h
      refine ⟨_,z6x h9,fun c fr2 hp2 _ hc hg _ hf=>?_⟩
      have h128:=Nat.le_of_ble_eq_true h1.2
      have:=y0c (c:=c) (s:=⟨q,eq.n⟩) (σ:=look hp2) ho (hg.ev ha (by rw [ho];simp [Op.operands])) (hg.ev hb (by rw [ho];simp [Op.operands])) hd (z6h heq hz') (te_by heq) (z55 heq hz').2 (Nat.le_of_ble_eq_true h1.1.2) oM0 (Nat.le_trans (Nat.mul_le_mul h128 hn) dC0)
      rwa [(z55 heq hz').1,<- ZV.ps_eq] at this
    · exact h.elim
  · exact h.elim
def yl8 (T:TB P) (Rl:List Nat) (t:Nat) (fr:Fr) (hp:Hp) (x y w:Operand) (K:Stp->Prop):Prop:=vev fr x fun a=>vev fr y fun b=>vev fr w fun z=>match a with
  | .mp k=>z2c (!nIn k Rl) (match b with
    | .pv (.val kv)=>match z with
      | .pv p=>vmap hp k fun es=>vti T t fun e=>match e.i with
        | .map kt _=>vti T kt fun ek=>vopt ek.i.key fun d=>VMap d kv es (K ⟨.pv (.val undef),[(k,some (.map (mput kv p es)))],[k],[]⟩)
        | _=>False
      | _=>False
    | _=>False)
  | _=>False
theorem y3b {t:Nat} {x y w:Operand} (ho:o.op = .mapUpdate t x y w∨o.op = .insert t x y w) (h:yl8 T Rl t fr hp x y w K):Does P Rl o fr hp K:=by
  replace h:=z1i h
  obtain ⟨a,ha,h⟩:=h
  replace h:=z1i h
  obtain ⟨b,hb,h⟩:=h
  replace h:=z1i h
  obtain ⟨z,hz,h⟩:=h
  have hops:o.op.operands.toList=[x,y,w]:=by rcases ho with ho | ho<;>rw [ho]<;>rfl
  have ea:∀ {fr2:Fr},agr fr2 fr (z17 o.op)->fr2.ev x=some a:=fun hg=>hg.ev ha (by rw [hops];simp)
  have eb:∀ {fr2:Fr},agr fr2 fr (z17 o.op)->fr2.ev y=some b:=fun hg=>hg.ev hb (by rw [hops];simp)
  have ez:∀ {fr2:Fr},agr fr2 fr (z17 o.op)->fr2.ev w=some z:=fun hg=>hg.ev hz (by rw [hops];simp)
  split at h
  · rename_i k
    replace h:=z0i h
    obtain ⟨hR,h⟩:=h
    have hR':nIn k Rl=false:=by simpa using hR
    split at h
    · split at h
      · obtain ⟨es,hk,h⟩:=y14 h
        replace h:=z1z h
        obtain ⟨e,he,h⟩:=h
        obtain ⟨d,hd,hi⟩:=z4c he
        split at h
        · rename_i kt et hq
          rw [hq] at hi
          cases hi
          replace h:=z1z h
          obtain ⟨ek,hek,h⟩:=h
          replace h:=z0y h
          obtain ⟨dk,hdk,h⟩:=h
          obtain ⟨h1,h2,h⟩:=h
          refine ⟨_,h,fun c fr2 hp2 hc _ hg hh _=>?_⟩
          rcases ho with ho | ho
          · exact y2c ho (ea hg) (eb hg) (ez hg) (hh.at hk (.head _)) (notR hc hR') hd (zz5 hek hdk) h1 h2
          · exact yd1 ho (ea hg) (eb hg) (ez hg) (hh.at hk (.head _)) (notR hc hR') hd (zz5 hek hdk) h1 h2
        · exact h.elim
      · exact h.elim
    · exact h.elim
  · exact h.elim
def VFlat (n:Nat) (news:List (List PV)):Prop:=∀ el∈news,el.length=n/\∀ x∈el,x.one=true
def flatB (n:Nat):List (List PV)->Bool
  | []=>true
  | el::r=>Nat.beq el.length n&&el.all PV.one&&flatB n r
theorem zg7 {n:Nat}:∀ {l:List (List PV)},flatB n l=true->VFlat n l
  | [],_=>fun _ h=>by cases h
  | el::r,h=>by
    simp only [flatB,Bool.and_eq_true] at h
    intro e he
    rcases List.mem_cons.1 he with rfl | he
    · exact ⟨Nat.eq_of_beq_eq_true h.1.1,fun x hx=>List.all_eq_true.1 h.1.2 x hx⟩
    · exact zg7 h.2 e he
theorem zt7 {α:Type} {n:Nat} {f:α -> List PV} {l:List α} (h:∀ x∈l,(f x).length=n/\∀ y∈f x,y.one=true):VFlat n (l.map f):=fun el hel=>by
  obtain ⟨x,hx,rfl⟩:=List.mem_map.1 hel
  exact h x hx
inductive VApp (s:RT) (els:List (List PV)) (n:Nat) (news:List (List PV)) (A:Prop):Prop
  | mk (hn:els.length=n) (hf:VFlat s.n news) (hb:n+news.length<=68719476736) (k:A)
theorem All.back {t:Nat} {v:Value} {y:IV} {ρ:Loc} {σ:Heap'} {w:World} {a:Act} (ht:fr.get t=some (.pv (.val v))) (hv:a.tmps[t]? = some v) (h:All c ρ σ w ((t,y)::fr) a):All c ρ σ w fr a:=by
  refine ⟨h.rel,fun t' z hz=>?_,h.tr,h.df,h.sz⟩
  by_cases e:t=t'
  · subst e
    rw [ht] at hz
    cases hz
    exact ⟨v,hv,z31 v⟩
  · exact h.fr t' z (by simp only [Fr.get,z25 e];exact hz)
theorem All.slot {t:Nat} {v:Value} {ρ:Loc} {σ:Heap'} {w:World} {a:Act} (h:All c ρ σ w fr a) (ht:fr.get t=some (.pv (.val v))):a.tmps[t]? = some v:=by
  obtain ⟨u,hu,hr⟩:=h.fr t _ ht
  rw [hu,hr.val]
theorem Ok.reval {t:Nat} {v:Value} {y x:IV} {σ σ':Heap'} (ht:fr.get t=some (.pv (.val v))) (hs:∀ F ρ w,RepI F ρ σ w y v) (h:Ok P c o ((t,y)::fr) σ x σ'):Ok P c o fr σ x σ':=by
  intro ρ w a Kc Q ha hK
  have ha2:All c ρ σ w ((t,y)::fr) a:=ha.putFr ht fun u hu=>by rw [hu.val];exact hs _ _ _
  exact h ρ w a Kc Q ha2 fun ρ' w' u ha' hu=>hK ρ' w' u (ha'.back ht (ha.slot ht)) hu
theorem Ok.ghostR {k t:Nat} {s:RT} {x:IV} {σ':Heap'} (hσ:look hp k=none) (hc:c.σ k=none) (hfr:nmFr k fr=false) (hhp:nmHp k hp=false) (ht:fr.get t=some (.pv (.val (.slice none 0 0)))) (h:Ok P c o ((t,.sl k 0)::fr) (look ((k,some (.row s []))::hp)) x σ'):Ok P c o fr (look hp) x σ':=by
  intro ρ w a Kc Q ha hK
  obtain ⟨hk,ha'⟩:=ha.ghost hσ hc hfr hhp s
  have ha2:=ha'.putFr (y:=.sl k 0) ht fun v hv=>by
    obtain rfl:=hv.val
    exact .sl k 0 _ fun s' els' _=>⟨Nat.zero_le _,fun _=>.inr ⟨hk,rfl,rfl⟩⟩
  exact h ρ w a Kc Q ha2 fun ρ' w' u ha3 hu=>hK ρ' w' u (ha3.back ht (ha.slot ht)) hu
theorem y0b {t u v k by_:Nat} {s:RT} {news:List (List PV)} (hut:Nat.beq u v=false) (ho:o.op = .call { callee:=.builtin .append,args:=#[.tmp u,.tmp v],argTypes:=#[t,t] }) (hx:fr.get u=some (.pv (.val (.slice none 0 0)))) (hy:fr.get v=some (.pv (.seq news)))
    (ht:P.underlying t=some (.slice s.e)) (hi:(P.info? s.e).map (fun i=>(i.size,i.bytes,(i.zero.map fun z=>z.cells.size)))=some (s.n,by_,some s.n)) (hs:0<s.n)
    (hw:∀ el∈news,el.length=s.n) (hone:∀ el∈news,∀ x∈el,x.one=true) (hmax:0+news.length<=maxLen) (hb:(0+news.length)*by_<=140737488355328)
    (hσ:look hp k=none) (hc:c.σ k=none) (hR:¬ c.R k) (hfr:nmFr k fr=false) (hhp:nmHp k hp=false) :
    Ok P c o fr (look hp) (.sl k news.length) (look ((k,some (.row s news))::hp)):=by
  refine Ok.ghostR (s:=s) hσ hc hfr hhp hx ?_
  have hu:Fr.ev ((u,.sl k 0)::fr) (.tmp u)=some (.sl k 0):=by simp [Fr.ev,Fr.get]
  have hv:Fr.ev ((u,.sl k 0)::fr) (.tmp v)=some (.pv (.seq news)):=by simp only [Fr.ev,Fr.get,hut];exact hy
  have:=aPp (c:=c) (hp:=(k,some (.row s []))::hp) ho hu hv z35 rfl hR ht hi hs hw hone hmax hb
  simp only [Nat.zero_add,List.nil_append] at this
  rwa [za9] at this
theorem zu1 {t k n:Nat} {u:Operand} {v by_:Nat} {s:RT} {els:List (List PV)} (hut:∀ x,u = .tmp x->Nat.beq v x=false) (ho:o.op = .call { callee:=.builtin .append,args:=#[u,.tmp v],argTypes:=#[t,t] }) (hx:fr.ev u=some (.sl k n)) (hy:fr.get v=some (.pv (.val (.slice none 0 0))))
    (hk:look hp k=some (.row s els)) (hn:els.length=n) (hR:¬ c.R k) (ht:P.underlying t=some (.slice s.e)) (hi:(P.info? s.e).map (fun i=>(i.size,i.bytes,(i.zero.map fun z=>z.cells.size)))=some (s.n,by_,some s.n)) (hs:0<s.n)
    (hmax:n+0<=maxLen) (hb:(n+0)*by_<=140737488355328):Ok P c o fr (look hp) (.sl k n) (look ((k,some (.row s els))::hp)):=by
  refine Ok.reval (y:=.pv (.seq [])) hy (fun F ρ w=>.pv _ _ (.seq [] none 0 0 0 (fun _ _=>undef) sI0 sI0 sI0 (by simp [maxLen]) sI0 sI0)) ?_
  have hu:Fr.ev ((v,.pv (.seq []))::fr) u=some (.sl k n):=by
    cases u with
    | tmp x=>simp only [Fr.ev,Fr.get,hut x rfl];exact hx
    | _=>exact hx
  have hv:Fr.ev ((v,.pv (.seq []))::fr) (.tmp v)=some (.pv (.seq [])):=by simp [Fr.ev,Fr.get]
  have:=aPp (c:=c) ho hu hv hk hn hR ht hi hs (fun _ h=>by cases h) (fun _ h=>by cases h) hmax hb
  simpa using this
def tmpB:Operand->Option Nat
  | .tmp t=>some t
  | _=>none
theorem y54 {y:Operand} {t:Nat} (h:tmpB y=some t):y = .tmp t:=by cases y<;>simp_all [tmpB]
def yl1 (T:TB P) (Rl:List Nat) (t:Nat) (fr:Fr) (hp:Hp) (x y:Operand) (k0:Nat) (K:Stp->Prop):Prop:=vti T t fun e=>match e.i with
  | .slice q=>vti T q fun eq=>z2c (!eq.z.isEmpty&&Nat.ble 1 eq.n&&Nat.ble eq.b 2048) (vev fr x fun a=>vev fr y fun b=>match a with
    | .sl k n=>z2c (!nIn k Rl) (vrow hp k fun s els=>z2c (Nat.beq s.e q&&Nat.beq s.n eq.n) (match b with
      | .pv (.seq news)=>VApp s els n news (K ⟨.sl k (n+news.length),[(k,some (.row s (els++news)))],[k],[]⟩)
      | .sl k2 n2=>vrow hp k2 fun s2 news=>z2c (Nat.beq s2.e q&&Nat.beq s2.n eq.n) (news.length=n2/\VApp s els n news (K ⟨.sl k (n+news.length),[(k,some (.row s (els++news)))],[k,k2],[]⟩))
      | .pv (.val (.slice none 0 0))=>vopt (tmpB y) fun v=>z2c (match tmpB x with
          | some u=>!Nat.beq v u
          | none=>true) (els.length=n/\n<=68719476736/\K ⟨.sl k n,[(k,some (.row s els))],[k],[]⟩)
      | _=>False))
    | .pv (.val (.slice none 0 0))=>vopt (tmpB x) fun u=>vopt (tmpB y) fun v=>z2c (!Nat.beq u v && !nIn k0 Rl) (match b with
      | .pv (.seq news)=>VApp ⟨q,eq.n⟩ [] 0 news (K ⟨.sl k0 news.length,[(k0,some (.row ⟨q,eq.n⟩ news))],[k0],[k0]⟩)
      | .bs k2 n2=>vbox hp k2 fun cs=>z2c (!nm.nms k0 cs&&Nat.beq eq.n 1) (cs.length=n2/\0<n2/\n2<=68719476736/\K ⟨.bs k0 n2,[(k0,some (.box cs))],[k0,k2],[k0]⟩)
      | _=>False)
    | _=>False)
  | _=>False
theorem y1d {n b:Nat} (hn:n<=68719476736) (hb:Nat.ble b 2048=true):n<=maxLen/\n*b<=140737488355328:=by
  refine ⟨by simp only [maxLen];omega,Nat.le_trans (Nat.mul_le_mul hn (Nat.le_of_ble_eq_true hb)) dC0⟩
theorem y8k {t k0:Nat} {x y:Operand} (ho:o.op = .call { callee:=.builtin .append,args:=#[x,y],argTypes:=#[t,t] }) (h:yl1 T Rl t fr hp x y k0 K):Does P Rl o fr hp K:=by
  have hops:o.op.operands.toList=[x,y]:=by rw [ho];rfl
  replace h:=z1z h
  obtain ⟨e,he,h⟩:=h
  obtain ⟨d,hd,hi⟩:=z4c he
  split at h
  · rename_i q hq
    rw [hq] at hi
    cases hi
    replace h:=z1z h
    obtain ⟨eq,heq,h⟩:=h
    replace h:=z0i h
    obtain ⟨h1,h⟩:=h
    simp only [Bool.and_eq_true] at h1
    have hz':eq.z≠[]:=by simpa using h1.1.1
    have hpos:=Nat.le_of_ble_eq_true h1.1.2
    have hinfo:=te_app heq hz'
    replace h:=z1i h
    obtain ⟨a,ha,h⟩:=h
    replace h:=z1i h
    obtain ⟨b,hb,h⟩:=h
    have ea:∀ {fr2:Fr},agr fr2 fr (z17 o.op)->fr2.ev x=some a:=fun hg=>hg.ev ha (by rw [hops];simp)
    have eb:∀ {fr2:Fr},agr fr2 fr (z17 o.op)->fr2.ev y=some b:=fun hg=>hg.ev hb (by rw [hops];simp)
    split at h
    · rename_i k n
      replace h:=z0i h
      obtain ⟨hR,h⟩:=h
      have hR':nIn k Rl=false:=by simpa using hR
      replace h:=z6j h
      obtain ⟨s,els,hk,h⟩:=h
      replace h:=z0i h
      obtain ⟨hs,h⟩:=h
      simp only [Bool.and_eq_true] at hs
      have hse:=Nat.eq_of_beq_eq_true hs.1
      have hsn:=Nat.eq_of_beq_eq_true hs.2
      split at h
      · obtain ⟨hn,hf,hbd,h⟩:=h
        obtain ⟨hm1,hm2⟩:=y1d hbd h1.2
        exact ⟨_,h,fun c fr2 hp2 hc _ hg hh _=>aPp ho (ea hg) (eb hg) (hh.at hk (.head _)) hn (notR hc hR') (by rw [hse];exact hd) (by rw [hse,hsn];exact hinfo) oM0 (fun el hel=>(hf el hel).1) (fun el hel=>(hf el hel).2) hm1 hm2⟩
      · rename_i k2 n2
        replace h:=z6j h
        obtain ⟨s2,news,hk2,h⟩:=h
        replace h:=z0i h
        obtain ⟨hs2,h⟩:=h
        simp only [Bool.and_eq_true] at hs2
        have hss:s2=s:=by
          cases s;cases s2
          have h3:=Nat.eq_of_beq_eq_true hs2.1
          have h4:=Nat.eq_of_beq_eq_true hs2.2
          simp_all
        subst hss
        obtain ⟨hn2,hn,hf,hbd,h9⟩:=h
        obtain ⟨hm1,hm2⟩:=y1d hbd h1.2
        exact ⟨_,h9,fun c fr2 hp2 hc _ hg hh _=>z5p ho (ea hg) (eb hg) (hh.at hk (.head _)) hn (hh.at hk2 (.tail _ (.head _))) hn2 (notR hc hR') (by rw [hse];exact hd) (by rw [hse,hsn];exact hinfo) oM0 (fun el hel=>(hf el hel).1) (fun el hel=>(hf el hel).2) hm1 hm2⟩
      · replace h:=z0y h
        obtain ⟨v,hv,h⟩:=h
        have hv':=y54 hv
        replace h:=z0i h
        obtain ⟨hut,h⟩:=h
        obtain ⟨hn,hbd,h⟩:=h
        obtain ⟨hm1,hm2⟩:=y1d hbd h1.2
        refine ⟨_,h,fun c fr2 hp2 hc _ hg hh _=>zu1 (v:=v) (fun u hu=>?_) (by rw [ho,hv']) (ea hg) (by have:=eb hg;rw [hv'] at this;exact this) (hh.at hk (.head _)) hn (notR hc hR') (by rw [hse];exact hd) (by rw [hse,hsn];exact hinfo) oM0 hm1 hm2⟩
        rw [hu] at hut
        simpa [tmpB] using hut
      · exact h.elim
    · replace h:=z0y h
      obtain ⟨u,hu,h⟩:=h
      replace h:=z0y h
      obtain ⟨v,hv,h⟩:=h
      replace h:=z0i h
      obtain ⟨hut,h⟩:=h
      simp only [Bool.and_eq_true,Bool.not_eq_true'] at hut
      have hu':=y54 hu
      have hv':=y54 hv
      split at h
      · obtain ⟨hn,hf,hbd,h⟩:=h
        obtain ⟨hm1,hm2⟩:=y1d hbd h1.2
        refine ⟨_,h,fun c fr2 hp2 hc hc0 hg _ hfr=>?_⟩
        obtain ⟨f1,f2,f3⟩:=z40 (hfr k0 (.head _))
        exact y0b (s:=⟨q,eq.n⟩) hut.1 (by rw [ho,hu',hv']) (by have:=ea hg;rw [hu'] at this;exact this) (by have:=eb hg;rw [hv'] at this;exact this) hd hinfo hpos (fun el hel=>(hf el hel).1) (fun el hel=>(hf el hel).2) hm1 hm2 f3 (hc0 k0 (.head _)) (notR hc hut.2) f1 f2
      · rename_i k2 n2
        obtain ⟨cs,hk2,h⟩:=z4z h
        replace h:=z0i h
        obtain ⟨hn1,hn2,h02,hbd,h⟩:=h
        simp only [Bool.and_eq_true,Bool.not_eq_true'] at hn1
        obtain ⟨hm1,hm2⟩:=y1d hbd h1.2
        have hn3:=Nat.eq_of_beq_eq_true hn1.2
        refine ⟨_,h,fun c fr2 hp2 hc hc0 hg hh hfr=>?_⟩
        obtain ⟨f1,f2,f3⟩:=z40 (hfr k0 (.head _))
        exact y2b ho (ea hg) (eb hg) (hh.at hk2 (.tail _ (.head _))) hn2 h02 hd (by rw [hn3] at hinfo;exact hinfo) hm1 hm2 hn1.1 f3 (hc0 k0 (.head _)) f1 f2
      · exact h.elim
    · exact h.elim
  · exact h.elim
end
section
variable {P:Program} {T:TB P} {o:Oper} {fr:Fr} {hp:Hp} {Rl:List Nat} {K:Stp->Prop} {c:Cx}
def z8e (l:List (Nat × HO)):List Nat:=l.map (·.1)
def lBeq:List Nat->List Nat->Bool
  | [],[]=>true
  | a::r,b::s=>match Nat.beq a b with
    | true=>lBeq r s
    | false=>false
  | _,_=>false
theorem y3y:∀ {l m:List Nat},lBeq l m=true->l=m
  | [],[],_=>rfl
  | a::r,b::s,h=>by
    simp only [lBeq] at h
    split at h
    · rename_i hb;rw [Nat.eq_of_beq_eq_true hb,y3y h]
    · cases h
def SubA (xs ys:List IV):Prop:=∀ σ,Subs σ xs ys
theorem sR {xs:List IV}:SubA xs xs:=fun σ=>sRf σ xs
def cOk (hp:Hp) (Rl U:List Nat) (R:Nat->Prop) (post:List (Nat × HO)):List (Nat × HO)->Prop
  | []=>True
  | (k,o)::r=>look hp k=some o/\(match nIn k U with
    | true=>look (up post) k=some o/\(match nIn k Rl with
      | true=>R k/\cOk hp Rl U R post r
      | false=>cOk hp Rl U R post r)
    | false=>match nIn k Rl with
      | true=>R k/\cOk hp Rl U R post r
      | false=>cOk hp Rl U R post r)
theorem y3l {U:List Nat} {R:Nat->Prop} {post:List (Nat × HO)}:∀ {pre:List (Nat × HO)},cOk hp Rl U R post pre->∀ p∈pre,look hp p.1=some p.2/\(p.1∈U->look (up post) p.1=some p.2)/\(p.1∈Rl->R p.1)
  | (k,o)::r,h,p,hq=>by
    simp only [cOk] at h
    obtain ⟨h0,h⟩:=h
    have key:(k∈U->look (up post) k=some o)/\(k∈Rl->R k)/\cOk hp Rl U R post r:=by
      split at h
      · obtain ⟨h1,h⟩:=h
        split at h
        · exact ⟨fun _=>h1,fun _=>h.1,h.2⟩
        · rename_i hn;exact ⟨fun _=>h1,fun e=>absurd e (z2o hn),h⟩
      · rename_i hu
        split at h
        · exact ⟨fun e=>absurd e (z2o hu),fun _=>h.1,h.2⟩
        · rename_i hn;exact ⟨fun e=>absurd e (z2o hu),fun e=>absurd e (z2o hn),h⟩
    rcases List.mem_cons.1 hq with rfl | hq
    · exact ⟨h0,key.1,key.2.1⟩
    · exact y3l key.2.2 p hq
def yc7 (pre post:List (Nat × HO)):List Nat:=(z8e post).take (post.length - pre.length)
def lAll (f:Nat->Bool):List Nat->Bool
  | []=>true
  | k::r=>match f k with
    | true=>lAll f r
    | false=>false
theorem zp1 {f:Nat->Bool}:∀ {l:List Nat},lAll f l=true->∀ k∈l,f k=true
  | a::r,h,k,hk=>by
    simp only [lAll] at h
    split at h
    · rename_i ha
      rcases List.mem_cons.1 hk with rfl | hk
      · exact ha
      · exact zp1 h k hk
    · cases h
def callB (U:List Nat) (pre post:List (Nat × HO)) (r:IV):Bool :=
  lBeq (z8e post) (yc7 pre post++z8e pre)&&lAll (fun k=>!nIn k U) (yc7 pre post)&&only (z8e post) r&&z2u (z8e post) post
def upU (U:List Nat):List (Nat × HO)->Hp
  | []=>[]
  | (k,o)::r=>match nIn k U with
    | true=>upU U r
    | false=>(k,some o)::upU U r
theorem y60 {U:List Nat} {k:Nat}:∀ {l:List (Nat × HO)},look (upU U l) k=if k∈U then none else look (up l) k
  | []=>by simp [upU,up,look]
  | (j,o)::r=>by
    simp only [upU]
    have ih:=y60 (U:=U) (k:=k) (l:=r)
    have hl:look (up ((j,o)::r)) k=bif Nat.beq j k then some o else look (up r) k:=rfl
    split
    · rename_i hj
      have hj':=z50.1 hj
      rw [ih,hl]
      by_cases e:k∈U
      · simp [e]
      · have:j≠k:=fun h=>e (h ▸ hj')
        simp [e,z25 this]
    · rename_i hj
      have hj':=z2o hj
      have hl2:look ((j,some o)::upU U r) k=bif Nat.beq j k then some o else look (upU U r) k:=rfl
      rw [hl2,ih,hl]
      by_cases e:k∈U
      · have:j≠k:=fun h=>hj' (h ▸ e)
        simp [e,z25 this]
      · simp [e]
theorem z2h {A B:Hp} {k:Nat}:look (A++B) k=if k∈A.map (·.1) then look A k else look B k:=by
  induction A with
  | nil=>simp
  | cons p r ih =>
    obtain ⟨j,q⟩:=p
    have h1:look ((j,q)::r++B) k=bif Nat.beq j k then q else look (r++B) k:=rfl
    have h2:look ((j,q)::r) k=bif Nat.beq j k then q else look r k:=rfl
    rw [h1,h2]
    by_cases e:j=k
    · subst e;simp
    · have e':k≠j:=Ne.symm e
      simp only [z25 e,cond_false,List.map_cons,List.mem_cons,e',false_or]
      exact ih
theorem up_ids {l:List (Nat × HO)}:(up l).map (·.1)=z8e l:=by simp [up,z8e]
theorem y11 {U:List Nat}:∀ {l:List (Nat × HO)} {k:Nat},k∈(upU U l).map (·.1)↔k∈z8e l/\k∉U
  | [],k=>by simp [upU,z8e]
  | (j,o)::r,k=>by
    have ih:=y11 (U:=U) (l:=r) (k:=k)
    simp only [upU,z8e,List.map_cons,List.mem_cons]
    simp only [z8e] at ih
    split
    · rename_i hj
      have hj':=z50.1 hj
      rw [ih]
      constructor
      · exact fun h=>⟨.inr h.1,h.2⟩
      · rintro ⟨rfl | h,h2⟩
        · exact absurd hj' h2
        · exact ⟨h,h2⟩
    · rename_i hj
      have hj':=z2o hj
      simp only [List.map_cons,List.mem_cons]
      rw [ih]
      constructor
      · rintro (rfl | h)
        · exact ⟨.inl rfl,hj'⟩
        · exact ⟨.inr h.1,h.2⟩
      · rintro ⟨rfl | h,h2⟩
        · exact .inl rfl
        · exact .inr ⟨h,h2⟩
inductive VCall (P:Program) (Rl:List Nat) (f:FuncId) (xs:List IV) (hp:Hp) (K:Stp->Prop):Prop
  | mk (U:List Nat) {args:List IV} {pre post:List (Nat × HO)} {R:Nat->Prop} {r:IV} (h:SC P f args pre R r post) (hs:SubA xs args) (ho:cOk hp Rl U R post pre) (hc:callB U pre post r=true) (k:K ⟨r,upU U post,z8e post,yc7 pre post⟩)
theorem VCall.does {f:FuncId} {os:Array Operand} {tys:Array TypeId} {xs:List IV} (hf:z0f P f) (ho:o.op = .call { callee:=.value (.func f),args:=os,argTypes:=tys }) (hx:evs fr os.toList=some xs) (h:VCall P Rl f xs hp K):Does P Rl o fr hp K:=by
  obtain ⟨U,hsc,hs,hok,hc,hk⟩:=h
  rename_i args pre post R r
  simp only [callB,Bool.and_eq_true] at hc
  obtain ⟨⟨⟨h1,h2⟩,h3⟩,h4⟩:=hc
  have hdom:=y3y h1
  have hU:=zp1 h2
  have hm:=y3l hok
  refine ⟨_,hk,fun c fr2 hp2 hR hc0 hg hh hf0=>?_⟩
  have hpre2:∀ p∈pre,look hp2 p.1=some p.2:=fun p hq=>hh.at (hm p hq).1 (by
    show p.1∈z8e post
    rw [hdom];exact List.mem_append_right _ (List.mem_map_of_mem hq))
  have hpre3:∀ k ob,look (up pre) k=some ob->look hp2 k=some ob:=fun k ob hk=>hpre2 (k,ob) (z16 hk)
  have h5:=yd0 (ns:=yc7 pre post) (c:=c) hsc hf ho (hg.evs hx fun y hy=>by
      rw [ho];simp only [Op.operands,Call.operands,Array.toList_append];exact List.mem_append_right _ hy) (hs _) hpre3 hdom
    (fun k hk=>(z40 (hf0 k hk)).2.2) (fun k hk=>hc0 k hk) (fun k hk=>(z40 (hf0 k hk)).1) (fun k hk=>(z40 (hf0 k hk)).2.1)
    (fun k hk=>by
      cases hl:look (up pre) k with
      | none=>exact .inl rfl
      | some ob=>exact .inr ((hm _ (z16 hl)).2.2 (hR k hk))) h3 h4
  have heq:look (up post++hp2)=look (upU U post++hp2):=by
    funext k
    rw [z2h,z2h,up_ids]
    by_cases e:k∈z8e post
    · rw [if_pos e]
      by_cases u:k∈U
      · rw [if_neg (fun hx=>(y11.1 hx).2 u)]
        rw [hdom] at e
        rcases List.mem_append.1 e with e | e
        · have:=hU k e
          rw [z50.2 u] at this
          cases this
        · obtain ⟨p,hq,rfl⟩:=List.mem_map.1 e
          rw [(hm p hq).2.1 u,hpre2 p hq]
      · rw [if_pos (y11.2 ⟨e,u⟩),y60,if_neg u]
    · rw [if_neg e,if_neg (fun hx=>e (y11.1 hx).1)]
  rw [<- heq]
  exact h5
inductive VCallV (P:Program) (Rl:List Nat) (f:FuncId) (xs:List IV) (hp:Hp) (K:Stp->Prop):Prop
  | mk {args:List IV} {pre post:List (Nat × HO)} {R:Nat->Prop} {r:IV} (h:SC P f args pre R r post) (hs:SubA xs args) (ho:cOk hp Rl [] R post pre) (hR:∀ k∈Rl,R k) (hc:callB [] pre post r=true) (hn:yc7 pre post=[]) (k:K ⟨r,up post,z8e post,[]⟩)
theorem VCallV.does {f:FuncId} {q:Operand} {os:Array Operand} {tys:Array TypeId} {us xs ws:List IV} (hf:z0f P f) (ho:o.op = .call { callee:=.value q,args:=os,argTypes:=tys }) (hq:fr.ev q=some (.fn (.func f) us ws)) (hx:evs fr os.toList=some xs) (h:VCallV P Rl f (us++xs++ws) hp K):Does P Rl o fr hp K:=by
  obtain ⟨hsc,hs,hok,hR0,hc,hn,hk⟩:=h
  rename_i args pre post R r
  simp only [callB,Bool.and_eq_true] at hc
  obtain ⟨⟨⟨h1,_⟩,h3⟩,h4⟩:=hc
  have hdom:=y3y h1
  rw [hn,List.nil_append] at hdom
  have hm:=y3l hok
  refine ⟨_,hk,fun c fr2 hp2 hR hc0 hg hh hf0=>?_⟩
  have hpre3:∀ k ob,look (up pre) k=some ob->look hp2 k=some ob:=fun k ob hk=>hh.at (hm _ (z16 hk)).1 (by
    show k∈z8e post
    rw [hdom];exact List.mem_map_of_mem (z16 hk))
  exact z7h (c:=c) hsc hf ho (hg.ev hq (by rw [ho];simp [Op.operands,Call.operands])) (hg.evs hx fun y hy=>by
      rw [ho];simp only [Op.operands,Call.operands,Array.toList_append];exact List.mem_append_right _ hy) (hs _) hpre3 hdom.symm (fun k hk=>hR0 k (hR k hk)) h3 h4
inductive Gh where
  | grow (t k e n:Nat)
  | growC (k2 j k e n:Nat)
  | fz (t k:Nat)
  | fzC (k2 j k:Nat)
  | fzB (t k:Nat)
  | len (t:Nat)
  | drop (k:Nat)
  | ni (t:Nat)
  | niC (k j:Nat)
structure Hn where
  gh:List (Nat × List Gh):=[]
  pb:List Nat:=[]
  ob:List Nat:=[]
  an:List Nat:=[]
  jn:List Nat:=[]
  ids:List (Nat × Nat):=[]
def idAt (d:Nat):List (Nat × Nat)->Nat
  | []=>100+d
  | (s,k)::r=>match Nat.beq s d with
    | true=>k
    | false=>idAt d r
def y05 (H:Hn) (o:Oper):Nat:=match o.dst with
  | some d=>idAt d H.ids
  | none=>0
def y5d (T:TB P) (H:Hn) (Rl:List Nat) (o:Oper) (q:Call) (fr:Fr) (hp:Hp) (K:Stp->Prop):Prop:=match q.callee with
  | .builtin b=>match b with
    | .len=>match q.args.toList with
      | [y]=>match q.argTypes.toList with
        | [t]=>vLen T t fr hp y K
        | _=>False
      | _=>False
    | .cap=>match q.args.toList with
      | [y]=>match q.argTypes.toList with
        | [t]=>vCap T t fr y K
        | _=>False
      | _=>False
    | .max=>match q.args.toList with
      | [y,w]=>match q.argTypes.toList with
        | [t,u]=>z2c (Nat.beq u t) (vMax fr y w K)
        | _=>False
      | _=>False
    | .append=>match q.args.toList with
      | [y,w]=>match q.argTypes.toList with
        | [t,u]=>z2c (Nat.beq u t) (yl1 T Rl t fr hp y w (y05 H o) K)
        | _=>False
      | _=>False
    | _=>False
  | .value y=>vopt (evs fr q.args.toList) fun xs=>match y with
    | .func f=>z2c (T.fn f) (VCall P Rl f xs hp K)
    | y=>vev fr y fun a=>match a with
      | .fn (.func f) us ws=>z2c (T.fn f) (VCallV P Rl f (us++xs++ws) hp K)
      | _=>False
  | _=>False
theorem zl0 {q:Call} {a:Callee} {xs:List Operand} {ts:List TypeId} (ha:q.callee=a) (hx:q.args.toList=xs) (ht:q.argTypes.toList=ts):q={ callee:=a,args:=xs.toArray,argTypes:=ts.toArray }:=by
  cases q;simp_all;exact ⟨by rw [<- hx],by rw [<- ht]⟩
theorem y8n {H:Hn} {q:Call} (ho:o.op = .call q) (h:y5d T H Rl o q fr hp K):Does P Rl o fr hp K:=by
  unfold y5d at h
  split at h
  · rename_i b hb
    split at h
    · split at h
      · rename_i hy
        split at h
        · rename_i ht
          exact vLen_ok (by rw [ho,zl0 hb hy ht]) h
        · exact h.elim
      · exact h.elim
    · split at h
      · rename_i hy
        split at h
        · rename_i ht
          exact vCap_ok (by rw [ho,zl0 hb hy ht]) h
        · exact h.elim
      · exact h.elim
    · split at h
      · rename_i hy
        split at h
        · rename_i ht
          replace h:=z0i h
          obtain ⟨hu,h⟩:=h
          obtain rfl:=Nat.eq_of_beq_eq_true hu
          exact vMax_ok (by rw [ho,zl0 hb hy ht]) h
        · exact h.elim
      · exact h.elim
    · split at h
      · rename_i hy
        split at h
        · rename_i ht
          replace h:=z0i h
          obtain ⟨hu,h⟩:=h
          obtain rfl:=Nat.eq_of_beq_eq_true hu
          exact y8k (by rw [ho,zl0 hb hy ht]) h
        · exact h.elim
      · exact h.elim
    · exact h.elim
  · rename_i y hb
    replace h:=z0y h
    obtain ⟨xs,hx,h⟩:=h
    have hq:o.op = .call { callee:=.value y,args:=q.args,argTypes:=q.argTypes }:=by rw [ho];cases q;simp_all
    split at h
    · replace h:=z0i h
      exact VCall.does (T.fok _ h.1) hq hx h.2
    · replace h:=z1i h
      obtain ⟨a,ha,h⟩:=h
      split at h
      · replace h:=z0i h
        exact VCallV.does (T.fok _ h.1) hq ha hx h.2
      · exact h.elim
  · exact h.elim
def vop (T:TB P) (H:Hn) (Rl:List Nat) (key:Nat) (o:Oper) (fr:Fr) (hp:Hp) (K:Stp->Prop):Prop:=match nIn key H.an with
  | true=>VAny P Rl o fr hp K
  | false=>match o.op with
    | .move y=>y3e fr y K
    | .assign y=>y3e fr y K
    | .pick q y w=>vPick fr q y w K
    | .binOp p t y w _=>vBin T p t fr y w K
    | .unOp p _ y=>vUn p fr y K
    | .convert s t y=>vConv T s t fr y K
    | .load t y=>yl6 T t fr hp y K
    | .store t y w=>vStore T Rl t fr hp y w K
    | .fieldAddr t y f=>yl4 T t fr hp y f K
    | .field t y f=>yl5 T t fr y f K
    | .indexAddr t y w=>vIdxA T t fr hp y w K
    | .index t y w=>vIdxV T t fr y w K
    | .extract y i=>y6q fr y i K
    | .nilCheck y=>vNil fr hp y K
    | .slice t y lo hi none=>vSlice T t fr y lo hi K
    | .makeFunc f xs ys=>vFunc fr f xs ys K
    | .lookup t y w two=>yl7 T t fr hp y w two K
    | .mapUpdate t x y w=>yl8 T Rl t fr hp x y w K
    | .insert t x y w=>yl8 T Rl t fr hp x y w K
    | .alloc t=>vAlloc T t (y05 H o) K
    | .box _ y=>vBox (!nIn (y05 H o) H.pb) fr hp y (y05 H o) K
    | .build t parts=>vBuild T t fr hp parts.toList K
    | .buildSlice t len parts=>yl2 T (nIn (y05 H o) H.ob) t len fr hp parts.toList (y05 H o) K
    | .makeMap _ none=>vMkMap (y05 H o) K
    | .makeSlice t y w=>match nIn (y05 H o) H.pb with
      | true=>y3c T t fr y w K
      | false=>y6r T t fr y w (y05 H o) K
    | .call q=>y5d T H Rl o q fr hp K
    | _=>False
theorem vop_ok {H:Hn} {key:Nat} (h:vop T H Rl key o fr hp K):Does P Rl o fr hp K:=by
  unfold vop at h
  split at h
  · obtain ⟨h1,h2⟩:=h
    exact ⟨_,h2,h1⟩
  · split at h
    · exact vMove_ok ‹_› h
    · exact y8l ‹_› h
    · exact vPick_ok ‹_› h
    · exact vBin_ok ‹_› h
    · exact vUn_ok ‹_› h
    · exact vConv_ok ‹_› h
    · exact vLoad_ok ‹_› h
    · exact ym1 ‹_› h
    · exact y8o ‹_› h
    · exact y8p ‹_› h
    · exact vIdxA_ok ‹_› h
    · exact vIdxV_ok ‹_› h
    · exact y5e ‹_› h
    · exact vNil_ok ‹_› h
    · exact ym0 ‹_› h
    · exact vFunc_ok ‹_› h
    · exact y8r ‹_› h
    · exact y3b (.inl ‹_›) h
    · exact y3b (.inr ‹_›) h
    · exact yl0 ‹_› h
    · exact vBox_ok ‹_› h
    · exact yl3 ‹_› h
    · exact y8m ‹_› h
    · exact yl9 ‹_› h
    · split at h
      · exact y3d ‹_› h
      · exact y5f ‹_› h
    · exact y8n ‹_› h
    · exact h.elim
end
section
variable {P:Program} {T:TB P} {fr fr':Fr} {hp hp':Hp} {Rl ks:List Nat} {c:Cx} {ops:Array Oper} {Q:Exit->Fr->Heap'->Prop} {nt:Nat}
structure Ent where
  i:Nat
  o:Oper
  s:Option Stp
def Ent.x (e:Ent):IV:=match e.s with
  | some s=>s.x
  | none=>.pv (.val undef)
def Ent.wr (e:Ent):Hp:=match e.s with
  | some s=>s.wr
  | none=>[]
def Ent.rd (e:Ent):List Nat:=match e.s with
  | some s=>s.rd
  | none=>[]
def Ent.nw (e:Ent):List Nat:=match e.s with
  | some s=>s.nw
  | none=>[]
def putE (fr:Fr) (e:Ent):Fr:=fr.put e.o.dst e.x
def putH (hp:Hp) (e:Ent):Hp:=e.wr++hp
def zv6 (ops:Array Oper) (o:Oper):List Nat:=match o.guard with
  | some (j,_)=>match ops[j]? with
    | some oj=>oj.dst.toList
    | none=>[]
  | none=>[]
def seen (ops:Array Oper) (o:Oper):List Nat:=zv6 ops o++z17 o.op
inductive GYes (ops:Array Oper) (o:Oper) (fr:Fr):Prop
  | free (h:o.guard=none)
  | met {j t:Nat} {b:Bool} {oj:Oper} (h:o.guard=some (j,b)) (hj:ops[j]? = some oj) (ht:oj.dst=some t) (hb:fr.get t=some (.pv (.val (.bool b))))
inductive GNo (ops:Array Oper) (o:Oper) (fr:Fr):Prop
  | not {j t:Nat} {b:Bool} {oj:Oper} (h:o.guard=some (j,!b)) (hj:ops[j]? = some oj) (ht:oj.dst=some t) (hb:fr.get t=some (.pv (.val (.bool b))))
  | un {j t:Nat} {b:Bool} {oj:Oper} (h:o.guard=some (j,b)) (hj:ops[j]? = some oj) (ht:oj.dst=some t) (hb:fr.get t=some (.pv (.val undef)))
theorem GYes.wanted {o:Oper} {ρ:Loc} {σ:Heap'} {w:World} {a:Act} (h:GYes ops o fr) (ha:All c ρ σ w fr a):Region.wanted o (yielded ops a.tmps)=true:=by
  cases h with
  | free h=>simp [Region.wanted,h]
  | met h hj ht hb=>simp [Region.wanted,h,z33 ha hj ht hb]
theorem GNo.wanted {o:Oper} {ρ:Loc} {σ:Heap'} {w:World} {a:Act} (h:GNo ops o fr) (ha:All c ρ σ w fr a):Region.wanted o (yielded ops a.tmps)=false:=by
  cases h with
  | not h hj ht hb=>simp [Region.wanted,h,z33 ha hj ht hb]
  | un h hj ht hb=>simp [Region.wanted,h,z7x ha hj ht hb]
theorem GYes.agr {o:Oper} {fr2:Fr} (h:GYes ops o fr) (hg:agr fr2 fr (zv6 ops o)):GYes ops o fr2:=by
  cases h with
  | free h=>exact .free h
  | met h hj ht hb=>exact .met h hj ht ((hg _ (by simp [zv6,h,hj,ht])).trans hb)
theorem GNo.agr {o:Oper} {fr2:Fr} (h:GNo ops o fr) (hg:agr fr2 fr (zv6 ops o)):GNo ops o fr2:=by
  cases h with
  | not h hj ht hb=>exact .not h hj ht ((hg _ (by simp [zv6,h,hj,ht])).trans hb)
  | un h hj ht hb=>exact .un h hj ht ((hg _ (by simp [zv6,h,hj,ht])).trans hb)
def wrOk (hp:Hp) (nw:List Nat):Hp->Bool
  | []=>true
  | (k,_)::r=>match nIn k nw with
    | true=>wrOk hp nw r
    | false=>match look hp k with
      | some _=>wrOk hp nw r
      | none=>false
theorem y16 {nw:List Nat} {k:Nat}:∀ {l:Hp},wrOk hp nw l=true->k∈l.map (·.1)->k∈nw∨look hp k≠none
  | (j,q)::r,h,hk=>by
    simp only [wrOk] at h
    simp only [List.map_cons,List.mem_cons] at hk
    split at h
    · rename_i hn
      rcases hk with rfl | hk
      · exact .inl (z50.1 hn)
      · exact y16 h hk
    · split at h
      · rename_i ob hl
        rcases hk with rfl | hk
        · exact .inr (by rw [hl];simp)
        · exact y16 h hk
      · cases h
def newB (ks:List Nat) (fr:Fr) (hp:Hp) (k:Nat):Bool:=match nIn k ks with
  | true=>false
  | false=>frsh k fr hp
theorem yc6 {k:Nat} (h:newB ks fr hp k=true):k∉ks/\frsh k fr hp=true:=by
  unfold newB at h
  split at h
  · cases h
  · rename_i hn;exact ⟨z2o hn,h⟩
def Good (P:Program) (ops:Array Oper) (Rl ks:List Nat) (nt:Nat) (e:Ent) (fr:Fr) (hp:Hp):Prop :=
  y29 e.o.dst nt=true/\match e.s with
  | some s=>GYes ops e.o fr/\OkF P Rl e.o fr hp s/\(∀ k∈s.nw,k∉ks/\frsh k fr hp=true)/\wrOk hp s.nw s.wr=true
  | none=>GNo ops e.o fr
def FrEq (fr fr2:Fr):Prop:=(∀ t,fr2.get t=fr.get t)/\∀ k,nmFr k fr2=nmFr k fr
theorem FrEq.rfl':FrEq fr fr:=⟨fun _=>rfl,fun _=>rfl⟩
theorem FrEq.lit {t:Nat} {v:Value} (h:fr.get t=some (.pv (.val v))):FrEq ((t,.pv (.val v))::fr) fr:=by
  refine ⟨fun u=>?_,fun k=>by simp [nmFr,nm]⟩
  simp only [Fr.get]
  cases hb:Nat.beq t u with
  | true=>obtain rfl:=Nat.eq_of_beq_eq_true hb;exact h
  | false=>rfl
theorem FrEq.put {d:Option Nat} {x:IV} {fr2:Fr} (h:FrEq fr fr2):FrEq (fr.put d x) (fr2.put d x):=by
  cases d with
  | none=>exact h
  | some t=>exact ⟨fun u=>by simp only [Fr.put,Fr.get,h.1 u],fun k=>by simp only [Fr.put,nmFr,h.2 k]⟩
theorem FrEq.trans {fr2 fr3:Fr} (h:FrEq fr fr2) (h2:FrEq fr2 fr3):FrEq fr fr3:=⟨fun t=>(h2.1 t).trans (h.1 t),fun k=>(h2.2 k).trans (h.2 k)⟩
theorem FrEq.frsh {k:Nat} {fr2:Fr} (h:FrEq fr fr2):frsh k fr2 hp=frsh k fr hp:=by simp only [Go.Proofs.YtekdhljpmflboaaGreat.frsh,h.2 k]
theorem Good.eqv {e:Ent} {fr2:Fr} (h:Good P ops Rl ks nt e fr hp) (hf:FrEq fr fr2):Good P ops Rl ks nt e fr2 hp:=by
  refine ⟨h.1,?_⟩
  have h2:=h.2
  split at h2
  · obtain ⟨h3,h4,h5,h6⟩:=h2
    exact ⟨h3.agr fun t _=>hf.1 t,fun c fr3 hp3 a b ha=>h4 c fr3 hp3 a b (fun t ht=>(ha t ht).trans (hf.1 t)),fun k hk=>⟨(h5 k hk).1,by rw [hf.frsh];exact (h5 k hk).2⟩,h6⟩
  · exact h2.agr fun t _=>hf.1 t
inductive Chain (P:Program) (ops:Array Oper) (Rl ks:List Nat) (nt:Nat):Fr->Hp->List Ent->Fr->Hp->Prop
  | nil {fr:Fr} {hp:Hp}:Chain P ops Rl ks nt fr hp [] fr hp
  | lit {fr:Fr} {hp:Hp} {L:List Ent} {fr':Fr} {hp':Hp} {t:Nat} {v:Value} (ht:fr.get t=some (.pv (.val v))) (h:Chain P ops Rl ks nt ((t,.pv (.val v))::fr) hp L fr' hp'):Chain P ops Rl ks nt fr hp L fr' hp'
  | cons {fr:Fr} {hp:Hp} {L:List Ent} {fr':Fr} {hp':Hp} {e:Ent} (g:Good P ops Rl ks nt e fr hp) (h:Chain P ops Rl ks nt (putE fr e) (putH hp e) L fr' hp'):Chain P ops Rl ks nt fr hp (e::L) fr' hp'
def z5g (fr:Fr) (L:List Ent):Fr:=L.foldl putE fr
def z5h (hp:Hp) (L:List Ent):Hp:=L.foldl putH hp
theorem Chain.fin {L:List Ent} (h:Chain P ops Rl ks nt fr hp L fr' hp'):∀ {fr2:Fr},FrEq fr fr2->FrEq fr' (z5g fr2 L)/\hp'=z5h hp L:=by
  induction h with
  | nil=>exact fun hf=>⟨hf,rfl⟩
  | lit ht _ ih=>exact fun hf=>ih ((FrEq.lit ht).trans hf)
  | cons g _ ih=>exact fun hf=>ih (FrEq.put hf)
theorem Chain.at {L:List Ent} (h:Chain P ops Rl ks nt fr hp L fr' hp'):∀ {fr2:Fr},FrEq fr fr2->∀ {A B:List Ent} {e:Ent},L=A++e::B->Good P ops Rl ks nt e (z5g fr2 A) (z5h hp A):=by
  induction h with
  | nil=>intro fr2 hf A B e he;cases A<;>cases he
  | lit ht _ ih=>exact fun hf=>ih ((FrEq.lit ht).trans hf)
  | cons g _ ih =>
    intro fr2 hf A B e he
    cases A with
    | nil=>cases he;exact g.eqv hf
    | cons a A=>cases he;exact ih (FrEq.put hf) rfl
theorem All.putU {ρ:Loc} {σ:Heap'} {w:World} {a:Act} {d:Option Nat} {x:IV} {v:Value} (h:All c ρ σ w fr a) (hd:y29 d c.n=true) (hx:RepI c.F ρ σ w x v):All c ρ σ w (fr.put d x) (a.put d v) :=
  h.put hx fun t ht=>by simpa using y0a hd t ht
theorem Chain.text {L:List Ent} (h:Chain P ops Rl ks nt fr hp L fr' hp') (hn:c.n=nt) (hR:∀ k,c.R k->k∈Rl) (hσ:∀ k,c.σ k≠none->k∈ks) (hQ:Q .normal fr' (look hp')):WL P c ops Q (L.map (·.o)) fr (look hp):=by
  induction h with
  | nil=>exact WL.nil hQ
  | lit ht _ ih=>exact fun ρ w a ha=>ih hQ ρ w a (ha.putFr ht fun _ h=>h)
  | cons g _ ih =>
    rename_i fr hp L fr' hp' e _
    intro ρ w a ha
    obtain ⟨hd,g⟩:=g
    subst hn
    refine wpList_step fun K hK=>?_
    split at g
    · rename_i s hs
      obtain ⟨h1,h2,h3,h4⟩:=g
      rw [if_pos (h1.wanted ha)]
      refine h2 c fr hp hR (fun k hk=>?_) (fun _ _=>rfl) (fun _ _=>rfl) (fun k hk=>(h3 k hk).2) ρ w a K _ ha fun ρ' w' v ha' hv=>hK _ _ ?_
      · cases h5:c.σ k with
        | none=>rfl
        | some o=>exact absurd (hσ k (by rw [h5];simp)) (h3 k hk).1
      · have hx:e.x=s.x:=by simp [Ent.x,hs]
        have hw:e.wr=s.wr:=by simp [Ent.wr,hs]
        refine ih hQ ρ' w' _ ?_
        simp only [putE,putH,hx,hw]
        exact ha'.putU hd hv
    · rename_i hs
      rw [if_neg (by simp [g.wanted ha])]
      refine hK _ _ (ih hQ ρ w _ ?_)
      have hx:e.x = .pv (.val undef):=by simp [Ent.x,hs]
      have hw:e.wr=[]:=by simp [Ent.wr,hs]
      simp only [putE,putH,hx,hw,List.nil_append]
      exact ha.putU hd (z31 undef)
theorem z4w {t:Nat} {p q:Ent->Bool}:∀ {L:List Ent} {fr fr2:Fr},fr.get t=fr2.get t->(∀ e∈L,e.o.dst=some t->p e=q e)->(z5g fr (L.filter p)).get t=(z5g fr2 (L.filter q)).get t
  | [],_,_,h,_=>h
  | e::L,fr,fr2,h,hh=>by
    have hL:∀ e∈L,e.o.dst=some t->p e=q e:=fun e he=>hh e (.tail _ he)
    have step:∀ {f:Fr},e.o.dst≠some t->(putE f e).get t=f.get t:=fun {f} hne=>by
      unfold putE
      cases hd:e.o.dst with
      | none=>rfl
      | some d =>
        have:d≠t:=fun h=>hne (by rw [hd,h])
        simp [Fr.put,Fr.get,z25 this]
    have step2:∀ {f:Fr},e.o.dst=some t->(putE f e).get t=some e.x:=fun {f} hd=>by simp [putE,hd,Fr.put,Fr.get]
    by_cases hd:e.o.dst=some t
    · have:=hh e (.head _) hd
      cases hp:p e with
      | true =>
        have hq:q e=true:=this ▸ hp
        rw [List.filter_cons_of_pos hp,List.filter_cons_of_pos hq]
        exact z4w (by rw [step2 hd,step2 hd]) hL
      | false =>
        have hq:q e=false:=this ▸ hp
        rw [List.filter_cons_of_neg (by simp [hp]),List.filter_cons_of_neg (by simp [hq])]
        exact z4w h hL
    · cases hp:p e<;>cases hq:q e
      · rw [List.filter_cons_of_neg (by simp [hp]),List.filter_cons_of_neg (by simp [hq])];exact z4w h hL
      · rw [List.filter_cons_of_neg (by simp [hp]),List.filter_cons_of_pos hq];exact z4w (fr2:=putE fr2 e) (by rw [step hd];exact h) hL
      · rw [List.filter_cons_of_pos hp,List.filter_cons_of_neg (by simp [hq])];exact z4w (fr:=putE fr e) (by rw [step hd];exact h) hL
      · rw [List.filter_cons_of_pos hp,List.filter_cons_of_pos hq];exact z4w (fr:=putE fr e) (fr2:=putE fr2 e) (by rw [step hd,step hd];exact h) hL
theorem z3t {k:Nat} {p q:Ent->Bool}:∀ {L:List Ent} {hp hp2:Hp},look hp k=look hp2 k->(∀ e∈L,k∈e.wr.map (·.1)->p e=q e)->look (z5h hp (L.filter p)) k=look (z5h hp2 (L.filter q)) k
  | [],_,_,h,_=>h
  | e::L,fr,fr2,h,hh=>by
    have hL:∀ e∈L,k∈e.wr.map (·.1)->p e=q e:=fun e he=>hh e (.tail _ he)
    have step:∀ {f:Hp},k∉e.wr.map (·.1)->look (putH f e) k=look f k:=fun {f} hne=>by unfold putH;rw [z2h,if_neg hne]
    have step2:∀ {f:Hp},k∈e.wr.map (·.1)->look (putH f e) k=look e.wr k:=fun {f} hd=>by unfold putH;rw [z2h,if_pos hd]
    by_cases hd:k∈e.wr.map (·.1)
    · have:=hh e (.head _) hd
      cases hp:p e with
      | true =>
        have hq:q e=true:=this ▸ hp
        rw [List.filter_cons_of_pos hp,List.filter_cons_of_pos hq]
        exact z3t (by rw [step2 hd,step2 hd]) hL
      | false =>
        have hq:q e=false:=this ▸ hp
        rw [List.filter_cons_of_neg (by simp [hp]),List.filter_cons_of_neg (by simp [hq])]
        exact z3t h hL
    · cases hp:p e<;>cases hq:q e
      · rw [List.filter_cons_of_neg (by simp [hp]),List.filter_cons_of_neg (by simp [hq])];exact z3t h hL
      · rw [List.filter_cons_of_neg (by simp [hp]),List.filter_cons_of_pos hq];exact z3t (hp2:=putH fr2 e) (by rw [step hd];exact h) hL
      · rw [List.filter_cons_of_pos hp,List.filter_cons_of_neg (by simp [hq])];exact z3t (hp:=putH fr e) (by rw [step hd];exact h) hL
      · rw [List.filter_cons_of_pos hp,List.filter_cons_of_pos hq];exact z3t (hp:=putH fr e) (hp2:=putH fr2 e) (by rw [step hd,step hd];exact h) hL
theorem y08 {k:Nat}:∀ {L:List Ent} {fr:Fr},nmFr k (z5g fr L)=false↔nmFr k fr=false/\∀ e∈L,e.o.dst≠none->nm k e.x=false
  | [],fr=>by simp [z5g]
  | e::L,fr=>by
    have ih:=y08 (k:=k) (L:=L) (fr:=putE fr e)
    have h1:z5g fr (e::L)=z5g (putE fr e) L:=rfl
    rw [h1,ih]
    have h2:nmFr k (putE fr e)=false↔nmFr k fr=false/\(e.o.dst≠none->nm k e.x=false):=by
      unfold putE
      cases e.o.dst with
      | none=>simp [Fr.put]
      | some d=>simp [Fr.put,nmFr,and_comm]
    rw [h2]
    simp only [List.forall_mem_cons,and_assoc]
theorem y66 {k:Nat}:∀ {A B:Hp},nmHp k (A++B)=false↔nmHp k A=false/\nmHp k B=false
  | [],B=>by simp [nmHp]
  | (j,o)::A,B=>by
    have ih:=y66 (k:=k) (A:=A) (B:=B)
    match o with
    | some (.box cs)=>simp only [List.cons_append,nmHp,Bool.or_eq_false_iff,ih,and_assoc]
    | some (.row ..)=>simpa only [List.cons_append,nmHp] using ih
    | some (.map _)=>simpa only [List.cons_append,nmHp] using ih
    | none=>simpa only [List.cons_append,nmHp] using ih
theorem y09 {k:Nat}:∀ {L:List Ent} {hp:Hp},nmHp k (z5h hp L)=false↔nmHp k hp=false/\∀ e∈L,nmHp k e.wr=false
  | [],hp=>by simp [z5h]
  | e::L,hp=>by
    have ih:=y09 (k:=k) (L:=L) (hp:=putH hp e)
    have h1:z5h hp (e::L)=z5h (putH hp e) L:=rfl
    rw [h1,ih]
    unfold putH
    rw [y66]
    simp only [List.forall_mem_cons]
    constructor
    · rintro ⟨⟨a,b⟩,d⟩;exact ⟨b,a,d⟩
    · rintro ⟨b,a,d⟩;exact ⟨⟨a,b⟩,d⟩
def insN (k:Nat) (l:List Nat):List Nat:=match nIn k l with
  | true=>l
  | false=>k::l
def insL:List Nat->List Nat->List Nat
  | [],l=>l
  | k::r,l=>insL r (insN k l)
theorem y64 {j k:Nat} {l:List Nat}:j∈insN k l↔j=k∨j∈l:=by
  unfold insN
  split
  · rename_i h
    have:=z50.1 h
    constructor
    · exact .inr
    · rintro (rfl | h)
      · exact this
      · exact h
  · simp
theorem y63 {j:Nat}:∀ {m l:List Nat},j∈insL m l↔j∈m∨j∈l
  | [],l=>by simp [insL]
  | k::r,l=>by
    simp only [insL,y63,y64,List.mem_cons]
    constructor
    · rintro (h | rfl | h)
      · exact .inl (.inr h)
      · exact .inl (.inl rfl)
      · exact .inr h
    · rintro ((rfl | h) | h)
      · exact .inr (.inl rfl)
      · exact .inl h
      · exact .inr (.inr h)
def nthL:List (List Nat)->Nat->List Nat
  | [],_=>[]
  | x::_,0=>x
  | _::r,n+1=>nthL r n
def y8j (ups:List (List Nat)) (n:Nat):List Edge->List Nat
  | []=>[]
  | e::r=>match Region.binds .any e with
    | true=>insN e.on (insL (nthL ups (n - 1 - e.on)) (y8j ups n r))
    | false=>y8j ups n r
def y37:List Oper->List (List Nat)->Nat->List (List Nat)
  | [],ups,_=>ups
  | o::r,ups,n=>y37 r (y8j ups n o.after.toList::ups) (n+1)
def zo1 (n:Nat):List Edge->Bool
  | []=>true
  | e::r=>match Region.binds .any e with
    | true=>match Nat.blt e.on n with
      | true=>zo1 n r
      | false=>false
    | false=>zo1 n r
def za0:List Oper->Nat->Bool
  | [],_=>true
  | o::r,n=>match zo1 n o.after.toList with
    | true=>za0 r (n+1)
    | false=>false
def disj:List Nat->List Nat->Bool
  | [],_=>true
  | k::r,m=>match nIn k m with
    | true=>false
    | false=>disj r m
theorem z6w {k:Nat}:∀ {l m:List Nat},disj l m=true->k∈l->k∉m
  | a::r,m,h,hk=>by
    simp only [disj] at h
    split at h
    · cases h
    · rename_i hn
      rcases List.mem_cons.1 hk with rfl | hk
      · exact z2o hn
      · exact z6w h hk
def idsH:Hp->List Nat
  | []=>[]
  | (k,_)::r=>k::idsH r
theorem za3:∀ l:Hp,idsH l=l.map (·.1)
  | []=>rfl
  | (k,_)::r=>by simp [idsH,za3 r]
def zc3 (e:Ent) (k:Nat):Bool:=match nm k e.x with
  | true=>false
  | false=>!nmHp k e.wr
def z9q (ops:Array Oper) (e f:Ent):Bool :=
  disj e.o.dst.toList (seen ops f.o)&&disj f.o.dst.toList (seen ops e.o)&&disj e.o.dst.toList f.o.dst.toList&&disj (idsH e.wr) f.rd&&disj (idsH f.wr) e.rd&&lAll (zc3 f) e.nw&&lAll (zc3 e) f.nw
def subN:List Nat->List Nat->Bool
  | [],_=>true
  | k::r,m=>match nIn k m with
    | true=>subN r m
    | false=>false
theorem y51 {k:Nat}:∀ {l m:List Nat},subN l m=true->k∈l->k∈m
  | a::r,m,h,hk=>by
    simp only [subN] at h
    split at h
    · rename_i hn
      rcases List.mem_cons.1 hk with rfl | hk
      · exact z50.1 hn
      · exact y51 h hk
    · cases h
def zc6 (ops:Array Oper) (e:Ent) (up:List Nat):List Ent->Bool
  | []=>true
  | f::r=>match nIn f.i up with
    | true=>zc6 ops e up r
    | false=>match z9q ops f e with
      | true=>zc6 ops e up r
      | false=>false
def chkL (ops:Array Oper):List Ent->List (List Nat)->Bool
  | [],_=>true
  | e::r,u::us=>match subN (idsH e.wr) e.rd with
    | true=>match subN e.nw e.rd with
      | true=>match zc6 ops e u r with
        | true=>chkL ops r us
        | false=>false
      | false=>false
    | false=>false
  | _::_,[]=>false
def chk (ops:Array Oper) (acc:List Ent):Bool:=match za0 ops.toList 0 with
  | true=>chkL ops acc (y37 ops.toList [] 0)
  | false=>false
end
section
variable {P:Program} {T:TB P} {fr fr':Fr} {hp hp':Hp} {Rl ks:List Nat} {c:Cx} {ops:Array Oper} {Q:Exit->Fr->Heap'->Prop} {nt:Nat}
def Idx:Nat->List Ent->Prop
  | _,[]=>True
  | n,e::r=>e.i=n/\Idx (n+1) r
theorem Idx.lo:∀ {L:List Ent} {n:Nat},Idx n L->∀ e∈L,n<=e.i/\e.i<n+L.length
  | [],_,_,_,hf=>by cases hf
  | e::r,n,h,f,hf=>by
    rcases List.mem_cons.1 hf with rfl | hf
    · have:=h.1;simp only [List.length_cons];omega
    · have:=h.2.lo f hf;simp only [List.length_cons];omega
theorem Idx.split:∀ {L:List Ent} {n:Nat},Idx n L->∀ {e:Ent},e∈L->∃ A B,L=A++e::B/\e.i=n+A.length/\L.filter (fun f=>decide (f.i<e.i))=A/\L.filter (fun f=>decide (f.i<=e.i))=A++[e]
  | [],_,_,_,he=>by cases he
  | f::r,n,h,e,he=>by
    have hr:=h.2.lo
    by_cases heq:e.i=n
    · have:e=f:=by
        rcases List.mem_cons.1 he with rfl | he
        · rfl
        · have:=(hr e he).1;omega
      subst this
      refine ⟨[],r,rfl,by simp [heq],?_,?_⟩
      · rw [List.filter_cons_of_neg sI0]
        exact List.filter_eq_nil_iff.2 fun g hg=>by have:=(hr g hg).1;simp;omega
      · rw [List.filter_cons_of_pos sI0,List.filter_eq_nil_iff.2 fun g hg=>by have:=(hr g hg).1;simp;omega]
        rfl
    · have he':e∈r:=by
        rcases List.mem_cons.1 he with rfl | he
        · exact absurd h.1 heq
        · exact he
      obtain ⟨A,B,h1,h2,h3,h4⟩:=h.2.split he'
      have:=(hr e he').1
      have hf:=h.1
      refine ⟨f::A,B,by rw [h1];rfl,by simp only [List.length_cons];omega,?_,?_⟩
      · rw [List.filter_cons_of_pos (by simp;omega),h3]
      · rw [List.filter_cons_of_pos (by simp;omega),h4];rfl
theorem Idx.inj {L:List Ent} {n:Nat} (h:Idx n L) {e f:Ent} (he:e∈L) (hf:f∈L) (hi:e.i=f.i):e=f:=by
  obtain ⟨A,B,h1,_,h3,h4⟩:=h.split he
  obtain ⟨A',B',h1',_,h3',h4'⟩:=h.split hf
  rw [hi] at h3 h4
  rw [h3'] at h3
  rw [h4',h3] at h4
  simpa using h4.symm
theorem Idx.get:∀ {L:List Ent} {n:Nat},Idx n L->∀ {i:Nat} {o:Oper},(L.map (·.o))[i]? = some o->∃ e∈L,e.i=n+i/\e.o=o
  | [],_,_,_,_,hi=>by simp at hi
  | e::r,n,h,0,o,hi=>⟨e,.head _,h.1,by simpa using hi⟩
  | e::r,n,h,i+1,o,hi=>by
    obtain ⟨f,hf,h1,h2⟩:=h.2.get (i:=i) (o:=o) (by simpa using hi)
    exact ⟨f,.tail _ hf,by omega,h2⟩
def z9p (l:List Oper) (S:Nat->Prop):Prop:=∀ i o,l[i]? = some o->S i->∀ e∈o.after.toList,Region.binds .any e=true->S e.on
theorem zg4 {n:Nat}:∀ {l:List Edge},zo1 n l=true->∀ e∈l,Region.binds .any e=true->e.on<n
  | [],_,_,he,_=>by cases he
  | a::r,h,e,he,hb=>by
    simp only [zo1] at h
    split at h
    · split at h
      · rename_i h1 h2
        rcases List.mem_cons.1 he with rfl | he
        · exact Nat.le_of_ble_eq_true h2
        · exact zg4 h e he hb
      · cases h
    · rename_i h1
      rcases List.mem_cons.1 he with rfl | he
      · rw [hb] at h1;cases h1
      · exact zg4 h e he hb
theorem zv0:∀ {l:List Oper} {n:Nat},za0 l n=true->∀ {i:Nat} {o:Oper},l[i]? = some o->∀ e∈o.after.toList,Region.binds .any e=true->e.on<n+i
  | [],_,_,_,_,hi,_,_,_=>by simp at hi
  | a::r,n,h,0,o,hi,e,he,hb=>by
    simp only [za0] at h
    split at h
    · rename_i h1;simp at hi;subst hi;exact zg4 h1 e he hb
    · cases h
  | a::r,n,h,i+1,o,hi,e,he,hb=>by
    simp only [za0] at h
    split at h
    · have:=zv0 h (i:=i) (o:=o) (by simpa using hi) e he hb;omega
    · cases h
theorem zt2 {ups:List (List Nat)} {n:Nat} {S:Nat->Prop} {k:Nat} (hS:∀ j,j<n->S j->∀ k∈nthL ups (n - 1 - j),S k):∀ {l:List Edge},zo1 n l=true->(∀ e∈l,Region.binds .any e=true->S e.on)->k∈y8j ups n l->S k
  | [],_,_,h=>by cases h
  | a::r,hok,hc,h=>by
    simp only [zo1] at hok
    simp only [y8j] at h
    split at hok
    · rename_i hb
      split at hok
      · rename_i hlt
        have hlt':a.on<n:=Nat.le_of_ble_eq_true hlt
        rw [hb] at h
        simp only [y64,y63] at h
        rcases h with rfl | h | h
        · exact hc a (.head _) hb
        · exact hS a.on hlt' (hc a (.head _) hb) k h
        · exact zt2 hS hok (fun e he=>hc e (.tail _ he)) h
      · cases hok
    · rename_i hb
      rw [hb] at h
      exact zt2 hS hok (fun e he=>hc e (.tail _ he)) h
theorem y38:∀ {r l0:List Oper} {ups:List (List Nat)} {S:Nat->Prop},za0 r l0.length=true->ups.length=l0.length->z9p (l0++r) S->(∀ j,j<l0.length->S j->∀ k∈nthL ups (l0.length - 1 - j),S k) ->
    ∀ j,j<(l0++r).length->S j->∀ k∈nthL (y37 r ups l0.length) ((l0++r).length - 1 - j),S k
  | [],l0,ups,S,_,_,_,h=>by simpa [y37] using h
  | o::r,l0,ups,S,hok,hl,hc,h=>by
    simp only [za0] at hok
    split at hok
    · rename_i h1
      have h2:=y38 (r:=r) (l0:=l0++[o]) (ups:=y8j ups l0.length o.after.toList::ups) (S:=S) (by simpa using hok) (by simp [hl]) (by simpa using hc) (fun j hj hSj k hk=>by
        simp only [List.length_append,List.length_cons,List.length_nil] at hj hk
        by_cases e:j=l0.length
        · subst e
          rw [show l0.length+(0+1) - 1 - l0.length=0 by omega] at hk
          refine zt2 h h1 (fun e he hb=>hc l0.length o ?_ hSj e he hb) hk
          simp
        · rw [show l0.length+(0+1) - 1 - j=(l0.length - 1 - j)+1 by omega] at hk
          exact h j oM0 hSj k hk)
      simpa [y37] using h2
    · cases hok
theorem z88 {e:Ent} {up:List Nat}:∀ {l:List Ent},zc6 ops e up l=true->∀ f∈l,f.i∈up∨z9q ops f e=true
  | [],_,_,hf=>by cases hf
  | a::r,h,f,hf=>by
    simp only [zc6] at h
    split at h
    · rename_i h1
      rcases List.mem_cons.1 hf with rfl | hf
      · exact .inl (z50.1 h1)
      · exact z88 h f hf
    · split at h
      · rename_i h1
        rcases List.mem_cons.1 hf with rfl | hf
        · exact .inr h1
        · exact z88 h f hf
      · cases h
theorem zy4:∀ {acc:List Ent} {ups:List (List Nat)},chkL ops acc ups=true->∀ {A B:List Ent} {e:Ent},acc=B++e::A->subN (idsH e.wr) e.rd=true/\subN e.nw e.rd=true/\∀ f∈A,f.i∈nthL ups B.length∨z9q ops f e=true
  | [],_,_,A,B,e,he=>by cases B<;>simp at he
  | a::r,u::us,h,A,B,e,he=>by
    simp only [chkL] at h
    split at h
    · rename_i h1
      split at h
      · rename_i h2
        split at h
        · rename_i h3
          cases B with
          | nil=>cases he;exact ⟨h1,h2,fun f hf=>z88 h3 f hf⟩
          | cons b B=>cases he;exact zy4 h rfl
        · cases h
      · cases h
    · cases h
  | a::r,[],h,_,_,_,_=>by simp [chkL] at h
structure Fine (ops:Array Oper) (L:List Ent):Prop where
  idx:Idx 0 L
  map:L.map (·.o)=ops.toList
  edge:∀ {i:Nat} {o:Oper},ops[i]? = some o->∀ e∈o.after.toList,Region.binds .any e=true->e.on<i
  wr:∀ e∈L,∀ k∈e.wr.map (·.1),k∈e.rd
  nw:∀ e∈L,∀ k∈e.nw,k∈e.rd
  pair:∀ e∈L,∀ f∈L,e.i<f.i->z9q ops e f=true∨∀ S:Nat->Prop,z9p ops.toList S->S f.i->S e.i
theorem fine_of {L:List Ent} (hi:Idx 0 L) (hm:L.map (·.o)=ops.toList) (h:chk ops L.reverse=true):Fine ops L:=by
  unfold chk at h
  split at h
  · rename_i he
    have hlen:L.length=ops.toList.length:=by rw [<- hm,List.length_map]
    have hat:∀ e∈L,∃ A B,L=A++e::B/\A.length=e.i/\L.reverse=B.reverse++e::A.reverse:=fun e hme=>by
      obtain ⟨A,B,h1,h2,_⟩:=hi.split hme
      exact ⟨A,B,h1,by omega,by rw [h1];simp⟩
    refine ⟨hi,hm,fun {i o} ho e hme hb=>?_,fun e hme k hk=>?_,fun e hme k hk=>?_,fun e hme f hmf hlt=>?_⟩
    · have:=zv0 he (i:=i) (o:=o) (by simpa using ho) e hme hb;omega
    · obtain ⟨A,B,_,_,h3⟩:=hat e hme
      exact y51 (zy4 h h3).1 (by rw [za3];exact hk)
    · obtain ⟨A,B,_,_,h3⟩:=hat e hme
      exact y51 (zy4 h h3).2.1 hk
    · obtain ⟨A,B,h1,h2,h3⟩:=hat f hmf
      have hA:e∈A:=by
        have:=(hi.split hmf)
        obtain ⟨A',B',h1',h2',h3',_⟩:=this
        have hAA:A=A':=by
          have h5:A++f::B=A'++f::B':=h1.symm.trans h1'
          exact (List.append_inj h5 oM0).1
        rw [hAA,<- h3']
        exact List.mem_filter.2 ⟨hme,by simpa using hlt⟩
      rcases (zy4 h h3).2.2 e (List.mem_reverse.2 hA) with h4 | h4
      · refine .inr fun S hS hSf=>?_
        have h5:=y38 (r:=ops.toList) (l0:=[]) (ups:=[]) (S:=S) he rfl (by simpa using hS) (fun j hj=>by simp at hj) f.i (by
          have:=(hi.lo f hmf).2;simp only [List.nil_append];omega) hSf e.i
        refine h5 ?_
        have h6:L.length=A.length+(B.length+1):=by rw [h1];simp
        simp only [List.nil_append,List.length_nil]
        rw [show ops.toList.length - 1 - f.i=B.reverse.length by simp only [List.length_reverse];omega]
        exact h4
      · exact .inl h4
  · cases h
section
variable {L:List Ent} {S:Nat->Bool} {fr0:Fr} {hp0:Hp}
def z76 (S:Nat->Bool) (i:Nat):Nat->Bool:=fun j=>S j||j==i
theorem Fine.upto (F:Fine ops L) {e f:Ent} (he:e∈L) (hf:f∈L) (hn:S e.i=false) (hS:z9p ops.toList fun j=>S j=true) (hS1:z9p ops.toList fun j=>z76 S e.i j=true) (hap1:z9q ops f e=false) (hap2:z9q ops e f=false):S f.i=decide (f.i<e.i):=by
  rcases Nat.lt_trichotomy f.i e.i with h | h | h
  · rcases F.pair f hf e he h with h1 | h1
    · rw [h1] at hap1;cases hap1
    · have:=h1 _ hS1 (by simp [z76])
      simp only [z76,Bool.or_eq_true,beq_iff_eq] at this
      rcases this with h2 | h2
      · simp [h2,h]
      · omega
  · obtain rfl:=F.idx.inj hf he h
    simp [hn]
  · rcases F.pair e he f hf h with h1 | h1
    · rw [h1] at hap2;cases hap2
    · cases h2:S f.i with
      | false=>simp;omega
      | true=>rw [h1 _ hS h2] at hn;cases hn
theorem z4p {e f:Ent} (h:z9q ops e f=true):(∀ t,e.o.dst=some t->t∉seen ops f.o)/\(∀ t,f.o.dst=some t->t∉seen ops e.o)/\(∀ t,e.o.dst=some t->f.o.dst≠some t)/\(∀ k∈e.wr.map (·.1),k∉f.rd)/\(∀ k∈f.wr.map (·.1),k∉e.rd)/\(∀ k∈e.nw,zc3 f k=true)/\∀ k∈f.nw,zc3 e k=true:=by
  simp only [z9q,Bool.and_eq_true,za3] at h
  obtain ⟨⟨⟨⟨⟨⟨h1,h2⟩,h3⟩,h4⟩,h5⟩,h6⟩,h7⟩:=h
  refine ⟨fun t ht=>z6w h1 (by simp [ht]),fun t ht=>z6w h2 (by simp [ht]),fun t ht hf=>z6w h3 (k:=t) (by simp [ht]) (by simp [hf]),fun k hk=>z6w h4 hk,fun k hk=>z6w h5 hk,fun k hk=>zp1 h6 k hk,fun k hk=>zp1 h7 k hk⟩
theorem Fine.both (F:Fine ops L) {e f:Ent} (he:e∈L) (hf:f∈L) (hn:S e.i=false) (hS:z9p ops.toList fun j=>S j=true) (hS1:z9p ops.toList fun j=>z76 S e.i j=true) (hap:f≠e -> ¬ z9q ops f e=true /\ ¬ z9q ops e f=true):S f.i=decide (f.i<e.i):=by
  by_cases h:f=e
  · subst h;simp [hn]
  · obtain ⟨h1,h2⟩:=hap h
    exact F.upto he hf hn hS hS1 (by simpa using h1) (by simpa using h2)
variable (F:Fine ops L) (hG:∀ {A B:List Ent} {e:Ent},L=A++e::B->Good P ops Rl ks nt e (z5g fr0 A) (z5h hp0 A))
include F hG
theorem Fine.now {e:Ent} (he:e∈L) (hn:S e.i=false) (hS:z9p ops.toList fun j=>S j=true) (hS1:z9p ops.toList fun j=>z76 S e.i j=true) :
    Good P ops Rl ks nt e (z5g fr0 (L.filter fun f=>S f.i)) (z5h hp0 (L.filter fun f=>S f.i)) /\
    (∀ t,(z5g fr0 (L.filter fun f=>z76 S e.i f.i)).get t=(putE (z5g fr0 (L.filter fun f=>S f.i)) e).get t)/\∀ k,look (z5h hp0 (L.filter fun f=>z76 S e.i f.i)) k=look (putH (z5h hp0 (L.filter fun f=>S f.i)) e) k:=by
  obtain ⟨A,B,h1,h2,h3,h4⟩:=F.idx.split he
  have hg:=hG h1
  have hg':=hg
  rw [<- h3] at hg'
  have c1:agr (z5g fr0 (L.filter fun f=>S f.i)) (z5g fr0 (L.filter fun f=>decide (f.i<e.i))) (seen ops e.o):=fun t ht=>z4w rfl fun f hf hd=>F.both he hf hn hS hS1 fun _=>⟨fun h=>(z4p h).1 t hd ht,fun h=>(z4p h).2.1 t hd ht⟩
  have c2:agh (z5h hp0 (L.filter fun f=>S f.i)) (z5h hp0 (L.filter fun f=>decide (f.i<e.i))) e.rd:=fun k hk=>z3t rfl fun f hf hd=>F.both he hf hn hS hS1 fun _=>⟨fun h=>(z4p h).2.2.2.1 k hd hk,fun h=>(z4p h).2.2.2.2.1 k hd hk⟩
  refine ⟨⟨hg.1,?_⟩,fun t=>?_,fun k=>?_⟩
  · have h5:=hg'.2
    split at h5
    · rename_i s hs
      have hrd:e.rd=s.rd:=by simp [Ent.rd,hs]
      have hnw:e.nw=s.nw:=by simp [Ent.nw,hs]
      have hwr:e.wr=s.wr:=by simp [Ent.wr,hs]
      rw [hrd] at c2
      obtain ⟨g1,g2,g3,g4⟩:=h5
      refine ⟨g1.agr fun t ht=>c1 t (List.mem_append_left _ ht),fun c fr2 hp2 hR hc hg hh hf=>g2 c fr2 hp2 hR hc (fun t ht=>(hg t ht).trans (c1 t (List.mem_append_right _ ht))) (fun k hk=>(hh k hk).trans (c2 k hk)) hf,fun k hk=>⟨(g3 k hk).1,?_⟩,?_⟩
      · have hk':k∈e.nw:=hnw ▸ hk
        obtain ⟨f1,f2,f3⟩:=z40 (g3 k hk).2
        rw [y08] at f1
        rw [y09] at f2
        have un:∀ f∈L.filter (fun f=>S f.i),(f.i<e.i)∨zc3 f k=true:=fun f hf=>by
          obtain ⟨hf,hSf⟩:=List.mem_filter.1 hf
          rcases Nat.lt_trichotomy f.i e.i with h | h | h
          · exact .inl h
          · obtain rfl:=F.idx.inj hf he h;rw [hn] at hSf;cases hSf
          · rcases F.pair e he f hf h with h6 | h6
            · exact .inr ((z4p h6).2.2.2.2.2.1 k hk')
            · rw [h6 _ hS hSf] at hn;cases hn
        have unn:∀ f,zc3 f k=true->nm k f.x=false/\nmHp k f.wr=false:=fun f hu=>by
          unfold zc3 at hu
          split at hu
          · cases hu
          · rename_i h7;exact ⟨h7,by simpa using hu⟩
        have n1:nmFr k (z5g fr0 (L.filter fun f=>S f.i))=false:=y08.2 ⟨f1.1,fun f hf hd=>by
          rcases un f hf with h | h
          · exact f1.2 f (List.mem_filter.2 ⟨(List.mem_filter.1 hf).1,by simpa using h⟩) hd
          · exact (unn f h).1⟩
        have n2:nmHp k (z5h hp0 (L.filter fun f=>S f.i))=false:=y09.2 ⟨f2.1,fun f hf=>by
          rcases un f hf with h | h
          · exact f2.2 f (List.mem_filter.2 ⟨(List.mem_filter.1 hf).1,by simpa using h⟩)
          · exact (unn f h).2⟩
        have n3:=(c2 k (by rw [<- hrd];exact F.nw e he k hk')).trans f3
        simp only [frsh,n1,n2,n3]
      · have key:∀ (l:Hp),(∀ k∈l.map (·.1),k∈s.rd)->wrOk (z5h hp0 (L.filter fun f=>decide (f.i<e.i))) s.nw l=true->wrOk (z5h hp0 (L.filter fun f=>S f.i)) s.nw l=true:=by
          intro l
          induction l with
          | nil=>exact fun _ _=>rfl
          | cons p r ih =>
            intro hl h
            obtain ⟨k,q⟩:=p
            simp only [wrOk] at h ⊢
            rw [c2 k (hl k sI0)]
            have ih':=ih fun k hk=>hl k (by simp only [List.map_cons,List.mem_cons];exact .inr hk)
            split
            · rename_i h8;rw [h8] at h;exact ih' h
            · rename_i h8
              rw [h8] at h
              split
              · rename_i h9;rw [h9] at h;exact ih' h
              · rename_i h9;rw [h9] at h;cases h
        exact key s.wr (fun k hk=>by rw [<- hrd];exact F.wr e he k (by rw [hwr];exact hk)) g4
    · exact h5.agr fun t ht=>c1 t (List.mem_append_left _ ht)
  · by_cases hd:e.o.dst=some t
    · have:(z5g fr0 (L.filter fun f=>z76 S e.i f.i)).get t=(z5g fr0 (L.filter fun f=>decide (f.i<=e.i))).get t:=z4w rfl fun f hf hdf=>by
        by_cases heq:f=e
        · subst heq;simp [z76]
        · have:=F.both he hf hn hS hS1 fun _=>⟨fun h=>(z4p h).2.2.1 t hdf hd,fun h=>(z4p h).2.2.1 t hd hdf⟩
          have hne:f.i≠e.i:=fun h=>heq (F.idx.inj hf he h)
          simp only [z76,this]
          by_cases hlt:f.i<e.i
          · simp [hlt,Nat.le_of_lt hlt]
          · have hle:¬ f.i<=e.i:=by omega
            simp [hlt,hne,hle]
      rw [this,h4]
      simp [z5g,List.foldl_append,putE,hd,Fr.put,Fr.get]
    · have h6:(putE (z5g fr0 (L.filter fun f=>S f.i)) e).get t=(z5g fr0 (L.filter fun f=>S f.i)).get t:=by
        unfold putE
        cases hq:e.o.dst with
        | none=>rfl
        | some d =>
          have:d≠t:=fun h=>hd (by rw [hq,h])
          simp [Fr.put,Fr.get,z25 this]
      rw [h6]
      refine z4w rfl fun f hf hdf=>?_
      have hne:f.i≠e.i:=fun h=>hd (by rw [<- F.idx.inj hf he h];exact hdf)
      simp [z76,hne]
  · by_cases hd:k∈e.wr.map (·.1)
    · have hdr:=F.wr e he k hd
      have:look (z5h hp0 (L.filter fun f=>z76 S e.i f.i)) k=look (z5h hp0 (L.filter fun f=>decide (f.i<=e.i))) k:=z3t rfl fun f hf hdf=>by
        by_cases heq:f=e
        · subst heq;simp [z76]
        · have:=F.both he hf hn hS hS1 fun _=>⟨fun h=>(z4p h).2.2.2.1 k hdf hdr,fun h=>(z4p h).2.2.2.2.1 k hdf hdr⟩
          have hne:f.i≠e.i:=fun h=>heq (F.idx.inj hf he h)
          simp only [z76,this]
          by_cases hlt:f.i<e.i
          · simp [hlt,Nat.le_of_lt hlt]
          · have hle:¬ f.i<=e.i:=by omega
            simp [hlt,hne,hle]
      rw [this,h4]
      unfold putH
      rw [z2h,if_pos hd]
      simp [z5h,List.foldl_append,putH,z2h,hd]
    · unfold putH
      rw [z2h,if_neg hd]
      refine z3t rfl fun f hf hdf=>?_
      have hne:f.i≠e.i:=fun h=>hd (by rw [<- F.idx.inj hf he h];exact hdf)
      simp [z76,hne]
end
theorem WA.ext {R1:Nat->Prop} {fuel:Nat} {listed:Array Bool} {fr2:Fr} {σ σ2:Heap'} (h1:∀ t,fr2.get t=fr.get t) (h2:∀ k,σ2 k = σ k) (h:WA P c R1 ops Q fuel listed fr σ):WA P c R1 ops Q fuel listed fr2 σ2:=by
  obtain rfl:σ2 = σ:=funext h2
  exact fun ρ w a S ha hS=>h ρ w a S (ha.weaken fun t x hx=>(h1 t).trans hx) hS
theorem WI.go {R1:Nat->Prop} {fuel:Nat} {listed:Array Bool} {i:Nat} {o:Oper} {x:IV} {σ σ':Heap'} (hi:ops[i]? = some o) (hw:∀ ρ w a,All c ρ σ w fr a->Region.wanted o (yielded ops a.tmps)=true) (hd:y29 o.dst c.n=true) (hR:∀ k,c.R k->R1 k) (hnew:∀ k,σ k=none -> σ' k≠none->c.σ k=none)
    (hok:∀ ρ w,Ok P ⟨c.F,R1,ρ,σ,w,c.n⟩ o fr σ x σ') (h:WA P c R1 ops Q fuel (listed.setIfInBounds i true) (fr.put o.dst x) σ'):WI P c R1 ops Q fuel listed fr σ i:=by
  intro ρ w a S ha hS
  unfold wpOp
  simp only [hi]
  rw [if_pos (hw ρ w a ha)]
  refine .inl (hok ρ w ρ w a _ _ ⟨ha.rel,ha.fr,.refl _ _ _ _ _,ha.df,ha.sz⟩ fun ρ' w' v ha' hv=>?_)
  have hall:All c ρ' σ' w' fr a:=⟨ha'.rel,ha'.fr,ha.tr.trans ha'.tr hR hnew,ha'.df,ha'.sz⟩
  exact ⟨hS w' (SameFor.of ha.rel ha'.tr),h ρ' w' _ S (hall.putU hd hv) fun w'' h''=>hS w'' (SameFor.trans ha.rel ha'.tr h'')⟩
theorem WI.pass {R1:Nat->Prop} {fuel:Nat} {listed:Array Bool} {i:Nat} {o:Oper} {σ:Heap'} (hi:ops[i]? = some o) (hw:∀ ρ w a,All c ρ σ w fr a->Region.wanted o (yielded ops a.tmps)=false) (hd:y29 o.dst c.n=true)
    (h:WA P c R1 ops Q fuel (listed.setIfInBounds i true) (fr.put o.dst (.pv (.val undef))) σ):WI P c R1 ops Q fuel listed fr σ i:=by
  intro ρ w a S ha hS
  unfold wpOp
  simp only [hi]
  rw [if_neg (by simp [hw ρ w a ha])]
  exact ⟨hS w (.refl _ _ _ _),h ρ w _ S (ha.putU hd (z31 undef)) hS⟩
def left (n:Nat) (listed:Array Bool):Nat:=((List.range n).filter fun i=>!listed.getD i true).length
theorem y9v {p q:Nat->Bool} (h:∀ j,q j=true->p j=true):∀ l:List Nat,(l.filter q).length<=(l.filter p).length
  | []=>Nat.le_refl _
  | a::r=>by
    have ih:=y9v h r
    simp only [List.filter_cons]
    cases hq:q a with
    | true=>simp only [h a hq,if_true,List.length_cons];omega
    | false=>cases p a<;>simp only [if_true,Bool.false_eq_true,if_false,List.length_cons]<;>omega
theorem y9w {p q:Nat->Bool} {i:Nat} (h:∀ j,q j=true->p j=true) (hp:p i=true) (hq:q i=false):∀ l:List Nat,i∈l->(l.filter q).length<(l.filter p).length
  | [],hm=>by cases hm
  | a::r,hm=>by
    simp only [List.filter_cons]
    by_cases e:i=a
    · subst e
      have:=y9v h r
      simp only [hp,hq,if_true,Bool.false_eq_true,if_false,List.length_cons];omega
    · have hr:i∈r:=by
        rcases List.mem_cons.1 hm with h | h
        · exact absurd h e
        · exact h
      have ih:=y9w h hp hq r hr
      cases hq:q a with
      | true=>simp only [h a hq,if_true,List.length_cons];omega
      | false=>cases p a<;>simp only [if_true,Bool.false_eq_true,if_false,List.length_cons]<;>omega
theorem y5y {n i:Nat} {listed:Array Bool} (hi:i<n) (hs:listed.size=n) (hl:listed.getD i true=false):left n (listed.setIfInBounds i true)<left n listed:=by
  unfold left
  refine y9w (i:=i) (fun j hj=>?_) (by rw [hl];rfl) ?_ _ (List.mem_range.2 hi)
  · by_cases e:i=j
    · subst e;rw [hl];rfl
    · simpa [Array.getD_eq_getD_getElem?,Array.getElem?_setIfInBounds,e] using hj
  · simp [Array.getD_eq_getD_getElem?,Array.getElem?_setIfInBounds,hs,hi]
theorem y2i {listed:Array Bool} {i:Nat} (hs:listed.size=ops.size) (h:i∈Region.ready .any ops listed):∃ o,ops[i]? = some o/\i<ops.size/\listed.getD i true=false/\listed.getD i false=false/\∀ e∈o.after.toList,Region.binds .any e=true->listed.getD e.on false=true:=by
  obtain ⟨h1,h2⟩:=List.mem_filter.1 h
  have hi:=List.mem_range.1 h1
  simp only [Bool.and_eq_true,Bool.not_eq_true'] at h2
  obtain ⟨h2,h3⟩:=h2
  refine ⟨ops[i],by simp [hi],hi,h2,?_,fun e he hb=>?_⟩
  · simpa [Array.getD_eq_getD_getElem?,hs,hi] using h2
  · have h4:ops[i]? = some ops[i]:=by simp [hi]
    rw [h4] at h3
    simp only [Option.map_some,Option.getD_some,Array.all_eq_true_iff_forall_mem] at h3
    have:=h3 e (by simpa using he)
    simpa [hb] using this
theorem y7r {listed:Array Bool} (hs:listed.size=ops.size) (he:∀ {i:Nat} {o:Oper},ops[i]? = some o->∀ e∈o.after.toList,Region.binds .any e=true->e.on<i) (h:Region.ready .any ops listed=[]):∀ i,i<ops.size->listed.getD i false=true:=by
  intro i
  induction i using Nat.strongRecOn with
  | _ i ih =>
    intro hi
    cases hl:listed.getD i false with
    | true=>rfl
    | false =>
      have:i∈Region.ready .any ops listed:=by
        refine List.mem_filter.2 ⟨List.mem_range.2 hi,?_⟩
        have h1:listed.getD i true=false:=by simpa [Array.getD_eq_getD_getElem?,hs,hi] using hl
        have h2:ops[i]? = some ops[i]:=by simp [hi]
        rw [h1,h2]
        simp only [Bool.not_false,Bool.true_and,Option.map_some,Option.getD_some,Array.all_eq_true_iff_forall_mem]
        intro e hme
        cases hb:Region.binds .any e with
        | false=>rfl
        | true =>
          have hlt:=he h2 e (by simpa using hme) hb
          simpa using ih e.on hlt oM0
      rw [h] at this
      cases this
theorem Fine.orders {L:List Ent} {fr0:Fr} {hp0:Hp} (F:Fine ops L) (hG:∀ {A B:List Ent} {e:Ent},L=A++e::B->Good P ops Rl ks nt e (z5g fr0 A) (z5h hp0 A)) (hn:c.n=nt) (hR:∀ k,c.R k->k∈Rl) (hσ:∀ k,c.σ k≠none->k∈ks)
    (hQ:Q .normal (z5g fr0 L) (look (z5h hp0 L))):∀ (fuel:Nat) (listed:Array Bool),listed.size=ops.size->left ops.size listed<=fuel->z9p ops.toList (fun j=>listed.getD j false=true) ->
      WA P c c.R ops Q fuel listed (z5g fr0 (L.filter fun f=>listed.getD f.i false)) (look (z5h hp0 (L.filter fun f=>listed.getD f.i false))):=by
  subst hn
  have hlen:L.length=ops.size:=by rw [<- List.length_map (f:=(·.o)),F.map];simp
  have hend:∀ {fuel:Nat} {listed:Array Bool},listed.size=ops.size->Region.ready .any ops listed=[]->WA P c c.R ops Q fuel listed (z5g fr0 (L.filter fun f=>listed.getD f.i false)) (look (z5h hp0 (L.filter fun f=>listed.getD f.i false))):=by
    intro fuel listed hs hr
    have hall:=y7r hs F.edge hr
    have:(L.filter fun f=>listed.getD f.i false)=L:=List.filter_eq_self.2 fun f hf=>hall f.i (by have:=(F.idx.lo f hf).2;omega)
    rw [this]
    exact wDn hr hQ
  intro fuel
  induction fuel with
  | zero =>
    intro listed hs hl hc
    refine hend hs ?_
    cases hq:Region.ready .any ops listed with
    | nil=>rfl
    | cons i r =>
      obtain ⟨o,ho,hi,h1,_⟩:=y2i hs (i:=i) (by rw [hq];exact .head _)
      have:=y5y hi hs h1
      omega
  | succ fuel ih =>
    intro listed hs hl hc
    by_cases hr:Region.ready .any ops listed=[]
    · exact hend hs hr
    refine WA.all rfl hr fun i hi=>?_
    obtain ⟨o,ho,hlt,h1,h2,h3⟩:=y2i hs hi
    obtain ⟨e,he,hei,heo⟩:=F.idx.get (i:=i) (o:=o) (by rw [F.map];simpa using ho)
    simp only [Nat.zero_add] at hei
    subst hei
    subst heo
    have hset:∀ j,(listed.setIfInBounds e.i true).getD j false=z76 (fun j=>listed.getD j false) e.i j:=fun j=>by
      by_cases hj:e.i=j
      · subst hj;simp [z76,Array.getD_eq_getD_getElem?,Array.getElem?_setIfInBounds,hs,hlt]
      · simp [z76,Array.getD_eq_getD_getElem?,Array.getElem?_setIfInBounds,hj,Ne.symm hj]
    have hc1:z9p ops.toList fun j=>z76 (fun j=>listed.getD j false) e.i j=true:=by
      intro j oj hoj hj ed hed hb
      simp only [z76,Bool.or_eq_true,beq_iff_eq] at hj ⊢
      rcases hj with hj | rfl
      · exact .inl (hc j oj hoj hj ed hed hb)
      · have:oj=e.o:=by simpa [ho] using hoj.symm
        subst this
        exact .inl (h3 ed hed hb)
    obtain ⟨g,hF,hH⟩:=F.now hG he h2 hc hc1
    have hrest:WA P c c.R ops Q fuel (listed.setIfInBounds e.i true) (putE (z5g fr0 (L.filter fun f=>listed.getD f.i false)) e) (look (putH (z5h hp0 (L.filter fun f=>listed.getD f.i false)) e)):=by
      refine WA.ext (fun t=>(hF t).symm) (fun k=>(hH k).symm) ?_
      have:=ih (listed.setIfInBounds e.i true) (by simpa using hs) (by have:=y5y hlt hs h1;omega) (by simpa only [hset] using hc1)
      simpa only [hset] using this
    obtain ⟨hd,g⟩:=g
    split at g
    · rename_i s hsome
      have hx:e.x=s.x:=by simp [Ent.x,hsome]
      have hw:e.wr=s.wr:=by simp [Ent.wr,hsome]
      have hnw:e.nw=s.nw:=by simp [Ent.nw,hsome]
      obtain ⟨g1,g2,g3,g4⟩:=g
      simp only [putE,putH,hx,hw] at hrest
      refine WI.go ho (fun ρ w a ha=>g1.wanted ha) hd (fun _ h=>h) (fun k hk1 hk2=>?_) (fun ρ w=>g2 _ _ _ hR (fun k hk=>(z40 (g3 k hk).2).2.2) (fun _ _=>rfl) (fun _ _=>rfl) fun k hk=>(g3 k hk).2) hrest
      rw [z2h] at hk2
      split at hk2
      · rename_i hm
        rcases y16 g4 hm with h5 | h5
        · cases h6:c.σ k with
          | none=>rfl
          | some ob=>exact absurd (hσ k (by rw [h6];simp)) (g3 k h5).1
        · exact absurd hk1 h5
      · exact absurd hk1 hk2
    · rename_i hsome
      have hx:e.x = .pv (.val undef):=by simp [Ent.x,hsome]
      have hw:e.wr=[]:=by simp [Ent.wr,hsome]
      simp only [putE,putH,hx,hw,List.nil_append] at hrest
      exact WI.pass ho (fun ρ w a ha=>g.wanted ha) hd hrest
theorem Chain.any {L:List Ent} (h:Chain P ops Rl ks nt fr hp L fr' hp') (hm:P.follows .mixedOrders=true) (hi:Idx 0 L) (hmap:L.map (·.o)=ops.toList) (hc:chk ops L.reverse=true) (hn:c.n=nt) (hR:∀ k,c.R k->k∈Rl) (hσ:∀ k,c.σ k≠none->k∈ks)
    (hQ:∀ fr2,(∀ t,fr2.get t=fr'.get t)->Q .normal fr2 (look hp')) {id:Nat}:Tr P c (.region id ops true) fr (look hp) Q:=by
  have F:=fine_of hi hmap hc
  obtain ⟨h1,h2⟩:=h.fin FrEq.rfl'
  refine tDr hm c.R ?_
  have:=F.orders (c:=c) (Q:=Q) (fr0:=fr) (hp0:=hp) (fun {A B e} he=>h.at FrEq.rfl' he) hn hR hσ (by rw [<- h2];exact hQ _ h1.1) ops.size (Array.replicate ops.size false) sI0 (by
      unfold left
      exact Nat.le_trans (List.length_filter_le _ _) sI0) (fun i o _ hS=>by
        simp [Array.getD_eq_getD_getElem?,Array.getElem?_replicate] at hS
        split at hS<;>simp at hS)
  have he:(L.filter fun f=>(Array.replicate ops.size false).getD f.i false)=[]:=List.filter_eq_nil_iff.2 fun f _=>by
    simp [Array.getD_eq_getD_getElem?,Array.getElem?_replicate]
    split<;>simp
  rw [he] at this
  exact this
end
section
variable {P:Program} {T:TB P} {H:Hn} {fr fr':Fr} {hp hp':Hp} {Rl ks:List Nat} {c:Cx} {ops:Array Oper} {Q:Exit->Fr->Heap'->Prop} {nt:Nat}
def ym4 (ops:Array Oper) (o:Oper) (fr:Fr) (A:Bool->Fr->Prop):Prop:=match o.guard with
  | none=>A true fr
  | some (j,b)=>vopt ops[j]? fun oj=>vopt oj.dst fun t=>vopt (fr.get t) fun x=>match x with
    | .pv (.val (.bool b'))=>bsel b' (A b ((t,.pv (.val (.bool true)))::fr)) (A (!b) ((t,.pv (.val (.bool false)))::fr))
    | .pv (.val (.tuple ⟨[]⟩))=>A false fr
    | _=>False
def appH {α:Type}:List α -> List α -> (List α -> Prop)->Prop
  | [],h,K=>K h
  | p::r,h,K=>appH r h fun l=>K (p::l)
theorem z89 {α:Type}:∀ {l h:List α} {K:List α -> Prop},appH l h K->K (l++h)
  | [],_,_,h=>h
  | _::r,_,K,h=>z89 (l:=r) (K:=fun l=>K (_::l)) h
def y90:Type:=Nat->List Ent->Fr->Hp->(Fr->Hp->Prop)->Prop
def vopsN (ops:Array Oper) (draw:Bool):y90:=fun _ acc fr hp K=>match draw with
  | false=>K fr hp
  | true=>z2c (chk ops acc) (K fr hp)
def vput (d:Option Nat) (x:IV) (fr:Fr) (A:Fr->Prop):Prop:=match d with
  | none=>A fr
  | some d=>A ((d,x)::fr)
def vopsC (T:TB P) (H:Hn) (Rl ks:List Nat) (nt rid:Nat) (ops:Array Oper) (o:Oper) (ih:y90):y90:=fun i acc fr hp K =>
  ym4 ops o fr fun go fr=>z2c (y29 o.dst nt) (match go with
    | true=>vop T H Rl (rid*1000+i) o fr hp fun s=>match s with
      | ⟨x,wr,rd,nw⟩=>z2c (lAll (newB ks fr hp) nw&&wrOk hp nw wr) (appH wr hp fun hp'=>vput o.dst x fr fun fr'=>ih (i+1) (⟨i,o,some ⟨x,wr,rd,nw⟩⟩::acc) fr' hp' K)
    | false=>vput o.dst (.pv (.val undef)) fr fun fr'=>ih (i+1) (⟨i,o,none⟩::acc) fr' hp K)
def vops (T:TB P) (H:Hn) (Rl ks:List Nat) (nt rid:Nat) (ops:Array Oper) (draw:Bool) (l:List Oper):y90 :=
  List.rec (motive:=fun _=>y90) (vopsN ops draw) (fun o _ ih=>vopsC T H Rl ks nt rid ops o ih) l
theorem ym7 {d:Option Nat} {x:IV} {A:Fr->Prop} (h:vput d x fr A):A (fr.put d x):=by
  cases d with
  | none=>exact h
  | some d=>exact h
theorem ym5 {o:Oper} {A:Bool->Fr->Prop} (h:ym4 ops o fr A):(∃ fr2,A true fr2/\GYes ops o fr2/\(fr2=fr∨∃ t v,fr.get t=some (.pv (.val v))/\fr2=(t,.pv (.val v))::fr))∨(∃ fr2,A false fr2/\GNo ops o fr2/\(fr2=fr∨∃ t v,fr.get t=some (.pv (.val v))/\fr2=(t,.pv (.val v))::fr)):=by
  unfold ym4 at h
  split at h
  · rename_i hg;exact .inl ⟨fr,h,.free hg,.inl rfl⟩
  · rename_i j b hg
    replace h:=z0y h
    obtain ⟨oj,hj,h⟩:=h
    replace h:=z0y h
    obtain ⟨t,ht,h⟩:=h
    replace h:=z0y h
    obtain ⟨x,hx,h⟩:=h
    split at h
    · rename_i b'
      have key:∀ {q:Bool},b'=q->Fr.get ((t,.pv (.val (.bool q)))::fr) t=some (.pv (.val (.bool q))):=fun _=>by simp [Fr.get]
      cases b' with
      | true =>
        cases b with
        | true=>exact .inl ⟨_,h,.met hg hj ht (key rfl),.inr ⟨t,_,hx,rfl⟩⟩
        | false=>exact .inr ⟨_,h,.not (b:=true) hg hj ht (key rfl),.inr ⟨t,_,hx,rfl⟩⟩
      | false =>
        cases b with
        | true=>exact .inr ⟨_,h,.not (b:=false) hg hj ht (key rfl),.inr ⟨t,_,hx,rfl⟩⟩
        | false=>exact .inl ⟨_,h,.met hg hj ht (key rfl),.inr ⟨t,_,hx,rfl⟩⟩
    · exact .inr ⟨fr,h,.un hg hj ht hx,.inl rfl⟩
    · exact h.elim
theorem ym6 {rid:Nat} {draw:Bool}:∀ {l:List Oper} {i:Nat} {acc:List Ent} {fr:Fr} {hp:Hp} {K:Fr->Hp->Prop},vops T H Rl ks nt rid ops draw l i acc fr hp K ->
    ∃ L fr' hp',Chain P ops Rl ks nt fr hp L fr' hp'/\L.map (·.o)=l/\Idx i L/\(draw=true->chk ops (L.reverse++acc)=true)/\K fr' hp'
  | [],i,acc,fr,hp,K,h=>by
    replace h:vopsN ops draw i acc fr hp K:=h
    unfold vopsN at h
    cases draw with
    | false=>exact ⟨[],fr,hp,.nil,rfl,trivial,(fun e=>absurd e dC0),h⟩
    | true =>
      replace h:=z0i h
      exact ⟨[],fr,hp,.nil,rfl,trivial,fun _=>h.1,h.2⟩
  | o::l,i,acc,fr,hp,K,h=>by
    replace h:vopsC T H Rl ks nt rid ops o (vops T H Rl ks nt rid ops draw l) i acc fr hp K:=h
    unfold vopsC at h
    have fin:∀ {fr2:Fr} {e:Ent},(fr2=fr∨∃ t v,fr.get t=some (.pv (.val v))/\fr2=(t,.pv (.val v))::fr)->e.i=i->e.o=o->Good P ops Rl ks nt e fr2 hp->vops T H Rl ks nt rid ops draw l (i+1) (e::acc) (putE fr2 e) (putH hp e) K ->
        ∃ L fr' hp',Chain P ops Rl ks nt fr hp L fr' hp'/\L.map (·.o)=o::l/\Idx i L/\(draw=true->chk ops (L.reverse++acc)=true)/\K fr' hp':=by
      intro fr2 e hf hi ho hg h
      obtain ⟨L,fr',hp',h1,h2,h3,h4,h5⟩:=ym6 h
      have hc:Chain P ops Rl ks nt fr2 hp (e::L) fr' hp':=.cons hg h1
      refine ⟨e::L,fr',hp',?_,by simp [ho,h2],⟨hi,h3⟩,fun hd=>by have:=h4 hd;simpa using this,h5⟩
      rcases hf with rfl | ⟨t,v,ht,rfl⟩
      · exact hc
      · exact .lit ht hc
    rcases ym5 h with ⟨fr2,h,hg,hf⟩ | ⟨fr2,h,hg,hf⟩
    · replace h:=z0i h
      obtain ⟨hd,h⟩:=h
      obtain ⟨s,h,hok⟩:=vop_ok h
      obtain ⟨x,wr,rd,nw⟩:=s
      replace h:=z0i h
      obtain ⟨h1,h⟩:=h
      simp only [Bool.and_eq_true] at h1
      replace h:=ym7 (z89 h)
      exact fin (e:=⟨i,o,some ⟨x,wr,rd,nw⟩⟩) hf rfl rfl ⟨hd,hg,hok,fun k hk=>yc6 (zp1 h1.1 k hk),h1.2⟩ h
    · replace h:=z0i h
      obtain ⟨hd,h⟩:=h
      replace h:=ym7 h
      exact fin (e:=⟨i,o,none⟩) hf rfl rfl ⟨hd,hg⟩ h
def zz9 (K:Exit->Fr->Hp->Prop):Exit->Fr->Heap'->Prop:=fun e fr σ=>∃ fr' hp',Sub σ fr fr'/\(∀ k o,look hp' k=some o -> σ k=some o)/\K e fr' hp'
theorem zd6 {K:Exit->Fr->Hp->Prop} {e:Exit} {fr2:Fr} (hf:∀ t,fr2.get t=fr'.get t) (h:K e fr' hp'):zz9 K e fr2 (look hp') :=
  ⟨fr',hp',fun t y hy=>⟨y,(hf t).trans hy,fun _ _ _ _ h=>h⟩,fun _ _ h=>h,h⟩
theorem Tr.weak {x:Code} {σ:Heap'} (hs:Sub σ fr fr') (hh:∀ k o,look hp' k=some o -> σ k=some o) (h:Tr P c x fr' (look hp') Q):Tr P c x fr σ Q:=by
  intro ρ w a ha
  obtain ⟨ρ',ha',_⟩:=(ha.sub hs).restrict hh
  exact h ρ' w a ha'
theorem ye2 {id:Nat} {draw:Bool} {K:Fr->Hp->Prop} {K':Exit->Fr->Hp->Prop} (hn:c.n=nt) (hR:∀ k,c.R k->k∈Rl) (hσ:∀ k,c.σ k≠none->k∈ks) (hK:∀ fr hp,K fr hp->K' .normal fr hp) (h:vops T H Rl ks nt id ops draw ops.toList 0 [] fr hp K):Tr P c (.region id ops draw) fr (look hp) (zz9 K'):=by
  obtain ⟨L,fr',hp',h1,h2,h3,h4,h5⟩:=ym6 h
  cases draw with
  | false=>exact Tr.region rfl (by rw [<- h2];exact h1.text hn hR hσ (zd6 (fun _=>rfl) (hK _ _ h5)))
  | true=>exact h1.any T.mx h3 h2 (by simpa using h4 rfl) hn hR hσ fun fr2 hf=>zd6 hf (hK _ _ h5)
theorem All.boxSub {ρ:Loc} {w:World} {a:Act} {k2 j:Nat} {cs:List IV} {x0 y:IV} (h':All c ρ (look hp) w fr a) (hk2:look hp k2=some (.box cs)) (hj:cs[j]? = some x0) (hxy:∀ v,RepI c.F ρ (look hp) w x0 v->RepI c.F ρ (look hp) w y v):All c ρ (look ((k2,some (.box (cs.set j y)))::hp)) w fr a:=by
  have hlk:∀ i,i≠k2->look ((k2,some (.box (cs.set j y)))::hp) i=look hp i:=fun i hi=>z2n (Ne.symm hi)
  have hlk2:look ((k2,some (.box (cs.set j y)))::hp) k2=some (.box (cs.set j y)):=z35
  have hconv:∀ x v,RepI c.F ρ (look hp) w x v->RepI c.F ρ (look ((k2,some (.box (cs.set j y)))::hp)) w x v:=by
    intro x v hx
    induction hx with
    | pv p v hp=>exact .pv p v hp
    | ptr i off v hi =>
      refine .ptr i off v fun cs' h2=>?_
      by_cases e:i=k2
      · subst e;exact hi _ hk2
      · rw [hlk i e] at h2;exact hi _ h2
    | sl i len v hi =>
      refine .sl i len v fun s' els' h2=>?_
      by_cases e:i=k2
      · subst e;rw [hlk2] at h2;cases h2
      · rw [hlk i e] at h2;exact hi _ _ h2
    | rpt i len off v hi =>
      refine .rpt i len off v fun s' els' h2=>?_
      by_cases e:i=k2
      · subst e;rw [hlk2] at h2;cases h2
      · rw [hlk i e] at h2;exact hi _ _ h2
    | bs i n v hi =>
      refine .bs i n v fun cs' h2=>?_
      by_cases e:i=k2
      · subst e;exact hi _ hk2
      · rw [hlk i e] at h2;exact hi _ h2
    | mp i v hi =>
      refine .mp i v fun es h2=>?_
      by_cases e:i=k2
      · subst e;rw [hlk2] at h2;cases h2
      · rw [hlk i e] at h2;exact hi _ h2
    | agg cs vs u hl hv _ ih=>exact .agg cs vs u hl hv ih
    | tup cs vs u hl hv _ ih=>exact .tup cs vs u hl hv ih
    | fn f xs ys vs ws u t hl hv _ hl' hv' _ ih ih'=>exact .fn f xs ys vs ws u t hl hv ih hl' hv' ih'
  refine ⟨⟨h'.rel.inj,h'.rel.apart,h'.rel.old,fun i b cc hi=>?_,fun i o h1 h2=>?_⟩,fun t x hx=>?_,?_,h'.df,h'.sz⟩
  · obtain ⟨o1,h1,h2⟩:=h'.rel.obj i b cc hi
    by_cases e:i=k2
    · subst e
      rw [hk2] at h1;cases h1
      refine ⟨_,hlk2,?_⟩
      cases h2 with
      | box _ e' r u h5 hl hv hr =>
        refine .box _ e' r u h5 (by simpa using hl) (fun q x hq=>?_) fun q x hq=>?_
        · by_cases eq:q=j
          · subst eq;exact hv q _ hj
          · rw [List.getElem?_set_ne (Ne.symm eq)] at hq;exact hv q x hq
        · by_cases eq:q=j
          · subst eq
            have hlt:q<cs.length:=(List.getElem?_eq_some_iff.1 hj).1
            rw [List.getElem?_set_self hlt] at hq;cases hq
            exact hconv _ _ (hxy _ (hr q _ hj))
          · rw [List.getElem?_set_ne (Ne.symm eq)] at hq;exact hconv _ _ (hr q x hq)
    · refine ⟨o1,(hlk i e).trans h1,?_⟩
      cases h2 with
      | box cs' e' r u h hl hv hr=>exact .box cs' e' r u h hl hv fun q x hq=>hconv _ _ (hr q x hq)
      | row s' els' r u h hs hl hm hw hv hr=>exact .row s' els' r u h hs hl hm hw hv hr
      | map es r t u h hl hv hr=>exact .map es r t u h hl hv hr
  · by_cases e:i=k2
    · subst e
      obtain ⟨s',h3⟩:=h'.rel.real i _ hk2 h2
      cases h3
    · rw [hlk i e] at h1;exact h'.rel.real i o h1 h2
  · obtain ⟨v,hv,hr⟩:=h'.fr t x hx
    exact ⟨v,hv,hconv _ _ hr⟩
  · have t:=h'.tr
    refine ⟨t.os,t.tape,t.output,t.size,t.blk,t.own,fun i a1 a2 e1 e2=>?_,fun i a1 a2 e1 e2=>?_,fun i s1 s2 a1 a2 e1 e2 hl=>?_,fun i s1 s2 a1 a2 e1 e2=>?_,fun i a2 e2=>?_,fun i a2 e2=>?_,fun i s1 a2 e2=>?_⟩
    all_goals by_cases e:i=k2
    · subst e;exact t.box i _ _ e1 hk2
    · rw [hlk i e] at e2;exact t.box i _ _ e1 e2
    · subst e;rw [hlk2] at e2;cases e2
    · rw [hlk i e] at e2;exact t.map i _ _ e1 e2
    · subst e;rw [hlk2] at e2;cases e2
    · rw [hlk i e] at e2;exact t.row i _ _ _ _ e1 e2 hl
    · subst e;rw [hlk2] at e2;cases e2
    · rw [hlk i e] at e2;exact t.grow i _ _ _ _ e1 e2
    · subst e;exact t.kindB i _ hk2
    · rw [hlk i e] at e2;exact t.kindB i _ e2
    · subst e;rw [hlk2] at e2;cases e2
    · rw [hlk i e] at e2;exact t.kindM i _ e2
    · subst e;rw [hlk2] at e2;cases e2
    · rw [hlk i e] at e2;exact t.kindR i _ _ e2
theorem y42 {F:Nat->Prop} {ρ:Loc} {σ:Heap'} {w:World} {v:Value} (h:RepI F ρ σ w (.pv (.val (.slice none 0 0))) v):RepI F ρ σ w (.pv (.seq [])) v:=z90 PSub.nil h
def y7a:Option IV->Bool
  | some (.pv (.val (.slice none 0 0)))=>true
  | _=>false
theorem zl5 {x:Option IV} (h:y7a x=true):x=some (.pv (.val (.slice none 0 0))):=by
  unfold y7a at h
  split at h
  · rfl
  · cases h
def isSl (k:Nat):Option IV->Option Nat
  | some (.sl j n)=>match Nat.beq j k with
    | true=>some n
    | false=>none
  | _=>none
theorem yb5 {k n:Nat} {x:Option IV} (h:isSl k x=some n):x=some (.sl k n):=by
  unfold isSl at h
  split at h
  · split at h
    · rename_i hb;obtain rfl:=Nat.eq_of_beq_eq_true hb;cases h;rfl
    · cases h
  · cases h
def isPtr (k:Nat):Option IV->Bool
  | some (.ptr j 0)=>Nat.beq j k
  | _=>false
theorem isPtr_ok {k:Nat} {x:Option IV} (h:isPtr k x=true):x=some (.ptr k 0):=by
  unfold isPtr at h
  split at h
  · obtain rfl:=Nat.eq_of_beq_eq_true h;rfl
  · cases h
def vgh (ks:List Nat) (g:Gh) (fr:Fr) (hp:Hp) (K:Fr->Hp->Prop):Prop:=match g with
  | .grow t k e n=>z2c (y7a (fr.get t)&&newB ks fr hp k) (K ((t,.sl k 0)::fr) ((k,some (.row ⟨e,n⟩ []))::hp))
  | .growC k2 j k e n=>vbox hp k2 fun cs=>z2c (y7a cs[j]? && newB ks fr hp k) (frcI (cs.set j (.sl k 0)) fun l=>K fr ((k2,some (.box l))::(k,some (.row ⟨e,n⟩ []))::hp))
  | .fz t k=>vopt (isSl k (fr.get t)) fun n=>vrow hp k fun _ els=>els.length=n/\K ((t,.pv (.seq els))::fr) ((k,none)::hp)
  | .fzC k2 j k=>vbox hp k2 fun cs=>vopt (isSl k cs[j]?) fun n=>z2c (!Nat.beq k k2) (vrow hp k fun _ els=>els.length=n/\frcI (cs.set j (.pv (.seq els))) fun l=>K fr ((k2,some (.box l))::(k,none)::hp))
  | .fzB t k=>z2c (isPtr k (fr.get t)) (vbox hp k fun cs=>vopt (z6b cs) fun ps=>frcP ps fun l=>K ((t,.pv (.ept l 0))::fr) ((k,none)::hp))
  | .len t=>vopt (fr.get t) fun x=>match x with
    | .pv (.seq els)=>els.length<=9223372036854775807->K fr hp
    | .sl k n=>vrow hp k fun _ els=>els.length=n/\(n<=9223372036854775807->K fr hp)
    | _=>False
  | .drop k=>K fr ((k,none)::hp)
  | .ni t=>match y7a (fr.get t) with
    | true=>K ((t,.pv (.seq []))::fr) hp
    | false=>K fr hp
  | .niC k j=>vbox hp k fun cs=>match y7a cs[j]? with
    | true=>frcI (cs.set j (.pv (.seq []))) fun l=>K fr ((k,some (.box l))::hp)
    | false=>K fr hp
theorem vgh_ok {g:Gh} {x:Code} {K:Fr->Hp->Prop} (hσ:∀ k,c.σ k≠none->k∈ks) (hK:∀ fr hp,K fr hp->Tr P c x fr (look hp) Q) (h:vgh ks g fr hp K):Tr P c x fr (look hp) Q:=by
  have hc:∀ {k:Nat},newB ks fr hp k=true->look hp k=none/\c.σ k=none/\nmFr k fr=false/\nmHp k hp=false:=fun {k} hk=>by
    obtain ⟨h1,h2⟩:=yc6 hk
    obtain ⟨f1,f2,f3⟩:=z40 h2
    refine ⟨f3,?_,f1,f2⟩
    cases h4:c.σ k with
    | none=>rfl
    | some o=>exact absurd (hσ k (by rw [h4];simp)) h1
  unfold vgh at h
  split at h
  · replace h:=z0i h
    obtain ⟨h1,h⟩:=h
    simp only [Bool.and_eq_true] at h1
    obtain ⟨f1,f2,f3,f4⟩:=hc h1.2
    exact Tr.grow _ (zl5 h1.1) f1 f2 f3 f4 (hK _ _ h)
  · replace h:=z4z h
    obtain ⟨cs,hk,h⟩:=h
    replace h:=z0i h
    obtain ⟨h1,h⟩:=h
    simp only [Bool.and_eq_true] at h1
    obtain ⟨f1,f2,f3,f4⟩:=hc h1.2
    exact Tr.growCell _ hk (zl5 h1.1) f1 f2 f3 f4 (hK _ _ (z5c h))
  · replace h:=z0y h
    obtain ⟨n,hn,h⟩:=h
    replace h:=z6j h
    obtain ⟨s,els,hk,hl,h⟩:=h
    exact Tr.freeze (yb5 hn) hk hl (hK _ _ h)
  · replace h:=z4z h
    obtain ⟨cs,hk2,h⟩:=h
    replace h:=z0y h
    obtain ⟨n,hn,h⟩:=h
    replace h:=z0i h
    obtain ⟨hne,h⟩:=h
    replace h:=z6j h
    obtain ⟨s,els,hk,hl,h⟩:=h
    exact Tr.freezeCell hk hl hk2 (yb5 hn) (fun e=>by subst e;simp at hne) (hK _ _ (z5c h))
  · replace h:=z0i h
    obtain ⟨h1,h⟩:=h
    replace h:=z4z h
    obtain ⟨cs,hk,h⟩:=h
    replace h:=z0y h
    obtain ⟨ps,hps,h⟩:=h
    exact Tr.freezeBox (isPtr_ok h1) hk hps (hK _ _ (z6x (K:=fun l=>K ((_,.pv (.ept l 0))::fr) ((_,none)::hp)) h))
  · replace h:=z0y h
    obtain ⟨x,hx,h⟩:=h
    split at h
    · exact Tr.lenOf hx fun hl=>hK _ _ (h hl)
    · replace h:=z6j h
      obtain ⟨s,els,hk,hl,h⟩:=h
      exact Tr.rowLen hx hk hl fun hn=>hK _ _ (h hn)
    · exact h.elim
  · exact Tr.drop (hK _ _ h)
  · split at h
    · rename_i hn
      exact fun ρ w a ha=>hK _ _ h ρ w a (ha.putFr (zl5 hn) fun v hv=>y42 hv)
    · exact hK _ _ h
  · replace h:=z4z h
    obtain ⟨cs,hk,h⟩:=h
    split at h
    · rename_i hn
      exact fun ρ w a ha=>hK _ _ (z5c (K:=fun l=>K fr ((_,some (.box l))::hp)) h) ρ w a (ha.boxSub hk (zl5 hn) fun v hv=>y42 hv)
    · exact hK _ _ h
def vghs (ks:List Nat):List Gh->Fr->Hp->(Fr->Hp->Prop)->Prop
  | [],fr,hp,K=>K fr hp
  | g::r,fr,hp,K=>vgh ks g fr hp fun fr hp=>vghs ks r fr hp K
theorem ym3 {x:Code} {K:Fr->Hp->Prop} (hσ:∀ k,c.σ k≠none->k∈ks) (hK:∀ fr hp,K fr hp->Tr P c x fr (look hp) Q):∀ {gs:List Gh} {fr:Fr} {hp:Hp},vghs ks gs fr hp K->Tr P c x fr (look hp) Q
  | [],fr,hp,h=>hK _ _ h
  | g::r,fr,hp,h=>vgh_ok hσ (fun _ _ h=>ym3 hσ hK (gs:=r) h) h
def ghAt:List (Nat × List Gh)->Nat->List Gh
  | [],_=>[]
  | (k,g)::r,id=>match Nat.beq k id with
    | true=>g
    | false=>ghAt r id
def idsF:Fr->List Nat
  | []=>[]
  | (t,_)::r=>t::idsF r
def z9v (ds:List Nat):Fr->Fr
  | []=>[]
  | (t,x)::r=>match nIn t ds with
    | true=>z9v ds r
    | false=>(t,x)::z9v (t::ds) r
def z8s (ds:List Nat):Hp->Hp
  | []=>[]
  | (k,o)::r=>match nIn k ds with
    | true=>z8s ds r
    | false=>match o with
      | some o=>(k,some o)::z8s (k::ds) r
      | none=>z8s (k::ds) r
theorem z9d {x:IV} {t:Nat}:∀ {fr:Fr} {ds:List Nat},(z9v ds fr).get t=some x->t∉ds/\fr.get t=some x
  | [],_,h=>by cases h
  | (u,y)::r,ds,h=>by
    simp only [z9v] at h
    split at h
    · rename_i hu
      obtain ⟨h1,h2⟩:=z9d h
      have:u≠t:=fun e=>h1 (e ▸ z50.1 hu)
      exact ⟨h1,by simp only [Fr.get,z25 this];exact h2⟩
    · rename_i hu
      simp only [Fr.get] at h ⊢
      cases hb:Nat.beq u t with
      | true =>
        obtain rfl:=Nat.eq_of_beq_eq_true hb
        rw [hb] at h
        exact ⟨z2o hu,h⟩
      | false =>
        rw [hb] at h
        obtain ⟨h1,h2⟩:=z9d h
        exact ⟨fun hm=>h1 (.tail _ hm),h2⟩
theorem z6a {o:HO} {k:Nat}:∀ {hp:Hp} {ds:List Nat},look (z8s ds hp) k=some o->k∉ds/\look hp k=some o
  | [],_,h=>by cases h
  | (j,q)::r,ds,h=>by
    simp only [z8s] at h
    split at h
    · rename_i hu
      obtain ⟨h1,h2⟩:=z6a h
      have:j≠k:=fun e=>h1 (e ▸ z50.1 hu)
      exact ⟨h1,by rw [z2n this];exact h2⟩
    · rename_i hu
      split at h
      · rename_i ob
        by_cases e:j=k
        · subst e
          rw [z35] at h
          exact ⟨z2o hu,by rw [z35];exact h⟩
        · rw [z2n e] at h
          obtain ⟨h1,h2⟩:=z6a h
          exact ⟨fun hm=>h1 (.tail _ hm),by rw [z2n e];exact h2⟩
      · obtain ⟨h1,h2⟩:=z6a h
        have e:j≠k:=fun e=>h1 (e ▸ .head _)
        exact ⟨fun hm=>h1 (.tail _ hm),by rw [z2n e];exact h2⟩
def frcL {α:Type}:List α -> (List α -> Prop)->Prop
  | [],K=>K []
  | x::r,K=>frcL r fun l=>K (x::l)
theorem zo7 {α:Type}:∀ {l:List α} {K:List α -> Prop},frcL l K->K l
  | [],_,h=>h
  | _::r,K,h=>zo7 (l:=r) (K:=fun l=>K (_::l)) h
def dstsO:List Oper->List Nat->List Nat
  | [],acc=>acc
  | o::r,acc=>match o.dst with
    | some d=>dstsO r (d::acc)
    | none=>dstsO r acc
def y1h:Code->List Nat->List Nat
  | .region _ ops _,acc=>dstsO ops.toList acc
  | .seq a b,acc=>y1h a (y1h b acc)
  | .cond _ a b,acc=>y1h a (y1h b acc)
  | .block _ x,acc=>y1h x acc
  | .loop x,acc=>y1h x acc
  | _,acc=>acc
def subH (hp:Hp):List (Nat × HO)->Prop
  | []=>True
  | (k,o)::r=>look hp k=some o/\subH hp r
theorem zf2 {k:Nat} {o:HO}:∀ {l:List (Nat × HO)},subH hp l->(k,o)∈l->look hp k=some o
  | (j,q)::r,h,hm=>by
    rcases List.mem_cons.1 hm with e | hm
    · cases e;exact h.1
    · exact zf2 h.2 hm
inductive VNext {α:Type} (F:α -> Fr) (Hf:α -> List (Nat × HO)) (m:α -> Nat) (I:α -> Prop) (a:α) (bf:Fr) (bh:Hp) (fr':Fr) (hp':Hp):Prop
  | mk (b:α) (hm:m b<m a) (hI:I b) (hf:subB fr' (F b)) (hh:subH hp' (Hf b)) (tf:fr'.drop (fr'.length - bf.length)=bf) (df:disj (idsF (fr'.take (fr'.length - bf.length))) (idsF bf)=true)
    (th:hp'.drop (hp'.length - bh.length)=bh) (dh:disj (idsH (hp'.take (hp'.length - bh.length))) (idsH bh)=true)
def vround {α:Type} (f:Fr->Hp->(Exit->Fr->Hp->Prop)->Prop) (K:Exit->Fr->Hp->Prop) (F:α -> Fr) (Hf:α -> List (Nat × HO)) (m:α -> Nat) (I:α -> Prop) (bf:Fr) (bh:Hp) (a:α):Prop :=
  appH (F a) bf fun fr=>appH (up (Hf a)) bh fun hp=>f fr hp fun e fr' hp'=>match e with
    | .normal=>VNext F Hf m I a bf bh fr' hp'
    | e=>K e fr' hp'
inductive VLoop (f:Fr->Hp->(Exit->Fr->Hp->Prop)->Prop) (ds:List Nat) (fr:Fr) (hp:Hp) (K:Exit->Fr->Hp->Prop):Prop
  | mk (α:Type) (F:α -> Fr) (Hf:α -> List (Nat × HO)) (m:α -> Nat) (I:α -> Prop) (gone:List Nat) (a0:α) (hI:I a0) (hf:subB fr (F a0)) (hh:subH hp (Hf a0))
    (round:frcL (z9v (idsF (F a0)++ds) fr) fun bf=>frcL (z8s (gone++(Hf a0).map (·.1)) hp) fun bh=>∀ a,I a->vround f K F Hf m I bf bh a)
theorem y3u {t:Nat}:∀ {A B:Fr},t∉idsF A->(A++B).get t=B.get t
  | [],_,_=>rfl
  | (u,x)::A,B,h=>by
    simp only [idsF,List.mem_cons,not_or] at h
    simp only [List.cons_append,Fr.get,z25 (Ne.symm h.1)]
    exact y3u h.2
theorem y3v {t:Nat} {x:IV}:∀ {A:Fr},A.get t=some x->t∈idsF A
  | (u,y)::A,h=>by
    simp only [Fr.get] at h
    cases hb:Nat.beq u t with
    | true=>obtain rfl:=Nat.eq_of_beq_eq_true hb;exact .head _
    | false=>rw [hb] at h;exact .tail _ (y3v h)
theorem z8d {t:Nat} {x:IV}:∀ {A B:Fr},(A++B).get t=some x->A.get t=some x∨(t∉idsF A/\B.get t=some x)
  | [],B,h=>.inr ⟨by simp [idsF],h⟩
  | (u,y)::A,B,h=>by
    simp only [List.cons_append,Fr.get] at h ⊢
    cases hb:Nat.beq u t with
    | true=>rw [hb] at h;exact .inl h
    | false =>
      rw [hb] at h
      have hne:u≠t:=fun e=>by subst e;simp at hb
      rcases z8d h with h | ⟨h1,h2⟩
      · exact .inl h
      · exact .inr ⟨by simp only [idsF,List.mem_cons,not_or];exact ⟨Ne.symm hne,h1⟩,h2⟩
theorem zm7 {t:Nat} {y:IV}:∀ {l:Fr},subB fr l->l.get t=some y->fr.get t=some y
  | (u,x)::r,h,hy=>by
    simp only [Fr.get] at hy
    cases hb:Nat.beq u t with
    | true=>obtain rfl:=Nat.eq_of_beq_eq_true hb;rw [hb] at hy;cases hy;exact h.1
    | false=>rw [hb] at hy;exact zm7 h.2 hy
theorem zl6 {k:Nat} {o:HO}:∀ {l:Hp},look l k=some o->k∈l.map (·.1)
  | (j,q)::r,h=>by
    by_cases e:j=k
    · subst e;simp
    · rw [z2n e] at h
      simp only [List.map_cons,List.mem_cons]
      exact .inr (zl6 h)
theorem VLoop.ok {f:Fr->Hp->(Exit->Fr->Hp->Prop)->Prop} {x:Code} {ds:List Nat} {K:Exit->Fr->Hp->Prop} (hx:∀ fr hp K,f fr hp K->Tr P c x fr (look hp) (zz9 K)) (h:VLoop f ds fr hp K):Tr P c (.loop x) fr (look hp) (zz9 K):=by
  obtain ⟨α,F,Hf,m,I,gone,a0,hI,hf,hh,round⟩:=h
  replace round:=zo7 (zo7 round)
  have hsub0:Sub (look hp) fr (F a0++z9v (idsF (F a0)++ds) fr):=fun t y hy=>by
    rcases z8d hy with h | ⟨_,h⟩
    · exact ⟨y,zm7 hf h,fun _ _ _ _ h=>h⟩
    · exact ⟨y,(z9d h).2,fun _ _ _ _ h=>h⟩
  generalize z9v (idsF (F a0)++ds) fr=bf at round hsub0
  have hheap0:∀ k o,look (up (Hf a0)++z8s (gone++(Hf a0).map (·.1)) hp) k=some o->look hp k=some o:=fun k o hk=>by
    rw [z2h] at hk
    split at hk
    · exact zf2 hh (z16 hk)
    · exact (z6a hk).2
  generalize z8s (gone++(Hf a0).map (·.1)) hp=bh at round hheap0
  refine Tr.weak hsub0 hheap0 ?_
  refine Tr.loop (fun fr σ n=>∃ a,I a/\m a=n/\fr=F a++bf/\∀ k o,look (up (Hf a)++bh) k=some o -> σ k=some o) (n:=m a0) ⟨a0,hI,rfl,rfl,fun _ _ h=>h⟩ ?_
  rintro fr1 σ1 n ⟨a,hIa,rfl,rfl,hσ⟩
  have hr:=round a hIa
  replace hr:=z89 hr
  replace hr:=z89 hr
  have h1:=hx _ _ _ hr
  refine Tr.weak (fr':=F a++bf) (fun t y hy=>⟨y,hy,fun _ _ _ _ h=>h⟩) hσ (Tr.mono h1 fun e fr' σ' hq=>?_)
  obtain ⟨fr2,hp2,hs,hl,hk⟩:=hq
  cases e with
  | normal =>
    obtain ⟨b,hm,hIb,hf,hh,tf,df,th,dh⟩:=hk
    refine ⟨F b++bf,m b,hm,fun t y hy=>?_,b,hIb,rfl,rfl,fun k o hk=>?_⟩
    · have:fr2.get t=some y:=by
        rcases z8d hy with h | ⟨_,h⟩
        · exact zm7 hf h
        · have h3:fr2=fr2.take (fr2.length - bf.length)++bf:=by
            conv=>lhs;rw [<- List.take_append_drop (fr2.length - bf.length) fr2]
            rw [tf]
          rw [h3,y3u fun hm=>z6w df hm (y3v h)]
          exact h
      obtain ⟨z,hz,hr⟩:=hs t y this
      exact ⟨z,hz,hr⟩
    · refine hl k o ?_
      rw [z2h] at hk
      split at hk
      · exact zf2 hh (z16 hk)
      · have h3:hp2=hp2.take (hp2.length - bh.length)++bh:=by
          conv=>lhs;rw [<- List.take_append_drop (hp2.length - bh.length) hp2]
          rw [th]
        rw [h3,z2h,if_neg]
        · exact hk
        · intro hm
          rw [<- za3] at hm
          exact z6w dh hm (by rw [za3];exact zl6 hk)
  | _=>exact ⟨fr2,hp2,hs,hl,hk⟩
inductive VJoin {α:Type} (F:α -> Fr) (Hf:α -> List (Nat × HO)) (I:α -> Prop) (bf:Fr) (bh:Hp) (fr':Fr) (hp':Hp):Prop
  | mk (b:α) (hI:I b) (hf:subB fr' (F b)) (hh:subH hp' (Hf b)) (tf:fr'.drop (fr'.length - bf.length)=bf) (df:disj (idsF (fr'.take (fr'.length - bf.length))) (idsF bf)=true)
    (th:hp'.drop (hp'.length - bh.length)=bh) (dh:disj (idsH (hp'.take (hp'.length - bh.length))) (idsH bh)=true)
def zj3 (ds:List Nat):Fr->Fr
  | []=>[]
  | (t,x)::r=>match nIn t ds with
    | true=>(t,x)::zj3 ds r
    | false=>zj3 ds r
def zj4 (ds:List Nat):Hp->Hp
  | []=>[]
  | (k,o)::r=>match nIn k ds with
    | true=>(k,o)::zj4 ds r
    | false=>zj4 ds r
theorem zh0 {t:Nat} {ds:List Nat} {x:IV}:∀ {fr:Fr},(zj3 ds fr).get t=some x->fr.get t=some x
  | (u,y)::r,h=>by
    simp only [zj3] at h
    split at h
    · simp only [Fr.get] at h ⊢
      cases hb:Nat.beq u t with
      | true=>rw [hb] at h;exact h
      | false=>rw [hb] at h;exact zh0 h
    · rename_i hu
      have h2:=zh0 h
      have ht:t∈ds:=by
        have key:∀ {l:Fr},(zj3 ds l).get t=some x->t∈ds:=by
          intro l
          induction l with
          | nil=>intro h;cases h
          | cons p r ih =>
            obtain ⟨u,y⟩:=p
            intro h
            simp only [zj3] at h
            split at h
            · rename_i hu
              simp only [Fr.get] at h
              cases hb:Nat.beq u t with
              | true=>obtain rfl:=Nat.eq_of_beq_eq_true hb;exact z50.1 hu
              | false=>rw [hb] at h;exact ih h
            · exact ih h
        exact key h
      have:u≠t:=fun e=>z2o hu (e ▸ ht)
      simp only [Fr.get,z25 this]
      exact h2
theorem za1 {k:Nat} {ds:List Nat}:∀ {hp:Hp},k∈ds->look (zj4 ds hp) k=look hp k
  | [],_=>rfl
  | (j,o)::r,hk=>by
    simp only [zj4]
    split
    · by_cases e:j=k
      · subst e;rw [z35,z35]
      · rw [z2n e,z2n e];exact za1 hk
    · rename_i hj
      have:j≠k:=fun e=>z2o hj (e ▸ hk)
      rw [z2n this];exact za1 hk
theorem zh1 {k:Nat} {ds:List Nat}:∀ {hp:Hp},k∈(zj4 ds hp).map (·.1)->k∈ds
  | (j,o)::r,h=>by
    simp only [zj4] at h
    split at h
    · rename_i hj
      simp only [List.map_cons,List.mem_cons] at h
      rcases h with rfl | h
      · exact z50.1 hj
      · exact zh1 h
    · exact zh1 h
inductive VCut (ds:List Nat) (x y:Fr->Hp->(Exit->Fr->Hp->Prop)->Prop) (fr:Fr) (hp:Hp) (K:Exit->Fr->Hp->Prop):Prop
  | mk (α:Type) (F:α -> Fr) (Hf:α -> List (Nat × HO)) (I:α -> Prop) (gone:List Nat)
    (h:frcL (z9v ds fr) fun bf=>frcL (z8s gone hp) fun bh=>appH (zj3 ds fr) bf fun fr1=>appH (zj4 gone hp) bh fun hp1=>(x fr1 hp1 fun e fr' hp'=>match e with
      | .normal=>VJoin F Hf I bf bh fr' hp'
      | e=>K e fr' hp')/\∀ b,I b->appH (F b) bf fun fr2=>appH (up (Hf b)) bh fun hp2=>y fr2 hp2 K)
theorem join_sub {α:Type} {F:α -> Fr} {b:α} {bf fr2:Fr} {σ:Heap'} {fr1:Fr} (hs:Sub σ fr1 fr2) (hf:subB fr2 (F b)) (tf:fr2.drop (fr2.length - bf.length)=bf) (df:disj (idsF (fr2.take (fr2.length - bf.length))) (idsF bf)=true):Sub σ fr1 (F b++bf):=fun t y hy=>by
  have:fr2.get t=some y:=by
    rcases z8d hy with h | ⟨_,h⟩
    · exact zm7 hf h
    · have h3:fr2=fr2.take (fr2.length - bf.length)++bf:=by
        conv=>lhs;rw [<- List.take_append_drop (fr2.length - bf.length) fr2]
        rw [tf]
      rw [h3,y3u fun hm=>z6w df hm (y3v h)]
      exact h
  exact hs t y this
theorem yb6 {l:List (Nat × HO)} {bh hp2:Hp} (hh:subH hp2 l) (th:hp2.drop (hp2.length - bh.length)=bh) (dh:disj (idsH (hp2.take (hp2.length - bh.length))) (idsH bh)=true) (k:Nat) (o:HO) (hk:look (up l++bh) k=some o):look hp2 k=some o:=by
  rw [z2h] at hk
  split at hk
  · exact zf2 hh (z16 hk)
  · have h3:hp2=hp2.take (hp2.length - bh.length)++bh:=by
      conv=>lhs;rw [<- List.take_append_drop (hp2.length - bh.length) hp2]
      rw [th]
    rw [h3,z2h,if_neg]
    · exact hk
    · intro hm
      rw [<- za3] at hm
      exact z6w dh hm (by rw [za3];exact zl6 hk)
theorem VCut.ok {x y:Fr->Hp->(Exit->Fr->Hp->Prop)->Prop} {cx cy:Code} {ds:List Nat} {K:Exit->Fr->Hp->Prop} (hx:∀ fr hp K,x fr hp K->Tr P c cx fr (look hp) (zz9 K)) (hy:∀ fr hp K,y fr hp K->Tr P c cy fr (look hp) (zz9 K)) (h:VCut ds x y fr hp K):Tr P c (.seq cx cy) fr (look hp) (zz9 K):=by
  obtain ⟨α,F,Hf,I,gone,h⟩:=h
  replace h:=zo7 (zo7 h)
  replace h:=z89 (z89 h)
  have hsub0:Sub (look hp) fr (zj3 ds fr++z9v ds fr):=fun t y hy=>by
    rcases z8d hy with h | ⟨_,h⟩
    · exact ⟨y,zh0 h,fun _ _ _ _ h=>h⟩
    · exact ⟨y,(z9d h).2,fun _ _ _ _ h=>h⟩
  generalize z9v ds fr=bf at h hsub0
  have hheap0:∀ k o,look (zj4 gone hp++z8s gone hp) k=some o->look hp k=some o:=fun k o hk=>by
    rw [z2h] at hk
    split at hk
    · rename_i hm;rw [za1 (zh1 hm)] at hk;exact hk
    · exact (z6a hk).2
  generalize z8s gone hp=bh at h hheap0
  obtain ⟨h1,h2⟩:=h
  refine Tr.weak hsub0 hheap0 ?_
  refine Tr.seq (Tr.mono (hx _ _ _ h1) fun e fr' σ' hq=>?_)
  obtain ⟨fr2,hp2,hs,hl,hk⟩:=hq
  cases e with
  | normal =>
    obtain ⟨b,hI,hf,hh,tf,df,th,dh⟩:=hk
    have h3:=h2 b hI
    replace h3:=z89 h3
    replace h3:=z89 h3
    exact Tr.weak (join_sub hs hf tf df) (fun k o hk=>hl k o (yb6 hh th dh k o hk)) (hy _ _ _ h3)
  | _=>exact ⟨fr2,hp2,hs,hl,hk⟩
def VcT:Type:=Fr->Hp->(Exit->Fr->Hp->Prop)->Prop
def vcNo:VcT:=fun _ _ _=>False
def vcSkip:VcT:=fun fr hp K=>K .normal fr hp
def vcReg (T:TB P) (H:Hn) (Rl ks:List Nat) (nt id:Nat) (ops:Array Oper) (draw:Bool):VcT:=fun fr hp K =>
  vghs ks (ghAt H.gh id) fr hp fun fr hp=>vops T H Rl ks nt id ops draw ops.toList 0 [] fr hp (K .normal)
def vcSeq (a b:VcT):VcT:=fun fr hp K=>a fr hp fun e fr hp=>match e with
  | .normal=>b fr hp K
  | e=>K e fr hp
def zo3:Code->Nat
  | .region id _ _=>id
  | .seq a _=>zo3 a
  | .block _ x=>zo3 x
  | .loop x=>zo3 x
  | _=>1000000
def y6t (H:Hn) (ca cb:Code) (a b:VcT):VcT:=match nIn (zo3 cb) H.jn with
  | true=>fun fr hp K=>VCut (y1h ca []) a b fr hp K
  | false=>vcSeq a b
def vcCond (x:Operand) (a b:VcT):VcT:=fun fr hp K=>vev fr x fun v=>match v with
  | .pv (.val (.bool t))=>bsel t (a fr hp K) (b fr hp K)
  | _=>False
def vcBlock (id:Nat) (x:VcT):VcT:=fun fr hp K=>x fr hp fun e fr hp=>match e with
  | .exit id'=>match Nat.beq id' id with
    | true=>K .normal fr hp
    | false=>K (.exit id') fr hp
  | e=>K e fr hp
def vcLoop (c:Code) (x:VcT):VcT:=fun fr hp K=>VLoop x (y1h c []) fr hp K
def vcExit (id:Nat):VcT:=fun fr hp K=>K (.exit id) fr hp
def vcRet:VcT:=fun fr hp K=>K .ret fr hp
def vc (T:TB P) (H:Hn) (Rl ks:List Nat) (nt:Nat) (c:Code):VcT :=
  Code.rec (motive:=fun _=>VcT) vcSkip (fun id ops draw=>vcReg T H Rl ks nt id ops draw) (fun ca cb a b=>y6t H ca cb a b) (fun x _ _ a b=>vcCond x a b) (fun id _ x=>vcBlock id x) (fun c x=>vcLoop c x)
    (fun _ _ _ _ _ _=>vcNo) (fun id=>vcExit id) (fun _ _=>vcNo) (fun _=>vcNo) (fun _=>vcNo) vcRet (fun _=>vcNo) c
theorem y13 (hn:c.n=nt) (hR:∀ k,c.R k->k∈Rl) (hσ:∀ k,c.σ k≠none->k∈ks):∀ (x:Code) {fr:Fr} {hp:Hp} {K:Exit->Fr->Hp->Prop},vc T H Rl ks nt x fr hp K->Tr P c x fr (look hp) (zz9 K)
  | .skip,fr,hp,K,h=>tSk (zd6 (fun _=>rfl) h)
  | .region id ops draw,fr,hp,K,h=>ym3 hσ (fun fr hp h=>ye2 hn hR hσ (fun _ _ h=>h) h) h
  | .seq a b,fr,hp,K,h=>by
    replace h:y6t H a b (Go.Proofs.YtekdhljpmflboaaGreat.vc T H Rl ks nt a) (Go.Proofs.YtekdhljpmflboaaGreat.vc T H Rl ks nt b) fr hp K:=h
    cases hj:nIn (zo3 b) H.jn with
    | true =>
      simp only [y6t,hj] at h
      exact VCut.ok (fun fr hp K h=>y13 hn hR hσ a h) (fun fr hp K h=>y13 hn hR hσ b h) h
    | false =>
    simp only [y6t,hj] at h
    refine Tr.seq (Tr.mono (y13 hn hR hσ a h) fun e fr' σ' hq=>?_)
    obtain ⟨fr2,hp2,hs,hl,hk⟩:=hq
    cases e with
    | normal=>exact Tr.weak hs hl (y13 hn hR hσ b hk)
    | _=>exact ⟨fr2,hp2,hs,hl,hk⟩
  | .cond x a b,fr,hp,K,h=>by
    obtain ⟨v,hv,h⟩:=z1i h
    split at h
    · rename_i t
      refine Tr.cond hv (fun ht=>?_) fun ht=>?_
      · subst ht;exact y13 hn hR hσ a h
      · subst ht;exact y13 hn hR hσ b h
    · exact h.elim
  | .block id x,fr,hp,K,h=>by
    refine tBk (Tr.mono (y13 hn hR hσ x h) fun e fr' σ' hq=>?_)
    obtain ⟨fr2,hp2,hs,hl,hk⟩:=hq
    cases e with
    | exit id' =>
      simp only [y99]
      simp only at hk
      split at hk
      · rename_i hb;rw [hb];exact ⟨fr2,hp2,hs,hl,hk⟩
      · rename_i hb;rw [hb];exact ⟨fr2,hp2,hs,hl,hk⟩
    | _=>exact ⟨fr2,hp2,hs,hl,hk⟩
  | .loop x,fr,hp,K,h=>VLoop.ok (f:=Go.Proofs.YtekdhljpmflboaaGreat.vc T H Rl ks nt x) (fun fr hp K h=>y13 hn hR hσ x h) h
  | .exit id,fr,hp,K,h=>tEx (zd6 (fun _=>rfl) h)
  | .ret,fr,hp,K,h=>tRt (zd6 (fun _=>rfl) h)
  | .scope _,_,_,_,h=>h.elim
  | .rangeFunc ..,_,_,_,h=>h.elim
  | .label _,_,_,_,h=>h.elim
  | .goto _,_,_,_,h=>h.elim
  | .refuse _,_,_,_,h=>h.elim
def SubI (x y:IV):Prop:=∀ F ρ σ w v,RepI F ρ σ w x v->RepI F ρ σ w y v
theorem sI {x:IV}:SubI x x:=fun _ _ _ _ _ h=>h
theorem sE {x y:IV} (h:x=y):SubI x y:=fun _ _ _ _ _ hv=>h ▸ hv
inductive VEnd (x r:IV) (post:List (Nat × HO)) (hp:Hp):Prop
  | mk (hr:SubI x r) (hh:subH hp post)
def vend (T:TB P) (rs:List ResultVar) (r:IV) (post:List (Nat × HO)) (fr:Fr) (hp:Hp):Prop:=match rs with
  | []=>VEnd (.tup []) r post hp
  | [.tmp t]=>vopt (fr.get t) fun x=>VEnd x r post hp
  | [.tmp t,.tmp u]=>vopt (fr.get t) fun x=>vopt (fr.get u) fun y=>VEnd (.tup [x,y]) r post hp
  | [.tmp t,.tmp u,.tmp v]=>vopt (fr.get t) fun x=>vopt (fr.get u) fun y=>vopt (fr.get v) fun z=>VEnd (.tup [x,y,z]) r post hp
  | [.cell q t]=>yl6 T t fr hp (.tmp q) fun s=>match s with
    | ⟨x,_,_,_⟩=>VEnd x r post hp
  | [.cell q t,.tmp b]=>yl6 T t fr hp (.tmp q) fun s=>match s with
    | ⟨x,_,_,_⟩=>vopt (fr.get b) fun y=>VEnd (.tup [x,y]) r post hp
  | _=>False
def vret (T:TB P) (rs:List ResultVar) (r:IV) (post:List (Nat × HO)):Exit->Fr->Hp->Prop
  | .ret,fr,hp=>vend T rs r post fr hp
  | .normal,fr,hp=>vend T rs r post fr hp
  | _,_,_=>False
theorem y3a {t:Nat} {y:Operand} {K:Stp->Prop} (h:yl6 T t fr hp y K):∃ x rd,K ⟨x,[],rd,[]⟩/\∀ (c:Cx) (o:Oper),o.op = .load t y->OkV P c (fun _=>True) o fr (look hp) x:=by
  obtain ⟨a,ea,h⟩:=z1i h
  replace h:=z1z h
  obtain ⟨e,he,h⟩:=h
  obtain ⟨d,hd,hi⟩:=z4c he
  have hrow:=TI.is_row hi
  split at h
  · split at h
    · rename_i hr
      replace h:=z0y h
      obtain ⟨z,hz,h⟩:=h
      exact ⟨_,_,h,fun c o ho=>z7j ho ea hd (hrow.trans hr) hz⟩
    · rename_i hr
      replace h:=z0i h
      obtain ⟨hn,h⟩:=h
      exact ⟨_,_,z6x (K:=fun l=>K ⟨.pv (.agg l),[],[],[]⟩) h,fun c o ho=>lEA ho ea hd (hrow.trans hr) (z2g he) (Nat.le_of_ble_eq_true hn)⟩
  · replace h:=z4z h
    obtain ⟨cs,hk,h⟩:=h
    split at h
    · rename_i hr
      replace h:=z0y h
      obtain ⟨z,hz,h⟩:=h
      exact ⟨_,_,h,fun c o ho=>z7i ho ea hk hd (hrow.trans hr) hz trivial⟩
    · rename_i hr
      replace h:=z0i h
      obtain ⟨hn,h⟩:=h
      split at h
      · rename_i ps hps
        exact ⟨_,_,z6x (K:=fun l=>K ⟨.pv (.agg l),[],[_],[]⟩) h,fun c o ho=>lBP ho ea hk hd (hrow.trans hr) (z2g he) (Nat.le_of_ble_eq_true hn) hps trivial⟩
      · exact ⟨_,_,z5c (K:=fun l=>K ⟨.agg l,[],[_],[]⟩) h,fun c o ho=>z66 ho ea hk hd (hrow.trans hr) (z2g he) (Nat.le_of_ble_eq_true hn) trivial⟩
  · replace h:=z6j h
    obtain ⟨s,els,hk,h⟩:=h
    split at h
    · rename_i hr
      obtain ⟨hn,hoff,h1,h2,h⟩:=h
      exact ⟨_,_,h,fun c o ho=>lRw ho ea hk hn hoff h1 h2 hd (hrow.trans hr) trivial⟩
    · rename_i hr
      replace h:=z0i h
      obtain ⟨hq,h⟩:=h
      obtain ⟨hn,hoff,h1,h⟩:=h
      exact ⟨_,_,h,fun c o ho=>z8p ho ea hk hn hoff h1 hd (hrow.trans hr) (by rw [z2g he,Nat.eq_of_beq_eq_true hq]) trivial⟩
  · exact h.elim
theorem vend_ok {fn:Func} {r:IV} {post:List (Nat × HO)} (h:vend T fn.results.toList r post fr hp):(∀ k o,look (up post) k=some o->look hp k=some o)/\∀ (c:Cx) ρ w a,All c ρ (look hp) w fr a->∃ v,(results fn a.tmps).run P w = .ok v w/\RepI c.F ρ (look hp) w r v:=by
  have fin:∀ {x:IV},VEnd x r post hp->(∀ (c:Cx) ρ w a,All c ρ (look hp) w fr a->∃ v,(results fn a.tmps).run P w = .ok v w/\RepI c.F ρ (look hp) w x v)->(∀ k o,look (up post) k=some o->look hp k=some o)/\∀ (c:Cx) ρ w a,All c ρ (look hp) w fr a->∃ v,(results fn a.tmps).run P w = .ok v w/\RepI c.F ρ (look hp) w r v:=by
    rintro x ⟨hr,hh⟩ hx
    exact ⟨fun k o hk=>zf2 hh (z16 hk),fun c ρ w a ha=>by
      obtain ⟨v,h1,h2⟩:=hx c ρ w a ha
      exact ⟨v,h1,hr _ _ _ _ _ h2⟩⟩
  have tmps:∀ {x:IV},zu2 fn fr=some x->∀ (c:Cx) ρ w a,All c ρ (look hp) w fr a->∃ v,(results fn a.tmps).run P w = .ok v w/\RepI c.F ρ (look hp) w x v:=fun hx c ρ w a ha=>zi3 (P:=P) ha hx
  have arr:∀ {l:List ResultVar},fn.results.toList=l->fn.results=l.toArray:=fun hl=>by rw [<- hl]
  unfold vend at h
  split at h
  · rename_i hl;exact fin h (tmps (by simp [zu2,hl]))
  · rename_i t hl
    obtain ⟨x,hx,h⟩:=z0y h
    exact fin h (tmps (by simp [zu2,hl,hx]))
  · rename_i t u hl
    obtain ⟨x,hx,h⟩:=z0y h
    obtain ⟨y,hy,h⟩:=z0y h
    exact fin h (tmps (by simp [zu2,hl,hx,hy]))
  · rename_i t u v hl
    obtain ⟨x,hx,h⟩:=z0y h
    obtain ⟨y,hy,h⟩:=z0y h
    obtain ⟨z,hz,h⟩:=z0y h
    exact fin h (tmps (by simp [zu2,hl,hx,hy,hz]))
  · rename_i q t hl
    obtain ⟨x,rd,h,hv⟩:=y3a h
    refine fin h fun c ρ w a ha=>?_
    obtain ⟨v,ad,h1,h2,h3⟩:=y4h ha (fun c o ho=>hv c o ho)
    refine ⟨v,?_,h3⟩
    simp [results,arr hl,h1,h2,Sem.run_bind]
  · rename_i q t b hl
    obtain ⟨x,rd,h,hv⟩:=y3a h
    obtain ⟨y,hy,h⟩:=z0y h
    refine fin h fun c ρ w a ha=>?_
    obtain ⟨v,ad,h1,h2,h3⟩:=y4h ha (fun c o ho=>hv c o ho)
    obtain ⟨v',hv',h1'⟩:=ha.fr b y hy
    refine ⟨.tuple #[v,v'],?_,yk6 h3 h1'⟩
    simp [results,arr hl,h1,h2,hv',Sem.run_bind]
  · exact h.elim
theorem retL_ok {fn:Func} {r:IV} {post:List (Nat × HO)} {e:Exit} {fr:Fr} {σ:Heap'} (h:zz9 (vret T fn.results.toList r post) e fr σ):(e = .ret∨e = .normal)/\(∀ k o,look (up post) k=some o -> σ k=some o)/\∀ (c:Cx) ρ w a,All c ρ σ w fr a->∃ v ρ',(results fn a.tmps).run P w = .ok v w/\All c ρ' (look (up post)) w fr a/\RepI c.F ρ' (look (up post)) w r v:=by
  obtain ⟨fr2,hp2,hs,hl,hk⟩:=h
  have key:vend T fn.results.toList r post fr2 hp2->(∀ k o,look (up post) k=some o -> σ k=some o)/\∀ (c:Cx) ρ w a,All c ρ σ w fr a->∃ v ρ',(results fn a.tmps).run P w = .ok v w/\All c ρ' (look (up post)) w fr a/\RepI c.F ρ' (look (up post)) w r v:=fun hk=>by
    obtain ⟨h1,h2⟩:=vend_ok hk
    refine ⟨fun k o hk=>hl k o (h1 k o hk),fun c ρ w a ha=>?_⟩
    obtain ⟨ρ1,ha1,keep1⟩:=ha.restrict hl
    obtain ⟨ρ2,ha2,keep2⟩:=ha1.restrict h1
    have hsub:All c ρ1 (look hp2) w fr2 a:=⟨ha1.rel,fun t y hy=>by
      obtain ⟨x,hx,hr⟩:=hs t y hy
      obtain ⟨v,hv,h3⟩:=ha.fr t x hx
      exact ⟨v,hv,keep1 _ _ (hr _ _ _ _ h3)⟩,ha1.tr,ha1.df,ha1.sz⟩
    obtain ⟨v,hv,h4⟩:=h2 c ρ1 w a hsub
    exact ⟨v,ρ2,hv,ha2,keep2 _ _ h4⟩
  cases e with
  | ret=>exact ⟨.inl rfl,key hk⟩
  | normal=>exact ⟨.inr rfl,key hk⟩
  | _=>exact hk.elim
theorem SC.vc {f:FuncId} {fn:Func} {code:Code} {args:List IV} {pre post:List (Nat × HO)} {r:IV} (T:TB P) (H:Hn) (Rl:List Nat) (hf:P.funcs[f]? = some fn) (hb:fn.body=some code) (hn:Nat.ble args.length fn.ntmps=true)
    (h:Go.Proofs.YtekdhljpmflboaaGreat.vc T H Rl (pre.map (·.1)) fn.ntmps code (frOf 0 args) (up pre) (vret T fn.results.toList r post)):SC P f args pre (fun k=>k∈Rl) r post:=by
  intro F ρ w vs hrel hargs
  refine calls_of_wp hf hb ?_
  have ha:All ⟨F,fun k=>k∈Rl,ρ,look (up pre),w,fn.ntmps⟩ ρ (look (up pre)) w (frOf 0 args) { tmps:=vs.toArray++Array.replicate (fn.ntmps - vs.toArray.size) undef,defers:=[] }:=by
    refine ⟨hrel,fun t x hx=>?_,.refl _ _ _ _ _,rfl,?_⟩
    · obtain ⟨v,hv,hr⟩:=hargs.2 t x (by simpa using (zl3 hx).2)
      refine ⟨v,?_,hr⟩
      rw [Array.getElem?_append_left (by simpa using (List.getElem?_eq_some_iff.1 hv).1)]
      simpa using hv
    · have:=hargs.1
      have:=Nat.le_of_ble_eq_true hn
      simp;omega
  have hσ:∀ k,look (up pre) k≠none->k∈pre.map (·.1):=fun k hk=>by
    refine Classical.byContradiction fun hn=>hk (z1f.2 hn)
  refine wp_mono (y13 (c:=⟨F,fun k=>k∈Rl,ρ,look (up pre),w,fn.ntmps⟩) rfl (fun _ h=>h) hσ code h ρ w _ ha) fun e a' w' hq=>?_
  obtain ⟨ρ',σ',fr',ha',hq⟩:=hq
  obtain ⟨he,_,hres⟩:=retL_ok hq
  obtain ⟨v,ρ'',hv,ha'',h1⟩:=hres _ ρ' w' a' ha'
  rcases he with rfl | rfl
  · exact ⟨ha'.df,v,hv,ρ'',v,rfl,h1,ha''.rel,ha''.tr⟩
  · exact ⟨ha'.df,v,hv,ρ'',v,rfl,h1,ha''.rel,ha''.tr⟩
end
theorem slq {k m n:Nat} (h:m=n):some (IV.sl k m)=some (IV.sl k n):=h ▸ rfl
theorem rwq {s:RT} {a b:List (List PV)} (h:a=b):some (HO.row s a)=some (HO.row s b):=h ▸ rfl
theorem mpq {a b:List (Value × PV)} (h:a=b):some (HO.map a)=some (HO.map b):=h ▸ rfl
theorem boq {a b:List IV} (h:a=b):some (HO.box a)=some (HO.box b):=h ▸ rfl
theorem ivq {a b:Int} (h:a=b):some (iInt a)=some (iInt b):=h ▸ rfl
theorem z2s {α:Type} {l:List α} {k:Nat} (h:k<l.length):∃ x,l[k]? = some x/\l.take (k+1)=l.take k++[x]/\l.drop k=x::l.drop (k+1)/\x∈l :=
  ⟨l[k],List.getElem?_eq_getElem h,by rw [List.take_append_getElem],List.drop_eq_getElem_cons h,List.getElem_mem h⟩
theorem z41 {l:List (List PV)} {α:Type} {f:α -> List PV} {a:List α} {k:Nat} (hl:l=a.map f) (h:decide ((k:Int)<l.length)=true):k<a.length:=by subst hl;simpa using h
theorem z47 {l:List (List PV)} {α:Type} {f:α -> List PV} {a:List α} {k:Nat} (hl:l=a.map f) (h:decide ((k:Int)<l.length)=false):a.length<=k:=by subst hl;simpa using h
theorem at0 {α:Type} {a:α} {r:List α}:(a::r)[0]? = some a:=rfl
theorem at1 {α:Type} {a b:α} {r:List α}:(a::b::r)[1]? = some b:=rfl
theorem z0g {n k:Nat} (h:k<n):n - (k+1)<n - k:=by omega
theorem sN:SubI (.pv (.val (.slice none 0 0))) (.pv (.seq [])):=fun _ _ _ _ _ h=>y42 h
theorem SubA.cons {x y:IV} {xs ys:List IV} (h:SubI x y) (hs:SubA xs ys):SubA (x::xs) (y::ys):=fun σ=>Subs.cons (fun _ _ _ _ hv=>h _ _ _ _ _ hv) (hs σ)
theorem SubA.same {x:IV} {xs ys:List IV} (hs:SubA xs ys):SubA (x::xs) (x::ys):=SubA.cons sI hs
theorem SubA.nil:SubA [] []:=sR
theorem sP {p q:PV} (h:PSub p q):SubI (.pv p) (.pv q):=fun _ _ _ _ _ hv=>z90 h hv
theorem sT2 {x x' y:IV} (h:SubI x x'):SubI (.tup [x,y]) (.tup [x',y]):=fun _ _ _ _ _ hv=>tup2_sub (fun v hv=>h _ _ _ _ v hv) hv
def tabE:List (Nat × TE):=[(2,⟨.int .i64,1,8,[.int .i64]⟩),
  (3,⟨.int .i64,1,8,[.int .i64]⟩),
  (4,⟨.bool,1,1,[.bool]⟩),
  (5,⟨.int .u8,1,1,[.int .u8]⟩),
  (6,⟨.int .u8,1,1,[.int .u8]⟩),
  (7,⟨.struct [(0,2),(1,3),(2,4),(3,6)],4,24,[.int .i64,.int .i64,.bool,.int .u8]⟩),
  (8,⟨.struct [(0,2),(1,3),(2,4),(3,6)],4,24,[.int .i64,.int .i64,.bool,.int .u8]⟩),
  (9,⟨.str,1,16,[.str]⟩),
  (10,⟨.str,1,16,[.str]⟩),
  (11,⟨.str,1,16,[.str]⟩),
  (12,⟨.int .u64,1,8,[.int .u64]⟩),
  (13,⟨.struct [(0,9),(1,12)],2,24,[.str,.int .u64]⟩),
  (14,⟨.struct [(0,9),(1,12)],2,24,[.str,.int .u64]⟩),
  (15,⟨.one,1,8,[.ptr]⟩),
  (16,⟨.one,1,8,[.ptr]⟩),
  (17,⟨.one,1,8,[.ptr]⟩),
  (18,⟨.struct [(0,17)],1,8,[.ptr]⟩),
  (19,⟨.struct [(0,17)],1,8,[.ptr]⟩),
  (21,⟨.int .i32,1,4,[.int .i32]⟩),
  (22,⟨.slice 49,1,24,[.slice]⟩),
  (23,⟨.slice 51,1,24,[.slice]⟩),
  (24,⟨.struct [(0,22),(1,23)],2,48,[.slice,.slice]⟩),
  (25,⟨.struct [(0,22),(1,23)],2,48,[.slice,.slice]⟩),
  (29,⟨.slice 5,1,24,[.slice]⟩),
  (31,⟨.int .i64,1,8,[.int .i64]⟩),
  (35,⟨.slice 3,1,24,[.slice]⟩),
  (40,⟨.slice 43,1,24,[.slice]⟩),
  (41,⟨.struct [(0,3),(1,3),(2,3),(3,9),(4,35),(5,35),(6,35),(7,40)],8,136,[.int .i64,.int .i64,.int .i64,.str,.slice,.slice,.slice,.slice]⟩),
  (42,⟨.struct [(0,3),(1,3),(2,3),(3,9),(4,35),(5,35),(6,35),(7,40)],8,136,[.int .i64,.int .i64,.int .i64,.str,.slice,.slice,.slice,.slice]⟩),
  (43,⟨.slice 42,1,24,[.slice]⟩),
  (45,⟨.struct [(0,3),(1,3),(2,35),(3,3),(4,3)],5,56,[.int .i64,.int .i64,.slice,.int .i64,.int .i64]⟩),
  (46,⟨.struct [(0,3),(1,3),(2,35),(3,3),(4,3)],5,56,[.int .i64,.int .i64,.slice,.int .i64,.int .i64]⟩),
  (48,⟨.struct [(0,9),(1,3)],2,24,[.str,.int .i64]⟩),
  (49,⟨.struct [(0,9),(1,3)],2,24,[.str,.int .i64]⟩),
  (50,⟨.struct [(0,9),(1,3),(2,3),(3,35),(4,43)],5,80,[.str,.int .i64,.int .i64,.slice,.slice]⟩),
  (51,⟨.struct [(0,9),(1,3),(2,3),(3,35),(4,43)],5,80,[.str,.int .i64,.int .i64,.slice,.slice]⟩),
  (55,⟨.one,1,8,[.ptr]⟩),
  (56,⟨.struct [(0,29),(1,3),(2,35),(3,3)],4,64,[.slice,.int .i64,.slice,.int .i64]⟩),
  (57,⟨.struct [(0,29),(1,3),(2,35),(3,3)],4,64,[.slice,.int .i64,.slice,.int .i64]⟩),
  (59,⟨.map 3 3,1,8,[.map]⟩),
  (60,⟨.struct [(0,59)],1,8,[.map]⟩),
  (61,⟨.struct [(0,59)],1,8,[.map]⟩),
  (67,⟨.one,1,8,[.ptr]⟩),
  (68,⟨.slice 35,1,24,[.slice]⟩),
  (69,⟨.struct [(0,25),(2,35),(3,68),(4,46),(9,4)],10,160,[.slice,.slice,.slice,.slice,.int .i64,.int .i64,.slice,.int .i64,.int .i64,.bool]⟩),
  (70,⟨.struct [(0,25),(2,35),(3,68),(4,46),(9,4)],10,160,[.slice,.slice,.slice,.slice,.int .i64,.int .i64,.slice,.int .i64,.int .i64,.bool]⟩),
  (76,⟨.struct [(0,4),(1,4),(2,35),(3,35),(4,35)],5,80,[.bool,.bool,.slice,.slice,.slice]⟩),
  (77,⟨.struct [(0,4),(1,4),(2,35),(3,35),(4,35)],5,80,[.bool,.bool,.slice,.slice,.slice]⟩),
  (81,⟨.struct [(0,3),(1,35)],2,32,[.int .i64,.slice]⟩),
  (82,⟨.struct [(0,3),(1,35)],2,32,[.int .i64,.slice]⟩),
  (85,⟨.one,1,8,[.ptr]⟩),
  (86,⟨.slice 4,1,24,[.slice]⟩),
  (87,⟨.struct [(0,25),(2,51),(7,86)],8,152,[.slice,.slice,.str,.int .i64,.int .i64,.slice,.slice,.slice]⟩),
  (88,⟨.struct [(0,25),(2,51),(7,86)],8,152,[.slice,.slice,.str,.int .i64,.int .i64,.slice,.slice,.slice]⟩),
  (90,⟨.struct [(0,4),(1,4),(2,35),(3,35),(4,35)],5,80,[.bool,.bool,.slice,.slice,.slice]⟩),
  (95,⟨.map 9 3,1,8,[.map]⟩),
  (98,⟨.one,1,8,[.ptr]⟩),
  (99,⟨.struct [(0,25),(2,51),(7,35)],8,152,[.slice,.slice,.str,.int .i64,.int .i64,.slice,.slice,.slice]⟩),
  (100,⟨.struct [(0,25),(2,51),(7,35)],8,152,[.slice,.slice,.str,.int .i64,.int .i64,.slice,.slice,.slice]⟩),
  (102,⟨.struct [(0,4),(1,4),(2,35),(3,35),(4,35)],5,80,[.bool,.bool,.slice,.slice,.slice]⟩),
  (103,⟨.struct [(0,4),(1,4),(2,35),(3,35),(4,35)],5,80,[.bool,.bool,.slice,.slice,.slice]⟩),
  (131,⟨.int .u64,1,8,[.int .u64]⟩),
  (141,⟨.struct [(0,9),(1,3)],2,24,[.str,.int .i64]⟩),
  (142,⟨.struct [(0,9),(1,3)],2,24,[.str,.int .i64]⟩),
  (145,⟨.arr 29 142,58,696,[.str,.int .i64,.str,.int .i64,.str,.int .i64,.str,.int .i64,.str,.int .i64,.str,.int .i64,.str,.int .i64,.str,.int .i64,.str,.int .i64,.str,.int .i64,.str,.int .i64,.str,.int .i64,.str,.int .i64,.str,.int .i64,.str,.int .i64,.str,.int .i64,.str,.int .i64,.str,.int .i64,.str,.int .i64,.str,.int .i64,.str,.int .i64,.str,.int .i64,.str,.int .i64,.str,.int .i64,.str,.int .i64,.str,.int .i64,.str,.int .i64,.str,.int .i64,.str,.int .i64]⟩),
  (147,⟨.struct [(0,17),(1,17),(2,17),(3,9)],4,40,[.ptr,.ptr,.ptr,.str]⟩),
  (148,⟨.struct [(0,17),(1,17),(2,17),(3,9)],4,40,[.ptr,.ptr,.ptr,.str]⟩),
  (149,⟨.arr 0 16,0,0,[]⟩),
  (150,⟨.struct [(0,149)],0,0,[]⟩),
  (151,⟨.struct [(0,149)],0,0,[]⟩),
  (153,⟨.int .u32,1,4,[.int .u32]⟩),
  (154,⟨.int .u8,1,1,[.int .u8]⟩),
  (155,⟨.int .u8,1,1,[.int .u8]⟩),
  (157,⟨.one,1,8,[.ptr]⟩),
  (158,⟨.int .i32,1,4,[.int .i32]⟩),
  (159,⟨.int .i32,1,4,[.int .i32]⟩),
  (160,⟨.struct [(0,12),(1,12),(2,153),(3,154),(4,5),(5,5),(6,155),(7,156),(8,157),(9,158),(10,159)],11,48,[.int .u64,.int .u64,.int .u32,.int .u8,.int .u8,.int .u8,.int .u8,.fn,.ptr,.int .i32,.int .i32]⟩),
  (161,⟨.struct [(0,12),(1,12),(2,153),(3,154),(4,5),(5,5),(6,155),(7,156),(8,157),(9,158),(10,159)],11,48,[.int .u64,.int .u64,.int .u32,.int .u8,.int .u8,.int .u8,.int .u8,.fn,.ptr,.int .i32,.int .i32]⟩)]
def tabN:List Nat:=[2,3,4,5,6,7,8,9,10,11,12,13,14,15,16,17,18,19,20,21,22,23,24,25,26,27,28,29,30,31,32,33,34,35,36,37,38,39,40,41,42,43,44,45,46,47,48,49,50,51,52,53,54,55,56,57,58,59,60,61,62,63,64,65,66,67,68,69,70,71,72,73,74,75,76,77,78,79,80,81,82,83,84,85,86,87,88,89,90,91,92,93,94,95,96,97,98,99,100,101,102,103,104,105,106,107,108,109,110,111,112,113,114,115,116,117,118,119,120,121,122,123,124,125,126,127,128,129,130,131,132,133]
theorem tabE_ok:tAll Tryz.prog tabE=true:=by kernel_rfl
theorem tabN_ok:y1i Tryz.prog tabN=true:=by kernel_rfl
def tb:TB Tryz.prog:=mkTB Tryz.prog tabE tabN tabE_ok tabN_ok kR0
set_option maxRecDepth 20000
theorem idsR {pre:List (Nat × HO)} {k:Nat} (h:look (up pre) k≠none):k∈z8e pre:=by
  cases h2:look (up pre) k with
  | none=>exact absurd h2 h
  | some o=>exact List.mem_map_of_mem (z16 h2)
theorem z4h (u:Un) (s:Rs):SC Tryz.prog 31 [.ptr 1001 0] (rH u s) (fun _=>True) (iBool (z0z s)) (rH u s):=by
  obtain ⟨ins,ar,st,code,out,cost,fuel,spent⟩:=s
  cases ar with
  | nil =>
    refine SC.sameR (SC.vc tb {} [1001,1002] Tryz.func31 rfl rfl ?_) (fun k hk _=>idsR hk)
    cases spent<;>exact ⟨sI,rfl,rfl,trivial⟩
  | cons r t =>
    refine SC.sameR (SC.vc tb {} [1001,1002,1003,1004] Tryz.func31 rfl rfl ?_) (fun k hk _=>idsR hk)
    cases spent<;>exact ⟨sI,rfl,rfl,rfl,rfl,trivial⟩
theorem yi9 (u:Un) (s:Rs):SC Tryz.prog 71 [.ptr 1001 0] (rH u s) (fun _=>False) (iBool (z85 s).1) (rH u (z85 s).2):=by
  refine SC.sameR (SC.vc tb {} [] Tryz.func71 rfl rfl ?_) (fun k _ h=>h.elim)
  have h1:=z4h u s
  unfold z85
  generalize z0z s=b at h1 ⊢
  obtain ⟨ins,ar,st,code,out,cost,fuel,spent⟩:=s
  cases b with
  | true =>
    rcases ar with _ | ⟨r,t⟩
    · exact ⟨[],h1,sR,⟨rfl,rfl,trivial⟩,rfl,sI,rfl,rfl,trivial⟩
    · exact ⟨[],h1,sR,⟨rfl,rfl,rfl,rfl,trivial⟩,rfl,sI,rfl,rfl,rfl,rfl,trivial⟩
  | false =>
    by_cases hf:fuel<1
    · rw [if_neg dC0,if_pos hf]
      have hd:decide (fuel<1)=true:=decide_eq_true hf
      rcases ar with _ | ⟨r,t⟩
      · exact ⟨[],h1,sR,⟨rfl,rfl,trivial⟩,rfl,z00 (fun _=>⟨sI,rfl,rfl,trivial⟩) fun h=>absurd (hd.symm.trans h) dC0⟩
      · exact ⟨[],h1,sR,⟨rfl,rfl,rfl,rfl,trivial⟩,rfl,z00 (fun _=>⟨sI,rfl,rfl,rfl,rfl,trivial⟩) fun h=>absurd (hd.symm.trans h) dC0⟩
    · rw [if_neg dC0,if_neg hf]
      have hd:decide (fuel<1)=false:=decide_eq_false hf
      rcases ar with _ | ⟨r,t⟩
      · exact ⟨[],h1,sR,⟨rfl,rfl,trivial⟩,rfl,z00 (fun h=>absurd (hd.symm.trans h) dC0) fun _=>⟨rfl,sI,rfl,rfl,trivial⟩⟩
      · exact ⟨[],h1,sR,⟨rfl,rfl,rfl,rfl,trivial⟩,rfl,z00 (fun h=>absurd (hd.symm.trans h) dC0) fun _=>⟨rfl,sI,rfl,rfl,rfl,rfl,trivial⟩⟩
theorem eI0 {y:Int}:(eInt y)[0]? = some (vInt y):=rfl
theorem mOf_cons {v l o:List Int} {x:Int} (h:mOf v (x::l)=some o):∃ y r,0<=x/\v[x.toNat]? = some y/\mOf v l=some r/\o=y::r:=by
  simp only [mOf,getV] at h
  split at h
  · obtain ⟨y,h1,h2⟩:=Option.bind_eq_some_iff.1 h
    obtain ⟨r,h3,h4⟩:=Option.map_eq_some_iff.1 h2
    exact ⟨y,r,‹_›,h1,h3,h4.symm⟩
  · cases h
theorem sr_of (v l o:List Int) (h:mOf v l=some o) (hb:l.length<=1073741824):SC Tryz.prog 72 [.sl 510 (v.map eInt).length,.pv (ints l)] [(510,rowI v)] (fun k=>k=510) (.pv (ints o)) [(510,rowI v)]:=by
  refine SC.sameR (SC.vc tb { gh:=[(2,[.grow 5 105 3 1]),(6,[.fz 5 105])] } [510] Tryz.func72 rfl rfl ?_) (fun k _ h=>List.mem_singleton.2 h)
  refine ⟨Nat × List Int × List Int,fun (k,acc,_)=>[(6,iInt k),(5,.sl 105 (acc.map eInt).length)],fun (_,acc,_)=>[(105,.row ⟨3,1⟩ (acc.map eInt))],fun (k,_,_)=>l.length - k,fun (k,acc,rest)=>k<=l.length/\mOf v (l.drop k)=some rest/\o=acc++rest/\acc.length=k,[],(0,[],o),⟨Nat.zero_le _,h,rfl,rfl⟩,⟨rfl,rfl,trivial⟩,⟨rfl,trivial⟩,?_⟩
  rintro ⟨k,acc,rest⟩ ⟨hk,hm,ho,ha⟩
  refine z00 (fun hc=>?_) fun hc=>?_
  · have hlt:=z41 (f:=eInt) rfl hc
    obtain ⟨x,hx,_,hd,_⟩:=z2s hlt
    rw [hd] at hm
    obtain ⟨y,r,h0,h1,h2,rfl⟩:=mOf_cons hm
    have hi:x.toNat<(v.map eInt).length:=by have:=(List.getElem?_eq_some_iff.1 h1).1;simpa using this
    have hxn:x=((x.toNat:Nat):Int):=by omega
    exact ⟨z06 (f:=eInt) hx,rfl,rfl,hi,hxn,rfl,(Nat.add_zero _).symm,z06 (f:=eInt) h1,eI0,rfl,zg7 rfl,by simp;omega,z03 rfl oM0,(k+1,acc++[y],r),z0g hlt,⟨hlt,h2,by rw [ho];simp,by simp [ha]⟩,⟨rfl,slq sI0,trivial⟩,⟨rwq (by simp [eInt]),trivial⟩,rfl,rfl,rfl,rfl⟩
  · rw [List.drop_eq_nil_of_le (z47 (f:=eInt) rfl hc)] at hm
    cases hm
    exact ⟨rfl,sE (by rw [ho,List.append_nil];rfl),rfl,trivial⟩
theorem yc4 {v l n v':List Int} {x:Int} {k:Nat} (h:mSet v (x::l) (n.drop k)=some v'):∃ y,n[k]? = some y/\0<=x/\x.toNat<v.length/\mSet (v.set x.toNat y) l (n.drop (k+1))=some v':=by
  rcases hn:n.drop k with _ | ⟨y,r⟩
  · rw [hn] at h;cases h
  · rw [hn] at h
    have h2:n[k]? = some y:=by have:=congrArg (·[0]?) hn;simpa using this
    have h3:n.drop (k+1)=r:=by rw [<- List.tail_drop,hn];rfl
    simp only [mSet,setV] at h
    split at h
    · rename_i h4
      rw [h3]
      exact ⟨y,h2,h4.1,h4.2,h⟩
    · cases h
theorem zk5 (v l n v':List Int) (h:mSet v l n=some v'):SC Tryz.prog 73 [.sl 510 (v.map eInt).length,.pv (ints l),.pv (ints n)] [(510,rowI v)] (fun _=>False) (.tup []) [(510,rowI v')]:=by
  refine SC.sameR (SC.vc tb { gh:=[(0,[.len 1])] } [] Tryz.func73 rfl rfl ?_) (fun k _ h=>h.elim)
  intro hl
  replace hl:(l.map eInt).length<=maxLen:=hl
  simp only [List.length_map,maxLen] at hl
  refine ⟨Nat × List Int,fun (k,_)=>[(6,iInt k)],fun (_,w)=>[(510,rowI w)],fun (k,_)=>l.length - k,fun (k,w)=>k<=l.length/\mSet w (l.drop k) (n.drop k)=some v'/\w.length=v.length,[],(0,v),⟨Nat.zero_le _,h,rfl⟩,⟨rfl,trivial⟩,⟨rfl,trivial⟩,?_⟩
  rintro ⟨k,w⟩ ⟨hk,hm,hw⟩
  refine z00 (fun hc=>?_) fun hc=>?_
  · have hlt:=z41 (f:=eInt) rfl hc
    obtain ⟨x,hx,_,hd,_⟩:=z2s hlt
    rw [hd] at hm
    obtain ⟨y,hy,hw0,h1,hm⟩:=yc4 hm
    have hi:x.toNat<(v.map eInt).length:=by rw [hw] at h1;simpa using h1
    have hxn:x=((x.toNat:Nat):Int):=by omega
    have hwl:(w.map eInt).length=(v.map eInt).length:=by simp [hw]
    have hz:w[x.toNat]? = some (w[x.toNat]'h1):=List.getElem?_eq_getElem h1
    exact ⟨z06 (f:=eInt) hx,rfl,z06 (f:=eInt) hy,rfl,hwl,hi,hxn,x.toNat,0,_,hwl,(Nat.add_zero _).symm,z06 (f:=eInt) hz,Nat.zero_lt_one,z03 rfl oM0,(k+1,w.set x.toNat y),z0g hlt,⟨hlt,hm,by simp [hw]⟩,⟨rfl,trivial⟩,⟨rwq (by simp [eInt,List.map_set]),trivial⟩,rfl,rfl,rfl,rfl⟩
  · rw [List.drop_eq_nil_of_le (z47 (f:=eInt) rfl hc)] at hm
    cases hm
    exact ⟨sI,rfl,trivial⟩
set_option maxRecDepth 20000
set_option maxHeartbeats 2000000
theorem z7q (b:Bool):SC Tryz.prog 113 [iBool b] [] (fun _=>False) (iInt (y23 b)) []:=by
  refine SC.anyR (SC.vc tb {} [] Tryz.func113 rfl rfl ?_)
  cases b with
  | true=>exact ⟨sI,trivial⟩
  | false=>exact ⟨sI,trivial⟩
theorem yf4 (op a:Int):SC Tryz.prog 97 [iInt op,iInt a] [] (fun _=>False) (iInt (mOne op a)) []:=by
  refine SC.anyR (SC.vc tb {} [] Tryz.func97 rfl rfl ?_)
  rcases (show op=20∨op=21∨op=22∨op=26∨op=27∨op=28∨op=23∨op=24∨op=25∨(op≠20/\op≠21/\op≠22/\op≠26/\op≠27/\op≠28/\op≠23/\op≠24/\op≠25) by omega) with rfl | rfl | rfl | rfl | rfl | rfl | rfl | rfl | rfl | hk
  · exact ⟨rfl,sI,trivial⟩
  · exact ⟨rfl,sI,trivial⟩
  · exact ⟨[],z7q (a==0),sR,trivial,rfl,sI,trivial⟩
  · exact ⟨rfl,sI,trivial⟩
  · exact ⟨rfl,sI,trivial⟩
  · exact ⟨rfl,sI,trivial⟩
  · exact ⟨rfl,rfl,rfl,sI,trivial⟩
  · exact ⟨rfl,rfl,rfl,sI,trivial⟩
  · exact ⟨rfl,rfl,rfl,sI,trivial⟩
  · obtain ⟨k20,k21,k22,k26,k27,k28,k23,k24,k25⟩:=hk
    have no:∀ {i:Int},op≠i->(op==i)=true->False:=fun h e=>h (eq_of_beq e)
    have ne:∀ {i:Int},op≠i->(op==i)=false:=fun h=>beq_eq_false_iff_ne.2 h
    rw [show mOne op a=0 by unfold mOne;simp only [ne k20,ne k21,ne k22,ne k26,ne k27,ne k28,ne k23,ne k24,ne k25];rfl]
    exact z00 (fun h=>(no k20 h).elim) fun _=>z00 (fun h=>(no k21 h).elim) fun _=>z00 (fun h=>(no k22 h).elim) fun _=>z00 (fun h=>(no k26 h).elim) fun _=>z00 (fun h=>(no k27 h).elim) fun _=>z00 (fun h=>(no k28 h).elim) fun _=>z00 (fun h=>(no k23 h).elim) fun _=>z00 (fun h=>(no k24 h).elim) fun _=>z00 (fun h=>(no k25 h).elim) fun _=>⟨sI,trivial⟩
theorem sc_mTwo (op a b:Int):SC Tryz.prog 98 [iInt op,iInt a,iInt b] [] (fun _=>False) (.tup [iInt (mTwo op a b).1,iBool (mTwo op a b).2]) []:=by
  refine SC.anyR (SC.vc tb {} [] Tryz.func98 rfl rfl ?_)
  have h63:=and63 b
  rcases (show op=1∨op=2∨op=3∨op=4∨op=5∨op=6∨op=7∨op=8∨op=9∨op=10∨op=11∨op=12∨op=13∨op=14∨op=15∨op=16∨op=17∨(op≠1/\op≠2/\op≠3/\op≠4/\op≠5/\op≠6/\op≠7/\op≠8/\op≠9/\op≠10/\op≠11/\op≠12/\op≠13/\op≠14/\op≠15/\op≠16/\op≠17) by omega) with rfl | rfl | rfl | rfl | rfl | rfl | rfl | rfl | rfl | rfl | rfl | rfl | rfl | rfl | rfl | rfl | rfl | hk
  · exact ⟨rfl,sI,trivial⟩
  · exact ⟨rfl,sI,trivial⟩
  · exact ⟨rfl,sI,trivial⟩
  · cases hb:(b==0) with
    | true =>
      rw [show mTwo 4 a b=(0,false) by unfold mTwo;rw [hb];rfl]
      exact z00 (fun _=>⟨sI,trivial⟩) fun h=>absurd (hb.symm.trans h) dC0
    | false =>
      have hb0:b≠0:=by simpa using hb
      rw [show mTwo 4 a b=(w64 (a.tdiv b),true) by unfold mTwo;rw [hb];rfl]
      exact z00 (fun h=>absurd (hb.symm.trans h) dC0) fun _=>⟨show z3x .quo .i64 a b=some (.int .i64 (w64 (a.tdiv b))) by simp [z3x,w64,hb0],sI,trivial⟩
  · cases hb:(b==0) with
    | true =>
      rw [show mTwo 5 a b=(0,false) by unfold mTwo;rw [hb];rfl]
      exact z00 (fun _=>⟨sI,trivial⟩) fun h=>absurd (hb.symm.trans h) dC0
    | false =>
      have hb0:b≠0:=by simpa using hb
      rw [show mTwo 5 a b=(a.tmod b,true) by unfold mTwo;rw [hb];rfl]
      exact z00 (fun h=>absurd (hb.symm.trans h) dC0) fun _=>⟨show z3x .rem .i64 a b=some (.int .i64 (a.tmod b)) by simp [z3x,w64,hb0],sI,trivial⟩
  · exact ⟨rfl,sI,trivial⟩
  · exact ⟨rfl,sI,trivial⟩
  · exact ⟨rfl,sI,trivial⟩
  · exact ⟨rfl,h63,sI,trivial⟩
  · exact ⟨rfl,h63,sI,trivial⟩
  · exact ⟨rfl,h63,sI,trivial⟩
  · exact ⟨[],z7q (decide (a<b)),sR,trivial,rfl,sI,trivial⟩
  · exact ⟨[],z7q (decide (a<=b)),sR,trivial,rfl,sI,trivial⟩
  · exact ⟨[],z7q (decide (a > b)),sR,trivial,rfl,sI,trivial⟩
  · exact ⟨[],z7q (decide (a ≥ b)),sR,trivial,rfl,sI,trivial⟩
  · exact ⟨[],z7q (a==b),sR,trivial,rfl,sI,trivial⟩
  · exact ⟨[],z7q (a != b),sR,trivial,rfl,sI,trivial⟩
  · obtain ⟨k1,k2,k3,k4,k5,k6,k7,k8,k9,k10,k11,k12,k13,k14,k15,k16,k17⟩:=hk
    have no:∀ {i:Int},op≠i->(op==i)=true->False:=fun h e=>h (eq_of_beq e)
    have ne:∀ {i:Int},op≠i->(op==i)=false:=fun h=>beq_eq_false_iff_ne.2 h
    rw [show mTwo op a b=(0,false) by unfold mTwo;simp only [ne k1,ne k2,ne k3,ne k4,ne k5,ne k6,ne k7,ne k8,ne k9,ne k10,ne k11,ne k12,ne k13,ne k14,ne k15,ne k16,ne k17];rfl]
    exact z00 (fun h=>(no k1 h).elim) fun _=>z00 (fun h=>(no k2 h).elim) fun _=>z00 (fun h=>(no k3 h).elim) fun _=>z00 (fun h=>(no k4 h).elim) fun _=>z00 (fun h=>(no k5 h).elim) fun _=>z00 (fun h=>(no k6 h).elim) fun _=>z00 (fun h=>(no k7 h).elim) fun _=>z00 (fun h=>(no k8 h).elim) fun _=>z00 (fun h=>(no k9 h).elim) fun _=>z00 (fun h=>(no k10 h).elim) fun _=>z00 (fun h=>(no k11 h).elim) fun _=>z00 (fun h=>(no k12 h).elim) fun _=>z00 (fun h=>(no k13 h).elim) fun _=>z00 (fun h=>(no k14 h).elim) fun _=>z00 (fun h=>(no k15 h).elim) fun _=>z00 (fun h=>(no k16 h).elim) fun _=>z00 (fun h=>(no k17 h).elim) fun _=>⟨sI,trivial⟩
set_option maxRecDepth 20000
set_option maxHeartbeats 2000000
theorem sc_r8in (l:List Int) (n:Int):SC Tryz.prog 114 [.pv (ints l),iInt n] [] (fun _=>False) (iBool (l.contains n)) []:=by
  refine SC.anyR (SC.vc tb { gh:=[(0,[.len 0])] } [] Tryz.func114 rfl rfl ?_)
  intro hl
  simp only [List.length_map] at hl
  refine ⟨Nat,fun k=>[(5,iInt k)],fun _=>[],fun k=>l.length - k,fun k=>k<=l.length/\l.contains n=(l.drop k).contains n,[],0,⟨Nat.zero_le _,rfl⟩,⟨rfl,trivial⟩,trivial,?_⟩
  rintro k ⟨hk,hI⟩
  refine z00 (fun hc=>?_) fun hc=>?_
  · have hlt:=z41 (f:=eInt) rfl hc
    obtain ⟨x,hx,_,hd,_⟩:=z2s hlt
    rw [hd,List.contains_cons] at hI
    refine ⟨z06 (f:=eInt) hx,rfl,z00 (fun h=>?_) fun h=>?_⟩
    · have e:(n==x)=true:=by
        have:x=n:=by simpa using h
        simp [this]
      exact ⟨sE (by rw [hI,e];rfl),trivial⟩
    · have e:(n==x)=false:=by
        have:¬ x=n:=by simpa using h
        simpa using fun h=>this h.symm
      exact ⟨z03 rfl oM0,k+1,z0g hlt,⟨hlt,by rw [hI,e];rfl⟩,⟨rfl,trivial⟩,trivial,rfl,rfl,rfl,rfl⟩
  · rw [List.drop_eq_nil_of_le (z47 (f:=eInt) rfl hc)] at hI
    exact ⟨sE (by rw [hI];rfl),trivial⟩
theorem z4l (u:Un) (name:ByteArray):SC Tryz.prog 30 [.pv u.enc,iStr name] [] (fun _=>False) (iInt (z04 name u.flows 0)) []:=by
  refine SC.anyR (SC.vc tb { gh:=[(4,[.len 8])] } [] Tryz.func30 rfl rfl ?_)
  refine ⟨Nat,fun k=>[(5,iInt k)],fun _=>[],fun k=>u.flows.length - k,fun k=>k<=u.flows.length/\z04 name u.flows 0=z04 name (u.flows.drop k) k,[],0,⟨Nat.zero_le _,rfl⟩,⟨rfl,trivial⟩,trivial,?_⟩
  rintro k ⟨hk,hI⟩
  refine z00 (fun hc=>?_) fun hc=>?_
  · have hlt:=z41 (f:=Fl.enc) rfl hc
    intro hl
    simp only [List.length_map] at hl
    obtain ⟨x,hx,_,hd,_⟩:=z2s hlt
    rw [hd,show z04 name (x::u.flows.drop (k+1)) k=if eqS x.name name then (k:Int) else z04 name (u.flows.drop (k+1)) (k+1) from rfl] at hI
    refine ⟨z06 (f:=Fl.enc) hx,rfl,z00 (fun h=>⟨sE (by rw [hI,if_pos (show eqS x.name name=true from h)]),trivial⟩) fun h=>?_⟩
    rw [if_neg (show ¬ eqS x.name name=true from fun e=>by rw [show eqS x.name name=false from h] at e;cases e)] at hI
    exact ⟨z03 rfl oM0,k+1,z0g hlt,⟨hlt,hI⟩,⟨rfl,trivial⟩,trivial,rfl,rfl,rfl,rfl⟩
  · rw [List.drop_eq_nil_of_le (z47 (f:=Fl.enc) rfl hc)] at hI
    exact ⟨sE (by rw [hI];rfl),trivial⟩
theorem z0s (u:Un) (name:ByteArray):SC Tryz.prog 51 [.pv u.enc,iStr name] [] (fun _=>False) (iInt (z0e name u.arrays 0)) []:=by
  refine SC.anyR (SC.vc tb { gh:=[(4,[.len 8])] } [] Tryz.func51 rfl rfl ?_)
  refine ⟨Nat,fun k=>[(5,iInt k)],fun _=>[],fun k=>u.arrays.length - k,fun k=>k<=u.arrays.length/\z0e name u.arrays 0=z0e name (u.arrays.drop k) k,[],0,⟨Nat.zero_le _,rfl⟩,⟨rfl,trivial⟩,trivial,?_⟩
  rintro k ⟨hk,hI⟩
  refine z00 (fun hc=>?_) fun hc=>?_
  · have hlt:=z41 (f:=Ar.enc) rfl hc
    intro hl
    simp only [List.length_map] at hl
    obtain ⟨x,hx,_,hd,_⟩:=z2s hlt
    rw [hd,show z0e name (x::u.arrays.drop (k+1)) k=if eqS x.name name then (k:Int) else z0e name (u.arrays.drop (k+1)) (k+1) from rfl] at hI
    refine ⟨z06 (f:=Ar.enc) hx,rfl,z00 (fun h=>⟨sE (by rw [hI,if_pos (show eqS x.name name=true from h)]),trivial⟩) fun h=>?_⟩
    rw [if_neg (show ¬ eqS x.name name=true from fun e=>by rw [show eqS x.name name=false from h] at e;cases e)] at hI
    exact ⟨z03 rfl oM0,k+1,z0g hlt,⟨hlt,hI⟩,⟨rfl,trivial⟩,trivial,rfl,rfl,rfl,rfl⟩
  · rw [List.drop_eq_nil_of_le (z47 (f:=Ar.enc) rfl hc)] at hI
    exact ⟨sE (by rw [hI];rfl),trivial⟩
theorem z1x (u:Un) (f:Fl) (set:List Bool) (l seen want:List Int):SC Tryz.prog 102 [.ptr 3 0,.pv (ints l),.pv (ints seen),.pv (ints want)] (ckHp u f 4 set) (fun _=>True) (iBool (z02 f.types seen l want)) (ckHp u f 4 set):=by
  refine SC.sameR (SC.vc tb { gh:=[(1,[.len 1])] } [3,4] Tryz.func102 rfl rfl ?_) fun k hk _=>?_
  · intro hl
    simp only [List.length_map] at hl
    refine z00 (fun h1=>?_) fun h1=>?_
    · have e:((l.length:Int)==want.length)=false:=by simpa using h1
      exact ⟨sE (by unfold z02;rw [e];rfl),rfl,rfl,trivial⟩
    · have e:((l.length:Int)==want.length)=true:=by simpa using h1
      have hlw:l.length=want.length:=by have:=eq_of_beq e;omega
      have hT:z02 f.types seen l want=z0u f.types seen l want:=by unfold z02;rw [e];rfl
      rw [hT]
      refine ⟨Nat,fun k=>[(9,iInt k)],fun _=>[],fun k=>l.length - k,fun k=>k<=l.length/\z0u f.types seen l want=z0u f.types seen (l.drop k) (want.drop k),[],0,⟨Nat.zero_le _,rfl⟩,⟨rfl,trivial⟩,trivial,?_⟩
      rintro k ⟨hk,hI⟩
      refine z00 (fun hc=>?_) fun hc=>?_
      · have hlt:=z41 (f:=eInt) rfl hc
        obtain ⟨v,hv,_,hd,_⟩:=z2s hlt
        obtain ⟨w,hw,_,hd2,_⟩:=z2s (show k<want.length by omega)
        rw [hd,hd2,show z0u f.types seen (v::l.drop (k+1)) (w::want.drop (k+1))=(z5t f.types seen v w&&z0u f.types seen (l.drop (k+1)) (want.drop (k+1))) from rfl] at hI
        have bad:z5t f.types seen v w=false->SubI (iBool false) (iBool (z0u f.types seen l want)):=fun h=>sE (by rw [hI,h];rfl)
        have hin:=sc_r8in seen v
        have iv:=z06 (f:=eInt) hv
        have iw:=z06 (f:=eInt) hw
        refine ⟨iv,rfl,z00 (fun h2=>⟨bad (by unfold z5t;rw [show decide (v<0)=true from h2];rfl),rfl,rfl,trivial⟩) fun h2=>⟨iv,rfl,z00 (fun h3=>⟨bad (by unfold z5t;rw [show decide (v ≥ f.types.length)=true by simpa using h3];simp),rfl,rfl,trivial⟩) fun h3=>⟨iv,rfl,[],hin,sR,trivial,rfl,?_⟩⟩⟩
        have e2:decide (v<0)=false:=h2
        have e3:decide (v ≥ f.types.length)=false:=by simpa using h3
        have v0:0<=v:=by simpa using h2
        have v1:v.toNat<f.types.length:=by
          have:¬ v ≥ f.types.length:=by simpa using e3
          omega
        have it:(f.types.map eInt)[v.toNat]? = some (eInt (f.types.getD v.toNat 0)):=z06 (f:=eInt) (by rw [List.getD_eq_getElem?_getD,List.getElem?_eq_getElem v1];rfl)
        cases h4:seen.contains v with
        | false=>exact ⟨bad (by unfold z5t;rw [h4];simp),rfl,rfl,trivial⟩
        | true =>
          refine ⟨iw,rfl,z00 (fun h5=>⟨iv,rfl,it,by omega,iw,rfl,z00 (fun h6=>?_) fun h6=>?_⟩) fun h5=>?_⟩
          · have e5:(w != 0)=true:=h5
            have e6:(f.types.getD v.toNat 0 != w)=true:=h6
            exact ⟨bad (by unfold z5t;rw [e5,e6];simp),rfl,rfl,trivial⟩
          · have e6:(f.types.getD v.toNat 0 != w)=false:=h6
            have good:z5t f.types seen v w=true:=by unfold z5t;rw [e2,e3,h4,e6,Bool.and_false];rfl
            exact ⟨z03 rfl oM0,k+1,z0g hlt,⟨hlt,by rw [hI,good];rfl⟩,⟨rfl,trivial⟩,trivial,rfl,rfl,rfl,rfl⟩
          · have e5:(w != 0)=false:=h5
            have good:z5t f.types seen v w=true:=by unfold z5t;rw [e2,e3,h4,e5,Bool.false_and];rfl
            exact ⟨z03 rfl oM0,k+1,z0g hlt,⟨hlt,by rw [hI,good];rfl⟩,⟨rfl,trivial⟩,trivial,rfl,rfl,rfl,rfl⟩
      · rw [List.drop_eq_nil_of_le (z47 (f:=eInt) rfl hc)] at hI
        exact ⟨sE (by rw [hI];rfl),rfl,rfl,trivial⟩
  · cases hq:look (up (ckHp u f 4 set)) k with
    | none=>exact absurd hq hk
    | some o =>
      have:=zl6 hq
      simpa [up,ckHp] using this
set_option maxRecDepth 20000
set_option maxHeartbeats 2000000
abbrev ndv (x:Nd):PV:=.agg [vInt x.kind,vInt x.op,vInt x.n,vStr x.name,ints x.args,ints x.outs,ints x.params,kids x.kids]
theorem z52 (x:Nd):SC Tryz.prog 83 [.pv (ndv x)] [] (fun _=>False) (iBool (z0q x.kind)) []:=by
  refine SC.anyR (SC.vc tb {} [] Tryz.func83 rfl rfl ?_)
  refine z00 (fun h=>⟨sE ?_,trivial⟩) fun h=>⟨sE ?_,trivial⟩
  · unfold z0q
    rw [show decide (x.kind ≥ 12)=true from h];rfl
  · unfold z0q
    rw [show decide (x.kind ≥ 12)=false from h];rfl
theorem y2p (l:List Nd):SC Tryz.prog 81 [.pv (z0m l)] [] (fun _=>False) (iInt (z1b l)) []:=by
  refine SC.anyR (SC.vc tb { gh:=[(0,[.len 0])] } [] Tryz.func81 rfl rfl ?_)
  intro hl
  simp only [List.length_map] at hl
  refine z00 (fun h=>?_) fun h=>?_
  · have e:l=[]:=by
      cases l with
      | nil=>rfl
      | cons a b=>simp at h;omega
    subst e
    exact ⟨sE rfl,trivial⟩
  · have hne:l≠[]:=fun e=>by subst e;exact absurd h dC0
    have hpos:0<l.length:=List.length_pos_iff.2 hne
    obtain ⟨x,hx⟩:∃ x,l[((l.length:Int) - 1).toNat]? = some x:=⟨_,List.getElem?_eq_getElem oM0⟩
    have hT:z1b l=if z0q x.kind then x.kind else 0:=by
      unfold z1b
      rw [List.getLast?_eq_getElem?,show l.length - 1=((l.length:Int) - 1).toNat by omega,hx]
    have ll:(l.map Nd.enc).length=l.length:=List.length_map _
    have hi:(l.map Nd.enc)[(((l.map Nd.enc).length:Int) - 1).toNat]? = some [vInt x.kind,vInt x.op,vInt x.n,vStr x.name,ints x.args,ints x.outs,ints x.params,kids x.kids]:=by
      rw [ll];exact z08 hx
    have hE:=z52 x
    rw [hT]
    generalize z0q x.kind=b at hE ⊢
    cases b with
    | true=>exact ⟨z2f rfl (by rw [ll];omega),hi,by rw [ll];omega,[],hE,sR,trivial,rfl,z2f rfl (by rw [ll];omega),hi,by rw [ll];omega,sI,trivial⟩
    | false=>exact ⟨z2f rfl (by rw [ll];omega),hi,by rw [ll];omega,[],hE,sR,trivial,rfl,sI,trivial⟩
theorem y4r (l:List Nd):SC Tryz.prog 82 [.pv (z0m l)] [] (fun _=>False) (iBool (z0r l)) []:=by
  suffices H:∀ N (l:List Nd),SizeOf.sizeOf l<N->SC Tryz.prog 82 [.pv (z0m l)] [] (fun _=>False) (iBool (z0r l)) [] from H _ l (Nat.lt_succ_self _)
  intro N
  induction N with
  | zero=>intro l hN;exact absurd hN (Nat.not_lt_zero _)
  | succ N ih =>
    intro l hN
    refine SC.anyR (SC.vc tb { gh:=[(0,[.len 0]),(9,[.len 22])] } [] Tryz.func82 rfl rfl ?_)
    intro hl
    simp only [List.length_map] at hl
    refine ⟨Nat,fun k=>[(3,iInt k)],fun _=>[],fun k=>l.length - k,fun k=>k<=l.length/\z0r l=z0r (l.drop k),[],0,⟨Nat.zero_le _,rfl⟩,⟨rfl,trivial⟩,trivial,?_⟩
    rintro k ⟨hk,hI⟩
    refine z00 (fun hc=>?_) fun hc=>?_
    · have hlt:k<l.length:=by simpa using hc
      obtain ⟨x,hx,hm,hd,_⟩:=z2s hlt
      rw [hd,show z0r (x::l.drop (k+1))=(z20 x||z0r (l.drop (k+1))) from rfl,z3h] at hI
      refine ⟨z08 hx,rfl,z00 (fun h=>⟨sE (by rw [hI,show (x.kind==14)=true from h];rfl),trivial⟩) fun h=>?_⟩
      rw [show (x.kind==14)=false from h,Bool.false_or] at hI
      refine ⟨Nat,fun i=>[(4,iInt i),(3,iInt k)],fun _=>[],fun i=>x.kids.length - i,fun i=>i<=x.kids.length/\z0r l=((x.kind==10&&z2q (x.kids.drop i))||z0r (l.drop (k+1))),[],0,⟨Nat.zero_le _,hI⟩,⟨rfl,rfl,trivial⟩,trivial,?_⟩
      rintro i ⟨hi,hJ⟩
      refine ⟨z08 hx,rfl,z00 (fun h2=>?_) fun h2=>?_⟩
      · have hlt2:i<x.kids.length:=by simpa using h2
        obtain ⟨q,hq,hm2,hd2,_⟩:=z2s hlt2
        have hdec:SizeOf.sizeOf q<N:=Nat.lt_of_lt_of_le (z5k (List.mem_of_getElem? hx) rfl (List.mem_of_getElem? hq)) (Nat.le_of_lt_succ hN)
        refine ⟨z08 hx,rfl,z00 (fun h3=>?_) fun h3=>?_⟩
        · intro hl2
          simp only [List.length_map] at hl2
          rw [show (x.kind==10)=true from h3,Bool.true_and,hd2,show z2q (q::x.kids.drop (i+1))=(z0r q||z2q (x.kids.drop (i+1))) from rfl] at hJ
          have hL:=ih q hdec
          generalize z0r q=b at hL hJ
          refine ⟨z08 hx,rfl,z06 (f:=eKid) hq,rfl,[],hL,sR,trivial,rfl,?_⟩
          cases b with
          | true=>exact ⟨sE (by rw [hJ];rfl),trivial⟩
          | false=>exact ⟨z03 rfl oM0,i+1,z0g hlt2,⟨hlt2,by rw [hJ,show (x.kind==10)=true from h3];rfl⟩,⟨rfl,rfl,trivial⟩,trivial,rfl,rfl,rfl,rfl⟩
        · rw [show (x.kind==10)=false from h3,Bool.false_and,Bool.false_or] at hJ
          exact ⟨z03 rfl oM0,k+1,z0g hlt,⟨hlt,hJ⟩,⟨rfl,trivial⟩,trivial,rfl,rfl,rfl,rfl⟩
      · rw [List.drop_eq_nil_of_le (by simpa using h2),show z2q []=false from rfl,Bool.and_false,Bool.false_or] at hJ
        exact ⟨z03 rfl oM0,k+1,z0g hlt,⟨hlt,hJ⟩,⟨rfl,trivial⟩,trivial,rfl,rfl,rfl,rfl⟩
    · rw [List.drop_eq_nil_of_le (by simpa using hc)] at hI
      exact ⟨sE (by rw [hI];rfl),trivial⟩
set_option maxRecDepth 20000
set_option maxHeartbeats 2000000
attribute [local simp] z12 r8op y7q zw9 r8kn Nd.kind Nd.op Nd.n Nd.name Nd.kids Nd.params z62 in
theorem yf7 (x:Nd):SC Tryz.prog 100 [.pv (ndv x)] [] (fun _=>False) (iBool (z12 x)) []:=by
  refine SC.anyR (SC.vc tb {} [] Tryz.func100 rfl rfl ?_)
  obtain ⟨kind,op,n,name,args,outs,params,kids⟩:=x
  rcases (show kind=3∨kind=4∨kind=1∨kind=2∨kind=5∨kind=6∨kind=7∨kind=11∨kind=10∨(kind≠1/\kind≠2/\kind≠3/\kind≠4/\kind≠5/\kind≠6/\kind≠7/\kind≠11/\kind≠10) by omega) with rfl | rfl | rfl | rfl | rfl | rfl | rfl | rfl | rfl | h
  · exact z00 (fun h3=>z00 (fun h2=>z00 (fun h1=>⟨sE (congrArg iBool (by simp_all)),trivial⟩) fun h1=>⟨sE (congrArg iBool (by simp_all)),trivial⟩) fun h2=>⟨sE (congrArg iBool (by simp_all)),trivial⟩) fun h3=>⟨sE (congrArg iBool (by simp_all)),trivial⟩
  · exact z00 (fun h3=>z00 (fun h2=>z00 (fun h1=>⟨sE (congrArg iBool (by simp_all)),trivial⟩) fun h1=>⟨sE (congrArg iBool (by simp_all)),trivial⟩) fun h2=>⟨sE (congrArg iBool (by simp_all)),trivial⟩) fun h3=>⟨sE (congrArg iBool (by simp_all)),trivial⟩
  · exact z00 (fun h3=>z00 (fun h2=>z00 (fun h1=>⟨sE (congrArg iBool (by simp_all)),trivial⟩) fun h1=>⟨sE (congrArg iBool (by simp_all)),trivial⟩) fun h2=>⟨sE (congrArg iBool (by simp_all)),trivial⟩) fun h3=>⟨sE (congrArg iBool (by simp_all)),trivial⟩
  · exact z00 (fun h3=>z00 (fun h2=>z00 (fun h1=>⟨sE (congrArg iBool (by simp_all)),trivial⟩) fun h1=>⟨sE (congrArg iBool (by simp_all)),trivial⟩) fun h2=>⟨sE (congrArg iBool (by simp_all)),trivial⟩) fun h3=>⟨sE (congrArg iBool (by simp_all)),trivial⟩
  · exact z00 (fun h3=>z00 (fun h2=>z00 (fun h1=>⟨sE (congrArg iBool (by simp_all)),trivial⟩) fun h1=>⟨sE (congrArg iBool (by simp_all)),trivial⟩) fun h2=>⟨sE (congrArg iBool (by simp_all)),trivial⟩) fun h3=>⟨sE (congrArg iBool (by simp_all)),trivial⟩
  · exact z00 (fun h3=>z00 (fun h2=>z00 (fun h1=>⟨sE (congrArg iBool (by simp_all)),trivial⟩) fun h1=>⟨sE (congrArg iBool (by simp_all)),trivial⟩) fun h2=>⟨sE (congrArg iBool (by simp_all)),trivial⟩) fun h3=>⟨sE (congrArg iBool (by simp_all)),trivial⟩
  · exact z00 (fun h3=>z00 (fun h2=>z00 (fun h1=>⟨sE (congrArg iBool (by simp_all)),trivial⟩) fun h1=>⟨sE (congrArg iBool (by simp_all)),trivial⟩) fun h2=>⟨sE (congrArg iBool (by simp_all)),trivial⟩) fun h3=>⟨sE (congrArg iBool (by simp_all)),trivial⟩
  · exact z00 (fun h4=>z00 (fun h3=>z00 (fun h2=>z00 (fun h1=>⟨sE (congrArg iBool (by simp_all)),trivial⟩) fun h1=>⟨sE (congrArg iBool (by simp_all)),trivial⟩) fun h2=>⟨sE (congrArg iBool (by simp_all)),trivial⟩) fun h3=>⟨sE (congrArg iBool (by simp_all)),trivial⟩) fun h4=>⟨sE (congrArg iBool (by simp_all)),trivial⟩
  · exact z00 (fun h4=>z00 (fun h3=>z00 (fun h2=>z00 (fun h1=>⟨sE (congrArg iBool (by simp_all)),trivial⟩) fun h1=>⟨sE (congrArg iBool (by simp_all)),trivial⟩) fun h2=>⟨sE (congrArg iBool (by simp_all)),trivial⟩) fun h3=>⟨sE (congrArg iBool (by simp_all)),trivial⟩) fun h4=>⟨sE (congrArg iBool (by simp_all)),trivial⟩
  · obtain ⟨k1,k2,k3,k4,k5,k6,k7,k8,k9⟩:=h
    have no:∀ {i:Int},kind≠i->(kind==i)=true->False:=fun h e=>h (eq_of_beq e)
    exact z00 (fun h=>(no k3 h).elim) fun _=>z00 (fun h=>(no k1 h).elim) fun _=>z00 (fun h=>(no k5 h).elim) fun _=>z00 (fun h=>(no k6 h).elim) fun _=>z00 (fun h=>(no k9 h).elim) fun _=>z00 (fun h=>(no k8 h).elim) fun _=>z00 (fun h=>(no k4 h).elim) fun _=>z00 (fun a1=>z00 (fun h=>(no k2 h).elim) fun _=>z00 (fun a2=>z00 (fun h=>(no k7 h).elim) fun _=>z00 (fun a3=>z00 (fun a4=>z00 (fun h=>(no k8 h).elim) fun _=>⟨sE (congrArg iBool (by simp_all)),trivial⟩) fun a4=>⟨sE (congrArg iBool (by simp_all)),trivial⟩) fun a3=>⟨sE (congrArg iBool (by simp_all)),trivial⟩) fun a2=>⟨sE (congrArg iBool (by simp_all)),trivial⟩) fun a1=>⟨sE (congrArg iBool (by simp_all)),trivial⟩
theorem z4g (x:Nd):SC Tryz.prog 57 [.pv (ndv x)] [] (fun _=>False) (iBool (z01 x)) []:=by
  refine SC.anyR (SC.vc tb {} [] Tryz.func57 rfl rfl ?_)
  obtain ⟨kind,op,n,name,args,outs,params,kids⟩:=x
  rcases (show kind=10∨kind=11∨(kind≠11/\kind≠10) by omega) with rfl | rfl | ⟨k8,k9⟩
  · match kids with
    | []=>exact ⟨[],z52 _,sR,trivial,rfl,sI,trivial⟩
    | [a]=>exact ⟨[],z52 _,sR,trivial,rfl,sI,trivial⟩
    | [a,b]=>exact ⟨at0 (a:=[z0m a]),rfl,[],y2p a,sR,trivial,rfl,z00 (fun h=>⟨at1 (b:=[z0m b]),rfl,[],y2p b,sR,trivial,rfl,sE (congrArg iBool (show _=((z1b a != 12)&&(z1b b != 12)) by rw [h];rfl)),trivial⟩) fun h=>⟨sE (congrArg iBool (show _=((z1b a != 12)&&(z1b b != 12)) by rw [h];rfl)),trivial⟩⟩
    | a::b::c::r=>exact ⟨[],z52 _,sR,trivial,rfl,sI,trivial⟩
  · match kids with
    | []=>exact ⟨[],z52 _,sR,trivial,rfl,sI,trivial⟩
    | [a]=>exact ⟨at0 (a:=[z0m a]),rfl,[],y4r a,sR,trivial,rfl,sI,trivial⟩
    | a::b::r=>exact ⟨[],z52 _,sR,trivial,rfl,sI,trivial⟩
  · have no:∀ {i:Int},kind≠i->(kind==i)=true->False:=fun h e=>h (eq_of_beq e)
    exact z00 (fun h=>(no k9 h).elim) fun _=>z00 (fun h=>(no k8 h).elim) fun _=>⟨[],z52 _,sR,trivial,rfl,sE (by simp [z01,Nd.kind,Nd.kids,k8,k9]),trivial⟩
set_option maxRecDepth 20000
set_option maxHeartbeats 2000000
theorem yi7 (u:Un) (s:Rs) (k n:Int) (q:Bool × Rs) (h:z8f s k n=some q) (h1:s.ar.length<=1):SC Tryz.prog 99 [.ptr 1001 0,iInt k,iInt n] (rH u s) (fun _=>False) (iBool q.1) (rH u q.2):=by
  refine SC.sameR (SC.vc tb {} [] Tryz.func99 rfl rfl ?_) (fun k _ h=>h.elim)
  obtain ⟨ins,ar,st,code,out,cost,fuel,spent⟩:=s
  simp only [z8f] at h
  by_cases hn:n<0
  · rw [if_pos hn] at h
    cases h
    have hd:decide (n<0)=true:=decide_eq_true hn
    rcases ar with _ | ⟨r,t⟩
    · exact z00 (fun _=>⟨sI,rfl,rfl,trivial⟩) fun h=>absurd (hd.symm.trans h) dC0
    · exact z00 (fun _=>⟨sI,rfl,rfl,rfl,rfl,trivial⟩) fun h=>absurd (hd.symm.trans h) dC0
  · rw [if_neg hn] at h
    have hd:decide (n<0)=false:=decide_eq_false hn
    split at h
    · rename_i hk
      obtain ⟨row,hr,hb⟩:=Option.bind_eq_some_iff.1 h
      rcases ar with _ | ⟨r,_ | ⟨r2,t⟩⟩
      · cases hr
      · have hk0:k=0:=by have:=(List.getElem?_eq_some_iff.1 hr).1;simp at this;omega
        subst hk0
        cases hr
        have hl:((row.map eInt).length:Int)=row.length:=by simp
        refine z00 (fun h=>absurd (hd.symm.trans h) dC0) fun _=>⟨Nat.zero_lt_one,rfl,rfl,z00 (fun hc=>?_) fun hc=>?_⟩
        · have hc':n ≥ row.length:=by rw [hl] at hc;exact of_decide_eq_true hc
          rw [if_pos hc'] at hb
          cases hb
          exact ⟨sI,rfl,rfl,rfl,rfl,trivial⟩
        · have hc':¬ n ≥ row.length:=by rw [hl] at hc;exact of_decide_eq_false hc
          rw [if_neg hc'] at hb
          cases hb
          exact ⟨sI,rfl,rfl,rfl,rfl,trivial⟩
      · simp at h1
    · cases h
def SRC (u:Un) (D:Nat):Prop:=∀ d,d<D->∀ k a s r,z3r u d k a s=some r->s.ar.length<=1->SC Tryz.prog 29 [.ptr 1001 0,iInt k,.pv (ints a)] (rH u s) (fun _=>False) (iInt r.1) (rH u r.2)
def SRL (u:Un) (D:Nat):Prop:=∀ d,d<D->∀ l v s r,z1s u d l v s=some r->lsW l<=1073741824->s.ar.length<=1->SC Tryz.prog 49 [.ptr 1001 0,.pv (z0m l),.sl 510 (v.map eInt).length] (rHV u s v) (fun _=>False) (.pv (endv r.1)) (rHV u r.2.2 r.2.1)
theorem sr_sum (u:Un) (D:Nat) (ihC:SRC u D) (hA:∀ d k a s r,z3r u d k a s=some r->r.2.ar.length=s.ar.length) (d:Nat) (hd:d<=D) (x:Nd) (a:List Int) (s:Rs) (r:Int × Rs) (h:mSum u d x a s=some r) (hs1:s.ar.length<=1):SC Tryz.prog 75 [.ptr 1001 0,.pv (ndv x),.pv (ints a)] (rH u s) (fun _=>False) (iInt r.1) (rH u r.2):=by
  refine SC.sameR (SC.vc tb {} [] Tryz.func75 rfl rfl ?_) (fun k _ h=>h.elim)
  obtain ⟨d,rfl⟩:=z6o h
  obtain ⟨kind,op,n,name,args,outs,params,kids⟩:=x
  rcases (show kind=3∨kind=4∨kind=5∨kind=6∨kind=7∨kind=9∨kind=8∨(kind≠3/\kind≠4/\kind≠5/\kind≠6/\kind≠7/\kind≠9/\kind≠8) by omega) with rfl | rfl | rfl | rfl | rfl | rfl | rfl | hk
  · obtain ⟨a0,h1,rfl⟩:=z98 h rfl
    have hi:=z06 (f:=eInt) h1
    obtain ⟨ins,ar,st,code,out,cost,fuel,spent⟩:=s
    rcases ar with _ | ⟨row,t⟩
    · exact ⟨rfl,[],z0s u name,sR,trivial,rfl,hi,rfl,[],yf4 op a0,sR,trivial,rfl,sI,rfl,rfl,trivial⟩
    · exact ⟨rfl,[],z0s u name,sR,trivial,rfl,hi,rfl,[],yf4 op a0,sR,trivial,rfl,sI,rfl,rfl,rfl,rfl,trivial⟩
  · obtain ⟨a0,a1,h1,h2,rfl⟩:=z99 h rfl
    have hi:=z06 (f:=eInt) h1
    have hi2:=z06 (f:=eInt) h2
    have hT:=sc_mTwo op a0 a1
    obtain ⟨y,b,e⟩:∃ y b,mTwo op a0 a1=(y,b):=⟨_,_,rfl⟩
    rw [e] at hT
    rw [show mTwo (Nd.mk 4 op n name args outs params kids).op a0 a1=(y,b) from e]
    obtain ⟨ins,ar,st,code,out,cost,fuel,spent⟩:=s
    cases b<;>rcases ar with _ | ⟨row,t⟩
    · exact ⟨rfl,[],z0s u name,sR,trivial,rfl,hi,rfl,hi2,rfl,[],hT,sR,trivial,rfl,sI,rfl,rfl,trivial⟩
    · exact ⟨rfl,[],z0s u name,sR,trivial,rfl,hi,rfl,hi2,rfl,[],hT,sR,trivial,rfl,sI,rfl,rfl,rfl,rfl,trivial⟩
    · exact ⟨rfl,[],z0s u name,sR,trivial,rfl,hi,rfl,hi2,rfl,[],hT,sR,trivial,rfl,sI,rfl,rfl,trivial⟩
    · exact ⟨rfl,[],z0s u name,sR,trivial,rfl,hi,rfl,hi2,rfl,[],hT,sR,trivial,rfl,sI,rfl,rfl,rfl,rfl,trivial⟩
  · obtain ⟨a0,b,s',h1,h2,h3⟩:=z74 h rfl
    have hi:=z06 (f:=eInt) h1
    have hC:=yi7 u (z57 s) _ a0 _ h2 hs1
    rw [show (Nd.mk 5 op n name args outs params kids).name=name from rfl] at *
    obtain ⟨ins,ar,st,code,out,cost,fuel,spent⟩:=s
    rcases h3 with ⟨rfl,rfl⟩ | ⟨rfl,row,y,h4,h5,rfl⟩
    · obtain ⟨ins',ar',st',code',out',cost',fuel',spent'⟩:=s'
      have hl:ar'.length=ar.length:=zd7 h2
      rcases ar with _ | ⟨row,t⟩<;>rcases ar' with _ | ⟨row',t'⟩
      · exact ⟨rfl,[],z0s u name,sR,trivial,rfl,hi,rfl,[],hC,sR,⟨rfl,rfl,trivial⟩,rfl,sI,rfl,rfl,trivial⟩
      · cases hl
      · cases hl
      · exact ⟨rfl,[],z0s u name,sR,trivial,rfl,hi,rfl,[],hC,sR,⟨rfl,rfl,rfl,rfl,trivial⟩,rfl,sI,rfl,rfl,rfl,rfl,trivial⟩
    · obtain ⟨rfl,h6,h7,row2,h8,h9⟩:=zw3 h2
      obtain ⟨hk0,rfl⟩:=one_ar (s:=z57 ⟨ins,ar,st,code,out,cost,fuel,spent⟩) hs1 h7 h4
      have hj:a0.toNat<(row.map eInt).length:=by have:=(List.getElem?_eq_some_iff.1 h5).1;simpa using this
      exact ⟨rfl,[],z0s u name,sR,trivial,rfl,hi,rfl,[],hC,sR,⟨rfl,rfl,rfl,rfl,trivial⟩,rfl,Nat.zero_lt_one,hk0,hi,rfl,rfl,hj,by omega,rfl,(Nat.add_zero _).symm,z06 (f:=eInt) h5,eI0,sI,rfl,rfl,rfl,rfl,trivial⟩
  · obtain ⟨a0,b,s',h1,h2,h3⟩:=z65 h rfl
    have hi:=z06 (f:=eInt) h1
    have hC:=yi7 u (z57 s) _ a0 _ h2 hs1
    rw [show (Nd.mk 6 op n name args outs params kids).name=name from rfl] at *
    obtain ⟨ins,ar,st,code,out,cost,fuel,spent⟩:=s
    rcases h3 with ⟨rfl,rfl⟩ | ⟨rfl,row,y,h4,h5,hr⟩
    · obtain ⟨ins',ar',st',code',out',cost',fuel',spent'⟩:=s'
      have hl:ar'.length=ar.length:=zd7 h2
      rcases ar with _ | ⟨row,t⟩<;>rcases ar' with _ | ⟨row',t'⟩
      · exact ⟨rfl,[],z0s u name,sR,trivial,rfl,hi,rfl,[],hC,sR,⟨rfl,rfl,trivial⟩,rfl,sI,rfl,rfl,trivial⟩
      · cases hl
      · cases hl
      · exact ⟨rfl,[],z0s u name,sR,trivial,rfl,hi,rfl,[],hC,sR,⟨rfl,rfl,rfl,rfl,trivial⟩,rfl,sI,rfl,rfl,rfl,rfl,trivial⟩
    · obtain ⟨rfl,h6,h7,row2,h8,h9⟩:=zw3 h2
      obtain ⟨hk0,rfl⟩:=one_ar (s:=z57 ⟨ins,ar,st,code,out,cost,fuel,spent⟩) hs1 h7 h4
      rw [show (z0e name u.arrays 0).toNat=0 by omega] at hr h8
      cases h8
      subst hr
      have hj0:a0.toNat<row.length:=by omega
      have hj:a0.toNat<(row.map eInt).length:=by simpa using hj0
      have hi2:=z06 (f:=eInt) h5
      exact ⟨rfl,[],z0s u name,sR,trivial,rfl,hi,rfl,[],hC,sR,⟨rfl,rfl,rfl,rfl,trivial⟩,rfl,Nat.zero_lt_one,hk0,hi,rfl,hi2,rfl,rfl,hj,by omega,a0.toNat,0,_,rfl,(Nat.add_zero _).symm,z06 (f:=eInt) (List.getElem?_eq_getElem hj0),Nat.zero_lt_one,sI,rfl,rfl,boq sI0,rwq (by simp [eInt,List.map_set]),trivial⟩
  · have h2:=z8h h rfl
    have hl:=hA _ _ _ _ _ h2
    have hC:=ihC d oM0 _ _ _ _ h2 hs1
    obtain ⟨ins,ar,st,code,out,cost,fuel,spent⟩:=s
    obtain ⟨y,ins',ar',st',code',out',cost',fuel',spent'⟩:=r
    replace hl:ar'.length=ar.length:=hl
    rcases ar with _ | ⟨row,t⟩<;>rcases ar' with _ | ⟨row',t'⟩
    · exact ⟨rfl,[],z0s u name,sR,trivial,rfl,[],z4l u name,sR,trivial,rfl,[],hC,sR,⟨rfl,rfl,trivial⟩,rfl,sI,rfl,rfl,trivial⟩
    · cases hl
    · cases hl
    · exact ⟨rfl,[],z0s u name,sR,trivial,rfl,[],z4l u name,sR,trivial,rfl,[],hC,sR,⟨rfl,rfl,rfl,rfl,trivial⟩,rfl,sI,rfl,rfl,rfl,rfl,trivial⟩
  · obtain ⟨a0,h1,h2,rfl⟩:=z75 h rfl
    have hi:=z06 (f:=eInt) h1
    obtain ⟨ins,ar,st,code,out,cost,fuel,spent⟩:=s
    replace h2:out.length<1073741824:=h2
    rcases ar with _ | ⟨row,t⟩
    · exact ⟨rfl,[],z0s u name,sR,trivial,rfl,hi,rfl,rfl,zg7 rfl,by simp;omega,by simp,sI,boq (by simp [z57,w64]),rwq (by simp [eInt]),trivial⟩
    · exact ⟨rfl,[],z0s u name,sR,trivial,rfl,hi,rfl,rfl,zg7 rfl,by simp;omega,by simp,sI,boq (by simp [z57,w64]),rwq (by simp [eInt]),rfl,rfl,trivial⟩
  · rcases z8j h rfl with ⟨h1,rfl⟩ | ⟨y,q,h1,rfl⟩
    · obtain ⟨ins,ar,st,code,out,cost,fuel,spent⟩:=s
      obtain rfl:ins=[]:=h1
      rcases ar with _ | ⟨row,t⟩
      · exact ⟨rfl,[],z0s u name,sR,trivial,rfl,sI,rfl,rfl,trivial⟩
      · exact ⟨rfl,[],z0s u name,sR,trivial,rfl,sI,rfl,rfl,rfl,rfl,trivial⟩
    · obtain ⟨ins,ar,st,code,out,cost,fuel,spent⟩:=s
      obtain rfl:ins=y::q:=h1
      rcases ar with _ | ⟨row,t⟩
      · exact ⟨rfl,[],z0s u name,sR,trivial,rfl,at0 (a:=eInt y),rfl,1,rfl,Nat.le_add_left 1 _,Nat.le_refl _,z5j,sI,boq (by simp [z57,w64,ints];rw [<- List.map_take,List.take_length]),rfl,trivial⟩
      · exact ⟨rfl,[],z0s u name,sR,trivial,rfl,at0 (a:=eInt y),rfl,1,rfl,Nat.le_add_left 1 _,Nat.le_refl _,z5j,sI,boq (by simp [z57,w64,ints];rw [<- List.map_take,List.take_length]),rfl,rfl,rfl,trivial⟩
  · obtain ⟨k3,k4,k5,k6,k7,k9,k8⟩:=hk
    have ne:∀ {i:Int},kind≠i->(kind==i)=false:=fun h=>beq_eq_false_iff_ne.2 h
    have no:∀ {i:Int},kind≠i->(kind==i)=true->False:=fun h e=>h (eq_of_beq e)
    obtain rfl:=z8i h (ne k3) (ne k4) (ne k5) (ne k6) (ne k7) (ne k9) (ne k8)
    obtain ⟨ins,ar,st,code,out,cost,fuel,spent⟩:=s
    rcases ar with _ | ⟨row,t⟩
    · exact ⟨rfl,[],z0s u name,sR,trivial,rfl,z00 (fun h=>(no k3 h).elim) fun _=>z00 (fun h=>(no k4 h).elim) fun _=>z00 (fun h=>(no k5 h).elim) fun _=>z00 (fun h=>(no k6 h).elim) fun _=>z00 (fun h=>(no k7 h).elim) fun _=>z00 (fun h=>(no k9 h).elim) fun _=>z00 (fun h=>(no k8 h).elim) fun _=>⟨sI,rfl,rfl,trivial⟩⟩
    · exact ⟨rfl,[],z0s u name,sR,trivial,rfl,z00 (fun h=>(no k3 h).elim) fun _=>z00 (fun h=>(no k4 h).elim) fun _=>z00 (fun h=>(no k5 h).elim) fun _=>z00 (fun h=>(no k6 h).elim) fun _=>z00 (fun h=>(no k7 h).elim) fun _=>z00 (fun h=>(no k9 h).elim) fun _=>z00 (fun h=>(no k8 h).elim) fun _=>⟨sI,rfl,rfl,rfl,rfl,trivial⟩⟩
set_option maxRecDepth 20000
set_option maxHeartbeats 2000000
theorem slE {k m n:Nat} (h:m=n):SubI (.sl k m) (.sl k n):=sE (by rw [h])
theorem sr_loop0 (u:Un) (D:Nat) (ihL:SRL u D) (hAL:∀ d l v s r,z1s u d l v s=some r->r.2.2.ar.length=s.ar.length) (d:Nat) (hd:d<=D) (x:Nd) (hx:ndW x<=1073741824) (v a:List Int) (s:Rs) (r:Rres) (h:z36 u d x v a { s with ar:=[] }=some r):SC Tryz.prog 74 [.ptr 1001 0,.pv (ndv x),.sl 510 (v.map eInt).length,.pv (ints a)] (rHV u { s with ar:=[] } v) (fun _=>False) (.pv (endv r.1)) (rHV u r.2.2 r.2.1):=by
  refine SC.sameR (SC.vc tb {} [] Tryz.func74 rfl rfl ?_) (fun k _ h=>h.elim)
  refine ⟨Nat × List Int × List Int × Rs,fun (e,w,b,z)=>[(3,.pv (ints b))],fun (e,w,b,z)=>[(1001,rBox u { z with ar:=[] }),(1002,rowI z.out),(510,rowI w)],fun (e,w,b,z)=>e,fun (e,w,b,z)=>e<=D/\w.length=v.length/\z36 u e x w b { z with ar:=[] }=some r,[],(d,v,a,s),⟨hd,rfl,h⟩,⟨rfl,trivial⟩,⟨rfl,rfl,rfl,trivial⟩,?_⟩
  rintro ⟨e,w,b,z⟩ ⟨he,hw,hm⟩
  obtain ⟨e,w2,k,r1,rfl,h1,h2,h3,h4⟩:=z4k hm
  have hS:=zk5 _ _ _ _ h1
  have hkl:=z06 (f:=eKid) h2
  have hw2:w2.length=v.length:=(z4e h1).trans hw
  have hkw:lsW k<=1073741824:=by have:=za6 (List.mem_of_getElem? h2);have:=z9t x;omega
  have hL:=ihL e oM0 _ _ _ _ h3 hkw sI0
  have hl2:r1.2.1.length=v.length:=(z70 h3).trans hw2
  have hal:=hAL _ _ _ _ _ h3
  obtain ⟨⟨ek,el⟩,v3,ins,ar,st,code,out,cost,fuel,spent⟩:=r1
  obtain ⟨rfl⟩:ar=[]:=List.eq_nil_of_length_eq_zero hal
  have hO:=z4h u ⟨ins,[],st,code,out,cost,fuel,spent⟩
  dsimp only at h4 hl2 hO
  generalize z0z ⟨ins,[],st,code,out,cost,fuel,spent⟩=o at h4 hO
  cases o with
  | true =>
    cases h4
    exact ⟨[],hS,SubA.cons (slE (by simp [hw])) sR,⟨rfl,trivial⟩,rfl,hkl,rfl,[],hL,SubA.same (SubA.same (SubA.cons (slE (by simp [hw2])) SubA.nil)),⟨rfl,rfl,rfl,trivial⟩,rfl,[],hO,sR,⟨rfl,rfl,trivial⟩,rfl,sI,rfl,rfl,rfl,trivial⟩
  | false =>
    refine ⟨[],hS,SubA.cons (slE (by simp [hw])) sR,⟨rfl,trivial⟩,rfl,hkl,rfl,[],hL,SubA.same (SubA.same (SubA.cons (slE (by simp [hw2])) SubA.nil)),⟨rfl,rfl,rfl,trivial⟩,rfl,[],hO,sR,⟨rfl,rfl,trivial⟩,rfl,z00 (fun h5=>?_) fun h5=>?_⟩
    · rw [show (false||ek==15)=true from h5] at h4
      cases h4
      exact ⟨sI,rfl,rfl,rfl,trivial⟩
    · rw [show (false||ek==15)=false from h5] at h4
      refine z00 (fun h6=>?_) fun h6=>?_
      · rw [show (ek==14)=true from h6] at h4
        obtain ⟨v4,h7,rfl⟩:=Option.map_eq_some_iff.1 h4
        exact ⟨[],zk5 _ _ _ _ h7,SubA.cons (slE (by simp [hl2])) sR,⟨rfl,trivial⟩,rfl,sP z5b,rfl,rfl,rfl,trivial⟩
      · rw [show (ek==14)=false from h6] at h4
        exact ⟨(e,v3,el,⟨ins,[],st,code,out,cost,fuel,spent⟩),Nat.lt_succ_self e,⟨by omega,hl2,h4⟩,⟨rfl,trivial⟩,⟨rfl,rfl,rfl,trivial⟩,rfl,rfl,rfl,rfl⟩
theorem sr_loop1 (u:Un) (D:Nat) (ihL:SRL u D) (hAL:∀ d l v s r,z1s u d l v s=some r->r.2.2.ar.length=s.ar.length) (d:Nat) (hd:d<=D) (x:Nd) (hx:ndW x<=1073741824) (v a:List Int) (s:Rs) (row:List Int) (r:Rres) (h:z36 u d x v a { s with ar:=[row] }=some r):SC Tryz.prog 74 [.ptr 1001 0,.pv (ndv x),.sl 510 (v.map eInt).length,.pv (ints a)] (rHV u { s with ar:=[row] } v) (fun _=>False) (.pv (endv r.1)) (rHV u r.2.2 r.2.1):=by
  refine SC.sameR (SC.vc tb {} [] Tryz.func74 rfl rfl ?_) (fun k _ h=>h.elim)
  refine ⟨Nat × List Int × List Int × Rs × List Int,fun (e,w,b,z,q)=>[(3,.pv (ints b))],fun (e,w,b,z,q)=>[(1001,rBox u { z with ar:=[q] }),(1002,rowI z.out),(510,rowI w),(1003,.box [.sl 1004 (q.map eInt).length]),(1004,rowI q)],fun (e,w,b,z,q)=>e,fun (e,w,b,z,q)=>e<=D/\w.length=v.length/\z36 u e x w b { z with ar:=[q] }=some r,[],(d,v,a,s,row),⟨hd,rfl,h⟩,⟨rfl,trivial⟩,⟨rfl,rfl,rfl,rfl,rfl,trivial⟩,?_⟩
  rintro ⟨e,w,b,z,q⟩ ⟨he,hw,hm⟩
  obtain ⟨e,w2,k,r1,rfl,h1,h2,h3,h4⟩:=z4k hm
  have hS:=zk5 _ _ _ _ h1
  have hkl:=z06 (f:=eKid) h2
  have hw2:w2.length=v.length:=(z4e h1).trans hw
  have hkw:lsW k<=1073741824:=by have:=za6 (List.mem_of_getElem? h2);have:=z9t x;omega
  have hL:=ihL e oM0 _ _ _ _ h3 hkw sI0
  have hl2:r1.2.1.length=v.length:=(z70 h3).trans hw2
  have hal:=hAL _ _ _ _ _ h3
  obtain ⟨⟨ek,el⟩,v3,ins,ar,st,code,out,cost,fuel,spent⟩:=r1
  obtain ⟨q2,rfl⟩:∃ q2,ar=[q2]:=List.length_eq_one_iff.1 hal
  have hO:=z4h u ⟨ins,[q2],st,code,out,cost,fuel,spent⟩
  dsimp only at h4 hl2 hO
  generalize z0z ⟨ins,[q2],st,code,out,cost,fuel,spent⟩=o at h4 hO
  cases o with
  | true =>
    cases h4
    exact ⟨[],hS,SubA.cons (slE (by simp [hw])) sR,⟨rfl,trivial⟩,rfl,hkl,rfl,[],hL,SubA.same (SubA.same (SubA.cons (slE (by simp [hw2])) SubA.nil)),⟨rfl,rfl,rfl,rfl,rfl,trivial⟩,rfl,[],hO,sR,⟨rfl,rfl,rfl,rfl,trivial⟩,rfl,sI,rfl,rfl,rfl,rfl,rfl,trivial⟩
  | false =>
    refine ⟨[],hS,SubA.cons (slE (by simp [hw])) sR,⟨rfl,trivial⟩,rfl,hkl,rfl,[],hL,SubA.same (SubA.same (SubA.cons (slE (by simp [hw2])) SubA.nil)),⟨rfl,rfl,rfl,rfl,rfl,trivial⟩,rfl,[],hO,sR,⟨rfl,rfl,rfl,rfl,trivial⟩,rfl,z00 (fun h5=>?_) fun h5=>?_⟩
    · rw [show (false||ek==15)=true from h5] at h4
      cases h4
      exact ⟨sI,rfl,rfl,rfl,rfl,rfl,trivial⟩
    · rw [show (false||ek==15)=false from h5] at h4
      refine z00 (fun h6=>?_) fun h6=>?_
      · rw [show (ek==14)=true from h6] at h4
        obtain ⟨v4,h7,rfl⟩:=Option.map_eq_some_iff.1 h4
        exact ⟨[],zk5 _ _ _ _ h7,SubA.cons (slE (by simp [hl2])) sR,⟨rfl,trivial⟩,rfl,sP z5b,rfl,rfl,rfl,rfl,rfl,trivial⟩
      · rw [show (ek==14)=false from h6] at h4
        exact ⟨(e,v3,el,⟨ins,[],st,code,out,cost,fuel,spent⟩,q2),Nat.lt_succ_self e,⟨by omega,hl2,h4⟩,⟨rfl,trivial⟩,⟨rfl,rfl,rfl,rfl,rfl,trivial⟩,rfl,rfl,rfl,rfl⟩
end Go.Proofs.YtekdhljpmflboaaGreat
