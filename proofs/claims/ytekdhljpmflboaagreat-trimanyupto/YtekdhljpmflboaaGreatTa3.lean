/- PART 3 of 6 of a proof: see the last part. -/
import Derived.Test.YtekdhljpmflboaaGreatTa2
set_option maxRecDepth 8000
set_option maxHeartbeats 2000000
set_option linter.unusedSimpArgs false
set_option linter.unusedVariables false
set_option linter.unusedSectionVars false
namespace Go.Proofs.YtekdhljpmflboaaGreat
open Go
section
variable {P : Program} {T : TB P} {o : Oper} {fr : Fr} {hp : Hp} {Rl : List Nat} {K : Stp -> Prop}
def y05 (fr : Fr) (y : Operand) (K : Stp -> Prop) : Prop := vev fr y fun x => K ⟨x, [], [], []⟩
theorem vMove_ok {y : Operand} (ho : o.op = .move y) (h : y05 fr y K) : Does P Rl o fr hp K := by
  obtain ⟨x, hx, hk⟩ := z1m h
  exact ⟨_, hk, .pure fun c R1 fr2 hp2 ha _ _ => zr0 ho (ha.ev hx (by rw [ho]; simp [Op.operands]))⟩
theorem y4b {y : Operand} (ho : o.op = .assign y) (h : y05 fr y K) : Does P Rl o fr hp K := by
  obtain ⟨x, hx, hk⟩ := z1m h
  exact ⟨_, hk, .pure fun c R1 fr2 hp2 ha _ _ => zh4 ho (ha.ev hx (by rw [ho]; simp [Op.operands]))⟩
def vPick (fr : Fr) (q y w : Operand) (K : Stp -> Prop) : Prop := vev fr q fun b => match b with
  | .pv (.val (.bool t)) => bsel t (y05 fr y K) (y05 fr w K)
  | _ => False
theorem vPick_ok {q y w : Operand} (ho : o.op = .pick q y w) (h : vPick fr q y w K) : Does P Rl o fr hp K := by
  obtain ⟨b, hb, hk⟩ := z1m h
  split at hk
  · rename_i t
    cases t with
    | true =>
      obtain ⟨x, hx, hk⟩ := z1m (show y05 fr y K from hk)
      exact ⟨_, hk, .pure fun c R1 fr2 hp2 ha _ _ => z7l ho (ha.ev hb (by rw [ho]; simp [Op.operands])) (ha.ev hx (by rw [ho]; simp [Op.operands]))⟩
    | false =>
      obtain ⟨x, hx, hk⟩ := z1m (show y05 fr w K from hk)
      exact ⟨_, hk, .pure fun c R1 fr2 hp2 ha _ _ => z6o ho (ha.ev hb (by rw [ho]; simp [Op.operands])) (ha.ev hx (by rw [ho]; simp [Op.operands]))⟩
  · exact hk.elim
def y4s : BinOp -> Int -> Int -> Option Bool
  | .eql, m, n => some (m == n)
  | .neq, m, n => some (m != n)
  | .lss, m, n => some (decide (m < n))
  | .leq, m, n => some (decide (m <= n))
  | .gtr, m, n => some (decide (m > n))
  | .geq, m, n => some (decide (m ≥ n))
  | _, _, _ => none
theorem y4t {p : BinOp} {k : IntKind} {m n : Int} {b : Bool} (h : y4s p m n = some b) : z3t p k m n = some (.bool b) := by
  cases p <;> simp only [y4s] at h <;> first | (cases h; done) | (cases h; rfl)
def y4u : BinOp -> ByteArray -> ByteArray -> Option Bool
  | .eql, x, y => some (x.toList == y.toList)
  | .neq, x, y => some (!(x.toList == y.toList))
  | .lss, x, y => some (Op.bytesLess x.toList y.toList)
  | .leq, x, y => some (Op.bytesLess x.toList y.toList || x.toList == y.toList)
  | .gtr, x, y => some (!(Op.bytesLess x.toList y.toList || x.toList == y.toList))
  | .geq, x, y => some (!Op.bytesLess x.toList y.toList)
  | _, _, _ => none
theorem y4v {p : BinOp} {x y : ByteArray} {b : Bool} (h : y4u p x y = some b) : zz6 p x y = some (.bool b) := by
  cases p <;> simp only [y4u] at h <;> first | (cases h; done) | (cases h; rfl)
inductive VBin (p : BinOp) (k : IntKind) (m n : Int) (K : Value -> Prop) : Prop
  | mk {v : Value} (h : z3t p k m n = some v) (k : K v)
inductive VStr (p : BinOp) (m n : ByteArray) (K : Value -> Prop) : Prop
  | mk {v : Value} (h : zz6 p m n = some v) (k : K v)
def vBin (T : TB P) (p : BinOp) (t : Nat) (fr : Fr) (y w : Operand) (K : Stp -> Prop) : Prop := vev fr y fun a => vev fr w fun b => match a with
  | .pv (.val (.int k m)) => match b with
    | .pv (.val (.int k' n)) => match p with
      | .shl => 0 <= n /\ K ⟨.pv (.val (.int k (k.wrap (m * 2 ^ (min n.toNat k.bits))))), [], [], []⟩
      | .shr => 0 <= n /\ K ⟨.pv (.val (.int k (m.fdiv (2 ^ (min n.toNat k.bits))))), [], [], []⟩
      | p => z2a (k' == k) (match y4s p m n with
        | some v => K ⟨.pv (.val (.bool v)), [], [], []⟩
        | none => VBin p k m n fun v => K ⟨.pv (.val v), [], [], []⟩)
    | _ => False
  | .pv (.val (.string m)) => match b with
    | .pv (.val (.string n)) => match y4u p m n with
      | some v => K ⟨.pv (.val (.bool v)), [], [], []⟩
      | none => VStr p m n fun v => K ⟨.pv (.val v), [], [], []⟩
    | _ => False
  | .pv (.val (.bool q)) => match b with
    | .pv (.val (.bool r)) => vti T t fun e => match e.i with
      | .bool => match p with
        | .eql => K ⟨.pv (.val (.bool (q == r))), [], [], []⟩
        | .neq => K ⟨.pv (.val (.bool (!(q == r)))), [], [], []⟩
        | _ => False
      | _ => False
    | _ => False
  | _ => False
theorem vBin_ok {p : BinOp} {t u : Nat} {y w : Operand} (ho : o.op = .binOp p t y w u) (h : vBin T p t fr y w K) : Does P Rl o fr hp K := by
  obtain ⟨a, ha, h⟩ := z1m h
  obtain ⟨b, hb, h⟩ := z1m h
  have ea : ∀ {fr2 : Fr}, agr fr2 fr (z19 o.op) -> fr2.ev y = some a := fun hg => hg.ev ha (by rw [ho]; simp [Op.operands])
  have eb : ∀ {fr2 : Fr}, agr fr2 fr (z19 o.op) -> fr2.ev w = some b := fun hg => hg.ev hb (by rw [ho]; simp [Op.operands])
  split at h
  · rename_i k m
    split at h
    · rename_i k' n
      split at h
      · exact ⟨_, h.2, .pure fun c R1 fr2 hp2 hg _ _ => y5w ho (ea hg) (eb hg) h.1⟩
      · exact ⟨_, h.2, .pure fun c R1 fr2 hp2 hg _ _ => zx1 ho (ea hg) (eb hg) h.1⟩
      · obtain ⟨hk, h⟩ := z0j h
        obtain rfl := eq_of_beq hk
        split at h
        · rename_i v hv
          exact ⟨_, h, .pure fun c R1 fr2 hp2 hg _ _ => z80 ho (ea hg) (eb hg) (y4t hv)⟩
        · obtain ⟨h1, h2⟩ := h
          exact ⟨_, h2, .pure fun c R1 fr2 hp2 hg _ _ => z80 ho (ea hg) (eb hg) h1⟩
    · exact h.elim
  · split at h
    · split at h
      · rename_i v hv
        exact ⟨_, h, .pure fun c R1 fr2 hp2 hg _ _ => bSt ho (ea hg) (eb hg) (y4v hv)⟩
      · obtain ⟨h1, h2⟩ := h
        exact ⟨_, h2, .pure fun c R1 fr2 hp2 hg _ _ => bSt ho (ea hg) (eb hg) h1⟩
    · exact h.elim
  · split at h
    · obtain ⟨e, he, h⟩ := z1z h
      obtain ⟨d, hd, hi⟩ := z3l he
      split at h
      · rename_i hb
        rw [hb] at hi
        cases hi
        split at h
        · exact ⟨_, h, .pure fun c R1 fr2 hp2 hg _ _ => y0v ho (ea hg) (eb hg) hd⟩
        · exact ⟨_, h, .pure fun c R1 fr2 hp2 hg _ _ => z8u ho (ea hg) (eb hg) hd⟩
        · exact h.elim
      · exact h.elim
    · exact h.elim
  · exact h.elim
def vUn (p : UnOp) (fr : Fr) (y : Operand) (K : Stp -> Prop) : Prop := vev fr y fun a => match p with
  | .not => match a with
    | .pv (.val (.bool b)) => K ⟨.pv (.val (.bool (!b))), [], [], []⟩
    | _ => False
  | .neg => match a with
    | .pv (.val (.int k n)) => K ⟨.pv (.val (.int k (k.wrap (0 - n)))), [], [], []⟩
    | _ => False
  | _ => False
theorem vUn_ok {p : UnOp} {t : Nat} {y : Operand} (ho : o.op = .unOp p t y) (h : vUn p fr y K) : Does P Rl o fr hp K := by
  obtain ⟨a, ha, h⟩ := z1m h
  have ea : ∀ {fr2 : Fr}, agr fr2 fr (z19 o.op) -> fr2.ev y = some a := fun hg => hg.ev ha (by rw [ho]; simp [Op.operands])
  split at h
  · split at h
    · exact ⟨_, h, .pure fun c R1 fr2 hp2 hg _ _ => y5v ho (ea hg)⟩
    · exact h.elim
  · split at h
    · exact ⟨_, h, .pure fun c R1 fr2 hp2 hg _ _ => ok_neg ho (ea hg)⟩
    · exact h.elim
  · exact h.elim
def vConv (T : TB P) (s t : Nat) (fr : Fr) (y : Operand) (K : Stp -> Prop) : Prop := vev fr y fun a => match a with
  | .pv (.val (.int _ n)) => vti T s fun _ => vti T t fun e => match e.i with
    | .int k' => K ⟨.pv (.val (.int k' (k'.wrap n))), [], [], []⟩
    | _ => False
  | _ => False
theorem vConv_ok {s t : Nat} {y : Operand} (ho : o.op = .convert s t y) (h : vConv T s t fr y K) : Does P Rl o fr hp K := by
  obtain ⟨a, ha, h⟩ := z1m h
  have ea : ∀ {fr2 : Fr}, agr fr2 fr (z19 o.op) -> fr2.ev y = some a := fun hg => hg.ev ha (by rw [ho]; simp [Op.operands])
  split at h
  · obtain ⟨e1, he1, h⟩ := z1z h
    obtain ⟨e, he, h⟩ := z1z h
    obtain ⟨d1, hd1, _⟩ := z3l he1
    obtain ⟨d, hd, hi⟩ := z3l he
    split at h
    · rename_i hb
      rw [hb] at hi
      cases hi
      exact ⟨_, h, .pure fun c R1 fr2 hp2 hg _ _ => z45 ho (ea hg) ⟨d1, hd1⟩ hd⟩
    · exact h.elim
  · exact h.elim
inductive VIdx (els : List (List PV)) (m : Int) (K : List PV -> Prop) : Prop
  | mk {i : Nat} {el : List PV} (hi : els[i]? = some el) (hm : m = i) (k : K el)
inductive VIdR (n : Nat) (m : Int) (K : Nat -> Prop) : Prop
  | mk {i : Nat} (hi : i < n) (hm : m = i) (k : K i)
inductive VIdS (s : ByteArray) (m : Int) (K : UInt8 -> Prop) : Prop
  | mk {i : Nat} {b : UInt8} (hi : s[i]? = some b) (hm : m = i) (k : K b)
def vIdxA (T : TB P) (t : Nat) (fr : Fr) (hp : Hp) (y w : Operand) (K : Stp -> Prop) : Prop := vev fr y fun a => vev fr w fun b => match b with
  | .pv (.val (.int _ m)) => vti T t fun e => match e.i with
    | .slice q => vti T q fun eq => match a with
      | .pv (.seq els) => VIdx els m fun el => z2a (Nat.beq el.length eq.n) (K ⟨.pv (.ept el 0), [], [], []⟩)
      | .sl k n => vrow hp k fun s els => z2a (Nat.beq s.e q && Nat.beq s.n eq.n) (els.length = n /\ VIdR n m fun i => K ⟨.rpt k n (i * s.n), [], [k], []⟩)
      | _ => False
    | .arr n q => vti T q fun eq => match a with
      | .ptr k off => vbox hp k fun _ => VIdR n m fun i => K ⟨.ptr k (off + i * eq.n), [], [k], []⟩
      | _ => False
    | _ => False
  | _ => False
theorem vIdxA_ok {t : Nat} {y w : Operand} (ho : o.op = .indexAddr t y w) (h : vIdxA T t fr hp y w K) : Does P Rl o fr hp K := by
  obtain ⟨a, ha, h⟩ := z1m h
  obtain ⟨b, hb, h⟩ := z1m h
  have ea : ∀ {fr2 : Fr}, agr fr2 fr (z19 o.op) -> fr2.ev y = some a := fun hg => hg.ev ha (by rw [ho]; simp [Op.operands])
  have eb : ∀ {fr2 : Fr}, agr fr2 fr (z19 o.op) -> fr2.ev w = some b := fun hg => hg.ev hb (by rw [ho]; simp [Op.operands])
  split at h
  · obtain ⟨e, he, h⟩ := z1z h
    obtain ⟨d, hd, hi⟩ := z3l he
    split at h
    · rename_i q hq
      rw [hq] at hi
      cases hi
      obtain ⟨eq, heq, h⟩ := z1z h
      split at h
      · obtain ⟨h1, h2, h⟩ := h
        obtain ⟨h3, h⟩ := z0j h
        exact ⟨_, h, .pure fun c R1 fr2 hp2 hg _ _ => iSq ho (ea hg) (eb hg) hd h1 (z2i heq) (Nat.eq_of_beq_eq_true h3) h2⟩
      · rename_i k n
        obtain ⟨s, els, hk, h⟩ := z5p h
        obtain ⟨h3, h⟩ := z0j h
        obtain ⟨hn, h1, h2, h9⟩ := h
        simp only [Bool.and_eq_true] at h3
        obtain rfl := Nat.eq_of_beq_eq_true h3.1
        exact ⟨_, h9, .pure fun c R1 fr2 hp2 hg hh _ => iRw ho (ea hg) (eb hg) (hh.at hk (.head _)) hn hd (by rw [z2i heq, Nat.eq_of_beq_eq_true h3.2]) h1 h2⟩
      · exact h.elim
    · rename_i n q hq
      rw [hq] at hi
      cases hi
      obtain ⟨eq, heq, h⟩ := z1z h
      split at h
      · rename_i k off
        obtain ⟨cs, hk, h⟩ := z5o h
        obtain ⟨h1, h2, h⟩ := h
        exact ⟨_, h, .pure fun c R1 fr2 hp2 hg hh _ => zc2 ho (ea hg) (eb hg) (hh.at hk (.head _)) hd (z2i heq) h2 h1⟩
      · exact h.elim
    · exact h.elim
  · exact h.elim
def vIdxV (T : TB P) (t : Nat) (fr : Fr) (y w : Operand) (K : Stp -> Prop) : Prop := vev fr y fun a => vev fr w fun b => match b with
  | .pv (.val (.int _ m)) => match a with
    | .pv (.val (.string s)) => vti T t fun e => match e.i with
      | .str => VIdS s m fun b => K ⟨.pv (.val (.int .u8 b.toNat)), [], [], []⟩
      | _ => False
    | _ => False
  | _ => False
theorem vIdxV_ok {t : Nat} {y w : Operand} (ho : o.op = .index t y w) (h : vIdxV T t fr y w K) : Does P Rl o fr hp K := by
  obtain ⟨a, ha, h⟩ := z1m h
  obtain ⟨b, hb, h⟩ := z1m h
  have ea : ∀ {fr2 : Fr}, agr fr2 fr (z19 o.op) -> fr2.ev y = some a := fun hg => hg.ev ha (by rw [ho]; simp [Op.operands])
  have eb : ∀ {fr2 : Fr}, agr fr2 fr (z19 o.op) -> fr2.ev w = some b := fun hg => hg.ev hb (by rw [ho]; simp [Op.operands])
  split at h
  · split at h
    · obtain ⟨e, he, h⟩ := z1z h
      obtain ⟨d, hd, hi⟩ := z3l he
      split at h
      · rename_i hq
        rw [hq] at hi
        cases hi
        obtain ⟨h1, h2, h⟩ := h
        exact ⟨_, h, .pure fun c R1 fr2 hp2 hg _ _ => z4f ho (ea hg) (eb hg) hd h1 h2⟩
      · exact h.elim
    · exact h.elim
  · exact h.elim
def y7m (T : TB P) (t : Nat) (fr : Fr) (hp : Hp) (y : Operand) (f : Nat) (K : Stp -> Prop) : Prop := vev fr y fun a => vti T t fun e => match e.i with
  | .struct fs => vopt fs[f]? fun p => vti T p.2 fun ef => z2a (Nat.blt 0 ef.n) (match a with
    | .pv (.ept cs off) => K ⟨.pv (.ept cs (off + p.1)), [], [], []⟩
    | .ptr k off => vbox hp k fun _ => K ⟨.ptr k (off + p.1), [], [k], []⟩
    | _ => False)
  | _ => False
theorem field_ok {t f : Nat} {e ef : TE} {fs : List (Nat × Nat)} {p : Nat × Nat} (he : teB P t e = true) (hi : e.i = .struct fs) (hp : fs[f]? = some p) (hf : teB P p.2 ef = true) (hn : Nat.blt 0 ef.n = true) : z0m P t f p.1 := by
  obtain ⟨d, hd, h1⟩ := z3l he
  rw [hi] at h1
  obtain ⟨a, rfl, h2⟩ := h1
  rw [<- h2, List.getElem?_map, Option.map_eq_some_iff] at hp
  obtain ⟨fd, h3, rfl⟩ := hp
  have h4 : 1 <= ef.n := by simpa [Nat.blt] using hn
  exact ⟨a, fd, ef.n - 1, hd, by simpa using h3, rfl, by rw [z2i hf]; congr 1; omega⟩
theorem y4e {t f : Nat} {y : Operand} (ho : o.op = .fieldAddr t y f) (h : y7m T t fr hp y f K) : Does P Rl o fr hp K := by
  obtain ⟨a, ha, h⟩ := z1m h
  have ea : ∀ {fr2 : Fr}, agr fr2 fr (z19 o.op) -> fr2.ev y = some a := fun hg => hg.ev ha (by rw [ho]; simp [Op.operands])
  obtain ⟨e, he, h⟩ := z1z h
  split at h
  · rename_i fs hfs
    obtain ⟨p, hp', h⟩ := z10 h
    obtain ⟨ef, hef, h⟩ := z1z h
    obtain ⟨hn, h⟩ := z0j h
    have hF := field_ok he hfs hp' hef hn
    split at h
    · exact ⟨_, h, .pure fun c R1 fr2 hp2 hg _ _ => z7h ho (ea hg) hF⟩
    · obtain ⟨cs, hk, h⟩ := z5o h
      exact ⟨_, h, .pure fun c R1 fr2 hp2 hg hh _ => z7i ho (ea hg) (hh.at hk (.head _)) hF⟩
    · exact h.elim
  · exact h.elim
theorem z7j {c : Cx} {R1 : Nat -> Prop} {t : Nat} {x : Operand} {d : TypeDesc} {k n i off : Nat} {s : RT} {els : List (List PV)} {el : List PV} (ho : o.op = .load t x) (hx : fr.ev x = some (.rpt k n off)) (hk : look hp k = some (.row s els)) (hn : els.length = n)
    (hoff : off = i * s.n) (hi : els[i]? = some el) (hu : P.underlying t = some d) (hd : d.isRow = true) (hs : (P.info? t).map (·.size) = some s.n) (hR1 : R1 k) : OkV P c R1 o fr (look hp) (.pv (.agg el)) := by
  intro ρ w a h
  obtain ⟨b, cc, r, u, hv, hρ, h3, h4, hc, hcm, hwe, hcells, hu'⟩ := h.rpt hx hk hn
  have hel : el.length = s.n := hwe el (List.mem_of_getElem? hi)
  have hin : i < els.length := (List.getElem?_eq_some_iff.1 hi).1
  have hle : i * s.n + s.n <= r.size := by
    have : (i + 1) * s.n <= cc * s.n := Nat.mul_le_mul_right _ oM0
    rw [Nat.add_mul] at this; omega
  have hlen : ((r.toList.drop off).take s.n).length = s.n := by simp; omega
  refine ⟨_, fun w2 h2 => by simp only [execOp, ho, hv, Sem.run_bind, run_loadAt_mid (P := P) w2 b off t _ d (zx4 ((h2 b (h.rel.lt hρ) (.inr ⟨k, cc, hR1, hρ⟩)).trans h3) off s.n) hu hd (by rw [hlen]; exact hs)]; rfl, .pv _ _ (.agg _ _ (u i) ?_ ?_ ?_)⟩
  · simp; omega
  · intro j z hj
    have hjn : j < s.n := by have := (List.getElem?_eq_some_iff.1 hj).1; omega
    have := hcells i el hi j z hj
    subst hoff
    simp [hjn]
    simpa using this
  · exact fun j z hj => hu' i el hi j z hj
inductive VRow (s : RT) (els : List (List PV)) (n off : Nat) (K : PV -> Prop) : Prop
  | mk {i j : Nat} {el : List PV} {z : PV} (hn : els.length = n) (ho : off = i * s.n + j) (hi : els[i]? = some el) (hj : el[j]? = some z) (k : K z)
inductive VRowS (s : RT) (els : List (List PV)) (n off : Nat) (K : List PV -> Prop) : Prop
  | mk {i : Nat} {el : List PV} (hn : els.length = n) (ho : off = i * s.n) (hi : els[i]? = some el) (k : K el)
def y7o (T : TB P) (t : Nat) (fr : Fr) (hp : Hp) (y : Operand) (K : Stp -> Prop) : Prop := vev fr y fun a => vti T t fun e => match a with
  | .pv (.ept cs off) => match e.i.row with
    | false => vopt cs[off]? fun z => K ⟨.pv z, [], [], []⟩
    | true => z2a (Nat.ble (off + e.n) cs.length) (frcP ((cs.drop off).take e.n) fun l => K ⟨.pv (.agg l), [], [], []⟩)
  | .ptr k off => vbox hp k fun cs => match e.i.row with
    | false => vopt cs[off]? fun z => K ⟨z, [], [k], []⟩
    | true => z2a (Nat.ble (off + e.n) cs.length) (match z5z ((cs.drop off).take e.n) with
      | some ps => frcP ps fun l => K ⟨.pv (.agg l), [], [k], []⟩
      | none => frcI ((cs.drop off).take e.n) fun l => K ⟨.agg l, [], [k], []⟩)
  | .rpt k n off => vrow hp k fun s els => match e.i.row with
    | false => VRow s els n off fun z => K ⟨.pv z, [], [k], []⟩
    | true => z2a (Nat.beq e.n s.n) (VRowS s els n off fun el => K ⟨.pv (.agg el), [], [k], []⟩)
  | _ => False
theorem vLoad_ok {t : Nat} {y : Operand} (ho : o.op = .load t y) (h : y7o T t fr hp y K) : Does P Rl o fr hp K := by
  obtain ⟨a, ha, h⟩ := z1m h
  have ea : ∀ {fr2 : Fr}, agr fr2 fr (z19 o.op) -> fr2.ev y = some a := fun hg => hg.ev ha (by rw [ho]; simp [Op.operands])
  obtain ⟨e, he, h⟩ := z1z h
  obtain ⟨d, hd, hi⟩ := z3l he
  have hrow := TI.is_row hi
  split at h
  · split at h
    · rename_i hr
      obtain ⟨z, hz, h⟩ := z10 h
      exact ⟨_, h, .pure fun c R1 fr2 hp2 hg _ _ => z6n ho (ea hg) hd (hrow.trans hr) hz⟩
    · rename_i hr
      obtain ⟨hn, h⟩ := z0j h
      exact ⟨_, z6j h, .pure fun c R1 fr2 hp2 hg _ _ => lEA ho (ea hg) hd (hrow.trans hr) (z2i he) (Nat.le_of_ble_eq_true hn)⟩
  · obtain ⟨cs, hk, h⟩ := z5o h
    split at h
    · rename_i hr
      obtain ⟨z, hz, h⟩ := z10 h
      exact ⟨_, h, .pure fun c R1 fr2 hp2 hg hh hR => z47 ho (ea hg) (hh.at hk (.head _)) hd (hrow.trans hr) hz (hR _ (.head _))⟩
    · rename_i hr
      obtain ⟨hn, h⟩ := z0j h
      split at h
      · rename_i ps hps
        exact ⟨_, z6j h, .pure fun c R1 fr2 hp2 hg hh hR => lBP ho (ea hg) (hh.at hk (.head _)) hd (hrow.trans hr) (z2i he) (Nat.le_of_ble_eq_true hn) hps (hR _ (.head _))⟩
      · exact ⟨_, z4n h, .pure fun c R1 fr2 hp2 hg hh hR => z59 ho (ea hg) (hh.at hk (.head _)) hd (hrow.trans hr) (z2i he) (Nat.le_of_ble_eq_true hn) (hR _ (.head _))⟩
  · obtain ⟨s, els, hk, h⟩ := z5p h
    split at h
    · rename_i hr
      obtain ⟨hn, hoff, h1, h2, h⟩ := h
      exact ⟨_, h, .pure fun c R1 fr2 hp2 hg hh hR => lRw ho (ea hg) (hh.at hk (.head _)) hn hoff h1 h2 hd (hrow.trans hr) (hR _ (.head _))⟩
    · rename_i hr
      obtain ⟨hq, h⟩ := z0j h
      obtain ⟨hn, hoff, h1, h⟩ := h
      exact ⟨_, h, .pure fun c R1 fr2 hp2 hg hh hR => z7j ho (ea hg) (hh.at hk (.head _)) hn hoff h1 hd (hrow.trans hr) (by rw [z2i he, Nat.eq_of_beq_eq_true hq]) (hR _ (.head _))⟩
  · exact h.elim
def y7n (T : TB P) (t : Nat) (fr : Fr) (y : Operand) (f : Nat) (K : Stp -> Prop) : Prop := vev fr y fun a => match a with
  | .pv (.agg ps) => vti T t fun e => match e.i with
    | .struct fs => vopt fs[f]? fun p => vti T p.2 fun ef => match ef.i.row with
      | false => vopt ps[p.1]? fun z => K ⟨.pv z, [], [], []⟩
      | true => False
    | _ => False
  | _ => False
theorem y4f {t f : Nat} {y : Operand} (ho : o.op = .field t y f) (h : y7n T t fr y f K) : Does P Rl o fr hp K := by
  obtain ⟨a, ha, h⟩ := z1m h
  have ea : ∀ {fr2 : Fr}, agr fr2 fr (z19 o.op) -> fr2.ev y = some a := fun hg => hg.ev ha (by rw [ho]; simp [Op.operands])
  split at h
  · obtain ⟨e, he, h⟩ := z1z h
    obtain ⟨d, hd, hi⟩ := z3l he
    split at h
    · rename_i fs hfs
      rw [hfs] at hi
      obtain ⟨q, rfl, h2⟩ := hi
      obtain ⟨p, hp', h⟩ := z10 h
      obtain ⟨ef, hef, h⟩ := z1z h
      obtain ⟨df, hdf, hif⟩ := z3l hef
      split at h
      · rename_i hr
        obtain ⟨z, hz, h9⟩ := z10 h
        rw [<- h2, List.getElem?_map, Option.map_eq_some_iff] at hp'
        obtain ⟨fd, h3, rfl⟩ := hp'
        exact ⟨_, h9, .pure fun c R1 fr2 hp2 hg _ _ => z9i ho (ea hg) hd (by simpa using h3) hdf ((TI.is_row hif).trans hr) hz⟩
      · exact h.elim
    · exact h.elim
  · exact h.elim
def y2j (fr : Fr) (y : Operand) (i : Nat) (K : Stp -> Prop) : Prop := vev fr y fun a => match a with
  | .tup vs => vopt vs[i]? fun z => K ⟨z, [], [], []⟩
  | _ => False
theorem y1n {i : Nat} {y : Operand} (ho : o.op = .extract y i) (h : y2j fr y i K) : Does P Rl o fr hp K := by
  obtain ⟨a, ha, h⟩ := z1m h
  split at h
  · obtain ⟨z, hz, h⟩ := z10 h
    exact ⟨_, h, .pure fun c R1 fr2 hp2 hg _ _ => z1o ho (hg.ev ha (by rw [ho]; simp [Op.operands])) hz⟩
  · exact h.elim
def vNil (fr : Fr) (hp : Hp) (y : Operand) (K : Stp -> Prop) : Prop := vev fr y fun a => match a with
  | .ptr k off => vbox hp k fun _ => K ⟨.ptr k off, [], [k], []⟩
  | .pv (.ept cs off) => K ⟨.pv (.ept cs off), [], [], []⟩
  | _ => False
theorem vNil_ok {y : Operand} (ho : o.op = .nilCheck y) (h : vNil fr hp y K) : Does P Rl o fr hp K := by
  obtain ⟨a, ha, h⟩ := z1m h
  have ea : ∀ {fr2 : Fr}, agr fr2 fr (z19 o.op) -> fr2.ev y = some a := fun hg => hg.ev ha (by rw [ho]; simp [Op.operands])
  split at h
  · obtain ⟨cs, hk, h⟩ := z5o h
    exact ⟨_, h, .pure fun c R1 fr2 hp2 hg hh _ => nCk ho (ea hg) (hh.at hk (.head _))⟩
  · exact ⟨_, h, .pure fun c R1 fr2 hp2 hg _ _ => zh7 ho (ea hg)⟩
  · exact h.elim
def vEnd (fr : Fr) (y : Option Operand) (n : Nat) (K : Nat -> Prop) : Prop := match y with
  | none => K n
  | some y => vev fr y fun a => match a with
    | .pv (.val (.int _ m)) => ∃ i : Nat, m = i /\ K i
    | _ => False
theorem zs7 {y : Option Operand} {n : Nat} {K : Nat -> Prop} (h : vEnd fr y n K) : ∃ i, K i /\ ((y = none /\ i = n) ∨ ∃ z k, y = some z /\ fr.ev z = some (.pv (.val (.int k i)))) := by
  unfold vEnd at h
  split at h
  · exact ⟨n, h, .inl ⟨rfl, rfl⟩⟩
  · rename_i y
    obtain ⟨a, ha, h⟩ := z1m h
    split at h
    · rename_i k m
      obtain ⟨i, rfl, h⟩ := h
      exact ⟨i, h, .inr ⟨y, k, rfl, ha⟩⟩
    · exact h.elim
def vSlice (T : TB P) (t : Nat) (fr : Fr) (y : Operand) (lo hi : Option Operand) (K : Stp -> Prop) : Prop := vev fr y fun a => vti T t fun e => match a with
  | .pv (.seq els) => match e.i with
    | .slice q => vti T q fun eq => vEnd fr lo 0 fun i => vEnd fr hi els.length fun j => i <= j /\ j <= els.length /\ (∀ el ∈ els, el.length = eq.n) /\ K ⟨.pv (.seq ((els.take j).drop i)), [], [], []⟩
    | _ => False
  | .pv (.val (.string s)) => match e.i with
    | .str => vEnd fr lo 0 fun i => vEnd fr hi s.size fun j => i <= j /\ j <= s.size /\ K ⟨.pv (.val (.string (s.extract i j))), [], [], []⟩
    | _ => False
  | _ => False
theorem zo8 {lo : Option Operand} {n i : Nat} {fr2 : Fr} (hg : agr fr2 fr (z19 o.op)) (hm : ∀ z, lo = some z -> z ∈ o.op.operands.toList) (h : (lo = none /\ i = n) ∨ ∃ z k, lo = some z /\ fr.ev z = some (.pv (.val (.int k i)))) : (lo = none /\ i = n) ∨ ∃ z k, lo = some z /\ fr2.ev z = some (.pv (.val (.int k i))) := by
  rcases h with h | ⟨z, k, h1, h2⟩
  · exact .inl h
  · exact .inr ⟨z, k, h1, hg.ev h2 (hm z h1)⟩
theorem y7s {t : Nat} {y : Operand} {lo hi : Option Operand} (ho : o.op = .slice t y lo hi none) (h : vSlice T t fr y lo hi K) : Does P Rl o fr hp K := by
  obtain ⟨a, ha, h⟩ := z1m h
  have ea : ∀ {fr2 : Fr}, agr fr2 fr (z19 o.op) -> fr2.ev y = some a := fun hg => hg.ev ha (by rw [ho]; simp [Op.operands])
  have ml : ∀ z, lo = some z -> z ∈ o.op.operands.toList := fun z hz => by rw [ho, hz]; simp [Op.operands]
  have mh : ∀ z, hi = some z -> z ∈ o.op.operands.toList := fun z hz => by rw [ho, hz]; simp [Op.operands]
  obtain ⟨e, he, h⟩ := z1z h
  obtain ⟨d, hd, hi'⟩ := z3l he
  split at h
  · split at h
    · rename_i q hq
      rw [hq] at hi'
      cases hi'
      obtain ⟨eq, heq, h⟩ := z1z h
      obtain ⟨i, h, h1⟩ := zs7 h
      obtain ⟨j, h, h2⟩ := zs7 h
      exact ⟨_, h.2.2.2, .pure fun c R1 fr2 hp2 hg _ _ => z4g ho (ea hg) hd (z2i heq) (zo8 hg ml h1) (zo8 hg mh h2) h.1 h.2.1 h.2.2.1⟩
    · exact h.elim
  · split at h
    · rename_i hq
      rw [hq] at hi'
      cases hi'
      obtain ⟨i, h, h1⟩ := zs7 h
      obtain ⟨j, h, h2⟩ := zs7 h
      exact ⟨_, h.2.2, .pure fun c R1 fr2 hp2 hg _ _ => zc3 ho (ea hg) hd (zo8 hg ml h1) (zo8 hg mh h2) h.1 h.2.1⟩
    · exact h.elim
  · exact h.elim
def vFunc (fr : Fr) (f : Fn) (xs ys : Array Operand) (K : Stp -> Prop) : Prop := vopt (evs fr xs.toList) fun us => vopt (evs fr ys.toList) fun vs => K ⟨.fn f us vs, [], [], []⟩
theorem vFunc_ok {f : Fn} {xs ys : Array Operand} (ho : o.op = .makeFunc f xs ys) (h : vFunc fr f xs ys K) : Does P Rl o fr hp K := by
  obtain ⟨us, h1, h⟩ := z10 h
  obtain ⟨vs, h2, h⟩ := z10 h
  exact ⟨_, h, .pure fun c R1 fr2 hp2 hg _ _ => z5a ho (hg.evs h1 fun y hy => by rw [ho]; simp only [Op.operands, Array.toList_append]; exact List.mem_append_left _ hy) (hg.evs h2 fun y hy => by rw [ho]; simp only [Op.operands, Array.toList_append]; exact List.mem_append_right _ hy)⟩
inductive VAsk (d : TypeDesc) (kv : Value) (es : List (Value × PV)) (z : Value) (K : PV -> Bool -> Prop) : Prop
  | mk {p : PV} {b : Bool} (hk : z28 d kv = true) (hes : ∀ e ∈ es, z28 d e.1 = true) (h : ((z41 kv es).getD (.val z), (z41 kv es).isSome) = (p, b)) (k : K p b)
inductive VMap (d : TypeDesc) (kv : Value) (es : List (Value × PV)) (A : Prop) : Prop
  | mk (hk : z28 d kv = true) (hes : ∀ e ∈ es, z28 d e.1 = true) (k : A)
def TI.key : TI -> Option TypeDesc
  | .int k => some (.int k)
  | .str => some .string
  | _ => none
theorem zp6 {t : Nat} {e : TE} {d : TypeDesc} (he : teB P t e = true) (hd : e.i.key = some d) : P.underlying t = some d := by
  obtain ⟨d', hd', hi⟩ := z3l he
  rw [hd']
  cases hq : e.i <;> rw [hq] at hd hi <;> first | (cases hd; cases hi; rfl) | cases hd
def y7p (T : TB P) (t : Nat) (fr : Fr) (hp : Hp) (y w : Operand) (two : Bool) (K : Stp -> Prop) : Prop := vev fr y fun a => vev fr w fun b => match a with
  | .mp k => match b with
    | .pv (.val kv) => vmap hp k fun es => vti T t fun e => match e.i with
      | .map kt et => vti T kt fun ek => vti T et fun ee => vopt ek.i.key fun d => z2a (!ee.z.isEmpty) (VAsk d kv es ee.zv fun p b => match two with
        | false => K ⟨.pv p, [], [k], []⟩
        | true => K ⟨.tup [.pv p, iBool b], [], [k], []⟩)
      | _ => False
    | _ => False
  | _ => False
theorem y4h {t : Nat} {y w : Operand} {two : Bool} (ho : o.op = .lookup t y w two) (h : y7p T t fr hp y w two K) : Does P Rl o fr hp K := by
  obtain ⟨a, ha, h⟩ := z1m h
  obtain ⟨b, hb, h⟩ := z1m h
  have ea : ∀ {fr2 : Fr}, agr fr2 fr (z19 o.op) -> fr2.ev y = some a := fun hg => hg.ev ha (by rw [ho]; simp [Op.operands])
  have eb : ∀ {fr2 : Fr}, agr fr2 fr (z19 o.op) -> fr2.ev w = some b := fun hg => hg.ev hb (by rw [ho]; simp [Op.operands])
  split at h
  · split at h
    · obtain ⟨es, hk, h⟩ := zs9 h
      obtain ⟨e, he, h⟩ := z1z h
      obtain ⟨d, hd, hi⟩ := z3l he
      split at h
      · rename_i kt et hq
        rw [hq] at hi
        cases hi
        obtain ⟨ek, hek, h⟩ := z1z h
        obtain ⟨ee, hee, h⟩ := z1z h
        obtain ⟨dk, hdk, h⟩ := z10 h
        obtain ⟨hz, h⟩ := z0j h
        have hz' : ee.z ≠ [] := by simpa using hz
        obtain ⟨h1, h2, h3, h⟩ := h
        have e1 := (congrArg Prod.fst h3).symm
        have e2 := (congrArg Prod.snd h3).symm
        dsimp only at e1 e2
        subst e1 e2
        split at h
        · exact ⟨_, h, .pure fun c R1 fr2 hp2 hg hh hR => z9j ho (ea hg) (eb hg) (hh.at hk (.head _)) hd (zp6 hek hdk) h1 h2 (z6x hee hz') (hR _ (.head _))⟩
        · exact ⟨_, h, .pure fun c R1 fr2 hp2 hg hh hR => y3d ho (ea hg) (eb hg) (hh.at hk (.head _)) hd (zp6 hek hdk) h1 h2 (z6x hee hz') (hR _ (.head _))⟩
      · exact h.elim
    · exact h.elim
  · exact h.elim
def vLen (T : TB P) (t : Nat) (fr : Fr) (hp : Hp) (y : Operand) (K : Stp -> Prop) : Prop := vev fr y fun a => vti T t fun e => match a with
  | .pv (.seq els) => match e.i with
    | .slice _ => K ⟨.pv (.val (.int .i64 els.length)), [], [], []⟩
    | _ => False
  | .pv (.val (.slice none 0 0)) => match e.i with
    | .slice _ => K ⟨.pv (.val (.int .i64 0)), [], [], []⟩
    | _ => False
  | .pv (.val (.string s)) => match e.i with
    | .str => K ⟨.pv (.val (.int .i64 s.size)), [], [], []⟩
    | _ => False
  | .sl k n => match e.i with
    | .slice _ => vrow hp k fun _ els => els.length = n /\ K ⟨.pv (.val (.int .i64 n)), [], [k], []⟩
    | _ => False
  | .mp k => match e.i with
    | .map .. => vmap hp k fun es => K ⟨.pv (vInt es.length), [], [k], []⟩
    | _ => False
  | _ => False
theorem vLen_ok {t : Nat} {y : Operand} (ho : o.op = .call { callee := .builtin .len, args := #[y], argTypes := #[t] }) (h : vLen T t fr hp y K) : Does P Rl o fr hp K := by
  obtain ⟨a, ha, h⟩ := z1m h
  have ea : ∀ {fr2 : Fr}, agr fr2 fr (z19 o.op) -> fr2.ev y = some a := fun hg => hg.ev ha (by rw [ho]; simp [Op.operands, Call.operands])
  obtain ⟨e, he, h⟩ := z1z h
  obtain ⟨d, hd, hi⟩ := z3l he
  split at h
  · split at h
    · rename_i hq; rw [hq] at hi; cases hi
      exact ⟨_, h, .pure fun c R1 fr2 hp2 hg _ _ => za4 ho (ea hg) hd rfl⟩
    · exact h.elim
  · split at h
    · rename_i hq; rw [hq] at hi; cases hi
      exact ⟨_, h, .pure fun c R1 fr2 hp2 hg _ _ => y3b ho (ea hg) hd⟩
    · exact h.elim
  · split at h
    · rename_i hq; rw [hq] at hi; cases hi
      exact ⟨_, h, .pure fun c R1 fr2 hp2 hg _ _ => z46 ho (ea hg) hd⟩
    · exact h.elim
  · split at h
    · rename_i hq; rw [hq] at hi; cases hi
      obtain ⟨s, els, hk, h⟩ := z5p h
      exact ⟨_, h.2, .pure fun c R1 fr2 hp2 hg hh _ => y3c ho (ea hg) (hh.at hk (.head _)) h.1 hd⟩
    · exact h.elim
  · split at h
    · rename_i hq; rw [hq] at hi; cases hi
      obtain ⟨es, hk, h⟩ := zs9 h
      exact ⟨_, h, .pure fun c R1 fr2 hp2 hg hh hR => zn5 ho (ea hg) (hh.at hk (.head _)) hd (hR _ (.head _))⟩
    · exact h.elim
  · exact h.elim
def vMax (fr : Fr) (y w : Operand) (K : Stp -> Prop) : Prop := vev fr y fun a => vev fr w fun b => match a with
  | .pv (.val (.int k m)) => match b with
    | .pv (.val (.int k' n)) => z2a (k' == k) (K ⟨.pv (.val (.int k (if m < n then n else m))), [], [], []⟩)
    | _ => False
  | _ => False
theorem vMax_ok {t : Nat} {y w : Operand} (ho : o.op = .call { callee := .builtin .max, args := #[y, w], argTypes := #[t, t] }) (h : vMax fr y w K) : Does P Rl o fr hp K := by
  obtain ⟨a, ha, h⟩ := z1m h
  obtain ⟨b, hb, h⟩ := z1m h
  split at h
  · split at h
    · obtain ⟨hk, h⟩ := z0j h
      obtain rfl := eq_of_beq hk
      exact ⟨_, h, .pure fun c R1 fr2 hp2 hg _ _ => ok_max ho (hg.ev ha (by rw [ho]; simp [Op.operands, Call.operands])) (hg.ev hb (by rw [ho]; simp [Op.operands, Call.operands]))⟩
    · exact h.elim
  · exact h.elim
def vCap (T : TB P) (t : Nat) (fr : Fr) (y : Operand) (K : Stp -> Prop) : Prop := vev fr y fun a => vti T t fun e => match a with
  | .pv (.val (.slice none 0 0)) => match e.i with
    | .slice _ => K ⟨iInt 0, [], [], []⟩
    | _ => False
  | _ => False
theorem vCap_ok {t : Nat} {y : Operand} (ho : o.op = .call { callee := .builtin .cap, args := #[y], argTypes := #[t] }) (h : vCap T t fr y K) : Does P Rl o fr hp K := by
  obtain ⟨a, ha, h⟩ := z1m h
  obtain ⟨e, he, h⟩ := z1z h
  obtain ⟨d, hd, hi⟩ := z3l he
  split at h
  · split at h
    · rename_i hq; rw [hq] at hi; cases hi
      exact ⟨_, h, .pure fun c R1 fr2 hp2 hg _ _ => y3a ho (hg.ev ha (by rw [ho]; simp [Op.operands, Call.operands])) hd⟩
    · exact h.elim
  · exact h.elim
end
section
variable {P : Program} {T : TB P} {o : Oper} {fr : Fr} {hp : Hp} {Rl : List Nat} {K : Stp -> Prop} {c : Cx}
theorem notR {k : Nat} (hR : ∀ k, c.R k -> k ∈ Rl) (h : nIn k Rl = false) : ¬ c.R k := fun h1 => z2e h (hR k h1)
def vStore (T : TB P) (Rl : List Nat) (t : Nat) (fr : Fr) (hp : Hp) (y w : Operand) (K : Stp -> Prop) : Prop := vev fr y fun a => vev fr w fun z => vti T t fun e => match a with
  | .ptr k off => z2a (!nIn k Rl) (vbox hp k fun cs => match e.i.row with
    | false => z2a (Nat.beq e.n 1 && Nat.blt off cs.length) (y4i hp z (frcI (cs.set off z) fun l => K ⟨.pv (.val undef), [(k, some (.box l))], k :: za2 z, []⟩))
    | true => vopt z.parts fun zs => z2a (Nat.beq e.n zs.length && Nat.ble (off + zs.length) cs.length) (y7u hp zs (frcI (zi0 cs off zs) fun l => K ⟨.pv (.val undef), [(k, some (.box l))], k :: zs.flatMap za2, []⟩)))
  | .rpt k n off => z2a (!nIn k Rl) (vrow hp k fun s els => match z with
    | .pv p => z2a (Nat.beq e.n 1 && p.one) (∃ i j el, els.length = n /\ off = i * s.n + j /\ els[i]? = some el /\ j < el.length /\ K ⟨.pv (.val undef), [(k, some (.row s (els.set i (el.set j p))))], [k], []⟩)
    | _ => False)
  | _ => False
theorem y7t {t : Nat} {y w : Operand} (ho : o.op = .store t y w) (h : vStore T Rl t fr hp y w K) : Does P Rl o fr hp K := by
  replace h := z1m h
  obtain ⟨a, ha, h⟩ := h
  replace h := z1m h
  obtain ⟨z, hz, h⟩ := h
  have ea : ∀ {fr2 : Fr}, agr fr2 fr (z19 o.op) -> fr2.ev y = some a := fun hg => hg.ev ha (by rw [ho]; simp [Op.operands])
  have eb : ∀ {fr2 : Fr}, agr fr2 fr (z19 o.op) -> fr2.ev w = some z := fun hg => hg.ev hz (by rw [ho]; simp [Op.operands])
  replace h := z1z h
  obtain ⟨e, he, h⟩ := h
  split at h
  · rename_i k off
    replace h := z0j h
    obtain ⟨hR, h⟩ := h
    have hR' : nIn k Rl = false := by simpa using hR
    replace h := z5o h
    obtain ⟨cs, hk, h⟩ := h
    split at h
    · obtain ⟨h1, h⟩ := z0j h
      simp only [Bool.and_eq_true] at h1
      replace h := ze6 h
      obtain ⟨h, hf⟩ := h
      refine ⟨_, z4n h, fun c fr2 hp2 hc _ hg hh _ => ?_⟩
      exact sBx ho (ea hg) (eb hg) (hh.at hk (.head _)) (notR hc hR') (by rw [z2i he, Nat.eq_of_beq_eq_true h1.1]) (hf hp2 fun k hk => hh k (.tail _ hk)) (Nat.le_of_ble_eq_true h1.2)
    · obtain ⟨zs, hzs, h⟩ := z10 h
      replace h := z0j h
      obtain ⟨h1, h⟩ := h
      simp only [Bool.and_eq_true] at h1
      replace h := y07 h
      obtain ⟨h, hf⟩ := h
      refine ⟨_, z4n h, fun c fr2 hp2 hc _ hg hh _ => ?_⟩
      exact sBA ho (ea hg) (eb hg) hzs (hh.at hk (.head _)) (notR hc hR') (by rw [z2i he, Nat.eq_of_beq_eq_true h1.1]) (hf hp2 fun k hk => hh k (.tail _ hk)) (Nat.le_of_ble_eq_true h1.2)
  · rename_i k n off
    replace h := z0j h
    obtain ⟨hR, h⟩ := h
    have hR' : nIn k Rl = false := by simpa using hR
    replace h := z5p h
    obtain ⟨s, els, hk, h⟩ := h
    split at h
    · obtain ⟨h1, h⟩ := z0j h
      simp only [Bool.and_eq_true] at h1
      obtain ⟨i, j, el, hn, hoff, hi, hj, h⟩ := h
      exact ⟨_, h, fun c fr2 hp2 hc _ hg hh _ => z1n ho (ea hg) (eb hg) (hh.at hk (.head _)) hn hoff hi hj (by rw [z2i he, Nat.eq_of_beq_eq_true h1.1]) h1.2 (notR hc hR')⟩
    · exact h.elim
  · exact h.elim
def ZV.pvs : List ZV -> List IV
  | [] => []
  | z :: r => .pv (.val z.val) :: ZV.pvs r
theorem ZV.pvs_eq : ∀ l : List ZV, ZV.pvs l = (l.map ZV.val).map fun v => .pv (.val v)
  | [] => rfl
  | z :: r => by simp only [ZV.pvs, List.map_cons, ZV.pvs_eq r]
def ZV.ps : List ZV -> List PV
  | [] => []
  | z :: r => .val z.val :: ZV.ps r
theorem ZV.ps_eq : ∀ l : List ZV, ZV.ps l = (l.map ZV.val).map .val
  | [] => rfl
  | z :: r => by simp only [ZV.ps, List.map_cons, ZV.ps_eq r]
def vAlloc (T : TB P) (t k : Nat) (K : Stp -> Prop) : Prop := vti T t fun e => z2a (!e.z.isEmpty) (frcI (ZV.pvs e.z) fun l => K ⟨.ptr k 0, [(k, some (.box l))], [k], [k]⟩)
theorem y7i {t k : Nat} (ho : o.op = .alloc t) (h : vAlloc T t k K) : Does P Rl o fr hp K := by
  replace h := z1z h
  obtain ⟨e, he, h⟩ := h
  replace h := z0j h
  obtain ⟨hz, h⟩ := h
  have hz' : e.z ≠ [] := by simpa using hz
  refine ⟨_, z4n h, fun c fr2 hp2 _ hc _ _ hf => ?_⟩
  obtain ⟨f1, f2, f3⟩ := z3r (hf k (.head _))
  have := aLc (c := c) ho (z6x he hz') f3 (hc k (.head _)) f1 f2
  rwa [(z6w he hz').1, <- ZV.pvs_eq] at this
def vBox (own : Bool) (fr : Fr) (hp : Hp) (y : Operand) (k : Nat) (K : Stp -> Prop) : Prop := vev fr y fun a => match own with
  | true => match a with
    | .pv (.agg ps) => frcI (ps.map .pv) fun l => K ⟨.ptr k 0, [(k, some (.box l))], [k], [k]⟩
    | .agg cs => z2a (!nm.nms k cs) (K ⟨.ptr k 0, [(k, some (.box cs))], [k], [k]⟩)
    | z => z2a (!nm k z) (y4i hp z (K ⟨.ptr k 0, [(k, some (.box [z]))], k :: za2 z, [k]⟩))
  | false => match a with
    | .pv (.agg ps) => K ⟨.pv (.ept ps 0), [], [], []⟩
    | .pv p => z2a p.one (K ⟨.pv (.ept [p] 0), [], [], []⟩)
    | _ => False
theorem vBox_ok {t k : Nat} {own : Bool} {y : Operand} (ho : o.op = .box t y) (h : vBox own fr hp y k K) : Does P Rl o fr hp K := by
  replace h := z1m h
  obtain ⟨a, ha, h⟩ := h
  have ea : ∀ {fr2 : Fr}, agr fr2 fr (z19 o.op) -> fr2.ev y = some a := fun hg => hg.ev ha (by rw [ho]; simp [Op.operands])
  split at h
  · split at h
    · refine ⟨_, z4n h, fun c fr2 hp2 _ hc hg _ hf => ?_⟩
      obtain ⟨f1, f2, f3⟩ := z3r (hf k (.head _))
      exact z81 ho (ea hg) f3 (hc k (.head _)) f1 f2
    · obtain ⟨hn, h⟩ := z0j h
      refine ⟨_, h, fun c fr2 hp2 _ hc hg _ hf => ?_⟩
      obtain ⟨f1, f2, f3⟩ := z3r (hf k (.head _))
      exact zh5 ho (ea hg) f3 (hc k (.head _)) f1 f2 (by simpa using hn)
    · obtain ⟨hn, h⟩ := z0j h
      replace h := ze6 h
      obtain ⟨h, hz⟩ := h
      refine ⟨_, h, fun c fr2 hp2 _ hc hg hh hf => ?_⟩
      obtain ⟨f1, f2, f3⟩ := z3r (hf k (.head _))
      exact za3 ho (ea hg) (hz hp2 fun k hk => hh k (.tail _ hk)) f3 (hc k (.head _)) f1 f2 (by simpa using hn)
  · split at h
    · exact ⟨_, h, fun c fr2 hp2 _ _ hg _ _ => z1c ho (ea hg)⟩
    · obtain ⟨h1, h⟩ := z0j h
      exact ⟨_, h, fun c fr2 hp2 _ _ hg _ _ => y0u ho (ea hg) h1⟩
    · exact h.elim
def szs (T : TB P) : List (Nat × Nat) -> Option (List (Nat × Nat))
  | [] => some []
  | (off, t) :: r => match T.ti t with
    | some e => match szs T r with
      | some l => some ((off, e.n) :: l)
      | none => none
    | none => none
theorem y77 {w : World} : ∀ {fs : List Field} {l : List (Nat × Nat)}, szs T (fs.map fun f => (f.offset, f.type)) = some l -> ((fs.mapM fun f => do pure (f.offset, <- sizeOf f.type)) : Sem (List (Nat × Nat))).run P w = .ok l w
  | [], l, h => by cases h; rfl
  | f :: r, l, h => by
    simp only [List.map_cons, szs] at h
    split at h
    · rename_i e he
      split at h
      · rename_i l' hl
        cases h
        have ih := y77 (w := w) hl
        have hs := z1u (z2i (T.tok _ _ he)) w
        simp only [List.mapM_cons, Sem.run_bind, hs, Result.andThen_ok, Sem.run_pure, ih]
      · cases h
    · cases h
theorem zx2 {a : Array Field} {l : List (Nat × Nat)} (h : szs T (a.toList.map fun f => (f.offset, f.type)) = some l) : z3n P a l.toArray := by
  intro w
  have h1 := y77 (P := P) (w := w) h
  obtain ⟨fs⟩ := a
  have h2 : ((#[].append fs.toArray : Array Field).mapM fun f => (do pure (f.offset, <- sizeOf f.type) : Sem (Nat × Nat))) = (fs.mapM fun f => (do pure (f.offset, <- sizeOf f.type) : Sem (Nat × Nat))) >>= fun l => pure l.toArray := by
    simp
  have h3 : (⟨fs⟩ : Array Field) = #[].append fs.toArray := by simp
  rw [h3, h2, Sem.run_bind, h1]
  rfl
def zo5 (hp : Hp) : List (Nat × IV) -> Prop -> Prop
  | [], A => A
  | (_, x) :: r, A => match x.parts with
    | some _ => zo5 hp r A
    | none => y4i hp x (zo5 hp r A)
theorem z9u : ∀ {l : List (Nat × IV)} {A : Prop}, zo5 hp l A -> A /\ ∀ hp2, agh hp2 hp (l.flatMap fun p => za2 p.2) -> z4b (look hp2) l
  | [], A, h => ⟨h, fun _ _ p hq => by cases hq⟩
  | (i, x) :: r, A, h => by
    simp only [zo5] at h
    have split : ∀ {hp2}, agh hp2 hp (((i, x) :: r).flatMap fun p => za2 p.2) -> agh hp2 hp (za2 x) /\ agh hp2 hp (r.flatMap fun p => za2 p.2) := fun hh => by
      simp only [List.flatMap_cons] at hh
      exact ⟨fun k hk => hh k (List.mem_append_left _ hk), fun k hk => hh k (List.mem_append_right _ hk)⟩
    split at h
    · rename_i ps hps
      replace h := z9u h
      obtain ⟨h1, h2⟩ := h
      refine ⟨h1, fun hp2 hh p hq h0 => ?_⟩
      rcases List.mem_cons.1 hq with rfl | hq
      · rw [hps] at h0; cases h0
      · exact h2 hp2 (split hh).2 p hq h0
    · obtain ⟨h, hz⟩ := ze6 h
      replace h := z9u h
      obtain ⟨h1, h2⟩ := h
      refine ⟨h1, fun hp2 hh p hq h0 => ?_⟩
      rcases List.mem_cons.1 hq with rfl | hq
      · exact hz hp2 (split hh).1
      · exact h2 hp2 (split hh).2 p hq h0
def vmade (ids : List Nat) (out : List IV) (K : Stp -> Prop) : Prop := match z5z out with
  | some ps => frcP ps fun l => K ⟨.pv (.agg l), [], ids, []⟩
  | none => frcI out fun l => K ⟨.agg l, [], ids, []⟩
theorem zvIV {e : TE} {t : Nat} (he : teB P t e = true) (hz : e.z ≠ []) : z4q e.zv = ZV.pvs e.z := by
  rw [z4q, (z6w he hz).1, <- ZV.pvs_eq]
def vBuild (T : TB P) (t : Nat) (fr : Fr) (hp : Hp) (parts : List (Nat × Operand)) (K : Stp -> Prop) : Prop := vti T t fun e => z2a (!e.z.isEmpty) (vopt (z3p fr parts) fun xs => zo5 hp xs (match e.i with
  | .struct fs => vopt (szs T fs) fun pl => vopt (z57 (pl.toArray[·]?) (ZV.pvs e.z) xs) fun out => vmade (xs.flatMap fun p => za2 p.2) out K
  | .arr _ q => vti T q fun eq => vopt (z57 (fun i => some (i * eq.n, eq.n)) (ZV.pvs e.z) xs) fun out => frcI out fun l => K ⟨.agg l, [], xs.flatMap fun p => za2 p.2, []⟩
  | _ => False))
theorem y7l {t : Nat} {parts : Array (Nat × Operand)} (ho : o.op = .build t parts) (h : vBuild T t fr hp parts.toList K) : Does P Rl o fr hp K := by
  replace h := z1z h
  obtain ⟨e, he, h⟩ := h
  replace h := z0j h
  obtain ⟨hz, h⟩ := h
  have hz' : e.z ≠ [] := by simpa using hz
  replace h := z10 h
  obtain ⟨xs, hxs, h⟩ := h
  have ex : ∀ {fr2 : Fr}, agr fr2 fr (z19 o.op) -> z3p fr2 parts.toList = some xs := fun hg => hg.evParts hxs fun y hy => by
    rw [ho]; simp only [Op.operands]; exact List.mem_map_of_mem hy
  replace h := z9u h
  obtain ⟨h, hfirm⟩ := h
  obtain ⟨d, hd, hi⟩ := z3l he
  have hzi := zvIV he hz'
  split at h
  · rename_i fs hq
    rw [hq] at hi
    obtain ⟨a, rfl, h2⟩ := hi
    replace h := z10 h
    obtain ⟨pl, hpl, h⟩ := h
    replace h := z10 h
    obtain ⟨out, hout, h⟩ := h
    rw [<- h2] at hpl
    unfold vmade at h
    split at h
    · rename_i ps hps
      exact ⟨_, z6j h, .pure fun c R1 fr2 hp2 hg hh _ => bPu ho (ex hg) (z6x he hz') ⟨a, hd, zx2 hpl⟩ (by rw [hzi]; exact hout) (hfirm hp2 hh) hps⟩
    · exact ⟨_, z4n h, .pure fun c R1 fr2 hp2 hg hh _ => ze0 ho (ex hg) (z6x he hz') ⟨a, hd, zx2 hpl⟩ (by rw [hzi]; exact hout) (hfirm hp2 hh)⟩
  · rename_i n q hq
    rw [hq] at hi
    cases hi
    replace h := z1z h
    obtain ⟨eq, heq, h⟩ := h
    replace h := z10 h
    obtain ⟨out, hout, h⟩ := h
    exact ⟨_, z4n h, .pure fun c R1 fr2 hp2 hg hh _ => zc1 ho (ex hg) (z6x he hz') hd (z2i heq) (by rw [hzi]; exact hout) (hfirm hp2 hh)⟩
  · exact h.elim
def repZ (z : List ZV) : Nat -> List IV
  | 0 => []
  | n + 1 => ZV.pvs z ++ repZ z n
theorem y67 {e : TE} {t : Nat} (he : teB P t e = true) (hz : e.z ≠ []) : ∀ n, za7 e.zv n = repZ e.z n
  | 0 => rfl
  | n + 1 => by simp only [za7, repZ, y67 he hz n, zvIV he hz]
def frcE : List (List PV) -> (List (List PV) -> Prop) -> Prop
  | [], K => K []
  | x :: r, K => frcP x fun y => frcE r fun l => K (y :: l)
theorem y57 : ∀ {l : List (List PV)} {K : List (List PV) -> Prop}, frcE l K -> K l
  | [], _, h => h
  | x :: r, K, h => y57 (l := r) (K := fun l => K (x :: l)) (z6j (K := fun y => frcE r fun l => K (y :: l)) h)
def y7k (T : TB P) (own : Bool) (t len : Nat) (fr : Fr) (hp : Hp) (parts : List (Nat × Operand)) (k : Nat) (K : Stp -> Prop) : Prop := vti T t fun e => match e.i with
  | .slice q => vti T q fun eq => z2a (!eq.z.isEmpty && Nat.ble 1 eq.n && Nat.ble (len * eq.n) (2 ^ 24)) (vopt (z3p fr parts) fun xs => zo5 hp xs (vopt (z57 (fun i => some (i * eq.n, eq.n)) (repZ eq.z len) xs) fun out => vopt (z5z out) fun ps => frcE (z0o eq.n len ps) fun l => match own with
    | false => K ⟨.pv (.seq l), [], xs.flatMap fun p => za2 p.2, []⟩
    | true => K ⟨.sl k len, [(k, some (.row ⟨q, eq.n⟩ l))], k :: xs.flatMap fun p => za2 p.2, [k]⟩))
  | _ => False
theorem y4c {t len k : Nat} {own : Bool} {parts : Array (Nat × Operand)} (ho : o.op = .buildSlice t len parts) (h : y7k T own t len fr hp parts.toList k K) : Does P Rl o fr hp K := by
  replace h := z1z h
  obtain ⟨e, he, h⟩ := h
  obtain ⟨d, hd, hi⟩ := z3l he
  split at h
  · rename_i q hq
    rw [hq] at hi
    cases hi
    replace h := z1z h
    obtain ⟨eq, heq, h⟩ := h
    replace h := z0j h
    obtain ⟨h1, h⟩ := h
    simp only [Bool.and_eq_true] at h1
    have hz' : eq.z ≠ [] := by simpa using h1.1.1
    replace h := z10 h
    obtain ⟨xs, hxs, h⟩ := h
    have ex : ∀ {fr2 : Fr}, agr fr2 fr (z19 o.op) -> z3p fr2 parts.toList = some xs := fun hg => hg.evParts hxs fun y hy => by
      rw [ho]; simp only [Op.operands]; exact List.mem_map_of_mem hy
    replace h := z9u h
    obtain ⟨h, hfirm⟩ := h
    replace h := z10 h
    obtain ⟨out, hout, h⟩ := h
    replace h := z10 h
    obtain ⟨ps, hps, h⟩ := h
    replace h := y57 h
    rw [<- y67 heq hz'] at hout
    split at h
    · exact ⟨_, h, fun c fr2 hp2 _ _ hg hh _ => bSl ho (ex hg) hd (z6x heq hz') (z2i heq) (z6w heq hz').2 h1.1.2 h1.2 hout (hfirm hp2 hh) hps⟩
    · refine ⟨_, h, fun c fr2 hp2 _ hc hg hh hf => ?_⟩
      obtain ⟨f1, f2, f3⟩ := z3r (hf k (.head _))
      exact zd0 ho (ex hg) hd (z6x heq hz') (z2i heq) (z6w heq hz').2 h1.1.2 h1.2 hout (hfirm hp2 fun j hj => hh j (.tail _ hj)) hps f3 (hc k (.head _)) f1 f2
  · exact h.elim
def vMkMap (k : Nat) (K : Stp -> Prop) : Prop := K ⟨.mp k, [(k, some (.map []))], [k], [k]⟩
theorem y7r {t k : Nat} (ho : o.op = .makeMap t none) (h : vMkMap k K) : Does P Rl o fr hp K := by
  refine ⟨_, h, fun c fr2 hp2 _ hc _ _ hf => ?_⟩
  obtain ⟨f1, f2, f3⟩ := z3r (hf k (.head _))
  exact za5 ho f3 (hc k (.head _)) f1 f2
inductive VNum (m : Int) (K : Nat -> Prop) : Prop
  | mk {n : Nat} (hm : m = n) (hb : n <= 68719476736) (k : K n)
def y2k (T : TB P) (t : Nat) (fr : Fr) (y w : Operand) (k : Nat) (K : Stp -> Prop) : Prop := vti T t fun e => match e.i with
  | .slice q => vti T q fun eq => z2a (!eq.z.isEmpty && Nat.ble 1 eq.n && Nat.ble eq.b 2048) (vev fr y fun a => match a with
    | .pv (.val (.int .i64 m)) => vev fr w fun b => b = a /\ VNum m fun n => frcP (ZV.ps eq.z) fun l => K ⟨.sl k n, [(k, some (.row ⟨q, eq.n⟩ (List.replicate n l)))], [k], [k]⟩
    | _ => False)
  | _ => False
theorem y1o {t k : Nat} {y w : Operand} (ho : o.op = .makeSlice t y w) (h : y2k T t fr y w k K) : Does P Rl o fr hp K := by
  replace h := z1z h
  obtain ⟨e, he, h⟩ := h
  obtain ⟨d, hd, hi⟩ := z3l he
  split at h
  · rename_i q hq
    rw [hq] at hi
    cases hi
    replace h := z1z h
    obtain ⟨eq, heq, h⟩ := h
    replace h := z0j h
    obtain ⟨h1, h⟩ := h
    simp only [Bool.and_eq_true] at h1
    have hz' : eq.z ≠ [] := by simpa using h1.1.1
    replace h := z1m h
    obtain ⟨a, ha, h⟩ := h
    split at h
    · obtain ⟨b, hb, h⟩ := z1m h
      obtain ⟨rfl, h⟩ := h
      obtain ⟨rfl, hn, h9⟩ := h
      refine ⟨_, z6j h9, fun c fr2 hp2 _ hc hg _ hf => ?_⟩
      obtain ⟨f1, f2, f3⟩ := z3r (hf k (.head _))
      have h128 := Nat.le_of_ble_eq_true h1.2
      have := z0u (c := c) (s := ⟨q, eq.n⟩) ho (hg.ev ha (by rw [ho]; simp [Op.operands])) (hg.ev hb (by rw [ho]; simp [Op.operands])) hd (z6x heq hz') (te_by heq) (z6w heq hz').2 (Nat.le_of_ble_eq_true h1.1.2) oM0 (Nat.le_trans (Nat.mul_le_mul h128 hn) dC0) f3 (hc k (.head _)) f1 f2
      rwa [(z6w heq hz').1, <- ZV.ps_eq] at this
    · exact h.elim
  · exact h.elim
def y7q (T : TB P) (Rl : List Nat) (t : Nat) (fr : Fr) (hp : Hp) (x y w : Operand) (K : Stp -> Prop) : Prop := vev fr x fun a => vev fr y fun b => vev fr w fun z => match a with
  | .mp k => z2a (!nIn k Rl) (match b with
    | .pv (.val kv) => match z with
      | .pv p => vmap hp k fun es => vti T t fun e => match e.i with
        | .map kt _ => vti T kt fun ek => vopt ek.i.key fun d => VMap d kv es (K ⟨.pv (.val undef), [(k, some (.map (mput kv p es)))], [k], []⟩)
        | _ => False
      | _ => False
    | _ => False)
  | _ => False
theorem y04 {t : Nat} {x y w : Operand} (ho : o.op = .mapUpdate t x y w ∨ o.op = .insert t x y w) (h : y7q T Rl t fr hp x y w K) : Does P Rl o fr hp K := by
  replace h := z1m h
  obtain ⟨a, ha, h⟩ := h
  replace h := z1m h
  obtain ⟨b, hb, h⟩ := h
  replace h := z1m h
  obtain ⟨z, hz, h⟩ := h
  have hops : o.op.operands.toList = [x, y, w] := by rcases ho with ho | ho <;> rw [ho] <;> rfl
  have ea : ∀ {fr2 : Fr}, agr fr2 fr (z19 o.op) -> fr2.ev x = some a := fun hg => hg.ev ha (by rw [hops]; simp)
  have eb : ∀ {fr2 : Fr}, agr fr2 fr (z19 o.op) -> fr2.ev y = some b := fun hg => hg.ev hb (by rw [hops]; simp)
  have ez : ∀ {fr2 : Fr}, agr fr2 fr (z19 o.op) -> fr2.ev w = some z := fun hg => hg.ev hz (by rw [hops]; simp)
  split at h
  · rename_i k
    replace h := z0j h
    obtain ⟨hR, h⟩ := h
    have hR' : nIn k Rl = false := by simpa using hR
    split at h
    · split at h
      · obtain ⟨es, hk, h⟩ := zs9 h
        replace h := z1z h
        obtain ⟨e, he, h⟩ := h
        obtain ⟨d, hd, hi⟩ := z3l he
        split at h
        · rename_i kt et hq
          rw [hq] at hi
          cases hi
          replace h := z1z h
          obtain ⟨ek, hek, h⟩ := h
          replace h := z10 h
          obtain ⟨dk, hdk, h⟩ := h
          obtain ⟨h1, h2, h⟩ := h
          refine ⟨_, h, fun c fr2 hp2 hc _ hg hh _ => ?_⟩
          rcases ho with ho | ho
          · exact z7k ho (ea hg) (eb hg) (ez hg) (hh.at hk (.head _)) (notR hc hR') hd (zp6 hek hdk) h1 h2
          · exact zh6 ho (ea hg) (eb hg) (ez hg) (hh.at hk (.head _)) (notR hc hR') hd (zp6 hek hdk) h1 h2
        · exact h.elim
      · exact h.elim
    · exact h.elim
  · exact h.elim
def VFlat (n : Nat) (news : List (List PV)) : Prop := ∀ el ∈ news, el.length = n /\ ∀ x ∈ el, x.one = true
def flatB (n : Nat) : List (List PV) -> Bool
  | [] => true
  | el :: r => Nat.beq el.length n && el.all PV.one && flatB n r
theorem zu8 {n : Nat} : ∀ {l : List (List PV)}, flatB n l = true -> VFlat n l
  | [], _ => fun _ h => by cases h
  | el :: r, h => by
    simp only [flatB, Bool.and_eq_true] at h
    intro e he
    rcases List.mem_cons.1 he with rfl | he
    · exact ⟨Nat.eq_of_beq_eq_true h.1.1, fun x hx => List.all_eq_true.1 h.1.2 x hx⟩
    · exact zu8 h.2 e he
theorem flatM {α : Type} {n : Nat} {f : α -> List PV} {l : List α} (h : ∀ x ∈ l, (f x).length = n /\ ∀ y ∈ f x, y.one = true) : VFlat n (l.map f) := fun el hel => by
  obtain ⟨x, hx, rfl⟩ := List.mem_map.1 hel
  exact h x hx
inductive VApp (s : RT) (els : List (List PV)) (n : Nat) (news : List (List PV)) (A : Prop) : Prop
  | mk (hn : els.length = n) (hf : VFlat s.n news) (hb : n + news.length <= 68719476736) (k : A)
theorem All.back {t : Nat} {v : Value} {y : IV} {ρ : Loc} {σ : Heap'} {w : World} {a : Act} (ht : fr.get t = some (.pv (.val v))) (hv : a.tmps[t]? = some v) (h : All c ρ σ w ((t, y) :: fr) a) : All c ρ σ w fr a := by
  refine ⟨h.rel, fun t' z hz => ?_, h.tr, h.df, h.sz⟩
  by_cases e : t = t'
  · subst e
    rw [ht] at hz
    cases hz
    exact ⟨v, hv, z2d v⟩
  · exact h.fr t' z (by simp only [Fr.get, z02 e]; exact hz)
theorem All.slot {t : Nat} {v : Value} {ρ : Loc} {σ : Heap'} {w : World} {a : Act} (h : All c ρ σ w fr a) (ht : fr.get t = some (.pv (.val v))) : a.tmps[t]? = some v := by
  obtain ⟨u, hu, hr⟩ := h.fr t _ ht
  rw [hu, hr.val]
theorem Ok.reval {t : Nat} {v : Value} {y x : IV} {σ σ' : Heap'} (ht : fr.get t = some (.pv (.val v))) (hs : ∀ F ρ w, RepI F ρ σ w y v) (h : Ok P c o ((t, y) :: fr) σ x σ') : Ok P c o fr σ x σ' := by
  intro ρ w a Kc Q ha hK
  have ha2 : All c ρ σ w ((t, y) :: fr) a := ha.putFr ht fun u hu => by rw [hu.val]; exact hs _ _ _
  exact h ρ w a Kc Q ha2 fun ρ' w' u ha' hu => hK ρ' w' u (ha'.back ht (ha.slot ht)) hu
theorem Ok.ghostR {k t : Nat} {s : RT} {x : IV} {σ' : Heap'} (hσ : look hp k = none) (hc : c.σ k = none) (hfr : nmFr k fr = false) (hhp : nmHp k hp = false) (ht : fr.get t = some (.pv (.val (.slice none 0 0)))) (h : Ok P c o ((t, .sl k 0) :: fr) (look ((k, some (.row s [])) :: hp)) x σ') : Ok P c o fr (look hp) x σ' := by
  intro ρ w a Kc Q ha hK
  obtain ⟨hk, ha'⟩ := ha.ghost hσ hc hfr hhp s
  have ha2 := ha'.putFr (y := .sl k 0) ht fun v hv => by
    obtain rfl := hv.val
    exact .sl k 0 _ fun s' els' _ => ⟨Nat.zero_le _, fun _ => .inr ⟨hk, rfl, rfl⟩⟩
  exact h ρ w a Kc Q ha2 fun ρ' w' u ha3 hu => hK ρ' w' u (ha3.back ht (ha.slot ht)) hu
theorem zq8 {t u v k by_ : Nat} {s : RT} {news : List (List PV)} (hut : Nat.beq u v = false) (ho : o.op = .call { callee := .builtin .append, args := #[.tmp u, .tmp v], argTypes := #[t, t] }) (hx : fr.get u = some (.pv (.val (.slice none 0 0)))) (hy : fr.get v = some (.pv (.seq news)))
    (ht : P.underlying t = some (.slice s.e)) (hi : (P.info? s.e).map (fun i => (i.size, i.bytes, (i.zero.map fun z => z.cells.size))) = some (s.n, by_, some s.n)) (hs : 0 < s.n)
    (hw : ∀ el ∈ news, el.length = s.n) (hone : ∀ el ∈ news, ∀ x ∈ el, x.one = true) (hmax : 0 + news.length <= maxLen) (hb : (0 + news.length) * by_ <= 140737488355328)
    (hσ : look hp k = none) (hc : c.σ k = none) (hR : ¬ c.R k) (hfr : nmFr k fr = false) (hhp : nmHp k hp = false) :
    Ok P c o fr (look hp) (.sl k news.length) (look ((k, some (.row s news)) :: hp)) := by
  refine Ok.ghostR (s := s) hσ hc hfr hhp hx ?_
  have hu : Fr.ev ((u, .sl k 0) :: fr) (.tmp u) = some (.sl k 0) := by simp [Fr.ev, Fr.get]
  have hv : Fr.ev ((u, .sl k 0) :: fr) (.tmp v) = some (.pv (.seq news)) := by simp only [Fr.ev, Fr.get, hut]; exact hy
  have := aPp (c := c) (hp := (k, some (.row s [])) :: hp) ho hu hv z2u rfl hR ht hi hs hw hone hmax hb
  simp only [Nat.zero_add, List.nil_append] at this
  rwa [z8t] at this
theorem zl7 {t k n : Nat} {u : Operand} {v by_ : Nat} {s : RT} {els : List (List PV)} (hut : ∀ x, u = .tmp x -> Nat.beq v x = false) (ho : o.op = .call { callee := .builtin .append, args := #[u, .tmp v], argTypes := #[t, t] }) (hx : fr.ev u = some (.sl k n)) (hy : fr.get v = some (.pv (.val (.slice none 0 0))))
    (hk : look hp k = some (.row s els)) (hn : els.length = n) (hR : ¬ c.R k) (ht : P.underlying t = some (.slice s.e)) (hi : (P.info? s.e).map (fun i => (i.size, i.bytes, (i.zero.map fun z => z.cells.size))) = some (s.n, by_, some s.n)) (hs : 0 < s.n)
    (hmax : n + 0 <= maxLen) (hb : (n + 0) * by_ <= 140737488355328) : Ok P c o fr (look hp) (.sl k n) (look ((k, some (.row s els)) :: hp)) := by
  refine Ok.reval (y := .pv (.seq [])) hy (fun F ρ w => .pv _ _ (.seq [] none 0 0 0 (fun _ _ => undef) sI0 sI0 sI0 (by simp [maxLen]) sI0 sI0)) ?_
  have hu : Fr.ev ((v, .pv (.seq [])) :: fr) u = some (.sl k n) := by
    cases u with
    | tmp x => simp only [Fr.ev, Fr.get, hut x rfl]; exact hx
    | _ => exact hx
  have hv : Fr.ev ((v, .pv (.seq [])) :: fr) (.tmp v) = some (.pv (.seq [])) := by simp [Fr.ev, Fr.get]
  have := aPp (c := c) ho hu hv hk hn hR ht hi hs (fun _ h => by cases h) (fun _ h => by cases h) hmax hb
  simpa using this
def tmpB : Operand -> Option Nat
  | .tmp t => some t
  | _ => none
theorem y1i {y : Operand} {t : Nat} (h : tmpB y = some t) : y = .tmp t := by cases y <;> simp_all [tmpB]
def y7j (T : TB P) (Rl : List Nat) (t : Nat) (fr : Fr) (hp : Hp) (x y : Operand) (k0 : Nat) (K : Stp -> Prop) : Prop := vti T t fun e => match e.i with
  | .slice q => vti T q fun eq => z2a (!eq.z.isEmpty && Nat.ble 1 eq.n && Nat.ble eq.b 2048) (vev fr x fun a => vev fr y fun b => match a with
    | .sl k n => z2a (!nIn k Rl) (vrow hp k fun s els => z2a (Nat.beq s.e q && Nat.beq s.n eq.n) (match b with
      | .pv (.seq news) => VApp s els n news (K ⟨.sl k (n + news.length), [(k, some (.row s (els ++ news)))], [k], []⟩)
      | .sl k2 n2 => vrow hp k2 fun s2 news => z2a (Nat.beq s2.e q && Nat.beq s2.n eq.n) (news.length = n2 /\ VApp s els n news (K ⟨.sl k (n + news.length), [(k, some (.row s (els ++ news)))], [k, k2], []⟩))
      | .pv (.val (.slice none 0 0)) => vopt (tmpB y) fun v => z2a (match tmpB x with
          | some u => !Nat.beq v u
          | none => true) (els.length = n /\ n <= 68719476736 /\ K ⟨.sl k n, [(k, some (.row s els))], [k], []⟩)
      | _ => False))
    | .pv (.val (.slice none 0 0)) => vopt (tmpB x) fun u => vopt (tmpB y) fun v => z2a (!Nat.beq u v && !nIn k0 Rl) (match b with
      | .pv (.seq news) => VApp ⟨q, eq.n⟩ [] 0 news (K ⟨.sl k0 news.length, [(k0, some (.row ⟨q, eq.n⟩ news))], [k0], [k0]⟩)
      | _ => False)
    | _ => False)
  | _ => False
theorem y1s {n b : Nat} (hn : n <= 68719476736) (hb : Nat.ble b 2048 = true) : n <= maxLen /\ n * b <= 140737488355328 := by
  refine ⟨by simp only [maxLen]; omega, Nat.le_trans (Nat.mul_le_mul hn (Nat.le_of_ble_eq_true hb)) dC0⟩
theorem y4a {t k0 : Nat} {x y : Operand} (ho : o.op = .call { callee := .builtin .append, args := #[x, y], argTypes := #[t, t] }) (h : y7j T Rl t fr hp x y k0 K) : Does P Rl o fr hp K := by
  have hops : o.op.operands.toList = [x, y] := by rw [ho]; rfl
  replace h := z1z h
  obtain ⟨e, he, h⟩ := h
  obtain ⟨d, hd, hi⟩ := z3l he
  split at h
  · rename_i q hq
    rw [hq] at hi
    cases hi
    replace h := z1z h
    obtain ⟨eq, heq, h⟩ := h
    replace h := z0j h
    obtain ⟨h1, h⟩ := h
    simp only [Bool.and_eq_true] at h1
    have hz' : eq.z ≠ [] := by simpa using h1.1.1
    have hpos := Nat.le_of_ble_eq_true h1.1.2
    have hinfo := te_app heq hz'
    replace h := z1m h
    obtain ⟨a, ha, h⟩ := h
    replace h := z1m h
    obtain ⟨b, hb, h⟩ := h
    have ea : ∀ {fr2 : Fr}, agr fr2 fr (z19 o.op) -> fr2.ev x = some a := fun hg => hg.ev ha (by rw [hops]; simp)
    have eb : ∀ {fr2 : Fr}, agr fr2 fr (z19 o.op) -> fr2.ev y = some b := fun hg => hg.ev hb (by rw [hops]; simp)
    split at h
    · rename_i k n
      replace h := z0j h
      obtain ⟨hR, h⟩ := h
      have hR' : nIn k Rl = false := by simpa using hR
      replace h := z5p h
      obtain ⟨s, els, hk, h⟩ := h
      replace h := z0j h
      obtain ⟨hs, h⟩ := h
      simp only [Bool.and_eq_true] at hs
      have hse := Nat.eq_of_beq_eq_true hs.1
      have hsn := Nat.eq_of_beq_eq_true hs.2
      split at h
      · obtain ⟨hn, hf, hbd, h⟩ := h
        obtain ⟨hm1, hm2⟩ := y1s hbd h1.2
        exact ⟨_, h, fun c fr2 hp2 hc _ hg hh _ => aPp ho (ea hg) (eb hg) (hh.at hk (.head _)) hn (notR hc hR') (by rw [hse]; exact hd) (by rw [hse, hsn]; exact hinfo) oM0 (fun el hel => (hf el hel).1) (fun el hel => (hf el hel).2) hm1 hm2⟩
      · rename_i k2 n2
        replace h := z5p h
        obtain ⟨s2, news, hk2, h⟩ := h
        replace h := z0j h
        obtain ⟨hs2, h⟩ := h
        simp only [Bool.and_eq_true] at hs2
        have hss : s2 = s := by
          cases s; cases s2
          have h3 := Nat.eq_of_beq_eq_true hs2.1
          have h4 := Nat.eq_of_beq_eq_true hs2.2
          simp_all
        subst hss
        obtain ⟨hn2, hn, hf, hbd, h9⟩ := h
        obtain ⟨hm1, hm2⟩ := y1s hbd h1.2
        exact ⟨_, h9, fun c fr2 hp2 hc _ hg hh _ => zq9 ho (ea hg) (eb hg) (hh.at hk (.head _)) hn (hh.at hk2 (.tail _ (.head _))) hn2 (notR hc hR') (by rw [hse]; exact hd) (by rw [hse, hsn]; exact hinfo) oM0 (fun el hel => (hf el hel).1) (fun el hel => (hf el hel).2) hm1 hm2⟩
      · replace h := z10 h
        obtain ⟨v, hv, h⟩ := h
        have hv' := y1i hv
        replace h := z0j h
        obtain ⟨hut, h⟩ := h
        obtain ⟨hn, hbd, h⟩ := h
        obtain ⟨hm1, hm2⟩ := y1s hbd h1.2
        refine ⟨_, h, fun c fr2 hp2 hc _ hg hh _ => zl7 (v := v) (fun u hu => ?_) (by rw [ho, hv']) (ea hg) (by have := eb hg; rw [hv'] at this; exact this) (hh.at hk (.head _)) hn (notR hc hR') (by rw [hse]; exact hd) (by rw [hse, hsn]; exact hinfo) oM0 hm1 hm2⟩
        rw [hu] at hut
        simpa [tmpB] using hut
      · exact h.elim
    · replace h := z10 h
      obtain ⟨u, hu, h⟩ := h
      replace h := z10 h
      obtain ⟨v, hv, h⟩ := h
      replace h := z0j h
      obtain ⟨hut, h⟩ := h
      simp only [Bool.and_eq_true, Bool.not_eq_true'] at hut
      have hu' := y1i hu
      have hv' := y1i hv
      split at h
      · obtain ⟨hn, hf, hbd, h⟩ := h
        obtain ⟨hm1, hm2⟩ := y1s hbd h1.2
        refine ⟨_, h, fun c fr2 hp2 hc hc0 hg _ hfr => ?_⟩
        obtain ⟨f1, f2, f3⟩ := z3r (hfr k0 (.head _))
        exact zq8 (s := ⟨q, eq.n⟩) hut.1 (by rw [ho, hu', hv']) (by have := ea hg; rw [hu'] at this; exact this) (by have := eb hg; rw [hv'] at this; exact this) hd hinfo hpos (fun el hel => (hf el hel).1) (fun el hel => (hf el hel).2) hm1 hm2 f3 (hc0 k0 (.head _)) (notR hc hut.2) f1 f2
      · exact h.elim
    · exact h.elim
  · exact h.elim
end
section
variable {P : Program} {T : TB P} {o : Oper} {fr : Fr} {hp : Hp} {Rl : List Nat} {K : Stp -> Prop} {c : Cx}
def z89 (l : List (Nat × HO)) : List Nat := l.map (·.1)
def lBeq : List Nat -> List Nat -> Bool
  | [], [] => true
  | a :: r, b :: s => match Nat.beq a b with
    | true => lBeq r s
    | false => false
  | _, _ => false
theorem y0m : ∀ {l m : List Nat}, lBeq l m = true -> l = m
  | [], [], _ => rfl
  | a :: r, b :: s, h => by
    simp only [lBeq] at h
    split at h
    · rename_i hb; rw [Nat.eq_of_beq_eq_true hb, y0m h]
    · cases h
def SubA (xs ys : List IV) : Prop := ∀ σ, Subs σ xs ys
theorem sR {xs : List IV} : SubA xs xs := fun σ => sRf σ xs
def cOk (hp : Hp) (Rl U : List Nat) (R : Nat -> Prop) (post : List (Nat × HO)) : List (Nat × HO) -> Prop
  | [] => True
  | (k, o) :: r => look hp k = some o /\ (match nIn k U with
    | true => look (up post) k = some o /\ (match nIn k Rl with
      | true => R k /\ cOk hp Rl U R post r
      | false => cOk hp Rl U R post r)
    | false => match nIn k Rl with
      | true => R k /\ cOk hp Rl U R post r
      | false => cOk hp Rl U R post r)
theorem y0c {U : List Nat} {R : Nat -> Prop} {post : List (Nat × HO)} : ∀ {pre : List (Nat × HO)}, cOk hp Rl U R post pre -> ∀ p ∈ pre, look hp p.1 = some p.2 /\ (p.1 ∈ U -> look (up post) p.1 = some p.2) /\ (p.1 ∈ Rl -> R p.1)
  | (k, o) :: r, h, p, hq => by
    simp only [cOk] at h
    obtain ⟨h0, h⟩ := h
    have key : (k ∈ U -> look (up post) k = some o) /\ (k ∈ Rl -> R k) /\ cOk hp Rl U R post r := by
      split at h
      · obtain ⟨h1, h⟩ := h
        split at h
        · exact ⟨fun _ => h1, fun _ => h.1, h.2⟩
        · rename_i hn; exact ⟨fun _ => h1, fun e => absurd e (z2e hn), h⟩
      · rename_i hu
        split at h
        · exact ⟨fun e => absurd e (z2e hu), fun _ => h.1, h.2⟩
        · rename_i hn; exact ⟨fun e => absurd e (z2e hu), fun e => absurd e (z2e hn), h⟩
    rcases List.mem_cons.1 hq with rfl | hq
    · exact ⟨h0, key.1, key.2.1⟩
    · exact y0c key.2.2 p hq
def y5s (pre post : List (Nat × HO)) : List Nat := (z89 post).take (post.length - pre.length)
def lAll (f : Nat -> Bool) : List Nat -> Bool
  | [] => true
  | k :: r => match f k with
    | true => lAll f r
    | false => false
theorem zg7 {f : Nat -> Bool} : ∀ {l : List Nat}, lAll f l = true -> ∀ k ∈ l, f k = true
  | a :: r, h, k, hk => by
    simp only [lAll] at h
    split at h
    · rename_i ha
      rcases List.mem_cons.1 hk with rfl | hk
      · exact ha
      · exact zg7 h k hk
    · cases h
def callB (U : List Nat) (pre post : List (Nat × HO)) (r : IV) : Bool :=
  lBeq (z89 post) (y5s pre post ++ z89 pre) && lAll (fun k => !nIn k U) (y5s pre post) && only (z89 post) r && z2v (z89 post) post
def upU (U : List Nat) : List (Nat × HO) -> Hp
  | [] => []
  | (k, o) :: r => match nIn k U with
    | true => upU U r
    | false => (k, some o) :: upU U r
theorem y28 {U : List Nat} {k : Nat} : ∀ {l : List (Nat × HO)}, look (upU U l) k = if k ∈ U then none else look (up l) k
  | [] => by simp [upU, up, look]
  | (j, o) :: r => by
    simp only [upU]
    have ih := y28 (U := U) (k := k) (l := r)
    have hl : look (up ((j, o) :: r)) k = bif Nat.beq j k then some o else look (up r) k := rfl
    split
    · rename_i hj
      have hj' := z44.1 hj
      rw [ih, hl]
      by_cases e : k ∈ U
      · simp [e]
      · have : j ≠ k := fun h => e (h ▸ hj')
        simp [e, z02 this]
    · rename_i hj
      have hj' := z2e hj
      have hl2 : look ((j, some o) :: upU U r) k = bif Nat.beq j k then some o else look (upU U r) k := rfl
      rw [hl2, ih, hl]
      by_cases e : k ∈ U
      · have : j ≠ k := fun h => hj' (h ▸ e)
        simp [e, z02 this]
      · simp [e]
theorem z24 {A B : Hp} {k : Nat} : look (A ++ B) k = if k ∈ A.map (·.1) then look A k else look B k := by
  induction A with
  | nil => simp
  | cons p r ih =>
    obtain ⟨j, q⟩ := p
    have h1 : look ((j, q) :: r ++ B) k = bif Nat.beq j k then q else look (r ++ B) k := rfl
    have h2 : look ((j, q) :: r) k = bif Nat.beq j k then q else look r k := rfl
    rw [h1, h2]
    by_cases e : j = k
    · subst e; simp
    · have e' : k ≠ j := Ne.symm e
      simp only [z02 e, cond_false, List.map_cons, List.mem_cons, e', false_or]
      exact ih
theorem up_ids {l : List (Nat × HO)} : (up l).map (·.1) = z89 l := by simp [up, z89]
theorem zs6 {U : List Nat} : ∀ {l : List (Nat × HO)} {k : Nat}, k ∈ (upU U l).map (·.1) ↔ k ∈ z89 l /\ k ∉ U
  | [], k => by simp [upU, z89]
  | (j, o) :: r, k => by
    have ih := zs6 (U := U) (l := r) (k := k)
    simp only [upU, z89, List.map_cons, List.mem_cons]
    simp only [z89] at ih
    split
    · rename_i hj
      have hj' := z44.1 hj
      rw [ih]
      constructor
      · exact fun h => ⟨.inr h.1, h.2⟩
      · rintro ⟨rfl | h, h2⟩
        · exact absurd hj' h2
        · exact ⟨h, h2⟩
    · rename_i hj
      have hj' := z2e hj
      simp only [List.map_cons, List.mem_cons]
      rw [ih]
      constructor
      · rintro (rfl | h)
        · exact ⟨.inl rfl, hj'⟩
        · exact ⟨.inr h.1, h.2⟩
      · rintro ⟨rfl | h, h2⟩
        · exact .inl rfl
        · exact .inr ⟨h, h2⟩
inductive VCall (P : Program) (Rl : List Nat) (f : FuncId) (xs : List IV) (hp : Hp) (K : Stp -> Prop) : Prop
  | mk (U : List Nat) {args : List IV} {pre post : List (Nat × HO)} {R : Nat -> Prop} {r : IV} (h : SC P f args pre R r post) (hs : SubA xs args) (ho : cOk hp Rl U R post pre) (hc : callB U pre post r = true) (k : K ⟨r, upU U post, z89 post, y5s pre post⟩)
theorem VCall.does {f : FuncId} {os : Array Operand} {tys : Array TypeId} {xs : List IV} (hf : z06 P f) (ho : o.op = .call { callee := .value (.func f), args := os, argTypes := tys }) (hx : evs fr os.toList = some xs) (h : VCall P Rl f xs hp K) : Does P Rl o fr hp K := by
  obtain ⟨U, hsc, hs, hok, hc, hk⟩ := h
  rename_i args pre post R r
  simp only [callB, Bool.and_eq_true] at hc
  obtain ⟨⟨⟨h1, h2⟩, h3⟩, h4⟩ := hc
  have hdom := y0m h1
  have hU := zg7 h2
  have hm := y0c hok
  refine ⟨_, hk, fun c fr2 hp2 hR hc0 hg hh hf0 => ?_⟩
  have hpre2 : ∀ p ∈ pre, look hp2 p.1 = some p.2 := fun p hq => hh.at (hm p hq).1 (by
    show p.1 ∈ z89 post
    rw [hdom]; exact List.mem_append_right _ (List.mem_map_of_mem hq))
  have hpre3 : ∀ k ob, look (up pre) k = some ob -> look hp2 k = some ob := fun k ob hk => hpre2 (k, ob) (z1l hk)
  have h5 := y5u (ns := y5s pre post) (c := c) hsc hf ho (hg.evs hx fun y hy => by
      rw [ho]; simp only [Op.operands, Call.operands, Array.toList_append]; exact List.mem_append_right _ hy) (hs _) hpre3 hdom
    (fun k hk => (z3r (hf0 k hk)).2.2) (fun k hk => hc0 k hk) (fun k hk => (z3r (hf0 k hk)).1) (fun k hk => (z3r (hf0 k hk)).2.1)
    (fun k hk => by
      cases hl : look (up pre) k with
      | none => exact .inl rfl
      | some ob => exact .inr ((hm _ (z1l hl)).2.2 (hR k hk))) h3 h4
  have heq : look (up post ++ hp2) = look (upU U post ++ hp2) := by
    funext k
    rw [z24, z24, up_ids]
    by_cases e : k ∈ z89 post
    · rw [if_pos e]
      by_cases u : k ∈ U
      · rw [if_neg (fun hx => (zs6.1 hx).2 u)]
        rw [hdom] at e
        rcases List.mem_append.1 e with e | e
        · have := hU k e
          rw [z44.2 u] at this
          cases this
        · obtain ⟨p, hq, rfl⟩ := List.mem_map.1 e
          rw [(hm p hq).2.1 u, hpre2 p hq]
      · rw [if_pos (zs6.2 ⟨e, u⟩), y28, if_neg u]
    · rw [if_neg e, if_neg (fun hx => e (zs6.1 hx).1)]
  rw [<- heq]
  exact h5
inductive VCallV (P : Program) (Rl : List Nat) (f : FuncId) (xs : List IV) (hp : Hp) (K : Stp -> Prop) : Prop
  | mk {args : List IV} {pre post : List (Nat × HO)} {R : Nat -> Prop} {r : IV} (h : SC P f args pre R r post) (hs : SubA xs args) (ho : cOk hp Rl [] R post pre) (hR : ∀ k ∈ Rl, R k) (hc : callB [] pre post r = true) (hn : y5s pre post = []) (k : K ⟨r, up post, z89 post, []⟩)
theorem VCallV.does {f : FuncId} {q : Operand} {os : Array Operand} {tys : Array TypeId} {us xs ws : List IV} (hf : z06 P f) (ho : o.op = .call { callee := .value q, args := os, argTypes := tys }) (hq : fr.ev q = some (.fn (.func f) us ws)) (hx : evs fr os.toList = some xs) (h : VCallV P Rl f (us ++ xs ++ ws) hp K) : Does P Rl o fr hp K := by
  obtain ⟨hsc, hs, hok, hR0, hc, hn, hk⟩ := h
  rename_i args pre post R r
  simp only [callB, Bool.and_eq_true] at hc
  obtain ⟨⟨⟨h1, _⟩, h3⟩, h4⟩ := hc
  have hdom := y0m h1
  rw [hn, List.nil_append] at hdom
  have hm := y0c hok
  refine ⟨_, hk, fun c fr2 hp2 hR hc0 hg hh hf0 => ?_⟩
  have hpre3 : ∀ k ob, look (up pre) k = some ob -> look hp2 k = some ob := fun k ob hk => hh.at (hm _ (z1l hk)).1 (by
    show k ∈ z89 post
    rw [hdom]; exact List.mem_map_of_mem (z1l hk))
  exact z6m (c := c) hsc hf ho (hg.ev hq (by rw [ho]; simp [Op.operands, Call.operands])) (hg.evs hx fun y hy => by
      rw [ho]; simp only [Op.operands, Call.operands, Array.toList_append]; exact List.mem_append_right _ hy) (hs _) hpre3 hdom.symm (fun k hk => hR0 k (hR k hk)) h3 h4
inductive Gh where
  | grow (t k e n : Nat)
  | growC (k2 j k e n : Nat)
  | fz (t k : Nat)
  | fzC (k2 j k : Nat)
  | fzB (t k : Nat)
  | len (t : Nat)
  | drop (k : Nat)
  | ni (t : Nat)
  | niC (k j : Nat)
structure Hn where
  gh : List (Nat × List Gh) := []
  pb : List Nat := []
  ob : List Nat := []
  an : List Nat := []
  jn : List Nat := []
  ids : List (Nat × Nat) := []
def idAt (d : Nat) : List (Nat × Nat) -> Nat
  | [] => 100 + d
  | (s, k) :: r => match Nat.beq s d with
    | true => k
    | false => idAt d r
def zw8 (H : Hn) (o : Oper) : Nat := match o.dst with
  | some d => idAt d H.ids
  | none => 0
def y1m (T : TB P) (H : Hn) (Rl : List Nat) (o : Oper) (q : Call) (fr : Fr) (hp : Hp) (K : Stp -> Prop) : Prop := match q.callee with
  | .builtin b => match b with
    | .len => match q.args.toList with
      | [y] => match q.argTypes.toList with
        | [t] => vLen T t fr hp y K
        | _ => False
      | _ => False
    | .cap => match q.args.toList with
      | [y] => match q.argTypes.toList with
        | [t] => vCap T t fr y K
        | _ => False
      | _ => False
    | .max => match q.args.toList with
      | [y, w] => match q.argTypes.toList with
        | [t, u] => z2a (Nat.beq u t) (vMax fr y w K)
        | _ => False
      | _ => False
    | .append => match q.args.toList with
      | [y, w] => match q.argTypes.toList with
        | [t, u] => z2a (Nat.beq u t) (y7j T Rl t fr hp y w (zw8 H o) K)
        | _ => False
      | _ => False
    | _ => False
  | .value y => vopt (evs fr q.args.toList) fun xs => match y with
    | .func f => z2a (T.fn f) (VCall P Rl f xs hp K)
    | y => vev fr y fun a => match a with
      | .fn (.func f) us ws => z2a (T.fn f) (VCallV P Rl f (us ++ xs ++ ws) hp K)
      | _ => False
  | _ => False
theorem zd4 {q : Call} {a : Callee} {xs : List Operand} {ts : List TypeId} (ha : q.callee = a) (hx : q.args.toList = xs) (ht : q.argTypes.toList = ts) : q = { callee := a, args := xs.toArray, argTypes := ts.toArray } := by
  cases q; simp_all; exact ⟨by rw [<- hx], by rw [<- ht]⟩
theorem y4d {H : Hn} {q : Call} (ho : o.op = .call q) (h : y1m T H Rl o q fr hp K) : Does P Rl o fr hp K := by
  unfold y1m at h
  split at h
  · rename_i b hb
    split at h
    · split at h
      · rename_i hy
        split at h
        · rename_i ht
          exact vLen_ok (by rw [ho, zd4 hb hy ht]) h
        · exact h.elim
      · exact h.elim
    · split at h
      · rename_i hy
        split at h
        · rename_i ht
          exact vCap_ok (by rw [ho, zd4 hb hy ht]) h
        · exact h.elim
      · exact h.elim
    · split at h
      · rename_i hy
        split at h
        · rename_i ht
          replace h := z0j h
          obtain ⟨hu, h⟩ := h
          obtain rfl := Nat.eq_of_beq_eq_true hu
          exact vMax_ok (by rw [ho, zd4 hb hy ht]) h
        · exact h.elim
      · exact h.elim
    · split at h
      · rename_i hy
        split at h
        · rename_i ht
          replace h := z0j h
          obtain ⟨hu, h⟩ := h
          obtain rfl := Nat.eq_of_beq_eq_true hu
          exact y4a (by rw [ho, zd4 hb hy ht]) h
        · exact h.elim
      · exact h.elim
    · exact h.elim
  · rename_i y hb
    replace h := z10 h
    obtain ⟨xs, hx, h⟩ := h
    have hq : o.op = .call { callee := .value y, args := q.args, argTypes := q.argTypes } := by rw [ho]; cases q; simp_all
    split at h
    · replace h := z0j h
      exact VCall.does (T.fok _ h.1) hq hx h.2
    · replace h := z1m h
      obtain ⟨a, ha, h⟩ := h
      split at h
      · replace h := z0j h
        exact VCallV.does (T.fok _ h.1) hq ha hx h.2
      · exact h.elim
  · exact h.elim
def vop (T : TB P) (H : Hn) (Rl : List Nat) (key : Nat) (o : Oper) (fr : Fr) (hp : Hp) (K : Stp -> Prop) : Prop := match nIn key H.an with
  | true => VAny P Rl o fr hp K
  | false => match o.op with
    | .move y => y05 fr y K
    | .assign y => y05 fr y K
    | .pick q y w => vPick fr q y w K
    | .binOp p t y w _ => vBin T p t fr y w K
    | .unOp p _ y => vUn p fr y K
    | .convert s t y => vConv T s t fr y K
    | .load t y => y7o T t fr hp y K
    | .store t y w => vStore T Rl t fr hp y w K
    | .fieldAddr t y f => y7m T t fr hp y f K
    | .field t y f => y7n T t fr y f K
    | .indexAddr t y w => vIdxA T t fr hp y w K
    | .index t y w => vIdxV T t fr y w K
    | .extract y i => y2j fr y i K
    | .nilCheck y => vNil fr hp y K
    | .slice t y lo hi none => vSlice T t fr y lo hi K
    | .makeFunc f xs ys => vFunc fr f xs ys K
    | .lookup t y w two => y7p T t fr hp y w two K
    | .mapUpdate t x y w => y7q T Rl t fr hp x y w K
    | .insert t x y w => y7q T Rl t fr hp x y w K
    | .alloc t => vAlloc T t (zw8 H o) K
    | .box _ y => vBox (!nIn (zw8 H o) H.pb) fr hp y (zw8 H o) K
    | .build t parts => vBuild T t fr hp parts.toList K
    | .buildSlice t len parts => y7k T (nIn (zw8 H o) H.ob) t len fr hp parts.toList (zw8 H o) K
    | .makeMap _ none => vMkMap (zw8 H o) K
    | .makeSlice t y w => y2k T t fr y w (zw8 H o) K
    | .call q => y1m T H Rl o q fr hp K
    | _ => False
theorem vop_ok {H : Hn} {key : Nat} (h : vop T H Rl key o fr hp K) : Does P Rl o fr hp K := by
  unfold vop at h
  split at h
  · obtain ⟨h1, h2⟩ := h
    exact ⟨_, h2, h1⟩
  · split at h
    · exact vMove_ok ‹_› h
    · exact y4b ‹_› h
    · exact vPick_ok ‹_› h
    · exact vBin_ok ‹_› h
    · exact vUn_ok ‹_› h
    · exact vConv_ok ‹_› h
    · exact vLoad_ok ‹_› h
    · exact y7t ‹_› h
    · exact y4e ‹_› h
    · exact y4f ‹_› h
    · exact vIdxA_ok ‹_› h
    · exact vIdxV_ok ‹_› h
    · exact y1n ‹_› h
    · exact vNil_ok ‹_› h
    · exact y7s ‹_› h
    · exact vFunc_ok ‹_› h
    · exact y4h ‹_› h
    · exact y04 (.inl ‹_›) h
    · exact y04 (.inr ‹_›) h
    · exact y7i ‹_› h
    · exact vBox_ok ‹_› h
    · exact y7l ‹_› h
    · exact y4c ‹_› h
    · exact y7r ‹_› h
    · exact y1o ‹_› h
    · exact y4d ‹_› h
    · exact h.elim
end
section
variable {P : Program} {T : TB P} {fr fr' : Fr} {hp hp' : Hp} {Rl ks : List Nat} {c : Cx} {ops : Array Oper} {Q : Exit -> Fr -> Heap' -> Prop} {nt : Nat}
structure Ent where
  i : Nat
  o : Oper
  s : Option Stp
def Ent.x (e : Ent) : IV := match e.s with
  | some s => s.x
  | none => .pv (.val undef)
def Ent.wr (e : Ent) : Hp := match e.s with
  | some s => s.wr
  | none => []
def Ent.rd (e : Ent) : List Nat := match e.s with
  | some s => s.rd
  | none => []
def Ent.nw (e : Ent) : List Nat := match e.s with
  | some s => s.nw
  | none => []
def putE (fr : Fr) (e : Ent) : Fr := fr.put e.o.dst e.x
def putH (hp : Hp) (e : Ent) : Hp := e.wr ++ hp
def zm8 (ops : Array Oper) (o : Oper) : List Nat := match o.guard with
  | some (j, _) => match ops[j]? with
    | some oj => oj.dst.toList
    | none => []
  | none => []
def seen (ops : Array Oper) (o : Oper) : List Nat := zm8 ops o ++ z19 o.op
inductive GYes (ops : Array Oper) (o : Oper) (fr : Fr) : Prop
  | free (h : o.guard = none)
  | met {j t : Nat} {b : Bool} {oj : Oper} (h : o.guard = some (j, b)) (hj : ops[j]? = some oj) (ht : oj.dst = some t) (hb : fr.get t = some (.pv (.val (.bool b))))
inductive GNo (ops : Array Oper) (o : Oper) (fr : Fr) : Prop
  | not {j t : Nat} {b : Bool} {oj : Oper} (h : o.guard = some (j, !b)) (hj : ops[j]? = some oj) (ht : oj.dst = some t) (hb : fr.get t = some (.pv (.val (.bool b))))
  | un {j t : Nat} {b : Bool} {oj : Oper} (h : o.guard = some (j, b)) (hj : ops[j]? = some oj) (ht : oj.dst = some t) (hb : fr.get t = some (.pv (.val undef)))
theorem GYes.wanted {o : Oper} {ρ : Loc} {σ : Heap'} {w : World} {a : Act} (h : GYes ops o fr) (ha : All c ρ σ w fr a) : Region.wanted o (yielded ops a.tmps) = true := by
  cases h with
  | free h => simp [Region.wanted, h]
  | met h hj ht hb => simp [Region.wanted, h, z2s ha hj ht hb]
theorem GNo.wanted {o : Oper} {ρ : Loc} {σ : Heap'} {w : World} {a : Act} (h : GNo ops o fr) (ha : All c ρ σ w fr a) : Region.wanted o (yielded ops a.tmps) = false := by
  cases h with
  | not h hj ht hb => simp [Region.wanted, h, z2s ha hj ht hb]
  | un h hj ht hb => simp [Region.wanted, h, z50 ha hj ht hb]
theorem GYes.agr {o : Oper} {fr2 : Fr} (h : GYes ops o fr) (hg : agr fr2 fr (zm8 ops o)) : GYes ops o fr2 := by
  cases h with
  | free h => exact .free h
  | met h hj ht hb => exact .met h hj ht ((hg _ (by simp [zm8, h, hj, ht])).trans hb)
theorem GNo.agr {o : Oper} {fr2 : Fr} (h : GNo ops o fr) (hg : agr fr2 fr (zm8 ops o)) : GNo ops o fr2 := by
  cases h with
  | not h hj ht hb => exact .not h hj ht ((hg _ (by simp [zm8, h, hj, ht])).trans hb)
  | un h hj ht hb => exact .un h hj ht ((hg _ (by simp [zm8, h, hj, ht])).trans hb)
def wrOk (hp : Hp) (nw : List Nat) : Hp -> Bool
  | [] => true
  | (k, _) :: r => match nIn k nw with
    | true => wrOk hp nw r
    | false => match look hp k with
      | some _ => wrOk hp nw r
      | none => false
theorem zt1 {nw : List Nat} {k : Nat} : ∀ {l : Hp}, wrOk hp nw l = true -> k ∈ l.map (·.1) -> k ∈ nw ∨ look hp k ≠ none
  | (j, q) :: r, h, hk => by
    simp only [wrOk] at h
    simp only [List.map_cons, List.mem_cons] at hk
    split at h
    · rename_i hn
      rcases hk with rfl | hk
      · exact .inl (z44.1 hn)
      · exact zt1 h hk
    · split at h
      · rename_i ob hl
        rcases hk with rfl | hk
        · exact .inr (by rw [hl]; simp)
        · exact zt1 h hk
      · cases h
def newB (ks : List Nat) (fr : Fr) (hp : Hp) (k : Nat) : Bool := match nIn k ks with
  | true => false
  | false => frsh k fr hp
theorem y5r {k : Nat} (h : newB ks fr hp k = true) : k ∉ ks /\ frsh k fr hp = true := by
  unfold newB at h
  split at h
  · cases h
  · rename_i hn; exact ⟨z2e hn, h⟩
def Good (P : Program) (ops : Array Oper) (Rl ks : List Nat) (nt : Nat) (e : Ent) (fr : Fr) (hp : Hp) : Prop :=
  zw9 e.o.dst nt = true /\ match e.s with
  | some s => GYes ops e.o fr /\ OkF P Rl e.o fr hp s /\ (∀ k ∈ s.nw, k ∉ ks /\ frsh k fr hp = true) /\ wrOk hp s.nw s.wr = true
  | none => GNo ops e.o fr
def FrEq (fr fr2 : Fr) : Prop := (∀ t, fr2.get t = fr.get t) /\ ∀ k, nmFr k fr2 = nmFr k fr
theorem FrEq.rfl' : FrEq fr fr := ⟨fun _ => rfl, fun _ => rfl⟩
theorem FrEq.lit {t : Nat} {v : Value} (h : fr.get t = some (.pv (.val v))) : FrEq ((t, .pv (.val v)) :: fr) fr := by
  refine ⟨fun u => ?_, fun k => by simp [nmFr, nm]⟩
  simp only [Fr.get]
  cases hb : Nat.beq t u with
  | true => obtain rfl := Nat.eq_of_beq_eq_true hb; exact h
  | false => rfl
theorem FrEq.put {d : Option Nat} {x : IV} {fr2 : Fr} (h : FrEq fr fr2) : FrEq (fr.put d x) (fr2.put d x) := by
  cases d with
  | none => exact h
  | some t => exact ⟨fun u => by simp only [Fr.put, Fr.get, h.1 u], fun k => by simp only [Fr.put, nmFr, h.2 k]⟩
theorem FrEq.trans {fr2 fr3 : Fr} (h : FrEq fr fr2) (h2 : FrEq fr2 fr3) : FrEq fr fr3 := ⟨fun t => (h2.1 t).trans (h.1 t), fun k => (h2.2 k).trans (h.2 k)⟩
theorem FrEq.frsh {k : Nat} {fr2 : Fr} (h : FrEq fr fr2) : frsh k fr2 hp = frsh k fr hp := by simp only [Go.Proofs.YtekdhljpmflboaaGreat.frsh, h.2 k]
theorem Good.eqv {e : Ent} {fr2 : Fr} (h : Good P ops Rl ks nt e fr hp) (hf : FrEq fr fr2) : Good P ops Rl ks nt e fr2 hp := by
  refine ⟨h.1, ?_⟩
  have h2 := h.2
  split at h2
  · obtain ⟨h3, h4, h5, h6⟩ := h2
    exact ⟨h3.agr fun t _ => hf.1 t, fun c fr3 hp3 a b ha => h4 c fr3 hp3 a b (fun t ht => (ha t ht).trans (hf.1 t)), fun k hk => ⟨(h5 k hk).1, by rw [hf.frsh]; exact (h5 k hk).2⟩, h6⟩
  · exact h2.agr fun t _ => hf.1 t
inductive Chain (P : Program) (ops : Array Oper) (Rl ks : List Nat) (nt : Nat) : Fr -> Hp -> List Ent -> Fr -> Hp -> Prop
  | nil {fr : Fr} {hp : Hp} : Chain P ops Rl ks nt fr hp [] fr hp
  | lit {fr : Fr} {hp : Hp} {L : List Ent} {fr' : Fr} {hp' : Hp} {t : Nat} {v : Value} (ht : fr.get t = some (.pv (.val v))) (h : Chain P ops Rl ks nt ((t, .pv (.val v)) :: fr) hp L fr' hp') : Chain P ops Rl ks nt fr hp L fr' hp'
  | cons {fr : Fr} {hp : Hp} {L : List Ent} {fr' : Fr} {hp' : Hp} {e : Ent} (g : Good P ops Rl ks nt e fr hp) (h : Chain P ops Rl ks nt (putE fr e) (putH hp e) L fr' hp') : Chain P ops Rl ks nt fr hp (e :: L) fr' hp'
def z4o (fr : Fr) (L : List Ent) : Fr := L.foldl putE fr
def z4p (hp : Hp) (L : List Ent) : Hp := L.foldl putH hp
theorem Chain.fin {L : List Ent} (h : Chain P ops Rl ks nt fr hp L fr' hp') : ∀ {fr2 : Fr}, FrEq fr fr2 -> FrEq fr' (z4o fr2 L) /\ hp' = z4p hp L := by
  induction h with
  | nil => exact fun hf => ⟨hf, rfl⟩
  | lit ht _ ih => exact fun hf => ih ((FrEq.lit ht).trans hf)
  | cons g _ ih => exact fun hf => ih (FrEq.put hf)
theorem Chain.at {L : List Ent} (h : Chain P ops Rl ks nt fr hp L fr' hp') : ∀ {fr2 : Fr}, FrEq fr fr2 -> ∀ {A B : List Ent} {e : Ent}, L = A ++ e :: B -> Good P ops Rl ks nt e (z4o fr2 A) (z4p hp A) := by
  induction h with
  | nil => intro fr2 hf A B e he; cases A <;> cases he
  | lit ht _ ih => exact fun hf => ih ((FrEq.lit ht).trans hf)
  | cons g _ ih =>
    intro fr2 hf A B e he
    cases A with
    | nil => cases he; exact g.eqv hf
    | cons a A => cases he; exact ih (FrEq.put hf) rfl
theorem All.putU {ρ : Loc} {σ : Heap'} {w : World} {a : Act} {d : Option Nat} {x : IV} {v : Value} (h : All c ρ σ w fr a) (hd : zw9 d c.n = true) (hx : RepI c.F ρ σ w x v) : All c ρ σ w (fr.put d x) (a.put d v) :=
  h.put hx fun t ht => by simpa using zq7 hd t ht
theorem Chain.text {L : List Ent} (h : Chain P ops Rl ks nt fr hp L fr' hp') (hn : c.n = nt) (hR : ∀ k, c.R k -> k ∈ Rl) (hσ : ∀ k, c.σ k ≠ none -> k ∈ ks) (hQ : Q .normal fr' (look hp')) : WL P c ops Q (L.map (·.o)) fr (look hp) := by
  induction h with
  | nil => exact WL.nil hQ
  | lit ht _ ih => exact fun ρ w a ha => ih hQ ρ w a (ha.putFr ht fun _ h => h)
  | cons g _ ih =>
    rename_i fr hp L fr' hp' e _
    intro ρ w a ha
    obtain ⟨hd, g⟩ := g
    subst hn
    refine wpList_step fun K hK => ?_
    split at g
    · rename_i s hs
      obtain ⟨h1, h2, h3, h4⟩ := g
      rw [if_pos (h1.wanted ha)]
      refine h2 c fr hp hR (fun k hk => ?_) (fun _ _ => rfl) (fun _ _ => rfl) (fun k hk => (h3 k hk).2) ρ w a K _ ha fun ρ' w' v ha' hv => hK _ _ ?_
      · cases h5 : c.σ k with
        | none => rfl
        | some o => exact absurd (hσ k (by rw [h5]; simp)) (h3 k hk).1
      · have hx : e.x = s.x := by simp [Ent.x, hs]
        have hw : e.wr = s.wr := by simp [Ent.wr, hs]
        refine ih hQ ρ' w' _ ?_
        simp only [putE, putH, hx, hw]
        exact ha'.putU hd hv
    · rename_i hs
      rw [if_neg (by simp [g.wanted ha])]
      refine hK _ _ (ih hQ ρ w _ ?_)
      have hx : e.x = .pv (.val undef) := by simp [Ent.x, hs]
      have hw : e.wr = [] := by simp [Ent.wr, hs]
      simp only [putE, putH, hx, hw, List.nil_append]
      exact ha.putU hd (z2d undef)
theorem z3w {t : Nat} {p q : Ent -> Bool} : ∀ {L : List Ent} {fr fr2 : Fr}, fr.get t = fr2.get t -> (∀ e ∈ L, e.o.dst = some t -> p e = q e) -> (z4o fr (L.filter p)).get t = (z4o fr2 (L.filter q)).get t
  | [], _, _, h, _ => h
  | e :: L, fr, fr2, h, hh => by
    have hL : ∀ e ∈ L, e.o.dst = some t -> p e = q e := fun e he => hh e (.tail _ he)
    have step : ∀ {f : Fr}, e.o.dst ≠ some t -> (putE f e).get t = f.get t := fun {f} hne => by
      unfold putE
      cases hd : e.o.dst with
      | none => rfl
      | some d =>
        have : d ≠ t := fun h => hne (by rw [hd, h])
        simp [Fr.put, Fr.get, z02 this]
    have step2 : ∀ {f : Fr}, e.o.dst = some t -> (putE f e).get t = some e.x := fun {f} hd => by simp [putE, hd, Fr.put, Fr.get]
    by_cases hd : e.o.dst = some t
    · have := hh e (.head _) hd
      cases hp : p e with
      | true =>
        have hq : q e = true := this ▸ hp
        rw [List.filter_cons_of_pos hp, List.filter_cons_of_pos hq]
        exact z3w (by rw [step2 hd, step2 hd]) hL
      | false =>
        have hq : q e = false := this ▸ hp
        rw [List.filter_cons_of_neg (by simp [hp]), List.filter_cons_of_neg (by simp [hq])]
        exact z3w h hL
    · cases hp : p e <;> cases hq : q e
      · rw [List.filter_cons_of_neg (by simp [hp]), List.filter_cons_of_neg (by simp [hq])]; exact z3w h hL
      · rw [List.filter_cons_of_neg (by simp [hp]), List.filter_cons_of_pos hq]; exact z3w (fr2 := putE fr2 e) (by rw [step hd]; exact h) hL
      · rw [List.filter_cons_of_pos hp, List.filter_cons_of_neg (by simp [hq])]; exact z3w (fr := putE fr e) (by rw [step hd]; exact h) hL
      · rw [List.filter_cons_of_pos hp, List.filter_cons_of_pos hq]; exact z3w (fr := putE fr e) (fr2 := putE fr2 e) (by rw [step hd, step hd]; exact h) hL
theorem z36 {k : Nat} {p q : Ent -> Bool} : ∀ {L : List Ent} {hp hp2 : Hp}, look hp k = look hp2 k -> (∀ e ∈ L, k ∈ e.wr.map (·.1) -> p e = q e) -> look (z4p hp (L.filter p)) k = look (z4p hp2 (L.filter q)) k
  | [], _, _, h, _ => h
  | e :: L, fr, fr2, h, hh => by
    have hL : ∀ e ∈ L, k ∈ e.wr.map (·.1) -> p e = q e := fun e he => hh e (.tail _ he)
    have step : ∀ {f : Hp}, k ∉ e.wr.map (·.1) -> look (putH f e) k = look f k := fun {f} hne => by unfold putH; rw [z24, if_neg hne]
    have step2 : ∀ {f : Hp}, k ∈ e.wr.map (·.1) -> look (putH f e) k = look e.wr k := fun {f} hd => by unfold putH; rw [z24, if_pos hd]
    by_cases hd : k ∈ e.wr.map (·.1)
    · have := hh e (.head _) hd
      cases hp : p e with
      | true =>
        have hq : q e = true := this ▸ hp
        rw [List.filter_cons_of_pos hp, List.filter_cons_of_pos hq]
        exact z36 (by rw [step2 hd, step2 hd]) hL
      | false =>
        have hq : q e = false := this ▸ hp
        rw [List.filter_cons_of_neg (by simp [hp]), List.filter_cons_of_neg (by simp [hq])]
        exact z36 h hL
    · cases hp : p e <;> cases hq : q e
      · rw [List.filter_cons_of_neg (by simp [hp]), List.filter_cons_of_neg (by simp [hq])]; exact z36 h hL
      · rw [List.filter_cons_of_neg (by simp [hp]), List.filter_cons_of_pos hq]; exact z36 (hp2 := putH fr2 e) (by rw [step hd]; exact h) hL
      · rw [List.filter_cons_of_pos hp, List.filter_cons_of_neg (by simp [hq])]; exact z36 (hp := putH fr e) (by rw [step hd]; exact h) hL
      · rw [List.filter_cons_of_pos hp, List.filter_cons_of_pos hq]; exact z36 (hp := putH fr e) (hp2 := putH fr2 e) (by rw [step hd, step hd]; exact h) hL
theorem zq4 {k : Nat} : ∀ {L : List Ent} {fr : Fr}, nmFr k (z4o fr L) = false ↔ nmFr k fr = false /\ ∀ e ∈ L, e.o.dst ≠ none -> nm k e.x = false
  | [], fr => by simp [z4o]
  | e :: L, fr => by
    have ih := zq4 (k := k) (L := L) (fr := putE fr e)
    have h1 : z4o fr (e :: L) = z4o (putE fr e) L := rfl
    rw [h1, ih]
    have h2 : nmFr k (putE fr e) = false ↔ nmFr k fr = false /\ (e.o.dst ≠ none -> nm k e.x = false) := by
      unfold putE
      cases e.o.dst with
      | none => simp [Fr.put]
      | some d => simp [Fr.put, nmFr, and_comm]
    rw [h2]
    simp only [List.forall_mem_cons, and_assoc]
theorem y2b {k : Nat} : ∀ {A B : Hp}, nmHp k (A ++ B) = false ↔ nmHp k A = false /\ nmHp k B = false
  | [], B => by simp [nmHp]
  | (j, o) :: A, B => by
    have ih := y2b (k := k) (A := A) (B := B)
    match o with
    | some (.box cs) => simp only [List.cons_append, nmHp, Bool.or_eq_false_iff, ih, and_assoc]
    | some (.row ..) => simpa only [List.cons_append, nmHp] using ih
    | some (.map _) => simpa only [List.cons_append, nmHp] using ih
    | none => simpa only [List.cons_append, nmHp] using ih
theorem zq5 {k : Nat} : ∀ {L : List Ent} {hp : Hp}, nmHp k (z4p hp L) = false ↔ nmHp k hp = false /\ ∀ e ∈ L, nmHp k e.wr = false
  | [], hp => by simp [z4p]
  | e :: L, hp => by
    have ih := zq5 (k := k) (L := L) (hp := putH hp e)
    have h1 : z4p hp (e :: L) = z4p (putH hp e) L := rfl
    rw [h1, ih]
    unfold putH
    rw [y2b]
    simp only [List.forall_mem_cons]
    constructor
    · rintro ⟨⟨a, b⟩, d⟩; exact ⟨b, a, d⟩
    · rintro ⟨b, a, d⟩; exact ⟨⟨a, b⟩, d⟩
def insN (k : Nat) (l : List Nat) : List Nat := match nIn k l with
  | true => l
  | false => k :: l
def insL : List Nat -> List Nat -> List Nat
  | [], l => l
  | k :: r, l => insL r (insN k l)
theorem y2a {j k : Nat} {l : List Nat} : j ∈ insN k l ↔ j = k ∨ j ∈ l := by
  unfold insN
  split
  · rename_i h
    have := z44.1 h
    constructor
    · exact .inr
    · rintro (rfl | h)
      · exact this
      · exact h
  · simp
theorem y29 {j : Nat} : ∀ {m l : List Nat}, j ∈ insL m l ↔ j ∈ m ∨ j ∈ l
  | [], l => by simp [insL]
  | k :: r, l => by
    simp only [insL, y29, y2a, List.mem_cons]
    constructor
    · rintro (h | rfl | h)
      · exact .inl (.inr h)
      · exact .inl (.inl rfl)
      · exact .inr h
    · rintro ((rfl | h) | h)
      · exact .inr (.inl rfl)
      · exact .inl h
      · exact .inr (.inr h)
def nthL : List (List Nat) -> Nat -> List Nat
  | [], _ => []
  | x :: _, 0 => x
  | _ :: r, n + 1 => nthL r n
def y49 (ups : List (List Nat)) (n : Nat) : List Edge -> List Nat
  | [] => []
  | e :: r => match Region.binds .any e with
    | true => insN e.on (insL (nthL ups (n - 1 - e.on)) (y49 ups n r))
    | false => y49 ups n r
def y00 : List Oper -> List (List Nat) -> Nat -> List (List Nat)
  | [], ups, _ => ups
  | o :: r, ups, n => y00 r (y49 ups n o.after.toList :: ups) (n + 1)
def zf7 (n : Nat) : List Edge -> Bool
  | [] => true
  | e :: r => match Region.binds .any e with
    | true => match Nat.blt e.on n with
      | true => zf7 n r
      | false => false
    | false => zf7 n r
def z8n : List Oper -> Nat -> Bool
  | [], _ => true
  | o :: r, n => match zf7 n o.after.toList with
    | true => z8n r (n + 1)
    | false => false
def disj : List Nat -> List Nat -> Bool
  | [], _ => true
  | k :: r, m => match nIn k m with
    | true => false
    | false => disj r m
theorem z62 {k : Nat} : ∀ {l m : List Nat}, disj l m = true -> k ∈ l -> k ∉ m
  | a :: r, m, h, hk => by
    simp only [disj] at h
    split at h
    · cases h
    · rename_i hn
      rcases List.mem_cons.1 hk with rfl | hk
      · exact z2e hn
      · exact z62 h hk
def idsH : Hp -> List Nat
  | [] => []
  | (k, _) :: r => k :: idsH r
theorem z8r : ∀ l : Hp, idsH l = l.map (·.1)
  | [] => rfl
  | (k, _) :: r => by simp [idsH, z8r r]
def z90 (e : Ent) (k : Nat) : Bool := match nm k e.x with
  | true => false
  | false => !nmHp k e.wr
def z8b (ops : Array Oper) (e f : Ent) : Bool :=
  disj e.o.dst.toList (seen ops f.o) && disj f.o.dst.toList (seen ops e.o) && disj e.o.dst.toList f.o.dst.toList && disj (idsH e.wr) f.rd && disj (idsH f.wr) e.rd && lAll (z90 f) e.nw && lAll (z90 e) f.nw
def subN : List Nat -> List Nat -> Bool
  | [], _ => true
  | k :: r, m => match nIn k m with
    | true => subN r m
    | false => false
theorem y1g {k : Nat} : ∀ {l m : List Nat}, subN l m = true -> k ∈ l -> k ∈ m
  | a :: r, m, h, hk => by
    simp only [subN] at h
    split at h
    · rename_i hn
      rcases List.mem_cons.1 hk with rfl | hk
      · exact z44.1 hn
      · exact y1g h hk
    · cases h
def z91 (ops : Array Oper) (e : Ent) (up : List Nat) : List Ent -> Bool
  | [] => true
  | f :: r => match nIn f.i up with
    | true => z91 ops e up r
    | false => match z8b ops f e with
      | true => z91 ops e up r
      | false => false
def chkL (ops : Array Oper) : List Ent -> List (List Nat) -> Bool
  | [], _ => true
  | e :: r, u :: us => match subN (idsH e.wr) e.rd with
    | true => match subN e.nw e.rd with
      | true => match z91 ops e u r with
        | true => chkL ops r us
        | false => false
      | false => false
    | false => false
  | _ :: _, [] => false
def chk (ops : Array Oper) (acc : List Ent) : Bool := match z8n ops.toList 0 with
  | true => chkL ops acc (y00 ops.toList [] 0)
  | false => false
end
section
variable {P : Program} {T : TB P} {fr fr' : Fr} {hp hp' : Hp} {Rl ks : List Nat} {c : Cx} {ops : Array Oper} {Q : Exit -> Fr -> Heap' -> Prop} {nt : Nat}
def Idx : Nat -> List Ent -> Prop
  | _, [] => True
  | n, e :: r => e.i = n /\ Idx (n + 1) r
theorem Idx.lo : ∀ {L : List Ent} {n : Nat}, Idx n L -> ∀ e ∈ L, n <= e.i /\ e.i < n + L.length
  | [], _, _, _, hf => by cases hf
  | e :: r, n, h, f, hf => by
    rcases List.mem_cons.1 hf with rfl | hf
    · have := h.1; simp only [List.length_cons]; omega
    · have := h.2.lo f hf; simp only [List.length_cons]; omega
theorem Idx.split : ∀ {L : List Ent} {n : Nat}, Idx n L -> ∀ {e : Ent}, e ∈ L -> ∃ A B, L = A ++ e :: B /\ e.i = n + A.length /\ L.filter (fun f => decide (f.i < e.i)) = A /\ L.filter (fun f => decide (f.i <= e.i)) = A ++ [e]
  | [], _, _, _, he => by cases he
  | f :: r, n, h, e, he => by
    have hr := h.2.lo
    by_cases heq : e.i = n
    · have : e = f := by
        rcases List.mem_cons.1 he with rfl | he
        · rfl
        · have := (hr e he).1; omega
      subst this
      refine ⟨[], r, rfl, by simp [heq], ?_, ?_⟩
      · rw [List.filter_cons_of_neg sI0]
        exact List.filter_eq_nil_iff.2 fun g hg => by have := (hr g hg).1; simp; omega
      · rw [List.filter_cons_of_pos sI0, List.filter_eq_nil_iff.2 fun g hg => by have := (hr g hg).1; simp; omega]
        rfl
    · have he' : e ∈ r := by
        rcases List.mem_cons.1 he with rfl | he
        · exact absurd h.1 heq
        · exact he
      obtain ⟨A, B, h1, h2, h3, h4⟩ := h.2.split he'
      have := (hr e he').1
      have hf := h.1
      refine ⟨f :: A, B, by rw [h1]; rfl, by simp only [List.length_cons]; omega, ?_, ?_⟩
      · rw [List.filter_cons_of_pos (by simp; omega), h3]
      · rw [List.filter_cons_of_pos (by simp; omega), h4]; rfl
theorem Idx.inj {L : List Ent} {n : Nat} (h : Idx n L) {e f : Ent} (he : e ∈ L) (hf : f ∈ L) (hi : e.i = f.i) : e = f := by
  obtain ⟨A, B, h1, _, h3, h4⟩ := h.split he
  obtain ⟨A', B', h1', _, h3', h4'⟩ := h.split hf
  rw [hi] at h3 h4
  rw [h3'] at h3
  rw [h4', h3] at h4
  simpa using h4.symm
theorem Idx.get : ∀ {L : List Ent} {n : Nat}, Idx n L -> ∀ {i : Nat} {o : Oper}, (L.map (·.o))[i]? = some o -> ∃ e ∈ L, e.i = n + i /\ e.o = o
  | [], _, _, _, _, hi => by simp at hi
  | e :: r, n, h, 0, o, hi => ⟨e, .head _, h.1, by simpa using hi⟩
  | e :: r, n, h, i + 1, o, hi => by
    obtain ⟨f, hf, h1, h2⟩ := h.2.get (i := i) (o := o) (by simpa using hi)
    exact ⟨f, .tail _ hf, by omega, h2⟩
def z8a (l : List Oper) (S : Nat -> Prop) : Prop := ∀ i o, l[i]? = some o -> S i -> ∀ e ∈ o.after.toList, Region.binds .any e = true -> S e.on
theorem z9w {n : Nat} : ∀ {l : List Edge}, zf7 n l = true -> ∀ e ∈ l, Region.binds .any e = true -> e.on < n
  | [], _, _, he, _ => by cases he
  | a :: r, h, e, he, hb => by
    simp only [zf7] at h
    split at h
    · split at h
      · rename_i h1 h2
        rcases List.mem_cons.1 he with rfl | he
        · exact Nat.le_of_ble_eq_true h2
        · exact z9w h e he hb
      · cases h
    · rename_i h1
      rcases List.mem_cons.1 he with rfl | he
      · rw [hb] at h1; cases h1
      · exact z9w h e he hb
theorem zm5 : ∀ {l : List Oper} {n : Nat}, z8n l n = true -> ∀ {i : Nat} {o : Oper}, l[i]? = some o -> ∀ e ∈ o.after.toList, Region.binds .any e = true -> e.on < n + i
  | [], _, _, _, _, hi, _, _, _ => by simp at hi
  | a :: r, n, h, 0, o, hi, e, he, hb => by
    simp only [z8n] at h
    split at h
    · rename_i h1; simp at hi; subst hi; exact z9w h1 e he hb
    · cases h
  | a :: r, n, h, i + 1, o, hi, e, he, hb => by
    simp only [z8n] at h
    split at h
    · have := zm5 h (i := i) (o := o) (by simpa using hi) e he hb; omega
    · cases h
theorem zk9 {ups : List (List Nat)} {n : Nat} {S : Nat -> Prop} {k : Nat} (hS : ∀ j, j < n -> S j -> ∀ k ∈ nthL ups (n - 1 - j), S k) : ∀ {l : List Edge}, zf7 n l = true -> (∀ e ∈ l, Region.binds .any e = true -> S e.on) -> k ∈ y49 ups n l -> S k
  | [], _, _, h => by cases h
  | a :: r, hok, hc, h => by
    simp only [zf7] at hok
    simp only [y49] at h
    split at hok
    · rename_i hb
      split at hok
      · rename_i hlt
        have hlt' : a.on < n := Nat.le_of_ble_eq_true hlt
        rw [hb] at h
        simp only [y2a, y29] at h
        rcases h with rfl | h | h
        · exact hc a (.head _) hb
        · exact hS a.on hlt' (hc a (.head _) hb) k h
        · exact zk9 hS hok (fun e he => hc e (.tail _ he)) h
      · cases hok
    · rename_i hb
      rw [hb] at h
      exact zk9 hS hok (fun e he => hc e (.tail _ he)) h
theorem y01 : ∀ {r l0 : List Oper} {ups : List (List Nat)} {S : Nat -> Prop}, z8n r l0.length = true -> ups.length = l0.length -> z8a (l0 ++ r) S -> (∀ j, j < l0.length -> S j -> ∀ k ∈ nthL ups (l0.length - 1 - j), S k) ->
    ∀ j, j < (l0 ++ r).length -> S j -> ∀ k ∈ nthL (y00 r ups l0.length) ((l0 ++ r).length - 1 - j), S k
  | [], l0, ups, S, _, _, _, h => by simpa [y00] using h
  | o :: r, l0, ups, S, hok, hl, hc, h => by
    simp only [z8n] at hok
    split at hok
    · rename_i h1
      have h2 := y01 (r := r) (l0 := l0 ++ [o]) (ups := y49 ups l0.length o.after.toList :: ups) (S := S) (by simpa using hok) (by simp [hl]) (by simpa using hc) (fun j hj hSj k hk => by
        simp only [List.length_append, List.length_cons, List.length_nil] at hj hk
        by_cases e : j = l0.length
        · subst e
          rw [show l0.length + (0 + 1) - 1 - l0.length = 0 by omega] at hk
          refine zk9 h h1 (fun e he hb => hc l0.length o ?_ hSj e he hb) hk
          simp
        · rw [show l0.length + (0 + 1) - 1 - j = (l0.length - 1 - j) + 1 by omega] at hk
          exact h j oM0 hSj k hk)
      simpa [y00] using h2
    · cases hok
theorem z7b {e : Ent} {up : List Nat} : ∀ {l : List Ent}, z91 ops e up l = true -> ∀ f ∈ l, f.i ∈ up ∨ z8b ops f e = true
  | [], _, _, hf => by cases hf
  | a :: r, h, f, hf => by
    simp only [z91] at h
    split at h
    · rename_i h1
      rcases List.mem_cons.1 hf with rfl | hf
      · exact .inl (z44.1 h1)
      · exact z7b h f hf
    · split at h
      · rename_i h1
        rcases List.mem_cons.1 hf with rfl | hf
        · exact .inr h1
        · exact z7b h f hf
      · cases h
theorem zp0 : ∀ {acc : List Ent} {ups : List (List Nat)}, chkL ops acc ups = true -> ∀ {A B : List Ent} {e : Ent}, acc = B ++ e :: A -> subN (idsH e.wr) e.rd = true /\ subN e.nw e.rd = true /\ ∀ f ∈ A, f.i ∈ nthL ups B.length ∨ z8b ops f e = true
  | [], _, _, A, B, e, he => by cases B <;> simp at he
  | a :: r, u :: us, h, A, B, e, he => by
    simp only [chkL] at h
    split at h
    · rename_i h1
      split at h
      · rename_i h2
        split at h
        · rename_i h3
          cases B with
          | nil => cases he; exact ⟨h1, h2, fun f hf => z7b h3 f hf⟩
          | cons b B => cases he; exact zp0 h rfl
        · cases h
      · cases h
    · cases h
  | a :: r, [], h, _, _, _, _ => by simp [chkL] at h
structure Fine (ops : Array Oper) (L : List Ent) : Prop where
  idx : Idx 0 L
  map : L.map (·.o) = ops.toList
  edge : ∀ {i : Nat} {o : Oper}, ops[i]? = some o -> ∀ e ∈ o.after.toList, Region.binds .any e = true -> e.on < i
  wr : ∀ e ∈ L, ∀ k ∈ e.wr.map (·.1), k ∈ e.rd
  nw : ∀ e ∈ L, ∀ k ∈ e.nw, k ∈ e.rd
  pair : ∀ e ∈ L, ∀ f ∈ L, e.i < f.i -> z8b ops e f = true ∨ ∀ S : Nat -> Prop, z8a ops.toList S -> S f.i -> S e.i
theorem fine_of {L : List Ent} (hi : Idx 0 L) (hm : L.map (·.o) = ops.toList) (h : chk ops L.reverse = true) : Fine ops L := by
  unfold chk at h
  split at h
  · rename_i he
    have hlen : L.length = ops.toList.length := by rw [<- hm, List.length_map]
    have hat : ∀ e ∈ L, ∃ A B, L = A ++ e :: B /\ A.length = e.i /\ L.reverse = B.reverse ++ e :: A.reverse := fun e hme => by
      obtain ⟨A, B, h1, h2, _⟩ := hi.split hme
      exact ⟨A, B, h1, by omega, by rw [h1]; simp⟩
    refine ⟨hi, hm, fun {i o} ho e hme hb => ?_, fun e hme k hk => ?_, fun e hme k hk => ?_, fun e hme f hmf hlt => ?_⟩
    · have := zm5 he (i := i) (o := o) (by simpa using ho) e hme hb; omega
    · obtain ⟨A, B, _, _, h3⟩ := hat e hme
      exact y1g (zp0 h h3).1 (by rw [z8r]; exact hk)
    · obtain ⟨A, B, _, _, h3⟩ := hat e hme
      exact y1g (zp0 h h3).2.1 hk
    · obtain ⟨A, B, h1, h2, h3⟩ := hat f hmf
      have hA : e ∈ A := by
        have := (hi.split hmf)
        obtain ⟨A', B', h1', h2', h3', _⟩ := this
        have hAA : A = A' := by
          have h5 : A ++ f :: B = A' ++ f :: B' := h1.symm.trans h1'
          exact (List.append_inj h5 oM0).1
        rw [hAA, <- h3']
        exact List.mem_filter.2 ⟨hme, by simpa using hlt⟩
      rcases (zp0 h h3).2.2 e (List.mem_reverse.2 hA) with h4 | h4
      · refine .inr fun S hS hSf => ?_
        have h5 := y01 (r := ops.toList) (l0 := []) (ups := []) (S := S) he rfl (by simpa using hS) (fun j hj => by simp at hj) f.i (by
          have := (hi.lo f hmf).2; simp only [List.nil_append]; omega) hSf e.i
        refine h5 ?_
        have h6 : L.length = A.length + (B.length + 1) := by rw [h1]; simp
        simp only [List.nil_append, List.length_nil]
        rw [show ops.toList.length - 1 - f.i = B.reverse.length by simp only [List.length_reverse]; omega]
        exact h4
      · exact .inl h4
  · cases h
section
variable {L : List Ent} {S : Nat -> Bool} {fr0 : Fr} {hp0 : Hp}
def z69 (S : Nat -> Bool) (i : Nat) : Nat -> Bool := fun j => S j || j == i
theorem Fine.upto (F : Fine ops L) {e f : Ent} (he : e ∈ L) (hf : f ∈ L) (hn : S e.i = false) (hS : z8a ops.toList fun j => S j = true) (hS1 : z8a ops.toList fun j => z69 S e.i j = true) (hap1 : z8b ops f e = false) (hap2 : z8b ops e f = false) : S f.i = decide (f.i < e.i) := by
  rcases Nat.lt_trichotomy f.i e.i with h | h | h
  · rcases F.pair f hf e he h with h1 | h1
    · rw [h1] at hap1; cases hap1
    · have := h1 _ hS1 (by simp [z69])
      simp only [z69, Bool.or_eq_true, beq_iff_eq] at this
      rcases this with h2 | h2
      · simp [h2, h]
      · omega
  · obtain rfl := F.idx.inj hf he h
    simp [hn]
  · rcases F.pair e he f hf h with h1 | h1
    · rw [h1] at hap2; cases hap2
    · cases h2 : S f.i with
      | false => simp; omega
      | true => rw [h1 _ hS h2] at hn; cases hn
theorem z3o {e f : Ent} (h : z8b ops e f = true) : (∀ t, e.o.dst = some t -> t ∉ seen ops f.o) /\ (∀ t, f.o.dst = some t -> t ∉ seen ops e.o) /\ (∀ t, e.o.dst = some t -> f.o.dst ≠ some t) /\ (∀ k ∈ e.wr.map (·.1), k ∉ f.rd) /\ (∀ k ∈ f.wr.map (·.1), k ∉ e.rd) /\ (∀ k ∈ e.nw, z90 f k = true) /\ ∀ k ∈ f.nw, z90 e k = true := by
  simp only [z8b, Bool.and_eq_true, z8r] at h
  obtain ⟨⟨⟨⟨⟨⟨h1, h2⟩, h3⟩, h4⟩, h5⟩, h6⟩, h7⟩ := h
  refine ⟨fun t ht => z62 h1 (by simp [ht]), fun t ht => z62 h2 (by simp [ht]), fun t ht hf => z62 h3 (k := t) (by simp [ht]) (by simp [hf]), fun k hk => z62 h4 hk, fun k hk => z62 h5 hk, fun k hk => zg7 h6 k hk, fun k hk => zg7 h7 k hk⟩
theorem Fine.both (F : Fine ops L) {e f : Ent} (he : e ∈ L) (hf : f ∈ L) (hn : S e.i = false) (hS : z8a ops.toList fun j => S j = true) (hS1 : z8a ops.toList fun j => z69 S e.i j = true) (hap : f ≠ e -> ¬ z8b ops f e = true /\ ¬ z8b ops e f = true) : S f.i = decide (f.i < e.i) := by
  by_cases h : f = e
  · subst h; simp [hn]
  · obtain ⟨h1, h2⟩ := hap h
    exact F.upto he hf hn hS hS1 (by simpa using h1) (by simpa using h2)
variable (F : Fine ops L) (hG : ∀ {A B : List Ent} {e : Ent}, L = A ++ e :: B -> Good P ops Rl ks nt e (z4o fr0 A) (z4p hp0 A))
include F hG
theorem Fine.now {e : Ent} (he : e ∈ L) (hn : S e.i = false) (hS : z8a ops.toList fun j => S j = true) (hS1 : z8a ops.toList fun j => z69 S e.i j = true) :
    Good P ops Rl ks nt e (z4o fr0 (L.filter fun f => S f.i)) (z4p hp0 (L.filter fun f => S f.i)) /\
    (∀ t, (z4o fr0 (L.filter fun f => z69 S e.i f.i)).get t = (putE (z4o fr0 (L.filter fun f => S f.i)) e).get t) /\ ∀ k, look (z4p hp0 (L.filter fun f => z69 S e.i f.i)) k = look (putH (z4p hp0 (L.filter fun f => S f.i)) e) k := by
  obtain ⟨A, B, h1, h2, h3, h4⟩ := F.idx.split he
  have hg := hG h1
  have hg' := hg
  rw [<- h3] at hg'
  have c1 : agr (z4o fr0 (L.filter fun f => S f.i)) (z4o fr0 (L.filter fun f => decide (f.i < e.i))) (seen ops e.o) := fun t ht => z3w rfl fun f hf hd => F.both he hf hn hS hS1 fun _ => ⟨fun h => (z3o h).1 t hd ht, fun h => (z3o h).2.1 t hd ht⟩
  have c2 : agh (z4p hp0 (L.filter fun f => S f.i)) (z4p hp0 (L.filter fun f => decide (f.i < e.i))) e.rd := fun k hk => z36 rfl fun f hf hd => F.both he hf hn hS hS1 fun _ => ⟨fun h => (z3o h).2.2.2.1 k hd hk, fun h => (z3o h).2.2.2.2.1 k hd hk⟩
  refine ⟨⟨hg.1, ?_⟩, fun t => ?_, fun k => ?_⟩
  · have h5 := hg'.2
    split at h5
    · rename_i s hs
      have hrd : e.rd = s.rd := by simp [Ent.rd, hs]
      have hnw : e.nw = s.nw := by simp [Ent.nw, hs]
      have hwr : e.wr = s.wr := by simp [Ent.wr, hs]
      rw [hrd] at c2
      obtain ⟨g1, g2, g3, g4⟩ := h5
      refine ⟨g1.agr fun t ht => c1 t (List.mem_append_left _ ht), fun c fr2 hp2 hR hc hg hh hf => g2 c fr2 hp2 hR hc (fun t ht => (hg t ht).trans (c1 t (List.mem_append_right _ ht))) (fun k hk => (hh k hk).trans (c2 k hk)) hf, fun k hk => ⟨(g3 k hk).1, ?_⟩, ?_⟩
      · have hk' : k ∈ e.nw := hnw ▸ hk
        obtain ⟨f1, f2, f3⟩ := z3r (g3 k hk).2
        rw [zq4] at f1
        rw [zq5] at f2
        have un : ∀ f ∈ L.filter (fun f => S f.i), (f.i < e.i) ∨ z90 f k = true := fun f hf => by
          obtain ⟨hf, hSf⟩ := List.mem_filter.1 hf
          rcases Nat.lt_trichotomy f.i e.i with h | h | h
          · exact .inl h
          · obtain rfl := F.idx.inj hf he h; rw [hn] at hSf; cases hSf
          · rcases F.pair e he f hf h with h6 | h6
            · exact .inr ((z3o h6).2.2.2.2.2.1 k hk')
            · rw [h6 _ hS hSf] at hn; cases hn
        have unn : ∀ f, z90 f k = true -> nm k f.x = false /\ nmHp k f.wr = false := fun f hu => by
          unfold z90 at hu
          split at hu
          · cases hu
          · rename_i h7; exact ⟨h7, by simpa using hu⟩
        have n1 : nmFr k (z4o fr0 (L.filter fun f => S f.i)) = false := zq4.2 ⟨f1.1, fun f hf hd => by
          rcases un f hf with h | h
          · exact f1.2 f (List.mem_filter.2 ⟨(List.mem_filter.1 hf).1, by simpa using h⟩) hd
          · exact (unn f h).1⟩
        have n2 : nmHp k (z4p hp0 (L.filter fun f => S f.i)) = false := zq5.2 ⟨f2.1, fun f hf => by
          rcases un f hf with h | h
          · exact f2.2 f (List.mem_filter.2 ⟨(List.mem_filter.1 hf).1, by simpa using h⟩)
          · exact (unn f h).2⟩
        have n3 := (c2 k (by rw [<- hrd]; exact F.nw e he k hk')).trans f3
        simp only [frsh, n1, n2, n3]
      · have key : ∀ (l : Hp), (∀ k ∈ l.map (·.1), k ∈ s.rd) -> wrOk (z4p hp0 (L.filter fun f => decide (f.i < e.i))) s.nw l = true -> wrOk (z4p hp0 (L.filter fun f => S f.i)) s.nw l = true := by
          intro l
          induction l with
          | nil => exact fun _ _ => rfl
          | cons p r ih =>
            intro hl h
            obtain ⟨k, q⟩ := p
            simp only [wrOk] at h ⊢
            rw [c2 k (hl k sI0)]
            have ih' := ih fun k hk => hl k (by simp only [List.map_cons, List.mem_cons]; exact .inr hk)
            split
            · rename_i h8; rw [h8] at h; exact ih' h
            · rename_i h8
              rw [h8] at h
              split
              · rename_i h9; rw [h9] at h; exact ih' h
              · rename_i h9; rw [h9] at h; cases h
        exact key s.wr (fun k hk => by rw [<- hrd]; exact F.wr e he k (by rw [hwr]; exact hk)) g4
    · exact h5.agr fun t ht => c1 t (List.mem_append_left _ ht)
  · by_cases hd : e.o.dst = some t
    · have : (z4o fr0 (L.filter fun f => z69 S e.i f.i)).get t = (z4o fr0 (L.filter fun f => decide (f.i <= e.i))).get t := z3w rfl fun f hf hdf => by
        by_cases heq : f = e
        · subst heq; simp [z69]
        · have := F.both he hf hn hS hS1 fun _ => ⟨fun h => (z3o h).2.2.1 t hdf hd, fun h => (z3o h).2.2.1 t hd hdf⟩
          have hne : f.i ≠ e.i := fun h => heq (F.idx.inj hf he h)
          simp only [z69, this]
          by_cases hlt : f.i < e.i
          · simp [hlt, Nat.le_of_lt hlt]
          · have hle : ¬ f.i <= e.i := by omega
            simp [hlt, hne, hle]
      rw [this, h4]
      simp [z4o, List.foldl_append, putE, hd, Fr.put, Fr.get]
    · have h6 : (putE (z4o fr0 (L.filter fun f => S f.i)) e).get t = (z4o fr0 (L.filter fun f => S f.i)).get t := by
        unfold putE
        cases hq : e.o.dst with
        | none => rfl
        | some d =>
          have : d ≠ t := fun h => hd (by rw [hq, h])
          simp [Fr.put, Fr.get, z02 this]
      rw [h6]
      refine z3w rfl fun f hf hdf => ?_
      have hne : f.i ≠ e.i := fun h => hd (by rw [<- F.idx.inj hf he h]; exact hdf)
      simp [z69, hne]
  · by_cases hd : k ∈ e.wr.map (·.1)
    · have hdr := F.wr e he k hd
      have : look (z4p hp0 (L.filter fun f => z69 S e.i f.i)) k = look (z4p hp0 (L.filter fun f => decide (f.i <= e.i))) k := z36 rfl fun f hf hdf => by
        by_cases heq : f = e
        · subst heq; simp [z69]
        · have := F.both he hf hn hS hS1 fun _ => ⟨fun h => (z3o h).2.2.2.1 k hdf hdr, fun h => (z3o h).2.2.2.2.1 k hdf hdr⟩
          have hne : f.i ≠ e.i := fun h => heq (F.idx.inj hf he h)
          simp only [z69, this]
          by_cases hlt : f.i < e.i
          · simp [hlt, Nat.le_of_lt hlt]
          · have hle : ¬ f.i <= e.i := by omega
            simp [hlt, hne, hle]
      rw [this, h4]
      unfold putH
      rw [z24, if_pos hd]
      simp [z4p, List.foldl_append, putH, z24, hd]
    · unfold putH
      rw [z24, if_neg hd]
      refine z36 rfl fun f hf hdf => ?_
      have hne : f.i ≠ e.i := fun h => hd (by rw [<- F.idx.inj hf he h]; exact hdf)
      simp [z69, hne]
end
theorem WA.ext {R1 : Nat -> Prop} {fuel : Nat} {listed : Array Bool} {fr2 : Fr} {σ σ2 : Heap'} (h1 : ∀ t, fr2.get t = fr.get t) (h2 : ∀ k, σ2 k = σ k) (h : WA P c R1 ops Q fuel listed fr σ) : WA P c R1 ops Q fuel listed fr2 σ2 := by
  obtain rfl : σ2 = σ := funext h2
  exact fun ρ w a S ha hS => h ρ w a S (ha.weaken fun t x hx => (h1 t).trans hx) hS
theorem WI.go {R1 : Nat -> Prop} {fuel : Nat} {listed : Array Bool} {i : Nat} {o : Oper} {x : IV} {σ σ' : Heap'} (hi : ops[i]? = some o) (hw : ∀ ρ w a, All c ρ σ w fr a -> Region.wanted o (yielded ops a.tmps) = true) (hd : zw9 o.dst c.n = true) (hR : ∀ k, c.R k -> R1 k) (hnew : ∀ k, σ k = none -> σ' k ≠ none -> c.σ k = none)
    (hok : ∀ ρ w, Ok P ⟨c.F, R1, ρ, σ, w, c.n⟩ o fr σ x σ') (h : WA P c R1 ops Q fuel (listed.setIfInBounds i true) (fr.put o.dst x) σ') : WI P c R1 ops Q fuel listed fr σ i := by
  intro ρ w a S ha hS
  unfold wpOp
  simp only [hi]
  rw [if_pos (hw ρ w a ha)]
  refine .inl (hok ρ w ρ w a _ _ ⟨ha.rel, ha.fr, .refl _ _ _ _ _, ha.df, ha.sz⟩ fun ρ' w' v ha' hv => ?_)
  have hall : All c ρ' σ' w' fr a := ⟨ha'.rel, ha'.fr, ha.tr.trans ha'.tr hR hnew, ha'.df, ha'.sz⟩
  exact ⟨hS w' (SameFor.of ha.rel ha'.tr), h ρ' w' _ S (hall.putU hd hv) fun w'' h'' => hS w'' (SameFor.trans ha.rel ha'.tr h'')⟩
theorem WI.pass {R1 : Nat -> Prop} {fuel : Nat} {listed : Array Bool} {i : Nat} {o : Oper} {σ : Heap'} (hi : ops[i]? = some o) (hw : ∀ ρ w a, All c ρ σ w fr a -> Region.wanted o (yielded ops a.tmps) = false) (hd : zw9 o.dst c.n = true)
    (h : WA P c R1 ops Q fuel (listed.setIfInBounds i true) (fr.put o.dst (.pv (.val undef))) σ) : WI P c R1 ops Q fuel listed fr σ i := by
  intro ρ w a S ha hS
  unfold wpOp
  simp only [hi]
  rw [if_neg (by simp [hw ρ w a ha])]
  exact ⟨hS w (.refl _ _ _ _), h ρ w _ S (ha.putU hd (z2d undef)) hS⟩
def left (n : Nat) (listed : Array Bool) : Nat := ((List.range n).filter fun i => !listed.getD i true).length
theorem y55 {p q : Nat -> Bool} (h : ∀ j, q j = true -> p j = true) : ∀ l : List Nat, (l.filter q).length <= (l.filter p).length
  | [] => Nat.le_refl _
  | a :: r => by
    have ih := y55 h r
    simp only [List.filter_cons]
    cases hq : q a with
    | true => simp only [h a hq, if_true, List.length_cons]; omega
    | false => cases p a <;> simp only [if_true, Bool.false_eq_true, if_false, List.length_cons] <;> omega
theorem y56 {p q : Nat -> Bool} {i : Nat} (h : ∀ j, q j = true -> p j = true) (hp : p i = true) (hq : q i = false) : ∀ l : List Nat, i ∈ l -> (l.filter q).length < (l.filter p).length
  | [], hm => by cases hm
  | a :: r, hm => by
    simp only [List.filter_cons]
    by_cases e : i = a
    · subst e
      have := y55 h r
      simp only [hp, hq, if_true, Bool.false_eq_true, if_false, List.length_cons]; omega
    · have hr : i ∈ r := by
        rcases List.mem_cons.1 hm with h | h
        · exact absurd h e
        · exact h
      have ih := y56 h hp hq r hr
      cases hq : q a with
      | true => simp only [h a hq, if_true, List.length_cons]; omega
      | false => cases p a <;> simp only [if_true, Bool.false_eq_true, if_false, List.length_cons] <;> omega
theorem y27 {n i : Nat} {listed : Array Bool} (hi : i < n) (hs : listed.size = n) (hl : listed.getD i true = false) : left n (listed.setIfInBounds i true) < left n listed := by
  unfold left
  refine y56 (i := i) (fun j hj => ?_) (by rw [hl]; rfl) ?_ _ (List.mem_range.2 hi)
  · by_cases e : i = j
    · subst e; rw [hl]; rfl
    · simpa [Array.getD_eq_getD_getElem?, Array.getElem?_setIfInBounds, e] using hj
  · simp [Array.getD_eq_getD_getElem?, Array.getElem?_setIfInBounds, hs, hi]
theorem zx5 {listed : Array Bool} {i : Nat} (hs : listed.size = ops.size) (h : i ∈ Region.ready .any ops listed) : ∃ o, ops[i]? = some o /\ i < ops.size /\ listed.getD i true = false /\ listed.getD i false = false /\ ∀ e ∈ o.after.toList, Region.binds .any e = true -> listed.getD e.on false = true := by
  obtain ⟨h1, h2⟩ := List.mem_filter.1 h
  have hi := List.mem_range.1 h1
  simp only [Bool.and_eq_true, Bool.not_eq_true'] at h2
  obtain ⟨h2, h3⟩ := h2
  refine ⟨ops[i], by simp [hi], hi, h2, ?_, fun e he hb => ?_⟩
  · simpa [Array.getD_eq_getD_getElem?, hs, hi] using h2
  · have h4 : ops[i]? = some ops[i] := by simp [hi]
    rw [h4] at h3
    simp only [Option.map_some, Option.getD_some, Array.all_eq_true_iff_forall_mem] at h3
    have := h3 e (by simpa using he)
    simpa [hb] using this
theorem y3h {listed : Array Bool} (hs : listed.size = ops.size) (he : ∀ {i : Nat} {o : Oper}, ops[i]? = some o -> ∀ e ∈ o.after.toList, Region.binds .any e = true -> e.on < i) (h : Region.ready .any ops listed = []) : ∀ i, i < ops.size -> listed.getD i false = true := by
  intro i
  induction i using Nat.strongRecOn with
  | _ i ih =>
    intro hi
    cases hl : listed.getD i false with
    | true => rfl
    | false =>
      have : i ∈ Region.ready .any ops listed := by
        refine List.mem_filter.2 ⟨List.mem_range.2 hi, ?_⟩
        have h1 : listed.getD i true = false := by simpa [Array.getD_eq_getD_getElem?, hs, hi] using hl
        have h2 : ops[i]? = some ops[i] := by simp [hi]
        rw [h1, h2]
        simp only [Bool.not_false, Bool.true_and, Option.map_some, Option.getD_some, Array.all_eq_true_iff_forall_mem]
        intro e hme
        cases hb : Region.binds .any e with
        | false => rfl
        | true =>
          have hlt := he h2 e (by simpa using hme) hb
          simpa using ih e.on hlt oM0
      rw [h] at this
      cases this
theorem Fine.orders {L : List Ent} {fr0 : Fr} {hp0 : Hp} (F : Fine ops L) (hG : ∀ {A B : List Ent} {e : Ent}, L = A ++ e :: B -> Good P ops Rl ks nt e (z4o fr0 A) (z4p hp0 A)) (hn : c.n = nt) (hR : ∀ k, c.R k -> k ∈ Rl) (hσ : ∀ k, c.σ k ≠ none -> k ∈ ks)
    (hQ : Q .normal (z4o fr0 L) (look (z4p hp0 L))) : ∀ (fuel : Nat) (listed : Array Bool), listed.size = ops.size -> left ops.size listed <= fuel -> z8a ops.toList (fun j => listed.getD j false = true) ->
      WA P c c.R ops Q fuel listed (z4o fr0 (L.filter fun f => listed.getD f.i false)) (look (z4p hp0 (L.filter fun f => listed.getD f.i false))) := by
  subst hn
  have hlen : L.length = ops.size := by rw [<- List.length_map (f := (·.o)), F.map]; simp
  have hend : ∀ {fuel : Nat} {listed : Array Bool}, listed.size = ops.size -> Region.ready .any ops listed = [] -> WA P c c.R ops Q fuel listed (z4o fr0 (L.filter fun f => listed.getD f.i false)) (look (z4p hp0 (L.filter fun f => listed.getD f.i false))) := by
    intro fuel listed hs hr
    have hall := y3h hs F.edge hr
    have : (L.filter fun f => listed.getD f.i false) = L := List.filter_eq_self.2 fun f hf => hall f.i (by have := (F.idx.lo f hf).2; omega)
    rw [this]
    exact wDn hr hQ
  intro fuel
  induction fuel with
  | zero =>
    intro listed hs hl hc
    refine hend hs ?_
    cases hq : Region.ready .any ops listed with
    | nil => rfl
    | cons i r =>
      obtain ⟨o, ho, hi, h1, _⟩ := zx5 hs (i := i) (by rw [hq]; exact .head _)
      have := y27 hi hs h1
      omega
  | succ fuel ih =>
    intro listed hs hl hc
    by_cases hr : Region.ready .any ops listed = []
    · exact hend hs hr
    refine WA.all rfl hr fun i hi => ?_
    obtain ⟨o, ho, hlt, h1, h2, h3⟩ := zx5 hs hi
    obtain ⟨e, he, hei, heo⟩ := F.idx.get (i := i) (o := o) (by rw [F.map]; simpa using ho)
    simp only [Nat.zero_add] at hei
    subst hei
    subst heo
    have hset : ∀ j, (listed.setIfInBounds e.i true).getD j false = z69 (fun j => listed.getD j false) e.i j := fun j => by
      by_cases hj : e.i = j
      · subst hj; simp [z69, Array.getD_eq_getD_getElem?, Array.getElem?_setIfInBounds, hs, hlt]
      · simp [z69, Array.getD_eq_getD_getElem?, Array.getElem?_setIfInBounds, hj, Ne.symm hj]
    have hc1 : z8a ops.toList fun j => z69 (fun j => listed.getD j false) e.i j = true := by
      intro j oj hoj hj ed hed hb
      simp only [z69, Bool.or_eq_true, beq_iff_eq] at hj ⊢
      rcases hj with hj | rfl
      · exact .inl (hc j oj hoj hj ed hed hb)
      · have : oj = e.o := by simpa [ho] using hoj.symm
        subst this
        exact .inl (h3 ed hed hb)
    obtain ⟨g, hF, hH⟩ := F.now hG he h2 hc hc1
    have hrest : WA P c c.R ops Q fuel (listed.setIfInBounds e.i true) (putE (z4o fr0 (L.filter fun f => listed.getD f.i false)) e) (look (putH (z4p hp0 (L.filter fun f => listed.getD f.i false)) e)) := by
      refine WA.ext (fun t => (hF t).symm) (fun k => (hH k).symm) ?_
      have := ih (listed.setIfInBounds e.i true) (by simpa using hs) (by have := y27 hlt hs h1; omega) (by simpa only [hset] using hc1)
      simpa only [hset] using this
    obtain ⟨hd, g⟩ := g
    split at g
    · rename_i s hsome
      have hx : e.x = s.x := by simp [Ent.x, hsome]
      have hw : e.wr = s.wr := by simp [Ent.wr, hsome]
      have hnw : e.nw = s.nw := by simp [Ent.nw, hsome]
      obtain ⟨g1, g2, g3, g4⟩ := g
      simp only [putE, putH, hx, hw] at hrest
      refine WI.go ho (fun ρ w a ha => g1.wanted ha) hd (fun _ h => h) (fun k hk1 hk2 => ?_) (fun ρ w => g2 _ _ _ hR (fun k hk => (z3r (g3 k hk).2).2.2) (fun _ _ => rfl) (fun _ _ => rfl) fun k hk => (g3 k hk).2) hrest
      rw [z24] at hk2
      split at hk2
      · rename_i hm
        rcases zt1 g4 hm with h5 | h5
        · cases h6 : c.σ k with
          | none => rfl
          | some ob => exact absurd (hσ k (by rw [h6]; simp)) (g3 k h5).1
        · exact absurd hk1 h5
      · exact absurd hk1 hk2
    · rename_i hsome
      have hx : e.x = .pv (.val undef) := by simp [Ent.x, hsome]
      have hw : e.wr = [] := by simp [Ent.wr, hsome]
      simp only [putE, putH, hx, hw, List.nil_append] at hrest
      exact WI.pass ho (fun ρ w a ha => g.wanted ha) hd hrest
theorem Chain.any {L : List Ent} (h : Chain P ops Rl ks nt fr hp L fr' hp') (hm : P.follows .mixedOrders = true) (hi : Idx 0 L) (hmap : L.map (·.o) = ops.toList) (hc : chk ops L.reverse = true) (hn : c.n = nt) (hR : ∀ k, c.R k -> k ∈ Rl) (hσ : ∀ k, c.σ k ≠ none -> k ∈ ks)
    (hQ : ∀ fr2, (∀ t, fr2.get t = fr'.get t) -> Q .normal fr2 (look hp')) {id : Nat} : Tr P c (.region id ops true) fr (look hp) Q := by
  have F := fine_of hi hmap hc
  obtain ⟨h1, h2⟩ := h.fin FrEq.rfl'
  refine tDr hm c.R ?_
  have := F.orders (c := c) (Q := Q) (fr0 := fr) (hp0 := hp) (fun {A B e} he => h.at FrEq.rfl' he) hn hR hσ (by rw [<- h2]; exact hQ _ h1.1) ops.size (Array.replicate ops.size false) sI0 (by
      unfold left
      exact Nat.le_trans (List.length_filter_le _ _) sI0) (fun i o _ hS => by
        simp [Array.getD_eq_getD_getElem?, Array.getElem?_replicate] at hS
        split at hS <;> simp at hS)
  have he : (L.filter fun f => (Array.replicate ops.size false).getD f.i false) = [] := List.filter_eq_nil_iff.2 fun f _ => by
    simp [Array.getD_eq_getD_getElem?, Array.getElem?_replicate]
    split <;> simp
  rw [he] at this
  exact this
end
section
variable {P : Program} {T : TB P} {H : Hn} {fr fr' : Fr} {hp hp' : Hp} {Rl ks : List Nat} {c : Cx} {ops : Array Oper} {Q : Exit -> Fr -> Heap' -> Prop} {nt : Nat}
def y7w (ops : Array Oper) (o : Oper) (fr : Fr) (A : Bool -> Fr -> Prop) : Prop := match o.guard with
  | none => A true fr
  | some (j, b) => vopt ops[j]? fun oj => vopt oj.dst fun t => vopt (fr.get t) fun x => match x with
    | .pv (.val (.bool b')) => bsel b' (A b ((t, .pv (.val (.bool true))) :: fr)) (A (!b) ((t, .pv (.val (.bool false))) :: fr))
    | .pv (.val (.tuple ⟨[]⟩)) => A false fr
    | _ => False
def appH {α : Type} : List α -> List α -> (List α -> Prop) -> Prop
  | [], h, K => K h
  | p :: r, h, K => appH r h fun l => K (p :: l)
theorem z7c {α : Type} : ∀ {l h : List α} {K : List α -> Prop}, appH l h K -> K (l ++ h)
  | [], _, _, h => h
  | _ :: r, _, K, h => z7c (l := r) (K := fun l => K (_ :: l)) h
def y4j : Type := Nat -> List Ent -> Fr -> Hp -> (Fr -> Hp -> Prop) -> Prop
def vopsN (ops : Array Oper) (draw : Bool) : y4j := fun _ acc fr hp K => match draw with
  | false => K fr hp
  | true => z2a (chk ops acc) (K fr hp)
def vput (d : Option Nat) (x : IV) (fr : Fr) (A : Fr -> Prop) : Prop := match d with
  | none => A fr
  | some d => A ((d, x) :: fr)
def vopsC (T : TB P) (H : Hn) (Rl ks : List Nat) (nt rid : Nat) (ops : Array Oper) (o : Oper) (ih : y4j) : y4j := fun i acc fr hp K =>
  y7w ops o fr fun go fr => z2a (zw9 o.dst nt) (match go with
    | true => vop T H Rl (rid * 1000 + i) o fr hp fun s => match s with
      | ⟨x, wr, rd, nw⟩ => z2a (lAll (newB ks fr hp) nw && wrOk hp nw wr) (appH wr hp fun hp' => vput o.dst x fr fun fr' => ih (i + 1) (⟨i, o, some ⟨x, wr, rd, nw⟩⟩ :: acc) fr' hp' K)
    | false => vput o.dst (.pv (.val undef)) fr fun fr' => ih (i + 1) (⟨i, o, none⟩ :: acc) fr' hp K)
def vops (T : TB P) (H : Hn) (Rl ks : List Nat) (nt rid : Nat) (ops : Array Oper) (draw : Bool) (l : List Oper) : y4j :=
  List.rec (motive := fun _ => y4j) (vopsN ops draw) (fun o _ ih => vopsC T H Rl ks nt rid ops o ih) l
theorem y7z {d : Option Nat} {x : IV} {A : Fr -> Prop} (h : vput d x fr A) : A (fr.put d x) := by
  cases d with
  | none => exact h
  | some d => exact h
theorem y7x {o : Oper} {A : Bool -> Fr -> Prop} (h : y7w ops o fr A) : (∃ fr2, A true fr2 /\ GYes ops o fr2 /\ (fr2 = fr ∨ ∃ t v, fr.get t = some (.pv (.val v)) /\ fr2 = (t, .pv (.val v)) :: fr)) ∨ (∃ fr2, A false fr2 /\ GNo ops o fr2 /\ (fr2 = fr ∨ ∃ t v, fr.get t = some (.pv (.val v)) /\ fr2 = (t, .pv (.val v)) :: fr)) := by
  unfold y7w at h
  split at h
  · rename_i hg; exact .inl ⟨fr, h, .free hg, .inl rfl⟩
  · rename_i j b hg
    replace h := z10 h
    obtain ⟨oj, hj, h⟩ := h
    replace h := z10 h
    obtain ⟨t, ht, h⟩ := h
    replace h := z10 h
    obtain ⟨x, hx, h⟩ := h
    split at h
    · rename_i b'
      have key : ∀ {q : Bool}, b' = q -> Fr.get ((t, .pv (.val (.bool q))) :: fr) t = some (.pv (.val (.bool q))) := fun _ => by simp [Fr.get]
      cases b' with
      | true =>
        cases b with
        | true => exact .inl ⟨_, h, .met hg hj ht (key rfl), .inr ⟨t, _, hx, rfl⟩⟩
        | false => exact .inr ⟨_, h, .not (b := true) hg hj ht (key rfl), .inr ⟨t, _, hx, rfl⟩⟩
      | false =>
        cases b with
        | true => exact .inr ⟨_, h, .not (b := false) hg hj ht (key rfl), .inr ⟨t, _, hx, rfl⟩⟩
        | false => exact .inl ⟨_, h, .met hg hj ht (key rfl), .inr ⟨t, _, hx, rfl⟩⟩
    · exact .inr ⟨fr, h, .un hg hj ht hx, .inl rfl⟩
    · exact h.elim
theorem y7y {rid : Nat} {draw : Bool} : ∀ {l : List Oper} {i : Nat} {acc : List Ent} {fr : Fr} {hp : Hp} {K : Fr -> Hp -> Prop}, vops T H Rl ks nt rid ops draw l i acc fr hp K ->
    ∃ L fr' hp', Chain P ops Rl ks nt fr hp L fr' hp' /\ L.map (·.o) = l /\ Idx i L /\ (draw = true -> chk ops (L.reverse ++ acc) = true) /\ K fr' hp'
  | [], i, acc, fr, hp, K, h => by
    replace h : vopsN ops draw i acc fr hp K := h
    unfold vopsN at h
    cases draw with
    | false => exact ⟨[], fr, hp, .nil, rfl, trivial, (fun e => absurd e dC0), h⟩
    | true =>
      replace h := z0j h
      exact ⟨[], fr, hp, .nil, rfl, trivial, fun _ => h.1, h.2⟩
  | o :: l, i, acc, fr, hp, K, h => by
    replace h : vopsC T H Rl ks nt rid ops o (vops T H Rl ks nt rid ops draw l) i acc fr hp K := h
    unfold vopsC at h
    have fin : ∀ {fr2 : Fr} {e : Ent}, (fr2 = fr ∨ ∃ t v, fr.get t = some (.pv (.val v)) /\ fr2 = (t, .pv (.val v)) :: fr) -> e.i = i -> e.o = o -> Good P ops Rl ks nt e fr2 hp -> vops T H Rl ks nt rid ops draw l (i + 1) (e :: acc) (putE fr2 e) (putH hp e) K ->
        ∃ L fr' hp', Chain P ops Rl ks nt fr hp L fr' hp' /\ L.map (·.o) = o :: l /\ Idx i L /\ (draw = true -> chk ops (L.reverse ++ acc) = true) /\ K fr' hp' := by
      intro fr2 e hf hi ho hg h
      obtain ⟨L, fr', hp', h1, h2, h3, h4, h5⟩ := y7y h
      have hc : Chain P ops Rl ks nt fr2 hp (e :: L) fr' hp' := .cons hg h1
      refine ⟨e :: L, fr', hp', ?_, by simp [ho, h2], ⟨hi, h3⟩, fun hd => by have := h4 hd; simpa using this, h5⟩
      rcases hf with rfl | ⟨t, v, ht, rfl⟩
      · exact hc
      · exact .lit ht hc
    rcases y7x h with ⟨fr2, h, hg, hf⟩ | ⟨fr2, h, hg, hf⟩
    · replace h := z0j h
      obtain ⟨hd, h⟩ := h
      obtain ⟨s, h, hok⟩ := vop_ok h
      obtain ⟨x, wr, rd, nw⟩ := s
      replace h := z0j h
      obtain ⟨h1, h⟩ := h
      simp only [Bool.and_eq_true] at h1
      replace h := y7z (z7c h)
      exact fin (e := ⟨i, o, some ⟨x, wr, rd, nw⟩⟩) hf rfl rfl ⟨hd, hg, hok, fun k hk => y5r (zg7 h1.1 k hk), h1.2⟩ h
    · replace h := z0j h
      obtain ⟨hd, h⟩ := h
      replace h := y7z h
      exact fin (e := ⟨i, o, none⟩) hf rfl rfl ⟨hd, hg⟩ h
def zp9 (K : Exit -> Fr -> Hp -> Prop) : Exit -> Fr -> Heap' -> Prop := fun e fr σ => ∃ fr' hp', Sub σ fr fr' /\ (∀ k o, look hp' k = some o -> σ k = some o) /\ K e fr' hp'
theorem z9a {K : Exit -> Fr -> Hp -> Prop} {e : Exit} {fr2 : Fr} (hf : ∀ t, fr2.get t = fr'.get t) (h : K e fr' hp') : zp9 K e fr2 (look hp') :=
  ⟨fr', hp', fun t y hy => ⟨y, (hf t).trans hy, fun _ _ _ _ h => h⟩, fun _ _ h => h, h⟩
theorem Tr.weak {x : Code} {σ : Heap'} (hs : Sub σ fr fr') (hh : ∀ k o, look hp' k = some o -> σ k = some o) (h : Tr P c x fr' (look hp') Q) : Tr P c x fr σ Q := by
  intro ρ w a ha
  obtain ⟨ρ', ha', _⟩ := (ha.sub hs).restrict hh
  exact h ρ' w a ha'
theorem y64 {id : Nat} {draw : Bool} {K : Fr -> Hp -> Prop} {K' : Exit -> Fr -> Hp -> Prop} (hn : c.n = nt) (hR : ∀ k, c.R k -> k ∈ Rl) (hσ : ∀ k, c.σ k ≠ none -> k ∈ ks) (hK : ∀ fr hp, K fr hp -> K' .normal fr hp) (h : vops T H Rl ks nt id ops draw ops.toList 0 [] fr hp K) : Tr P c (.region id ops draw) fr (look hp) (zp9 K') := by
  obtain ⟨L, fr', hp', h1, h2, h3, h4, h5⟩ := y7y h
  cases draw with
  | false => exact Tr.region rfl (by rw [<- h2]; exact h1.text hn hR hσ (z9a (fun _ => rfl) (hK _ _ h5)))
  | true => exact h1.any T.mx h3 h2 (by simpa using h4 rfl) hn hR hσ fun fr2 hf => z9a hf (hK _ _ h5)
theorem All.boxSub {ρ : Loc} {w : World} {a : Act} {k2 j : Nat} {cs : List IV} {x0 y : IV} (h' : All c ρ (look hp) w fr a) (hk2 : look hp k2 = some (.box cs)) (hj : cs[j]? = some x0) (hxy : ∀ v, RepI c.F ρ (look hp) w x0 v -> RepI c.F ρ (look hp) w y v) : All c ρ (look ((k2, some (.box (cs.set j y))) :: hp)) w fr a := by
  have hlk : ∀ i, i ≠ k2 -> look ((k2, some (.box (cs.set j y))) :: hp) i = look hp i := fun i hi => z2c (Ne.symm hi)
  have hlk2 : look ((k2, some (.box (cs.set j y))) :: hp) k2 = some (.box (cs.set j y)) := z2u
  have hconv : ∀ x v, RepI c.F ρ (look hp) w x v -> RepI c.F ρ (look ((k2, some (.box (cs.set j y))) :: hp)) w x v := by
    intro x v hx
    induction hx with
    | pv p v hp => exact .pv p v hp
    | ptr i off v hi =>
      refine .ptr i off v fun cs' h2 => ?_
      by_cases e : i = k2
      · subst e; exact hi _ hk2
      · rw [hlk i e] at h2; exact hi _ h2
    | sl i len v hi =>
      refine .sl i len v fun s' els' h2 => ?_
      by_cases e : i = k2
      · subst e; rw [hlk2] at h2; cases h2
      · rw [hlk i e] at h2; exact hi _ _ h2
    | rpt i len off v hi =>
      refine .rpt i len off v fun s' els' h2 => ?_
      by_cases e : i = k2
      · subst e; rw [hlk2] at h2; cases h2
      · rw [hlk i e] at h2; exact hi _ _ h2
    | mp i v hi =>
      refine .mp i v fun es h2 => ?_
      by_cases e : i = k2
      · subst e; rw [hlk2] at h2; cases h2
      · rw [hlk i e] at h2; exact hi _ h2
    | agg cs vs u hl hv _ ih => exact .agg cs vs u hl hv ih
    | tup cs vs u hl hv _ ih => exact .tup cs vs u hl hv ih
    | fn f xs ys vs ws u t hl hv _ hl' hv' _ ih ih' => exact .fn f xs ys vs ws u t hl hv ih hl' hv' ih'
  refine ⟨⟨h'.rel.inj, h'.rel.apart, h'.rel.old, fun i b cc hi => ?_, fun i o h1 h2 => ?_⟩, fun t x hx => ?_, ?_, h'.df, h'.sz⟩
  · obtain ⟨o1, h1, h2⟩ := h'.rel.obj i b cc hi
    by_cases e : i = k2
    · subst e
      rw [hk2] at h1; cases h1
      refine ⟨_, hlk2, ?_⟩
      cases h2 with
      | box _ e' r u h5 hl hv hr =>
        refine .box _ e' r u h5 (by simpa using hl) (fun q x hq => ?_) fun q x hq => ?_
        · by_cases eq : q = j
          · subst eq; exact hv q _ hj
          · rw [List.getElem?_set_ne (Ne.symm eq)] at hq; exact hv q x hq
        · by_cases eq : q = j
          · subst eq
            have hlt : q < cs.length := (List.getElem?_eq_some_iff.1 hj).1
            rw [List.getElem?_set_self hlt] at hq; cases hq
            exact hconv _ _ (hxy _ (hr q _ hj))
          · rw [List.getElem?_set_ne (Ne.symm eq)] at hq; exact hconv _ _ (hr q x hq)
    · refine ⟨o1, (hlk i e).trans h1, ?_⟩
      cases h2 with
      | box cs' e' r u h hl hv hr => exact .box cs' e' r u h hl hv fun q x hq => hconv _ _ (hr q x hq)
      | row s' els' r u h hs hl hm hw hv hr => exact .row s' els' r u h hs hl hm hw hv hr
      | map es r t u h hl hv hr => exact .map es r t u h hl hv hr
  · by_cases e : i = k2
    · subst e
      obtain ⟨s', h3⟩ := h'.rel.real i _ hk2 h2
      cases h3
    · rw [hlk i e] at h1; exact h'.rel.real i o h1 h2
  · obtain ⟨v, hv, hr⟩ := h'.fr t x hx
    exact ⟨v, hv, hconv _ _ hr⟩
  · have t := h'.tr
    refine ⟨t.os, t.tape, t.output, t.size, t.blk, t.own, fun i a1 a2 e1 e2 => ?_, fun i a1 a2 e1 e2 => ?_, fun i s1 s2 a1 a2 e1 e2 hl => ?_, fun i s1 s2 a1 a2 e1 e2 => ?_, fun i a2 e2 => ?_, fun i a2 e2 => ?_, fun i s1 a2 e2 => ?_⟩
    all_goals by_cases e : i = k2
    · subst e; exact t.box i _ _ e1 hk2
    · rw [hlk i e] at e2; exact t.box i _ _ e1 e2
    · subst e; rw [hlk2] at e2; cases e2
    · rw [hlk i e] at e2; exact t.map i _ _ e1 e2
    · subst e; rw [hlk2] at e2; cases e2
    · rw [hlk i e] at e2; exact t.row i _ _ _ _ e1 e2 hl
    · subst e; rw [hlk2] at e2; cases e2
    · rw [hlk i e] at e2; exact t.grow i _ _ _ _ e1 e2
    · subst e; exact t.kindB i _ hk2
    · rw [hlk i e] at e2; exact t.kindB i _ e2
    · subst e; rw [hlk2] at e2; cases e2
    · rw [hlk i e] at e2; exact t.kindM i _ e2
    · subst e; rw [hlk2] at e2; cases e2
    · rw [hlk i e] at e2; exact t.kindR i _ _ e2
theorem y0r {F : Nat -> Prop} {ρ : Loc} {σ : Heap'} {w : World} {v : Value} (h : RepI F ρ σ w (.pv (.val (.slice none 0 0))) v) : RepI F ρ σ w (.pv (.seq [])) v := z4v PSub.nil h
def y2x : Option IV -> Bool
  | some (.pv (.val (.slice none 0 0))) => true
  | _ => false
theorem zd8 {x : Option IV} (h : y2x x = true) : x = some (.pv (.val (.slice none 0 0))) := by
  unfold y2x at h
  split at h
  · rfl
  · cases h
def isSl (k : Nat) : Option IV -> Option Nat
  | some (.sl j n) => match Nat.beq j k with
    | true => some n
    | false => none
  | _ => none
theorem y5e {k n : Nat} {x : Option IV} (h : isSl k x = some n) : x = some (.sl k n) := by
  unfold isSl at h
  split at h
  · split at h
    · rename_i hb; obtain rfl := Nat.eq_of_beq_eq_true hb; cases h; rfl
    · cases h
  · cases h
def isPtr (k : Nat) : Option IV -> Bool
  | some (.ptr j 0) => Nat.beq j k
  | _ => false
theorem isPtr_ok {k : Nat} {x : Option IV} (h : isPtr k x = true) : x = some (.ptr k 0) := by
  unfold isPtr at h
  split at h
  · obtain rfl := Nat.eq_of_beq_eq_true h; rfl
  · cases h
def vgh (ks : List Nat) (g : Gh) (fr : Fr) (hp : Hp) (K : Fr -> Hp -> Prop) : Prop := match g with
  | .grow t k e n => z2a (y2x (fr.get t) && newB ks fr hp k) (K ((t, .sl k 0) :: fr) ((k, some (.row ⟨e, n⟩ [])) :: hp))
  | .growC k2 j k e n => vbox hp k2 fun cs => z2a (y2x cs[j]? && newB ks fr hp k) (frcI (cs.set j (.sl k 0)) fun l => K fr ((k2, some (.box l)) :: (k, some (.row ⟨e, n⟩ [])) :: hp))
  | .fz t k => vopt (isSl k (fr.get t)) fun n => vrow hp k fun _ els => els.length = n /\ K ((t, .pv (.seq els)) :: fr) ((k, none) :: hp)
  | .fzC k2 j k => vbox hp k2 fun cs => vopt (isSl k cs[j]?) fun n => z2a (!Nat.beq k k2) (vrow hp k fun _ els => els.length = n /\ frcI (cs.set j (.pv (.seq els))) fun l => K fr ((k2, some (.box l)) :: (k, none) :: hp))
  | .fzB t k => z2a (isPtr k (fr.get t)) (vbox hp k fun cs => vopt (z5z cs) fun ps => frcP ps fun l => K ((t, .pv (.ept l 0)) :: fr) ((k, none) :: hp))
  | .len t => vopt (fr.get t) fun x => match x with
    | .pv (.seq els) => els.length <= 9223372036854775807 -> K fr hp
    | .sl k n => vrow hp k fun _ els => els.length = n /\ (n <= 9223372036854775807 -> K fr hp)
    | _ => False
  | .drop k => K fr ((k, none) :: hp)
  | .ni t => match y2x (fr.get t) with
    | true => K ((t, .pv (.seq [])) :: fr) hp
    | false => K fr hp
  | .niC k j => vbox hp k fun cs => match y2x cs[j]? with
    | true => frcI (cs.set j (.pv (.seq []))) fun l => K fr ((k, some (.box l)) :: hp)
    | false => K fr hp
theorem vgh_ok {g : Gh} {x : Code} {K : Fr -> Hp -> Prop} (hσ : ∀ k, c.σ k ≠ none -> k ∈ ks) (hK : ∀ fr hp, K fr hp -> Tr P c x fr (look hp) Q) (h : vgh ks g fr hp K) : Tr P c x fr (look hp) Q := by
  have hc : ∀ {k : Nat}, newB ks fr hp k = true -> look hp k = none /\ c.σ k = none /\ nmFr k fr = false /\ nmHp k hp = false := fun {k} hk => by
    obtain ⟨h1, h2⟩ := y5r hk
    obtain ⟨f1, f2, f3⟩ := z3r h2
    refine ⟨f3, ?_, f1, f2⟩
    cases h4 : c.σ k with
    | none => rfl
    | some o => exact absurd (hσ k (by rw [h4]; simp)) h1
  unfold vgh at h
  split at h
  · replace h := z0j h
    obtain ⟨h1, h⟩ := h
    simp only [Bool.and_eq_true] at h1
    obtain ⟨f1, f2, f3, f4⟩ := hc h1.2
    exact Tr.grow _ (zd8 h1.1) f1 f2 f3 f4 (hK _ _ h)
  · replace h := z5o h
    obtain ⟨cs, hk, h⟩ := h
    replace h := z0j h
    obtain ⟨h1, h⟩ := h
    simp only [Bool.and_eq_true] at h1
    obtain ⟨f1, f2, f3, f4⟩ := hc h1.2
    exact Tr.growCell _ hk (zd8 h1.1) f1 f2 f3 f4 (hK _ _ (z4n h))
  · replace h := z10 h
    obtain ⟨n, hn, h⟩ := h
    replace h := z5p h
    obtain ⟨s, els, hk, hl, h⟩ := h
    exact Tr.freeze (y5e hn) hk hl (hK _ _ h)
  · replace h := z5o h
    obtain ⟨cs, hk2, h⟩ := h
    replace h := z10 h
    obtain ⟨n, hn, h⟩ := h
    replace h := z0j h
    obtain ⟨hne, h⟩ := h
    replace h := z5p h
    obtain ⟨s, els, hk, hl, h⟩ := h
    exact Tr.freezeCell hk hl hk2 (y5e hn) (fun e => by subst e; simp at hne) (hK _ _ (z4n h))
  · replace h := z0j h
    obtain ⟨h1, h⟩ := h
    replace h := z5o h
    obtain ⟨cs, hk, h⟩ := h
    replace h := z10 h
    obtain ⟨ps, hps, h⟩ := h
    exact Tr.freezeBox (isPtr_ok h1) hk hps (hK _ _ (z6j (K := fun l => K ((_, .pv (.ept l 0)) :: fr) ((_, none) :: hp)) h))
  · replace h := z10 h
    obtain ⟨x, hx, h⟩ := h
    split at h
    · exact Tr.lenOf hx fun hl => hK _ _ (h hl)
    · replace h := z5p h
      obtain ⟨s, els, hk, hl, h⟩ := h
      exact Tr.rowLen hx hk hl fun hn => hK _ _ (h hn)
    · exact h.elim
  · exact Tr.drop (hK _ _ h)
  · split at h
    · rename_i hn
      exact fun ρ w a ha => hK _ _ h ρ w a (ha.putFr (zd8 hn) fun v hv => y0r hv)
    · exact hK _ _ h
  · replace h := z5o h
    obtain ⟨cs, hk, h⟩ := h
    split at h
    · rename_i hn
      exact fun ρ w a ha => hK _ _ (z4n (K := fun l => K fr ((_, some (.box l)) :: hp)) h) ρ w a (ha.boxSub hk (zd8 hn) fun v hv => y0r hv)
    · exact hK _ _ h
def vghs (ks : List Nat) : List Gh -> Fr -> Hp -> (Fr -> Hp -> Prop) -> Prop
  | [], fr, hp, K => K fr hp
  | g :: r, fr, hp, K => vgh ks g fr hp fun fr hp => vghs ks r fr hp K
theorem y7v {x : Code} {K : Fr -> Hp -> Prop} (hσ : ∀ k, c.σ k ≠ none -> k ∈ ks) (hK : ∀ fr hp, K fr hp -> Tr P c x fr (look hp) Q) : ∀ {gs : List Gh} {fr : Fr} {hp : Hp}, vghs ks gs fr hp K -> Tr P c x fr (look hp) Q
  | [], fr, hp, h => hK _ _ h
  | g :: r, fr, hp, h => vgh_ok hσ (fun _ _ h => y7v hσ hK (gs := r) h) h
def ghAt : List (Nat × List Gh) -> Nat -> List Gh
  | [], _ => []
  | (k, g) :: r, id => match Nat.beq k id with
    | true => g
    | false => ghAt r id
def idsF : Fr -> List Nat
  | [] => []
  | (t, _) :: r => t :: idsF r
def z8g (ds : List Nat) : Fr -> Fr
  | [] => []
  | (t, x) :: r => match nIn t ds with
    | true => z8g ds r
    | false => (t, x) :: z8g (t :: ds) r
def z7n (ds : List Nat) : Hp -> Hp
  | [] => []
  | (k, o) :: r => match nIn k ds with
    | true => z7n ds r
    | false => match o with
      | some o => (k, some o) :: z7n (k :: ds) r
      | none => z7n (k :: ds) r
theorem z82 {x : IV} {t : Nat} : ∀ {fr : Fr} {ds : List Nat}, (z8g ds fr).get t = some x -> t ∉ ds /\ fr.get t = some x
  | [], _, h => by cases h
  | (u, y) :: r, ds, h => by
    simp only [z8g] at h
    split at h
    · rename_i hu
      obtain ⟨h1, h2⟩ := z82 h
      have : u ≠ t := fun e => h1 (e ▸ z44.1 hu)
      exact ⟨h1, by simp only [Fr.get, z02 this]; exact h2⟩
    · rename_i hu
      simp only [Fr.get] at h ⊢
      cases hb : Nat.beq u t with
      | true =>
        obtain rfl := Nat.eq_of_beq_eq_true hb
        rw [hb] at h
        exact ⟨z2e hu, h⟩
      | false =>
        rw [hb] at h
        obtain ⟨h1, h2⟩ := z82 h
        exact ⟨fun hm => h1 (.tail _ hm), h2⟩
theorem z5e {o : HO} {k : Nat} : ∀ {hp : Hp} {ds : List Nat}, look (z7n ds hp) k = some o -> k ∉ ds /\ look hp k = some o
  | [], _, h => by cases h
  | (j, q) :: r, ds, h => by
    simp only [z7n] at h
    split at h
    · rename_i hu
      obtain ⟨h1, h2⟩ := z5e h
      have : j ≠ k := fun e => h1 (e ▸ z44.1 hu)
      exact ⟨h1, by rw [z2c this]; exact h2⟩
    · rename_i hu
      split at h
      · rename_i ob
        by_cases e : j = k
        · subst e
          rw [z2u] at h
          exact ⟨z2e hu, by rw [z2u]; exact h⟩
        · rw [z2c e] at h
          obtain ⟨h1, h2⟩ := z5e h
          exact ⟨fun hm => h1 (.tail _ hm), by rw [z2c e]; exact h2⟩
      · obtain ⟨h1, h2⟩ := z5e h
        have e : j ≠ k := fun e => h1 (e ▸ .head _)
        exact ⟨fun hm => h1 (.tail _ hm), by rw [z2c e]; exact h2⟩
def frcL {α : Type} : List α -> (List α -> Prop) -> Prop
  | [], K => K []
  | x :: r, K => frcL r fun l => K (x :: l)
theorem zg3 {α : Type} : ∀ {l : List α} {K : List α -> Prop}, frcL l K -> K l
  | [], _, h => h
  | _ :: r, K, h => zg3 (l := r) (K := fun l => K (_ :: l)) h
def dstsO : List Oper -> List Nat -> List Nat
  | [], acc => acc
  | o :: r, acc => match o.dst with
    | some d => dstsO r (d :: acc)
    | none => dstsO r acc
def zu0 : Code -> List Nat -> List Nat
  | .region _ ops _, acc => dstsO ops.toList acc
  | .seq a b, acc => zu0 a (zu0 b acc)
  | .cond _ a b, acc => zu0 a (zu0 b acc)
  | .block _ x, acc => zu0 x acc
  | .loop x, acc => zu0 x acc
  | _, acc => acc
def subH (hp : Hp) : List (Nat × HO) -> Prop
  | [] => True
  | (k, o) :: r => look hp k = some o /\ subH hp r
theorem z9q {k : Nat} {o : HO} : ∀ {l : List (Nat × HO)}, subH hp l -> (k, o) ∈ l -> look hp k = some o
  | (j, q) :: r, h, hm => by
    rcases List.mem_cons.1 hm with e | hm
    · cases e; exact h.1
    · exact z9q h.2 hm
inductive VNext {α : Type} (F : α -> Fr) (Hf : α -> List (Nat × HO)) (m : α -> Nat) (I : α -> Prop) (a : α) (bf : Fr) (bh : Hp) (fr' : Fr) (hp' : Hp) : Prop
  | mk (b : α) (hm : m b < m a) (hI : I b) (hf : subB fr' (F b)) (hh : subH hp' (Hf b)) (tf : fr'.drop (fr'.length - bf.length) = bf) (df : disj (idsF (fr'.take (fr'.length - bf.length))) (idsF bf) = true)
    (th : hp'.drop (hp'.length - bh.length) = bh) (dh : disj (idsH (hp'.take (hp'.length - bh.length))) (idsH bh) = true)
def vround {α : Type} (f : Fr -> Hp -> (Exit -> Fr -> Hp -> Prop) -> Prop) (K : Exit -> Fr -> Hp -> Prop) (F : α -> Fr) (Hf : α -> List (Nat × HO)) (m : α -> Nat) (I : α -> Prop) (bf : Fr) (bh : Hp) (a : α) : Prop :=
  appH (F a) bf fun fr => appH (up (Hf a)) bh fun hp => f fr hp fun e fr' hp' => match e with
    | .normal => VNext F Hf m I a bf bh fr' hp'
    | e => K e fr' hp'
inductive VLoop (f : Fr -> Hp -> (Exit -> Fr -> Hp -> Prop) -> Prop) (ds : List Nat) (fr : Fr) (hp : Hp) (K : Exit -> Fr -> Hp -> Prop) : Prop
  | mk (α : Type) (F : α -> Fr) (Hf : α -> List (Nat × HO)) (m : α -> Nat) (I : α -> Prop) (gone : List Nat) (a0 : α) (hI : I a0) (hf : subB fr (F a0)) (hh : subH hp (Hf a0))
    (round : frcL (z8g (idsF (F a0) ++ ds) fr) fun bf => frcL (z7n (gone ++ (Hf a0).map (·.1)) hp) fun bh => ∀ a, I a -> vround f K F Hf m I bf bh a)
theorem y0k {t : Nat} : ∀ {A B : Fr}, t ∉ idsF A -> (A ++ B).get t = B.get t
  | [], _, _ => rfl
  | (u, x) :: A, B, h => by
    simp only [idsF, List.mem_cons, not_or] at h
    simp only [List.cons_append, Fr.get, z02 (Ne.symm h.1)]
    exact y0k h.2
theorem y0l {t : Nat} {x : IV} : ∀ {A : Fr}, A.get t = some x -> t ∈ idsF A
  | (u, y) :: A, h => by
    simp only [Fr.get] at h
    cases hb : Nat.beq u t with
    | true => obtain rfl := Nat.eq_of_beq_eq_true hb; exact .head _
    | false => rw [hb] at h; exact .tail _ (y0l h)
theorem z7e {t : Nat} {x : IV} : ∀ {A B : Fr}, (A ++ B).get t = some x -> A.get t = some x ∨ (t ∉ idsF A /\ B.get t = some x)
  | [], B, h => .inr ⟨by simp [idsF], h⟩
  | (u, y) :: A, B, h => by
    simp only [List.cons_append, Fr.get] at h ⊢
    cases hb : Nat.beq u t with
    | true => rw [hb] at h; exact .inl h
    | false =>
      rw [hb] at h
      have hne : u ≠ t := fun e => by subst e; simp at hb
      rcases z7e h with h | ⟨h1, h2⟩
      · exact .inl h
      · exact .inr ⟨by simp only [idsF, List.mem_cons, not_or]; exact ⟨Ne.symm hne, h1⟩, h2⟩
theorem ze4 {t : Nat} {y : IV} : ∀ {l : Fr}, subB fr l -> l.get t = some y -> fr.get t = some y
  | (u, x) :: r, h, hy => by
    simp only [Fr.get] at hy
    cases hb : Nat.beq u t with
    | true => obtain rfl := Nat.eq_of_beq_eq_true hb; rw [hb] at hy; cases hy; exact h.1
    | false => rw [hb] at hy; exact ze4 h.2 hy
theorem zq0 {k : Nat} {o : HO} : ∀ {l : Hp}, look l k = some o -> k ∈ l.map (·.1)
  | (j, q) :: r, h => by
    by_cases e : j = k
    · subst e; simp
    · rw [z2c e] at h
      simp only [List.map_cons, List.mem_cons]
      exact .inr (zq0 h)
theorem VLoop.ok {f : Fr -> Hp -> (Exit -> Fr -> Hp -> Prop) -> Prop} {x : Code} {ds : List Nat} {K : Exit -> Fr -> Hp -> Prop} (hx : ∀ fr hp K, f fr hp K -> Tr P c x fr (look hp) (zp9 K)) (h : VLoop f ds fr hp K) : Tr P c (.loop x) fr (look hp) (zp9 K) := by
  obtain ⟨α, F, Hf, m, I, gone, a0, hI, hf, hh, round⟩ := h
  replace round := zg3 (zg3 round)
  have hsub0 : Sub (look hp) fr (F a0 ++ z8g (idsF (F a0) ++ ds) fr) := fun t y hy => by
    rcases z7e hy with h | ⟨_, h⟩
    · exact ⟨y, ze4 hf h, fun _ _ _ _ h => h⟩
    · exact ⟨y, (z82 h).2, fun _ _ _ _ h => h⟩
  generalize z8g (idsF (F a0) ++ ds) fr = bf at round hsub0
  have hheap0 : ∀ k o, look (up (Hf a0) ++ z7n (gone ++ (Hf a0).map (·.1)) hp) k = some o -> look hp k = some o := fun k o hk => by
    rw [z24] at hk
    split at hk
    · exact z9q hh (z1l hk)
    · exact (z5e hk).2
  generalize z7n (gone ++ (Hf a0).map (·.1)) hp = bh at round hheap0
  refine Tr.weak hsub0 hheap0 ?_
  refine Tr.loop (fun fr σ n => ∃ a, I a /\ m a = n /\ fr = F a ++ bf /\ ∀ k o, look (up (Hf a) ++ bh) k = some o -> σ k = some o) (n := m a0) ⟨a0, hI, rfl, rfl, fun _ _ h => h⟩ ?_
  rintro fr1 σ1 n ⟨a, hIa, rfl, rfl, hσ⟩
  have hr := round a hIa
  replace hr := z7c hr
  replace hr := z7c hr
  have h1 := hx _ _ _ hr
  refine Tr.weak (fr' := F a ++ bf) (fun t y hy => ⟨y, hy, fun _ _ _ _ h => h⟩) hσ (Tr.mono h1 fun e fr' σ' hq => ?_)
  obtain ⟨fr2, hp2, hs, hl, hk⟩ := hq
  cases e with
  | normal =>
    obtain ⟨b, hm, hIb, hf, hh, tf, df, th, dh⟩ := hk
    refine ⟨F b ++ bf, m b, hm, fun t y hy => ?_, b, hIb, rfl, rfl, fun k o hk => ?_⟩
    · have : fr2.get t = some y := by
        rcases z7e hy with h | ⟨_, h⟩
        · exact ze4 hf h
        · have h3 : fr2 = fr2.take (fr2.length - bf.length) ++ bf := by
            conv => lhs; rw [<- List.take_append_drop (fr2.length - bf.length) fr2]
            rw [tf]
          rw [h3, y0k fun hm => z62 df hm (y0l h)]
          exact h
      obtain ⟨z, hz, hr⟩ := hs t y this
      exact ⟨z, hz, hr⟩
    · refine hl k o ?_
      rw [z24] at hk
      split at hk
      · exact z9q hh (z1l hk)
      · have h3 : hp2 = hp2.take (hp2.length - bh.length) ++ bh := by
          conv => lhs; rw [<- List.take_append_drop (hp2.length - bh.length) hp2]
          rw [th]
        rw [h3, z24, if_neg]
        · exact hk
        · intro hm
          rw [<- z8r] at hm
          exact z62 dh hm (by rw [z8r]; exact zq0 hk)
  | _ => exact ⟨fr2, hp2, hs, hl, hk⟩
inductive VJoin {α : Type} (F : α -> Fr) (Hf : α -> List (Nat × HO)) (I : α -> Prop) (bf : Fr) (bh : Hp) (fr' : Fr) (hp' : Hp) : Prop
  | mk (b : α) (hI : I b) (hf : subB fr' (F b)) (hh : subH hp' (Hf b)) (tf : fr'.drop (fr'.length - bf.length) = bf) (df : disj (idsF (fr'.take (fr'.length - bf.length))) (idsF bf) = true)
    (th : hp'.drop (hp'.length - bh.length) = bh) (dh : disj (idsH (hp'.take (hp'.length - bh.length))) (idsH bh) = true)
def zb8 (ds : List Nat) : Fr -> Fr
  | [] => []
  | (t, x) :: r => match nIn t ds with
    | true => (t, x) :: zb8 ds r
    | false => zb8 ds r
def zb9 (ds : List Nat) : Hp -> Hp
  | [] => []
  | (k, o) :: r => match nIn k ds with
    | true => (k, o) :: zb9 ds r
    | false => zb9 ds r
theorem z9x {t : Nat} {ds : List Nat} {x : IV} : ∀ {fr : Fr}, (zb8 ds fr).get t = some x -> fr.get t = some x
  | (u, y) :: r, h => by
    simp only [zb8] at h
    split at h
    · simp only [Fr.get] at h ⊢
      cases hb : Nat.beq u t with
      | true => rw [hb] at h; exact h
      | false => rw [hb] at h; exact z9x h
    · rename_i hu
      have h2 := z9x h
      have ht : t ∈ ds := by
        have key : ∀ {l : Fr}, (zb8 ds l).get t = some x -> t ∈ ds := by
          intro l
          induction l with
          | nil => intro h; cases h
          | cons p r ih =>
            obtain ⟨u, y⟩ := p
            intro h
            simp only [zb8] at h
            split at h
            · rename_i hu
              simp only [Fr.get] at h
              cases hb : Nat.beq u t with
              | true => obtain rfl := Nat.eq_of_beq_eq_true hb; exact z44.1 hu
              | false => rw [hb] at h; exact ih h
            · exact ih h
        exact key h
      have : u ≠ t := fun e => z2e hu (e ▸ ht)
      simp only [Fr.get, z02 this]
      exact h2
theorem z8q {k : Nat} {ds : List Nat} : ∀ {hp : Hp}, k ∈ ds -> look (zb9 ds hp) k = look hp k
  | [], _ => rfl
  | (j, o) :: r, hk => by
    simp only [zb9]
    split
    · by_cases e : j = k
      · subst e; rw [z2u, z2u]
      · rw [z2c e, z2c e]; exact z8q hk
    · rename_i hj
      have : j ≠ k := fun e => z2e hj (e ▸ hk)
      rw [z2c this]; exact z8q hk
theorem z9y {k : Nat} {ds : List Nat} : ∀ {hp : Hp}, k ∈ (zb9 ds hp).map (·.1) -> k ∈ ds
  | (j, o) :: r, h => by
    simp only [zb9] at h
    split at h
    · rename_i hj
      simp only [List.map_cons, List.mem_cons] at h
      rcases h with rfl | h
      · exact z44.1 hj
      · exact z9y h
    · exact z9y h
inductive VCut (ds : List Nat) (x y : Fr -> Hp -> (Exit -> Fr -> Hp -> Prop) -> Prop) (fr : Fr) (hp : Hp) (K : Exit -> Fr -> Hp -> Prop) : Prop
  | mk (α : Type) (F : α -> Fr) (Hf : α -> List (Nat × HO)) (I : α -> Prop) (gone : List Nat)
    (h : frcL (z8g ds fr) fun bf => frcL (z7n gone hp) fun bh => appH (zb8 ds fr) bf fun fr1 => appH (zb9 gone hp) bh fun hp1 => (x fr1 hp1 fun e fr' hp' => match e with
      | .normal => VJoin F Hf I bf bh fr' hp'
      | e => K e fr' hp') /\ ∀ b, I b -> appH (F b) bf fun fr2 => appH (up (Hf b)) bh fun hp2 => y fr2 hp2 K)
theorem join_sub {α : Type} {F : α -> Fr} {b : α} {bf fr2 : Fr} {σ : Heap'} {fr1 : Fr} (hs : Sub σ fr1 fr2) (hf : subB fr2 (F b)) (tf : fr2.drop (fr2.length - bf.length) = bf) (df : disj (idsF (fr2.take (fr2.length - bf.length))) (idsF bf) = true) : Sub σ fr1 (F b ++ bf) := fun t y hy => by
  have : fr2.get t = some y := by
    rcases z7e hy with h | ⟨_, h⟩
    · exact ze4 hf h
    · have h3 : fr2 = fr2.take (fr2.length - bf.length) ++ bf := by
        conv => lhs; rw [<- List.take_append_drop (fr2.length - bf.length) fr2]
        rw [tf]
      rw [h3, y0k fun hm => z62 df hm (y0l h)]
      exact h
  exact hs t y this
theorem y5f {l : List (Nat × HO)} {bh hp2 : Hp} (hh : subH hp2 l) (th : hp2.drop (hp2.length - bh.length) = bh) (dh : disj (idsH (hp2.take (hp2.length - bh.length))) (idsH bh) = true) (k : Nat) (o : HO) (hk : look (up l ++ bh) k = some o) : look hp2 k = some o := by
  rw [z24] at hk
  split at hk
  · exact z9q hh (z1l hk)
  · have h3 : hp2 = hp2.take (hp2.length - bh.length) ++ bh := by
      conv => lhs; rw [<- List.take_append_drop (hp2.length - bh.length) hp2]
      rw [th]
    rw [h3, z24, if_neg]
    · exact hk
    · intro hm
      rw [<- z8r] at hm
      exact z62 dh hm (by rw [z8r]; exact zq0 hk)
theorem VCut.ok {x y : Fr -> Hp -> (Exit -> Fr -> Hp -> Prop) -> Prop} {cx cy : Code} {ds : List Nat} {K : Exit -> Fr -> Hp -> Prop} (hx : ∀ fr hp K, x fr hp K -> Tr P c cx fr (look hp) (zp9 K)) (hy : ∀ fr hp K, y fr hp K -> Tr P c cy fr (look hp) (zp9 K)) (h : VCut ds x y fr hp K) : Tr P c (.seq cx cy) fr (look hp) (zp9 K) := by
  obtain ⟨α, F, Hf, I, gone, h⟩ := h
  replace h := zg3 (zg3 h)
  replace h := z7c (z7c h)
  have hsub0 : Sub (look hp) fr (zb8 ds fr ++ z8g ds fr) := fun t y hy => by
    rcases z7e hy with h | ⟨_, h⟩
    · exact ⟨y, z9x h, fun _ _ _ _ h => h⟩
    · exact ⟨y, (z82 h).2, fun _ _ _ _ h => h⟩
  generalize z8g ds fr = bf at h hsub0
  have hheap0 : ∀ k o, look (zb9 gone hp ++ z7n gone hp) k = some o -> look hp k = some o := fun k o hk => by
    rw [z24] at hk
    split at hk
    · rename_i hm; rw [z8q (z9y hm)] at hk; exact hk
    · exact (z5e hk).2
  generalize z7n gone hp = bh at h hheap0
  obtain ⟨h1, h2⟩ := h
  refine Tr.weak hsub0 hheap0 ?_
  refine Tr.seq (Tr.mono (hx _ _ _ h1) fun e fr' σ' hq => ?_)
  obtain ⟨fr2, hp2, hs, hl, hk⟩ := hq
  cases e with
  | normal =>
    obtain ⟨b, hI, hf, hh, tf, df, th, dh⟩ := hk
    have h3 := h2 b hI
    replace h3 := z7c h3
    replace h3 := z7c h3
    exact Tr.weak (join_sub hs hf tf df) (fun k o hk => hl k o (y5f hh th dh k o hk)) (hy _ _ _ h3)
  | _ => exact ⟨fr2, hp2, hs, hl, hk⟩
def VcT : Type := Fr -> Hp -> (Exit -> Fr -> Hp -> Prop) -> Prop
def vcNo : VcT := fun _ _ _ => False
def vcSkip : VcT := fun fr hp K => K .normal fr hp
def vcReg (T : TB P) (H : Hn) (Rl ks : List Nat) (nt id : Nat) (ops : Array Oper) (draw : Bool) : VcT := fun fr hp K =>
  vghs ks (ghAt H.gh id) fr hp fun fr hp => vops T H Rl ks nt id ops draw ops.toList 0 [] fr hp (K .normal)
def vcSeq (a b : VcT) : VcT := fun fr hp K => a fr hp fun e fr hp => match e with
  | .normal => b fr hp K
  | e => K e fr hp
def zg0 : Code -> Nat
  | .region id _ _ => id
  | .seq a _ => zg0 a
  | .block _ x => zg0 x
  | .loop x => zg0 x
  | _ => 1000000
def y2l (H : Hn) (ca cb : Code) (a b : VcT) : VcT := match nIn (zg0 cb) H.jn with
  | true => fun fr hp K => VCut (zu0 ca []) a b fr hp K
  | false => vcSeq a b
def vcCond (x : Operand) (a b : VcT) : VcT := fun fr hp K => vev fr x fun v => match v with
  | .pv (.val (.bool t)) => bsel t (a fr hp K) (b fr hp K)
  | _ => False
def vcBlock (id : Nat) (x : VcT) : VcT := fun fr hp K => x fr hp fun e fr hp => match e with
  | .exit id' => match Nat.beq id' id with
    | true => K .normal fr hp
    | false => K (.exit id') fr hp
  | e => K e fr hp
def vcLoop (c : Code) (x : VcT) : VcT := fun fr hp K => VLoop x (zu0 c []) fr hp K
def vcExit (id : Nat) : VcT := fun fr hp K => K (.exit id) fr hp
def vcRet : VcT := fun fr hp K => K .ret fr hp
def vc (T : TB P) (H : Hn) (Rl ks : List Nat) (nt : Nat) (c : Code) : VcT :=
  Code.rec (motive := fun _ => VcT) vcSkip (fun id ops draw => vcReg T H Rl ks nt id ops draw) (fun ca cb a b => y2l H ca cb a b) (fun x _ _ a b => vcCond x a b) (fun id _ x => vcBlock id x) (fun c x => vcLoop c x)
    (fun _ _ _ _ _ _ => vcNo) (fun id => vcExit id) (fun _ _ => vcNo) (fun _ => vcNo) (fun _ => vcNo) vcRet (fun _ => vcNo) c
theorem zs8 (hn : c.n = nt) (hR : ∀ k, c.R k -> k ∈ Rl) (hσ : ∀ k, c.σ k ≠ none -> k ∈ ks) : ∀ (x : Code) {fr : Fr} {hp : Hp} {K : Exit -> Fr -> Hp -> Prop}, vc T H Rl ks nt x fr hp K -> Tr P c x fr (look hp) (zp9 K)
  | .skip, fr, hp, K, h => tSk (z9a (fun _ => rfl) h)
  | .region id ops draw, fr, hp, K, h => y7v hσ (fun fr hp h => y64 hn hR hσ (fun _ _ h => h) h) h
  | .seq a b, fr, hp, K, h => by
    replace h : y2l H a b (Go.Proofs.YtekdhljpmflboaaGreat.vc T H Rl ks nt a) (Go.Proofs.YtekdhljpmflboaaGreat.vc T H Rl ks nt b) fr hp K := h
    cases hj : nIn (zg0 b) H.jn with
    | true =>
      simp only [y2l, hj] at h
      exact VCut.ok (fun fr hp K h => zs8 hn hR hσ a h) (fun fr hp K h => zs8 hn hR hσ b h) h
    | false =>
    simp only [y2l, hj] at h
    refine Tr.seq (Tr.mono (zs8 hn hR hσ a h) fun e fr' σ' hq => ?_)
    obtain ⟨fr2, hp2, hs, hl, hk⟩ := hq
    cases e with
    | normal => exact Tr.weak hs hl (zs8 hn hR hσ b hk)
    | _ => exact ⟨fr2, hp2, hs, hl, hk⟩
  | .cond x a b, fr, hp, K, h => by
    obtain ⟨v, hv, h⟩ := z1m h
    split at h
    · rename_i t
      refine Tr.cond hv (fun ht => ?_) fun ht => ?_
      · subst ht; exact zs8 hn hR hσ a h
      · subst ht; exact zs8 hn hR hσ b h
    · exact h.elim
  | .block id x, fr, hp, K, h => by
    refine tBk (Tr.mono (zs8 hn hR hσ x h) fun e fr' σ' hq => ?_)
    obtain ⟨fr2, hp2, hs, hl, hk⟩ := hq
    cases e with
    | exit id' =>
      simp only [y4o]
      simp only at hk
      split at hk
      · rename_i hb; rw [hb]; exact ⟨fr2, hp2, hs, hl, hk⟩
      · rename_i hb; rw [hb]; exact ⟨fr2, hp2, hs, hl, hk⟩
    | _ => exact ⟨fr2, hp2, hs, hl, hk⟩
  | .loop x, fr, hp, K, h => VLoop.ok (f := Go.Proofs.YtekdhljpmflboaaGreat.vc T H Rl ks nt x) (fun fr hp K h => zs8 hn hR hσ x h) h
  | .exit id, fr, hp, K, h => tEx (z9a (fun _ => rfl) h)
  | .ret, fr, hp, K, h => tRt (z9a (fun _ => rfl) h)
  | .scope _, _, _, _, h => h.elim
  | .rangeFunc .., _, _, _, h => h.elim
  | .label _, _, _, _, h => h.elim
  | .goto _, _, _, _, h => h.elim
  | .refuse _, _, _, _, h => h.elim
def SubI (x y : IV) : Prop := ∀ F ρ σ w v, RepI F ρ σ w x v -> RepI F ρ σ w y v
theorem sI {x : IV} : SubI x x := fun _ _ _ _ _ h => h
theorem sE {x y : IV} (h : x = y) : SubI x y := fun _ _ _ _ _ hv => h ▸ hv
inductive VEnd (x r : IV) (post : List (Nat × HO)) (hp : Hp) : Prop
  | mk (hr : SubI x r) (hh : subH hp post)
def vend (T : TB P) (rs : List ResultVar) (r : IV) (post : List (Nat × HO)) (fr : Fr) (hp : Hp) : Prop := match rs with
  | [] => VEnd (.tup []) r post hp
  | [.tmp t] => vopt (fr.get t) fun x => VEnd x r post hp
  | [.tmp t, .tmp u] => vopt (fr.get t) fun x => vopt (fr.get u) fun y => VEnd (.tup [x, y]) r post hp
  | [.tmp t, .tmp u, .tmp v] => vopt (fr.get t) fun x => vopt (fr.get u) fun y => vopt (fr.get v) fun z => VEnd (.tup [x, y, z]) r post hp
  | [.cell q t] => y7o T t fr hp (.tmp q) fun s => match s with
    | ⟨x, _, _, _⟩ => VEnd x r post hp
  | [.cell q t, .tmp b] => y7o T t fr hp (.tmp q) fun s => match s with
    | ⟨x, _, _, _⟩ => vopt (fr.get b) fun y => VEnd (.tup [x, y]) r post hp
  | _ => False
def vret (T : TB P) (rs : List ResultVar) (r : IV) (post : List (Nat × HO)) : Exit -> Fr -> Hp -> Prop
  | .ret, fr, hp => vend T rs r post fr hp
  | .normal, fr, hp => vend T rs r post fr hp
  | _, _, _ => False
theorem y03 {t : Nat} {y : Operand} {K : Stp -> Prop} (h : y7o T t fr hp y K) : ∃ x rd, K ⟨x, [], rd, []⟩ /\ ∀ (c : Cx) (o : Oper), o.op = .load t y -> OkV P c (fun _ => True) o fr (look hp) x := by
  obtain ⟨a, ea, h⟩ := z1m h
  replace h := z1z h
  obtain ⟨e, he, h⟩ := h
  obtain ⟨d, hd, hi⟩ := z3l he
  have hrow := TI.is_row hi
  split at h
  · split at h
    · rename_i hr
      replace h := z10 h
      obtain ⟨z, hz, h⟩ := h
      exact ⟨_, _, h, fun c o ho => z6n ho ea hd (hrow.trans hr) hz⟩
    · rename_i hr
      replace h := z0j h
      obtain ⟨hn, h⟩ := h
      exact ⟨_, _, z6j (K := fun l => K ⟨.pv (.agg l), [], [], []⟩) h, fun c o ho => lEA ho ea hd (hrow.trans hr) (z2i he) (Nat.le_of_ble_eq_true hn)⟩
  · replace h := z5o h
    obtain ⟨cs, hk, h⟩ := h
    split at h
    · rename_i hr
      replace h := z10 h
      obtain ⟨z, hz, h⟩ := h
      exact ⟨_, _, h, fun c o ho => z47 ho ea hk hd (hrow.trans hr) hz trivial⟩
    · rename_i hr
      replace h := z0j h
      obtain ⟨hn, h⟩ := h
      split at h
      · rename_i ps hps
        exact ⟨_, _, z6j (K := fun l => K ⟨.pv (.agg l), [], [_], []⟩) h, fun c o ho => lBP ho ea hk hd (hrow.trans hr) (z2i he) (Nat.le_of_ble_eq_true hn) hps trivial⟩
      · exact ⟨_, _, z4n (K := fun l => K ⟨.agg l, [], [_], []⟩) h, fun c o ho => z59 ho ea hk hd (hrow.trans hr) (z2i he) (Nat.le_of_ble_eq_true hn) trivial⟩
  · replace h := z5p h
    obtain ⟨s, els, hk, h⟩ := h
    split at h
    · rename_i hr
      obtain ⟨hn, hoff, h1, h2, h⟩ := h
      exact ⟨_, _, h, fun c o ho => lRw ho ea hk hn hoff h1 h2 hd (hrow.trans hr) trivial⟩
    · rename_i hr
      replace h := z0j h
      obtain ⟨hq, h⟩ := h
      obtain ⟨hn, hoff, h1, h⟩ := h
      exact ⟨_, _, h, fun c o ho => z7j ho ea hk hn hoff h1 hd (hrow.trans hr) (by rw [z2i he, Nat.eq_of_beq_eq_true hq]) trivial⟩
  · exact h.elim
theorem vend_ok {fn : Func} {r : IV} {post : List (Nat × HO)} (h : vend T fn.results.toList r post fr hp) : (∀ k o, look (up post) k = some o -> look hp k = some o) /\ ∀ (c : Cx) ρ w a, All c ρ (look hp) w fr a -> ∃ v, (results fn a.tmps).run P w = .ok v w /\ RepI c.F ρ (look hp) w r v := by
  have fin : ∀ {x : IV}, VEnd x r post hp -> (∀ (c : Cx) ρ w a, All c ρ (look hp) w fr a -> ∃ v, (results fn a.tmps).run P w = .ok v w /\ RepI c.F ρ (look hp) w x v) -> (∀ k o, look (up post) k = some o -> look hp k = some o) /\ ∀ (c : Cx) ρ w a, All c ρ (look hp) w fr a -> ∃ v, (results fn a.tmps).run P w = .ok v w /\ RepI c.F ρ (look hp) w r v := by
    rintro x ⟨hr, hh⟩ hx
    exact ⟨fun k o hk => z9q hh (z1l hk), fun c ρ w a ha => by
      obtain ⟨v, h1, h2⟩ := hx c ρ w a ha
      exact ⟨v, h1, hr _ _ _ _ _ h2⟩⟩
  have tmps : ∀ {x : IV}, zl8 fn fr = some x -> ∀ (c : Cx) ρ w a, All c ρ (look hp) w fr a -> ∃ v, (results fn a.tmps).run P w = .ok v w /\ RepI c.F ρ (look hp) w x v := fun hx c ρ w a ha => za8 (P := P) ha hx
  have arr : ∀ {l : List ResultVar}, fn.results.toList = l -> fn.results = l.toArray := fun hl => by rw [<- hl]
  unfold vend at h
  split at h
  · rename_i hl; exact fin h (tmps (by simp [zl8, hl]))
  · rename_i t hl
    obtain ⟨x, hx, h⟩ := z10 h
    exact fin h (tmps (by simp [zl8, hl, hx]))
  · rename_i t u hl
    obtain ⟨x, hx, h⟩ := z10 h
    obtain ⟨y, hy, h⟩ := z10 h
    exact fin h (tmps (by simp [zl8, hl, hx, hy]))
  · rename_i t u v hl
    obtain ⟨x, hx, h⟩ := z10 h
    obtain ⟨y, hy, h⟩ := z10 h
    obtain ⟨z, hz, h⟩ := z10 h
    exact fin h (tmps (by simp [zl8, hl, hx, hy, hz]))
  · rename_i q t hl
    obtain ⟨x, rd, h, hv⟩ := y03 h
    refine fin h fun c ρ w a ha => ?_
    obtain ⟨v, ad, h1, h2, h3⟩ := y0z ha (fun c o ho => hv c o ho)
    refine ⟨v, ?_, h3⟩
    simp [results, arr hl, h1, h2, Sem.run_bind]
  · rename_i q t b hl
    obtain ⟨x, rd, h, hv⟩ := y03 h
    obtain ⟨y, hy, h⟩ := z10 h
    refine fin h fun c ρ w a ha => ?_
    obtain ⟨v, ad, h1, h2, h3⟩ := y0z ha (fun c o ho => hv c o ho)
    obtain ⟨v', hv', h1'⟩ := ha.fr b y hy
    refine ⟨.tuple #[v, v'], ?_, y7h h3 h1'⟩
    simp [results, arr hl, h1, h2, hv', Sem.run_bind]
  · exact h.elim
theorem retL_ok {fn : Func} {r : IV} {post : List (Nat × HO)} {e : Exit} {fr : Fr} {σ : Heap'} (h : zp9 (vret T fn.results.toList r post) e fr σ) : (e = .ret ∨ e = .normal) /\ (∀ k o, look (up post) k = some o -> σ k = some o) /\ ∀ (c : Cx) ρ w a, All c ρ σ w fr a -> ∃ v ρ', (results fn a.tmps).run P w = .ok v w /\ All c ρ' (look (up post)) w fr a /\ RepI c.F ρ' (look (up post)) w r v := by
  obtain ⟨fr2, hp2, hs, hl, hk⟩ := h
  have key : vend T fn.results.toList r post fr2 hp2 -> (∀ k o, look (up post) k = some o -> σ k = some o) /\ ∀ (c : Cx) ρ w a, All c ρ σ w fr a -> ∃ v ρ', (results fn a.tmps).run P w = .ok v w /\ All c ρ' (look (up post)) w fr a /\ RepI c.F ρ' (look (up post)) w r v := fun hk => by
    obtain ⟨h1, h2⟩ := vend_ok hk
    refine ⟨fun k o hk => hl k o (h1 k o hk), fun c ρ w a ha => ?_⟩
    obtain ⟨ρ1, ha1, keep1⟩ := ha.restrict hl
    obtain ⟨ρ2, ha2, keep2⟩ := ha1.restrict h1
    have hsub : All c ρ1 (look hp2) w fr2 a := ⟨ha1.rel, fun t y hy => by
      obtain ⟨x, hx, hr⟩ := hs t y hy
      obtain ⟨v, hv, h3⟩ := ha.fr t x hx
      exact ⟨v, hv, keep1 _ _ (hr _ _ _ _ h3)⟩, ha1.tr, ha1.df, ha1.sz⟩
    obtain ⟨v, hv, h4⟩ := h2 c ρ1 w a hsub
    exact ⟨v, ρ2, hv, ha2, keep2 _ _ h4⟩
  cases e with
  | ret => exact ⟨.inl rfl, key hk⟩
  | normal => exact ⟨.inr rfl, key hk⟩
  | _ => exact hk.elim
theorem SC.vc {f : FuncId} {fn : Func} {code : Code} {args : List IV} {pre post : List (Nat × HO)} {r : IV} (T : TB P) (H : Hn) (Rl : List Nat) (hf : P.funcs[f]? = some fn) (hb : fn.body = some code) (hn : Nat.ble args.length fn.ntmps = true)
    (h : Go.Proofs.YtekdhljpmflboaaGreat.vc T H Rl (pre.map (·.1)) fn.ntmps code (frOf 0 args) (up pre) (vret T fn.results.toList r post)) : SC P f args pre (fun k => k ∈ Rl) r post := by
  intro F ρ w vs hrel hargs
  refine calls_of_wp hf hb ?_
  have ha : All ⟨F, fun k => k ∈ Rl, ρ, look (up pre), w, fn.ntmps⟩ ρ (look (up pre)) w (frOf 0 args) { tmps := vs.toArray ++ Array.replicate (fn.ntmps - vs.toArray.size) undef, defers := [] } := by
    refine ⟨hrel, fun t x hx => ?_, .refl _ _ _ _ _, rfl, ?_⟩
    · obtain ⟨v, hv, hr⟩ := hargs.2 t x (by simpa using (zd6 hx).2)
      refine ⟨v, ?_, hr⟩
      rw [Array.getElem?_append_left (by simpa using (List.getElem?_eq_some_iff.1 hv).1)]
      simpa using hv
    · have := hargs.1
      have := Nat.le_of_ble_eq_true hn
      simp; omega
  have hσ : ∀ k, look (up pre) k ≠ none -> k ∈ pre.map (·.1) := fun k hk => by
    refine Classical.byContradiction fun hn => hk (z1y.2 hn)
  refine wp_mono (zs8 (c := ⟨F, fun k => k ∈ Rl, ρ, look (up pre), w, fn.ntmps⟩) rfl (fun _ h => h) hσ code h ρ w _ ha) fun e a' w' hq => ?_
  obtain ⟨ρ', σ', fr', ha', hq⟩ := hq
  obtain ⟨he, _, hres⟩ := retL_ok hq
  obtain ⟨v, ρ'', hv, ha'', h1⟩ := hres _ ρ' w' a' ha'
  rcases he with rfl | rfl
  · exact ⟨ha'.df, v, hv, ρ'', v, rfl, h1, ha''.rel, ha''.tr⟩
  · exact ⟨ha'.df, v, hv, ρ'', v, rfl, h1, ha''.rel, ha''.tr⟩
end
theorem slq {k m n : Nat} (h : m = n) : some (IV.sl k m) = some (IV.sl k n) := h ▸ rfl
theorem rwq {s : RT} {a b : List (List PV)} (h : a = b) : some (HO.row s a) = some (HO.row s b) := h ▸ rfl
theorem mpq {a b : List (Value × PV)} (h : a = b) : some (HO.map a) = some (HO.map b) := h ▸ rfl
theorem ivq {a b : Int} (h : a = b) : some (iInt a) = some (iInt b) := h ▸ rfl
theorem z7d {α : Type} {l : List α} {k : Nat} (h : k < l.length) : ∃ x, l[k]? = some x /\ l.take (k + 1) = l.take k ++ [x] /\ l.drop k = x :: l.drop (k + 1) /\ x ∈ l :=
  ⟨l[k], List.getElem?_eq_getElem h, by rw [List.take_append_getElem], List.drop_eq_getElem_cons h, List.getElem_mem h⟩
theorem z9c {l : List (List PV)} {α : Type} {f : α -> List PV} {a : List α} {k : Nat} (hl : l = a.map f) (h : decide ((k : Int) < l.length) = true) : k < a.length := by subst hl; simpa using h
theorem z96 {l : List (List PV)} {α : Type} {f : α -> List PV} {a : List α} {k : Nat} (hl : l = a.map f) (h : decide ((k : Int) < l.length) = false) : a.length <= k := by subst hl; simpa using h
theorem at0 {α : Type} {a : α} {r : List α} : (a :: r)[0]? = some a := rfl
theorem z2h {n k : Nat} (h : k < n) : n - (k + 1) < n - k := by omega
theorem sN : SubI (.pv (.val (.slice none 0 0))) (.pv (.seq [])) := fun _ _ _ _ _ h => y0r h
theorem SubA.cons {x y : IV} {xs ys : List IV} (h : SubI x y) (hs : SubA xs ys) : SubA (x :: xs) (y :: ys) := fun σ => Subs.cons (fun _ _ _ _ hv => h _ _ _ _ _ hv) (hs σ)
theorem SubA.same {x : IV} {xs ys : List IV} (hs : SubA xs ys) : SubA (x :: xs) (x :: ys) := SubA.cons sI hs
theorem SubA.nil : SubA [] [] := sR
theorem sP {p q : PV} (h : PSub p q) : SubI (.pv p) (.pv q) := fun _ _ _ _ _ hv => z4v h hv
theorem sT2 {x x' y : IV} (h : SubI x x') : SubI (.tup [x, y]) (.tup [x', y]) := fun _ _ _ _ _ hv => tup2_sub (fun v hv => h _ _ _ _ v hv) hv
def tabE : List (Nat × TE) := [(2, ⟨.int .i64, 1, 8, [.int .i64]⟩),
  (3, ⟨.int .i64, 1, 8, [.int .i64]⟩),
  (4, ⟨.bool, 1, 1, [.bool]⟩),
  (5, ⟨.int .u8, 1, 1, [.int .u8]⟩),
  (6, ⟨.int .u8, 1, 1, [.int .u8]⟩),
  (7, ⟨.struct [(0, 2), (1, 3), (2, 4), (3, 6)], 4, 24, [.int .i64, .int .i64, .bool, .int .u8]⟩),
  (8, ⟨.struct [(0, 2), (1, 3), (2, 4), (3, 6)], 4, 24, [.int .i64, .int .i64, .bool, .int .u8]⟩),
  (9, ⟨.str, 1, 16, [.str]⟩),
  (10, ⟨.str, 1, 16, [.str]⟩),
  (11, ⟨.str, 1, 16, [.str]⟩),
  (12, ⟨.int .u64, 1, 8, [.int .u64]⟩),
  (13, ⟨.struct [(0, 9), (1, 12)], 2, 24, [.str, .int .u64]⟩),
  (14, ⟨.struct [(0, 9), (1, 12)], 2, 24, [.str, .int .u64]⟩),
  (15, ⟨.one, 1, 8, [.ptr]⟩),
  (16, ⟨.one, 1, 8, [.ptr]⟩),
  (17, ⟨.one, 1, 8, [.ptr]⟩),
  (18, ⟨.struct [(0, 17)], 1, 8, [.ptr]⟩),
  (19, ⟨.struct [(0, 17)], 1, 8, [.ptr]⟩),
  (21, ⟨.int .i32, 1, 4, [.int .i32]⟩),
  (22, ⟨.slice 49, 1, 24, [.slice]⟩),
  (23, ⟨.slice 51, 1, 24, [.slice]⟩),
  (24, ⟨.struct [(0, 22), (1, 23)], 2, 48, [.slice, .slice]⟩),
  (25, ⟨.struct [(0, 22), (1, 23)], 2, 48, [.slice, .slice]⟩),
  (29, ⟨.slice 5, 1, 24, [.slice]⟩),
  (31, ⟨.int .i64, 1, 8, [.int .i64]⟩),
  (35, ⟨.slice 3, 1, 24, [.slice]⟩),
  (40, ⟨.slice 43, 1, 24, [.slice]⟩),
  (41, ⟨.struct [(0, 3), (1, 3), (2, 3), (3, 9), (4, 35), (5, 35), (6, 35), (7, 40)], 8, 136, [.int .i64, .int .i64, .int .i64, .str, .slice, .slice, .slice, .slice]⟩),
  (42, ⟨.struct [(0, 3), (1, 3), (2, 3), (3, 9), (4, 35), (5, 35), (6, 35), (7, 40)], 8, 136, [.int .i64, .int .i64, .int .i64, .str, .slice, .slice, .slice, .slice]⟩),
  (43, ⟨.slice 42, 1, 24, [.slice]⟩),
  (45, ⟨.struct [(0, 3), (1, 3), (2, 35), (3, 3), (4, 3)], 5, 56, [.int .i64, .int .i64, .slice, .int .i64, .int .i64]⟩),
  (46, ⟨.struct [(0, 3), (1, 3), (2, 35), (3, 3), (4, 3)], 5, 56, [.int .i64, .int .i64, .slice, .int .i64, .int .i64]⟩),
  (48, ⟨.struct [(0, 9), (1, 3)], 2, 24, [.str, .int .i64]⟩),
  (49, ⟨.struct [(0, 9), (1, 3)], 2, 24, [.str, .int .i64]⟩),
  (50, ⟨.struct [(0, 9), (1, 3), (2, 3), (3, 35), (4, 43)], 5, 80, [.str, .int .i64, .int .i64, .slice, .slice]⟩),
  (51, ⟨.struct [(0, 9), (1, 3), (2, 3), (3, 35), (4, 43)], 5, 80, [.str, .int .i64, .int .i64, .slice, .slice]⟩),
  (55, ⟨.one, 1, 8, [.ptr]⟩),
  (56, ⟨.struct [(0, 29), (1, 3), (2, 35), (3, 3)], 4, 64, [.slice, .int .i64, .slice, .int .i64]⟩),
  (57, ⟨.struct [(0, 29), (1, 3), (2, 35), (3, 3)], 4, 64, [.slice, .int .i64, .slice, .int .i64]⟩),
  (59, ⟨.map 3 3, 1, 8, [.map]⟩),
  (60, ⟨.struct [(0, 59)], 1, 8, [.map]⟩),
  (61, ⟨.struct [(0, 59)], 1, 8, [.map]⟩),
  (67, ⟨.one, 1, 8, [.ptr]⟩),
  (68, ⟨.slice 35, 1, 24, [.slice]⟩),
  (69, ⟨.struct [(0, 25), (2, 35), (3, 68), (4, 46), (9, 4)], 10, 160, [.slice, .slice, .slice, .slice, .int .i64, .int .i64, .slice, .int .i64, .int .i64, .bool]⟩),
  (70, ⟨.struct [(0, 25), (2, 35), (3, 68), (4, 46), (9, 4)], 10, 160, [.slice, .slice, .slice, .slice, .int .i64, .int .i64, .slice, .int .i64, .int .i64, .bool]⟩),
  (76, ⟨.struct [(0, 4), (1, 4), (2, 35), (3, 35), (4, 35)], 5, 80, [.bool, .bool, .slice, .slice, .slice]⟩),
  (77, ⟨.struct [(0, 4), (1, 4), (2, 35), (3, 35), (4, 35)], 5, 80, [.bool, .bool, .slice, .slice, .slice]⟩),
  (81, ⟨.struct [(0, 3), (1, 35)], 2, 32, [.int .i64, .slice]⟩),
  (82, ⟨.struct [(0, 3), (1, 35)], 2, 32, [.int .i64, .slice]⟩),
  (85, ⟨.one, 1, 8, [.ptr]⟩),
  (86, ⟨.slice 4, 1, 24, [.slice]⟩),
  (87, ⟨.struct [(0, 25), (2, 51), (7, 86)], 8, 152, [.slice, .slice, .str, .int .i64, .int .i64, .slice, .slice, .slice]⟩),
  (88, ⟨.struct [(0, 25), (2, 51), (7, 86)], 8, 152, [.slice, .slice, .str, .int .i64, .int .i64, .slice, .slice, .slice]⟩),
  (90, ⟨.struct [(0, 4), (1, 4), (2, 35), (3, 35), (4, 35)], 5, 80, [.bool, .bool, .slice, .slice, .slice]⟩),
  (95, ⟨.map 9 3, 1, 8, [.map]⟩),
  (98, ⟨.one, 1, 8, [.ptr]⟩),
  (99, ⟨.struct [(0, 25), (2, 51), (7, 35)], 8, 152, [.slice, .slice, .str, .int .i64, .int .i64, .slice, .slice, .slice]⟩),
  (100, ⟨.struct [(0, 25), (2, 51), (7, 35)], 8, 152, [.slice, .slice, .str, .int .i64, .int .i64, .slice, .slice, .slice]⟩),
  (102, ⟨.struct [(0, 4), (1, 4), (2, 35), (3, 35), (4, 35)], 5, 80, [.bool, .bool, .slice, .slice, .slice]⟩),
  (103, ⟨.struct [(0, 4), (1, 4), (2, 35), (3, 35), (4, 35)], 5, 80, [.bool, .bool, .slice, .slice, .slice]⟩),
  (131, ⟨.int .u64, 1, 8, [.int .u64]⟩),
  (141, ⟨.struct [(0, 9), (1, 3)], 2, 24, [.str, .int .i64]⟩),
  (142, ⟨.struct [(0, 9), (1, 3)], 2, 24, [.str, .int .i64]⟩),
  (145, ⟨.arr 29 142, 58, 696, [.str, .int .i64, .str, .int .i64, .str, .int .i64, .str, .int .i64, .str, .int .i64, .str, .int .i64, .str, .int .i64, .str, .int .i64, .str, .int .i64, .str, .int .i64, .str, .int .i64, .str, .int .i64, .str, .int .i64, .str, .int .i64, .str, .int .i64, .str, .int .i64, .str, .int .i64, .str, .int .i64, .str, .int .i64, .str, .int .i64, .str, .int .i64, .str, .int .i64, .str, .int .i64, .str, .int .i64, .str, .int .i64, .str, .int .i64, .str, .int .i64, .str, .int .i64, .str, .int .i64]⟩),
  (147, ⟨.struct [(0, 17), (1, 17), (2, 17), (3, 9)], 4, 40, [.ptr, .ptr, .ptr, .str]⟩),
  (148, ⟨.struct [(0, 17), (1, 17), (2, 17), (3, 9)], 4, 40, [.ptr, .ptr, .ptr, .str]⟩),
  (149, ⟨.arr 0 16, 0, 0, []⟩),
  (150, ⟨.struct [(0, 149)], 0, 0, []⟩),
  (151, ⟨.struct [(0, 149)], 0, 0, []⟩),
  (153, ⟨.int .u32, 1, 4, [.int .u32]⟩),
  (154, ⟨.int .u8, 1, 1, [.int .u8]⟩),
  (155, ⟨.int .u8, 1, 1, [.int .u8]⟩),
  (157, ⟨.one, 1, 8, [.ptr]⟩),
  (158, ⟨.int .i32, 1, 4, [.int .i32]⟩),
  (159, ⟨.int .i32, 1, 4, [.int .i32]⟩),
  (160, ⟨.struct [(0, 12), (1, 12), (2, 153), (3, 154), (4, 5), (5, 5), (6, 155), (7, 156), (8, 157), (9, 158), (10, 159)], 11, 48, [.int .u64, .int .u64, .int .u32, .int .u8, .int .u8, .int .u8, .int .u8, .fn, .ptr, .int .i32, .int .i32]⟩),
  (161, ⟨.struct [(0, 12), (1, 12), (2, 153), (3, 154), (4, 5), (5, 5), (6, 155), (7, 156), (8, 157), (9, 158), (10, 159)], 11, 48, [.int .u64, .int .u64, .int .u32, .int .u8, .int .u8, .int .u8, .int .u8, .fn, .ptr, .int .i32, .int .i32]⟩)]
def tabN : List Nat := [2, 3, 4, 5, 6, 7, 8, 9, 10, 11, 12, 13, 14, 15, 16, 17, 18, 19, 20, 21, 22, 23, 24, 25, 26, 27, 28, 29, 30, 31, 32, 33, 34, 35, 36, 37, 38, 39, 40, 41, 42, 43, 44, 45, 46, 47, 48, 49, 50, 51, 52, 53, 54, 55, 56, 57, 58, 59, 60, 61, 62, 63, 64, 65, 66, 67, 68, 69, 70, 71, 72, 73, 74, 75, 76, 77, 78, 79, 80, 81, 82, 83, 84, 85, 86, 87, 88, 89, 90, 91, 92, 93, 94, 95, 96, 97, 98, 99, 100, 101, 102, 103, 104, 105, 106, 107, 108, 109, 110, 111, 112, 113, 114, 115, 116, 117, 118, 119, 120, 121, 122, 123, 124, 125, 126, 127, 128, 129, 130, 131, 132, 133]
theorem tabE_ok : tAll Tryz.prog tabE = true := by kernel_rfl
theorem tabN_ok : zu4 Tryz.prog tabN = true := by kernel_rfl
def tb : TB Tryz.prog := mkTB Tryz.prog tabE tabN tabE_ok tabN_ok kR0
def Vis (tys all : List Int) (y t : Int) : Prop := all.contains y = true /\ 0 <= y /\ y < tys.length /\ tys.getD y.toNat 0 = t
theorem Vis.mono {tys all : List Int} {y t : Int} (h : Vis tys all y t) (c : List Int) : Vis tys (all ++ c) y t := ⟨by rw [List.contains_append, h.1]; rfl, h.2⟩
def Rel (tys : List Int) (to : TT) (all all' : List Int) : Prop := ∀ v, all.contains v = true -> 0 <= v -> v < tys.length -> Vis tys all' (z1k to v) (tys.getD v.toNat 0)
theorem zl0 {tys seen : List Int} {v w : Int} : z5s tys seen v w = true ↔ seen.contains v = true /\ 0 <= v /\ v < tys.length /\ (w = 0 ∨ tys.getD v.toNat 0 = w) := by
  unfold z5s
  simp only [Bool.not_eq_true', Bool.or_eq_false_iff, decide_eq_false_iff_not, Bool.not_eq_false', Bool.and_eq_false_iff, bne_eq_false_iff_eq]
  constructor
  ·rintro ⟨⟨⟨h1, h2⟩, h3⟩, h4⟩
   exact ⟨h3, by omega, by omega, h4⟩
  rintro ⟨h3, h1, h2, h4⟩
  exact ⟨⟨⟨by omega, by omega⟩, h3⟩, h4⟩
theorem use_rel {tys all all' : List Int} {to : TT} (hr : Rel tys to all all') {v w : Int} (h : z5s tys all v w = true) : z5s tys all' (z1k to v) w = true := by
  obtain ⟨h1, h2, h3, h4⟩ := zl0.1 h
  obtain ⟨k1, k2, k3, k4⟩ := hr v h1 h2 h3
  exact zl0.2 ⟨k1, k2, k3, by rw [k4]; exact h4⟩
theorem zk7 {tys all all' : List Int} {to : TT} (hr : Rel tys to all all') : ∀ {l want : List Int}, z15 tys all l want = true -> z15 tys all' (l.map (z1k to)) want = true
  | [], _, _ => by simp [z15]
  | _ :: _, [], _ => by simp [z15]
  | v :: r, w :: ws, h => by
    simp only [z15, Bool.and_eq_true, List.map_cons] at h ⊢
    exact ⟨use_rel hr h.1, zk7 hr h.2⟩
theorem zk8 {tys all all' : List Int} {to : TT} (hr : Rel tys to all all') {l want : List Int} (h : z0b tys all l want = true) : z0b tys all' (l.map (z1k to)) want = true := by
  unfold z0b at h ⊢
  simp only [Bool.and_eq_true, List.length_map] at h ⊢
  exact ⟨h.1, zk7 hr h.2⟩
theorem Rel.outs {tys all all' outs : List Int} {to : TT} (hr : Rel tys to all all') (hn : ∀ v ∈ outs, aGet v to = none) : Rel tys to (all ++ outs) (all' ++ outs) := fun v hv h0 h1 => by
  rw [List.contains_append, Bool.or_eq_true] at hv
  by_cases ho : outs.contains v = true
  ·have e : z1k to v = v := by unfold z1k; rw [hn v (List.contains_iff_mem.1 ho)]; rfl
   rw [e]
   exact ⟨by rw [List.contains_append, ho, Bool.or_true], h0, h1, rfl⟩
  exact (hr v (hv.resolve_right ho) h0 h1).mono _
theorem Rel.congr {tys all all' : List Int} {to to' : TT} (hr : Rel tys to all all') (hn : ∀ v, all.contains v = true -> aGet v to' = aGet v to) : Rel tys to' all all' := fun v hv h0 h1 => by
  have e : z1k to' v = z1k to v := by unfold z1k; rw [hn v hv]
  rw [e]
  exact hr v hv h0 h1
theorem y71 {u : Un} {f : Fl} {to : TT} {all all' : List Int} {w : Wh} {outs : List Int} {x y : Nd} (ek : y.kind = x.kind) (eo : y.op = x.op) (en : y.n = x.n) (em : y.name = x.name) (ea : y.args = x.args.map (z1k to)) (hr : Rel f.types to all all')
    (h : (z77 u f x all w).ok f.types outs = true) : (z77 u f y all' w).ok f.types outs = true := by
  have M : ∀ want, z0b f.types all x.args want = true -> z0b f.types all' (x.args.map (z1k to)) want = true := fun want => zk8 hr
  have F : ∀ (b b' : Bool) (want : Option (List Int)), (b = true -> b' = true) -> SForm.ok ⟨b, want⟩ f.types outs = true -> SForm.ok ⟨b', want⟩ f.types outs = true := fun b b' want hb h => by
    cases want <;> simp only [SForm.ok, Bool.and_eq_true] at h ⊢ <;> exact ⟨hb h.1, h.2⟩
  unfold z77 at h ⊢
  rw [ek, eo, en, em, ea]
  by_cases k1 : (x.kind == 1) = true
  ·rw [if_pos k1] at h ⊢
   exact F _ _ _ (fun hb => M _ hb) h
  rw [if_neg k1] at h ⊢
  by_cases k2 : (x.kind == 2) = true
  ·rw [if_pos k2] at h ⊢
   exact F _ _ _ (fun hb => by simp only [Bool.and_eq_true] at hb ⊢; exact ⟨hb.1, M _ hb.2⟩) h
  rw [if_neg k2] at h ⊢
  by_cases k3 : (x.kind == 3) = true
  ·rw [if_pos k3] at h ⊢
   exact F _ _ _ (fun hb => by simp only [Bool.and_eq_true] at hb ⊢; exact ⟨hb.1, M _ hb.2⟩) h
  rw [if_neg k3] at h ⊢
  by_cases k4 : (x.kind == 4) = true
  ·rw [if_pos k4] at h ⊢
   refine F _ _ _ (fun hb => ?_) h
   simp only [Bool.and_eq_true] at hb ⊢
   refine ⟨⟨hb.1.1, M _ hb.1.2⟩, ?_⟩
   have ht := hb.1.2
   unfold z0b at ht
   simp only [Bool.and_eq_true, beq_iff_eq, List.length_cons, List.length_nil] at ht
   match x.args, ht, hb.2 with
   | [a, b], ht, h2 =>
     simp only [z15, Bool.and_eq_true] at ht
     obtain ⟨a1, a2, a3, _⟩ := zl0.1 ht.2.1
     obtain ⟨b1, b2, b3, _⟩ := zl0.1 ht.2.2.1
     have e1 := (hr a a1 a2 a3).2.2.2
     have e2 := (hr b b1 b2 b3).2.2.2
     simp only [List.map_cons, List.map_nil, List.getD_cons_zero, List.getD_cons_succ] at h2 ⊢
     rw [e1, e2]
     exact h2
  rw [if_neg k4] at h ⊢
  by_cases k5 : (x.kind == 5) = true
  ·rw [if_pos k5] at h ⊢
   exact F _ _ _ (fun hb => by simp only [Bool.and_eq_true] at hb ⊢; exact ⟨hb.1, M _ hb.2⟩) h
  rw [if_neg k5] at h ⊢
  by_cases k6 : (x.kind == 6) = true
  ·rw [if_pos k6] at h ⊢
   exact F _ _ _ (fun hb => by simp only [Bool.and_eq_true] at hb ⊢; exact ⟨hb.1, M _ hb.2⟩) h
  rw [if_neg k6] at h ⊢
  by_cases k7 : (x.kind == 7) = true
  ·rw [if_pos k7] at h ⊢
   by_cases hp : decide (z07 x.name u.flows 0 ≥ 0) = true
   ·rw [if_pos hp] at h ⊢
    cases hg : u.flows[(z07 x.name u.flows 0).toNat]? with
    | none => rw [hg] at h; exact h
    | some g => rw [hg] at h; exact F _ _ _ (fun hb => M _ hb) h
   rw [if_neg hp] at h ⊢; exact h
  rw [if_neg k7] at h ⊢
  by_cases k8 : (x.kind == 8) = true
  ·rw [if_pos k8] at h ⊢
   exact F _ _ _ (fun hb => by simpa using hb) h
  rw [if_neg k8] at h ⊢
  by_cases k9 : (x.kind == 9) = true
  ·rw [if_pos k9] at h ⊢
   exact F _ _ _ (fun hb => M _ hb) h
  rw [if_neg k9] at h ⊢
  by_cases k12 : (x.kind == 12) = true
  ·rw [if_pos k12] at h ⊢
   exact F _ _ _ (fun hb => by simp only [Bool.and_eq_true] at hb ⊢; exact ⟨hb.1, M _ hb.2⟩) h
  rw [if_neg k12] at h ⊢
  by_cases k13 : (x.kind == 13) = true
  ·rw [if_pos k13] at h ⊢
   exact F _ _ _ (fun hb => by simp only [Bool.and_eq_true] at hb ⊢; exact ⟨hb.1, M _ hb.2⟩) h
  rw [if_neg k13] at h ⊢
  by_cases k14 : (x.kind == 14) = true
  ·rw [if_pos k14] at h ⊢
   exact F _ _ _ (fun hb => by simp only [Bool.and_eq_true] at hb ⊢; exact ⟨hb.1, M _ hb.2⟩) h
  rw [if_neg k14] at h ⊢
  by_cases k15 : (x.kind == 15) = true
  ·rw [if_pos k15] at h ⊢
   exact F _ _ _ (fun hb => M _ hb) h
  rw [if_neg k15] at h ⊢
  exact h
theorem y0i {k n : Nat} {v : Int} (hk : k <= n) (h : (iota k).contains v = true) : (z39 k n).getD v.toNat false = true := by
  rw [List.contains_iff_mem] at h
  obtain ⟨i, hi, rfl⟩ := List.mem_map.1 h
  rw [List.mem_range] at hi
  simp only [z39, List.getD_eq_getElem?_getD]
  rw [List.getElem?_append_left (by simpa using hi)]
  simp [hi]
def inEs (l : TT) : List (Value × PV) := l.map fun e => (vKey e.1, vInt e.2)
theorem zv4 (l : TT) : ∀ e ∈ inEs l, z28 (.int .i64) e.1 = true := fun e he => by
  obtain ⟨x, _, rfl⟩ := List.mem_map.1 he
  rfl
theorem y5g (a b : Int) : keyB (vKey a) (vKey b) = decide (a = b) := by
  show (a == b) = _
  by_cases h : a = b <;> simp [h]
theorem zv3 (v : Int) : ∀ l : TT, z41 (vKey v) (inEs l) = (aGet v l).map vInt
  | [] => rfl
  | (a, b) :: r => by
    have ih := zv3 v r
    unfold inEs at ih ⊢
    simp only [List.map_cons, z41, aGet, y5g, decide_eq_true_eq]
    by_cases h : v = a
    · rw [if_pos h, if_pos h]; rfl
    · rw [if_neg h, if_neg h]; exact ih
theorem y22 (k v : Int) : ∀ l : TT, mput (vKey k) (vInt v) (inEs l) = inEs (aPut k v l)
  | [] => rfl
  | (a, b) :: r => by
    have ih := y22 k v r
    unfold inEs at ih ⊢
    simp only [List.map_cons, mput, aPut, y5g, decide_eq_true_eq]
    by_cases h : k = a
    · rw [if_pos h, if_pos h]; rfl
    · rw [if_neg h, if_neg h, ih]; rfl
theorem y5c (v : Int) (l : TT) : ((z41 (vKey v) (inEs l)).getD (.val (.int .i64 0)), (z41 (vKey v) (inEs l)).isSome) = (vInt ((aGet v l).getD 0), (aGet v l).isSome) := by
  rw [zv3]
  cases aGet v l <;> rfl
theorem y45 {to : TT} {v : Int} (h : (aGet v to).isSome = true) : (aGet v to).getD 0 = z1k to v := by
  unfold z1k
  cases hg : aGet v to with
  | none => rw [hg] at h; cases h
  | some y => rfl
theorem y44 {to : TT} {v : Int} (h : (aGet v to).isSome = false) : z1k to v = v := by
  unfold z1k
  cases hg : aGet v to with
  | none => rfl
  | some y => rw [hg] at h; cases h
theorem y4k {l m : List Int} (h : ¬ (l.length : Int) = m.length) : (l == m) = false := by
  cases hb : (l == m) with
  | false => rfl
  | true => exact absurd (by rw [eq_of_beq hb]) h
theorem y4z (B : List Nd -> List Nd) (l : List Fl) (x : Fl) : (l ++ [z3f B x]).map Fl.enc = l.map Fl.enc ++ [[vStr x.name, vInt x.ty, vInt x.params, ints x.types, z09 (B x.body)]] := by
  rw [List.map_append]; rfl
mutual
def cnN (k : Int) : Nd -> Nat
  | .mk kind _ _ _ _ _ _ ks => (if kind == k then 1 else 0) + (if kind == 10 then cnK k ks else 0)
def cnL (k : Int) : List Nd -> Nat
  | [] => 0
  | x :: r => cnN k x + cnL k r
def cnK (k : Int) : List (List Nd) -> Nat
  | [] => 0
  | l :: r => cnL k l + cnK k r
end
theorem z94 (k : Int) (x : Nd) : cnN k x = (if x.kind == k then 1 else 0) + (if x.kind == 10 then cnK k x.kids else 0) := by cases x; simp only [cnN]; rfl
theorem z6i (k : Int) : ∀ a b : List Nd, cnL k (a ++ b) = cnL k a + cnL k b
  | [], b => by simp [cnL]
  | x :: r, b => by simp only [List.cons_append, cnL, z6i k r b]; omega
def z0q (l : List Nd) : Int := match l.getLast? with
  | some x => x.kind
  | none => 0
def z1h (l : List Nd) : Bool := match l.getLast? with
  | some x => z04 x
  | none => false
def z29 (l : List Nd) : Bool := cnL 13 l == 0 && (cnL 14 l == 0 || (cnL 14 l == 1 && z0q l == 14))
def z2l : List Nd -> List Nd -> Bool
  | [x], [y] => x.kind == 12 && y.kind == 12 && x.args == y.args
  | _, _ => false
def z0n : List Int -> List Int -> TT -> TT
  | v :: l, t :: m, to => z0n l m (aPut v t to)
  | _, _, to => to
def z68 : List Nd -> List Int
  | x :: _ => x.args
  | [] => []
def z4a (l : List Nd) : List Int := match l.getLast? with
  | some x => x.args
  | none => []
def z71 (x : Nd) : Nd := if z04 x then .mk x.kind x.op x.n x.name x.args [] x.params x.kids else x
mutual
def tdN : Nd -> Nd
  | .mk kind op n name args outs params ks => z71 (.mk kind op n name args outs params (tdK ks))
def tdL : List Nd -> List Nd
  | [] => []
  | x :: r => if z04 (tdN x) then [tdN x] else tdN x :: tdL r
def tdK : List (List Nd) -> List (List Nd)
  | [] => []
  | l :: r => tdL l :: tdK r
end
theorem tdN_eq (x : Nd) : tdN x = z71 (.mk x.kind x.op x.n x.name x.args x.outs x.params (tdK x.kids)) := by cases x; simp only [tdN]; rfl
mutual
def trN (to : TT) : Nd -> List Nd × TT
  | .mk kind op n name args outs params ks =>
    if kind == 11 then
      (if z29 (kid0 ks) then
        (if z0q (kid0 (trKs (z0n params (args.map (z1k to)) to) ks).1) == 14 then
          ((kid0 (trKs (z0n params (args.map (z1k to)) to) ks).1).dropLast, z0n outs (z4a (kid0 (trKs (z0n params (args.map (z1k to)) to) ks).1)) (trKs (z0n params (args.map (z1k to)) to) ks).2)
        else (kid0 (trKs (z0n params (args.map (z1k to)) to) ks).1, (trKs (z0n params (args.map (z1k to)) to) ks).2))
      else ([.mk kind op n name (args.map (z1k to)) outs params (trKs to ks).1], (trKs to ks).2))
    else if kind == 10 then
      (if z2l (kid0 (trKs to ks).1) (kid1 (trKs to ks).1) then ([], z0n outs (z68 (kid0 (trKs to ks).1)) (trKs to ks).2)
      else ([.mk kind op n name (args.map (z1k to)) outs params (trKs to ks).1], (trKs to ks).2))
    else ([.mk kind op n name (args.map (z1k to)) outs params ks], to)
def trR (out : List Nd) (to : TT) : List Nd -> List Nd × TT
  | [] => (out, to)
  | x :: r => if z1h (out ++ (trN to x).1) then (out ++ (trN to x).1, (trN to x).2) else trR (out ++ (trN to x).1) (trN to x).2 r
def trKs (to : TT) : List (List Nd) -> List (List Nd) × TT
  | [] => ([], to)
  | l :: r => (tdL (trR [] to l).1 :: (trKs (trR [] to l).2 r).1, (trKs (trR [] to l).2 r).2)
end
def trL (to : TT) (l : List Nd) : List Nd × TT := (tdL (trR [] to l).1, (trR [] to l).2)
theorem z5k (to : TT) (l : List Nd) (r : List (List Nd)) : trKs to (l :: r) = ((trL to l).1 :: (trKs (trL to l).2 r).1, (trKs (trL to l).2 r).2) := by rw [trKs]; rfl
def trB (l : List Nd) : List Nd := (trL [] l).1
def trA (to : TT) (x : Nd) : Nd := .mk x.kind x.op x.n x.name (x.args.map (z1k to)) x.outs x.params x.kids
def z8l (to : TT) (x : Nd) : List Nd × TT :=
  if z29 (kid0 x.kids) then
    (if z0q (kid0 (trKs (z0n x.params x.args to) x.kids).1) == 14 then
      ((kid0 (trKs (z0n x.params x.args to) x.kids).1).dropLast, z0n x.outs (z4a (kid0 (trKs (z0n x.params x.args to) x.kids).1)) (trKs (z0n x.params x.args to) x.kids).2)
    else (kid0 (trKs (z0n x.params x.args to) x.kids).1, (trKs (z0n x.params x.args to) x.kids).2))
  else ([.mk x.kind x.op x.n x.name x.args x.outs x.params (trKs to x.kids).1], (trKs to x.kids).2)
def z6y (to : TT) (x : Nd) : List Nd × TT :=
  if z2l (kid0 (trKs to x.kids).1) (kid1 (trKs to x.kids).1) then ([], z0n x.outs (z68 (kid0 (trKs to x.kids).1)) (trKs to x.kids).2)
  else ([.mk x.kind x.op x.n x.name x.args x.outs x.params (trKs to x.kids).1], (trKs to x.kids).2)
theorem zo3 (to : TT) (x : Nd) : trN to x = if x.kind == 11 then z8l to (trA to x) else if x.kind == 10 then z6y to (trA to x) else ([trA to x], to) := by
  cases x; simp only [trN, z8l, z6y, trA, Nd.kind, Nd.op, Nd.n, Nd.name, Nd.args, Nd.outs, Nd.params, Nd.kids]; rfl
mutual
def gdN (to : TT) : Nd -> Bool
  | .mk kind op n name args outs params ks =>
    if kind == 11 then ks.length == 1 && decide (params.length <= args.length) &&
      (if z29 (kid0 ks) then gdKs (z0n params (args.map (z1k to)) to) ks && !(kid0 (trKs (z0n params (args.map (z1k to)) to) ks).1).isEmpty &&
          (z0q (kid0 (trKs (z0n params (args.map (z1k to)) to) ks).1) != 14 || decide (outs.length <= (z4a (kid0 (trKs (z0n params (args.map (z1k to)) to) ks).1)).length))
        else gdKs to ks)
    else if kind == 10 then ks.length == 2 && gdKs to ks && (!z2l (kid0 (trKs to ks).1) (kid1 (trKs to ks).1) || decide (outs.length <= (z68 (kid0 (trKs to ks).1)).length))
    else true
def gdR (out : List Nd) (to : TT) : List Nd -> Bool
  | [] => true
  | x :: r => gdN to x && (z1h (out ++ (trN to x).1) || gdR (out ++ (trN to x).1) (trN to x).2 r)
def gdKs (to : TT) : List (List Nd) -> Bool
  | [] => true
  | l :: r => gdR [] to l && gdKs (trR [] to l).2 r
end
theorem zv0 (to : TT) (x : Nd) : gdN to x =
    if x.kind == 11 then x.kids.length == 1 && decide (x.params.length <= x.args.length) &&
      (if z29 (kid0 x.kids) then gdKs (z0n x.params (trA to x).args to) x.kids && !(kid0 (trKs (z0n x.params (trA to x).args to) x.kids).1).isEmpty &&
          (z0q (kid0 (trKs (z0n x.params (trA to x).args to) x.kids).1) != 14 || decide (x.outs.length <= (z4a (kid0 (trKs (z0n x.params (trA to x).args to) x.kids).1)).length))
        else gdKs to x.kids)
    else if x.kind == 10 then x.kids.length == 2 && gdKs to x.kids && (!z2l (kid0 (trKs to x.kids).1) (kid1 (trKs to x.kids).1) || decide (x.outs.length <= (z68 (kid0 (trKs to x.kids).1)).length))
    else true := by
  cases x; simp only [gdN, trA, Nd.kind, Nd.args, Nd.outs, Nd.params, Nd.kids]; rfl
mutual
def zs5 : Nd -> Bool
  | .mk kind _ _ _ args outs params ks => (kind != 10 || ks.length == 2) && (kind != 11 || (ks.length == 1 && params.length == args.length)) && zz8 ks
def zd2 : List Nd -> Bool
  | [] => true
  | x :: r => zs5 x && zd2 r
def zz8 : List (List Nd) -> Bool
  | [] => true
  | l :: r => !l.isEmpty && zd2 l && zz8 r
end
theorem z87 (x : Nd) : zs5 x = ((x.kind != 10 || x.kids.length == 2) && (x.kind != 11 || (x.kids.length == 1 && x.params.length == x.args.length)) && zz8 x.kids) := by
  cases x; simp only [zs5]; rfl
theorem zk6 : ∀ {l : List Nd} {x : Nd}, zd2 l = true -> x ∈ l -> zs5 x = true
  | y :: r, x, hh, hx => by
    simp only [zd2, Bool.and_eq_true] at hh
    rcases List.mem_cons.1 hx with rfl | hx
    · exact hh.1
    · exact zk6 hh.2 hx
theorem z7v : ∀ {l : List (List Nd)} {x : List Nd}, zz8 l = true -> x ∈ l -> x ≠ [] /\ zd2 x = true
  | y :: r, x, hh, hx => by
    simp only [zz8, Bool.and_eq_true] at hh
    rcases List.mem_cons.1 hx with rfl | hx
    · exact ⟨by intro e; rw [e] at hh; simp at hh, hh.1.2⟩
    · exact z7v hh.2 hx
mutual
theorem y30 : ∀ x : Nd, z4h x = (cnN 14 x != 0)
  | .mk kind op n name args outs params ks => by
    have hk := zn3 ks
    simp only [z4h, cnN, hk]
    by_cases h14 : kind = 14
    ·subst h14; simp
    by_cases h10 : kind = 10
    ·subst h10; simp
    simp [h14, h10]
theorem z52 : ∀ l : List Nd, z1g l = (cnL 14 l != 0)
  | [] => rfl
  | x :: r => by
    simp only [z1g, cnL, y30 x, z52 r]
    rw [Bool.eq_iff_iff]
    simp only [Bool.or_eq_true, bne_iff_ne, ne_eq]
    omega
theorem zn3 : ∀ ks : List (List Nd), z2f ks = (cnK 14 ks != 0)
  | [] => rfl
  | l :: r => by
    simp only [z2f, cnK, z52 l, zn3 r]
    rw [Bool.eq_iff_iff]
    simp only [Bool.or_eq_true, bne_iff_ne, ne_eq]
    omega
end
def Cx13 (w w' : Wh) (n : Nat) : Prop := n = 0 ∨ (w'.Loop = w.Loop /\ w'.Next = w.Next)
def Cx14 (w w' : Wh) (n : Nat) : Prop := n = 0 ∨ (w'.Loop = w.Loop /\ w'.Left = w.Left)
def Cx12 (w w' : Wh) (x : Nd) : Prop := x.kind = 12 -> (w'.If = w.If /\ w'.Yield = w.Yield)
theorem Cx13.part {w w' : Wh} {n m : Nat} (h : Cx13 w w' n) (hm : n = 0 -> m = 0) : Cx13 w w' m := h.imp hm id
theorem Cx14.part {w w' : Wh} {n m : Nat} (h : Cx14 w w' n) (hm : n = 0 -> m = 0) : Cx14 w w' m := h.imp hm id
theorem y70 (u : Un) (f : Fl) (x : Nd) (s : List Int) (w w' : Wh) (h12 : Cx12 w w' x) (h13 : Cx13 w w' (cnN 13 x)) (h14 : Cx14 w w' (cnN 14 x)) : z77 u f x s w' = z77 u f x s w := by
  have e12 : (x.kind == 12) = true -> (w'.If = w.If /\ w'.Yield = w.Yield) := fun h => h12 (by simpa using h)
  have e13 : (x.kind == 13) = true -> (w'.Loop = w.Loop /\ w'.Next = w.Next) := fun h => h13.resolve_left (by rw [z94, if_pos h]; omega)
  have e14 : (x.kind == 14) = true -> (w'.Loop = w.Loop /\ w'.Left = w.Left) := fun h => h14.resolve_left (by rw [z94, if_pos h]; omega)
  unfold z77
  by_cases k12 : (x.kind == 12) = true
  ·obtain ⟨a, b⟩ := e12 k12
   rw [a, b]
   have k13 : (x.kind == 13) = false := by simp at k12 ⊢; omega
   have k14 : (x.kind == 14) = false := by simp at k12 ⊢; omega
   simp only [k12, k13, k14, if_true, Bool.false_eq_true, if_false]
  by_cases k13 : (x.kind == 13) = true
  ·obtain ⟨a, b⟩ := e13 k13
   rw [a, b]
   have k12' : (x.kind == 12) = false := by simpa using k12
   have k14 : (x.kind == 14) = false := by simp at k13 ⊢; omega
   simp only [k12', k13, k14, if_true, Bool.false_eq_true, if_false]
  by_cases k14 : (x.kind == 14) = true
  ·obtain ⟨a, b⟩ := e14 k14
   rw [a, b]
   have k12' : (x.kind == 12) = false := by simpa using k12
   have k13' : (x.kind == 13) = false := by simpa using k13
   simp only [k12', k13', k14, if_true, Bool.false_eq_true, if_false]
  have k12' : (x.kind == 12) = false := by simpa using k12
  have k13' : (x.kind == 13) = false := by simpa using k13
  have k14' : (x.kind == 14) = false := by simpa using k14
  simp only [k12', k13', k14', Bool.false_eq_true, if_false]
mutual
theorem y2c (u : Un) (f : Fl) : ∀ (x : Nd) (deep deep' : Int) (w w' : Wh) (all : List Int), deep' <= deep -> Cx12 w w' x -> Cx13 w w' (cnN 13 x) -> Cx14 w w' (cnN 14 x) -> z42 u f deep w all x = true -> z42 u f deep' w' all x = true
  | .mk kind op n name args outs params ks, deep, deep', w, w', all, hd, h12, h13, h14, hv => by
    have hb := z2j u f deep _ all hv
    by_cases h10 : kind = 10
    ·obtain ⟨a, b, hk⟩ := z30 hb h10
     rw [z4z u f deep w all hb h10 hk] at hv
     rw [z4z u f deep' w' all hb h10 hk]
     simp only [Bool.and_eq_true, z3z] at hv ⊢
     simp only [Nd.kids] at hk
     match ks, hk with
     | [a', b'], hk =>
       cases hk
       subst h10
       have z13 : ∀ {c : Nat}, cnN 13 (.mk 10 op n name args outs params [a, b]) = 0 -> (cnL 13 a = 0 /\ cnL 13 b = 0) := fun {_} h => by simp only [cnN, cnK] at h; simp at h; exact h
       have z14 : ∀ {c : Nat}, cnN 14 (.mk 10 op n name args outs params [a, b]) = 0 -> (cnL 14 a = 0 /\ cnL 14 b = 0) := fun {_} h => by simp only [cnN, cnK] at h; simp at h; exact h
       have A := zv1 u f a (deep + 1) (deep' + 1) (w1 w f (.mk 10 op n name args outs params [a, b])) (w1 w' f (.mk 10 op n name args outs params [a, b])) all oM0 (fun _ _ _ => ⟨rfl, rfl⟩) (h13.imp (fun h => (z13 (c := 0) h).1) id) (h14.imp (fun h => (z14 (c := 0) h).1) id) hv.1.1.1.2.2
       have B := zv1 u f b (deep + 1) (deep' + 1) (w1 w f (.mk 10 op n name args outs params [a, b])) (w1 w' f (.mk 10 op n name args outs params [a, b])) all oM0 (fun _ _ _ => ⟨rfl, rfl⟩) (h13.imp (fun h => (z13 (c := 0) h).2) id) (h14.imp (fun h => (z14 (c := 0) h).2) id) hv.1.1.2.2
       exact ⟨⟨⟨⟨hv.1.1.1.1, hv.1.1.1.2.1, A⟩, hv.1.1.2.1, B⟩, hv.1.2⟩, hv.2⟩
    by_cases h11 : kind = 11
    ·obtain ⟨a, hk⟩ := z21 hb h11
     rw [z38 u f deep w all hb h11 hk] at hv
     rw [z38 u f deep' w' all hb h11 hk]
     simp only [Bool.and_eq_true, z3z] at hv ⊢
     simp only [Nd.kids] at hk
     match ks, hk with
     | [a'], hk =>
       cases hk
       have A := zv1 u f a (deep + 1) (deep' + 1) (w2 f (.mk kind op n name args outs params [a])) (w2 f (.mk kind op n name args outs params [a])) (all ++ params) oM0 (fun _ _ _ => ⟨rfl, rfl⟩) (.inr ⟨rfl, rfl⟩) (.inr ⟨rfl, rfl⟩) hv.1.1.2.2
       exact ⟨⟨⟨hv.1.1.1, hv.1.1.2.1, A⟩, hv.1.2⟩, hv.2⟩
    have e10 : (kind == 10) = false := by simpa using h10
    have e11 : (kind == 11) = false := by simpa using h11
    rw [z26 u f deep w all hb e10 e11] at hv
    rw [z26 u f deep' w' all hb e10 e11, y70 u f _ all w w' h12 h13 h14]
    exact hv
theorem zv1 (u : Un) (f : Fl) : ∀ (l : List Nd) (deep deep' : Int) (w w' : Wh) (all : List Int), deep' <= deep -> (∀ x ∈ l, Cx12 w w' x) -> Cx13 w w' (cnL 13 l) -> Cx14 w w' (cnL 14 l) -> vGo u f deep w all l = true -> vGo u f deep' w' all l = true
  | [], _, _, _, _, _, _, _, _, _, _ => by simp [vGo]
  | x :: r, deep, deep', w, w', all, hd, h12, h13, h14, hv => by
    simp only [vGo, Bool.and_eq_true] at hv ⊢
    simp only [cnL] at h13 h14
    refine ⟨⟨⟨?_, y2c u f x deep deep' w w' all hd (h12 x (.head _)) (h13.part oM0) (h14.part oM0) hv.1.1.2⟩, hv.1.2⟩, zv1 u f r deep deep' w w' _ hd (fun y hy => h12 y (.tail _ hy)) (h13.part oM0) (h14.part oM0) hv.2⟩
    have := hv.1.1.1
    simp only [Bool.not_eq_true', decide_eq_false_iff_not] at this ⊢
    omega
end
theorem y3f {x : Nd} (h : z04 x = false) : x.kind ≠ 12 /\ x.kind ≠ 13 /\ x.kind ≠ 14 := by
  refine ⟨fun e => ?_, fun e => ?_, fun e => ?_⟩ <;> (unfold z04 at h; simp [e, z16] at h)
theorem y61 (u : Un) (f : Fl) : ∀ (l : List Nd) (deep deep' : Int) (w w' : Wh) (all : List Int), deep' <= deep -> Cx13 w w' (cnL 13 l) -> Cx14 w w' (cnL 14 l) -> vPre u f deep w all l = true -> vPre u f deep' w' all l = true
  | [], _, _, _, _, _, _, _, _, _ => rfl
  | x :: r, deep, deep', w, w', all, hd, h13, h14, hv => by
    simp only [vPre, Bool.and_eq_true] at hv ⊢
    simp only [cnL] at h13 h14
    refine ⟨⟨⟨?_, y2c u f x deep deep' w w' all hd (fun e => absurd e (y3f (by simpa using hv.1.2)).1) (h13.part oM0) (h14.part oM0) hv.1.1.2⟩, hv.1.2⟩, y61 u f r deep deep' w w' _ hd (h13.part oM0) (h14.part oM0) hv.2⟩
    have := hv.1.1.1
    simp only [Bool.not_eq_true', decide_eq_false_iff_not] at this ⊢
    omega
theorem y0e {u : Un} {f : Fl} {deep : Int} {w : Wh} {all : List Int} {x : Nd} (hv : z42 u f deep w all x = true) (hc : z04 x = true) : x.outs = [] := by
  have hb := z2j u f deep _ all hv
  have ok : zh9 x = true -> x.outs = [] := fun h => by
    unfold zh9 at h
    rw [hc] at h
    simp only [Bool.not_true, Bool.or_false, beq_iff_eq] at h
    exact List.eq_nil_of_length_eq_zero oM0
  by_cases h10 : x.kind = 10
  ·obtain ⟨a, b, hk⟩ := z30 hb h10
   rw [z4z u f deep w all hb h10 hk] at hv
   simp only [Bool.and_eq_true] at hv
   exact ok hv.1.2
  by_cases h11 : x.kind = 11
  ·obtain ⟨a, hk⟩ := z21 hb h11
   rw [z38 u f deep w all hb h11 hk] at hv
   simp only [Bool.and_eq_true] at hv
   exact ok hv.1.2
  have e10 : (x.kind == 10) = false := by simpa using h10
  have e11 : (x.kind == 11) = false := by simpa using h11
  rw [z26 u f deep w all hb e10 e11] at hv
  have hE : z16 x.kind = true := by
    unfold z04 at hc
    simpa only [e10, e11, Bool.false_and, Bool.false_eq_true, if_false] using hc
  have hk : x.kind = 12 ∨ x.kind = 13 ∨ x.kind = 14 ∨ x.kind = 15 := by
    simp only [z16, Bool.or_eq_true, Bool.and_eq_true, beq_iff_eq, decide_eq_true_eq] at hE
    omega
  have hz : ∀ b : Bool, SForm.ok ⟨b, none⟩ f.types x.outs = true -> x.outs = [] := fun b h => by
    simp only [SForm.ok, Bool.and_eq_true, beq_iff_eq] at h
    exact List.eq_nil_of_length_eq_zero oM0
  unfold z77 at hv
  rcases hk with e | e | e | e <;> (simp only [e] at hv; exact hz _ hv)
theorem y0s {x : Nd} (h : z04 x = true -> x.outs = []) : z71 x = x := by
  unfold z71
  split
  ·rename_i hc
   cases x
   simp only [Nd.outs] at h
   rw [h hc]; rfl
  rfl
mutual
theorem tidyN (u : Un) (f : Fl) : ∀ (x : Nd) (deep : Int) (w : Wh) (all : List Int), z42 u f deep w all x = true -> tdN x = x
  | .mk kind op n name args outs params ks, deep, w, all, hv => by
    have hb := z2j u f deep _ all hv
    have fin : tdK ks = ks -> tdN (.mk kind op n name args outs params ks) = .mk kind op n name args outs params ks := fun h => by
      unfold tdN
      rw [h]
      exact y0s fun hc => y0e hv hc
    apply fin
    by_cases h10 : kind = 10
    ·obtain ⟨a, b, hk⟩ := z30 hb h10
     rw [z4z u f deep w all hb h10 hk] at hv
     simp only [Bool.and_eq_true, z3z] at hv
     simp only [Nd.kids] at hk
     match ks, hk with
     | [a', b'], hk =>
       cases hk
       simp only [tdK, y7c u f a _ _ _ hv.1.1.1.2.2, y7c u f b _ _ _ hv.1.1.2.2]
    by_cases h11 : kind = 11
    ·obtain ⟨a, hk⟩ := z21 hb h11
     rw [z38 u f deep w all hb h11 hk] at hv
     simp only [Bool.and_eq_true, z3z] at hv
     simp only [Nd.kids] at hk
     match ks, hk with
     | [a'], hk =>
       cases hk
       simp only [tdK, y7c u f a _ _ _ hv.1.1.2.2]
    have e10 : (kind == 10) = false := by simpa using h10
    have e11 : (kind == 11) = false := by simpa using h11
    have hk0 : ks = [] := z7y hb e10 e11
    rw [hk0]; simp [tdK]
theorem y7c (u : Un) (f : Fl) : ∀ (l : List Nd) (deep : Int) (w : Wh) (all : List Int), vGo u f deep w all l = true -> tdL l = l
  | [], _, _, _, _ => by simp [tdL]
  | x :: r, deep, w, all, hv => by
    simp only [vGo, Bool.and_eq_true, beq_iff_eq] at hv
    have h1 := tidyN u f x deep w all hv.1.1.2
    have h2 := y7c u f r deep w _ hv.2
    unfold tdL
    rw [h1, h2]
    cases hc : z04 x with
    | false => simp
    | true =>
      rw [hc] at hv
      have : r = [] := by
        have := hv.1.2
        cases r with
        | nil => rfl
        | cons _ _ => simp at this
      simp [this]
end
theorem Rel.mono {tys all all' : List Int} {to : TT} (h : Rel tys to all all') (c : List Int) : Rel tys to all (all' ++ c) := fun v hv h0 h1 => (h v hv h0 h1).mono c
theorem z49 : ∀ (l m : List Int) (to : TT) (v : Int), v ∉ l -> aGet v (z0n l m to) = aGet v to
  | [], _, _, _, _ => by simp [z0n]
  | _ :: _, [], _, _, _ => by simp [z0n]
  | a :: l, t :: m, to, v, h => by
    simp only [List.mem_cons, not_or] at h
    simp only [z0n]
    rw [z49 l m _ v h.2, zo7, if_neg h.1]
theorem zo2 {tys all' : List Int} : ∀ (l m : List Int) (to : TT), l.Nodup -> l.length = m.length -> z15 tys all' m (l.map fun v => tys.getD v.toNat 0) = true -> ∀ v ∈ l, ∃ t, aGet v (z0n l m to) = some t /\ z5s tys all' t (tys.getD v.toNat 0) = true
  | [], _, _, _, _, _, v, hv => by simp at hv
  | _ :: _, [], _, _, hl, _, _, _ => by simp at hl
  | a :: l, t :: m, to, hn, hl, h, v, hv => by
    simp only [List.map_cons, z15, Bool.and_eq_true] at h
    obtain ⟨hn1, hn2⟩ := List.nodup_cons.1 hn
    simp only [z0n]
    rcases List.mem_cons.1 hv with rfl | hv
    ·exact ⟨t, by rw [z49 l m _ v hn1, zo7, if_pos rfl], h.1⟩
    exact zo2 l m _ hn2 (by simpa using hl) h.2 v hv
theorem y7e {tys l : List Int} (h : inR tys.length l) : r8of tys l = l.map fun v => tys.getD v.toNat 0 := by
  unfold r8of
  rw [if_pos]
  rw [List.all_eq_true]
  intro v hv
  simp only [z76, Bool.and_eq_true, decide_eq_true_eq]
  exact h v hv
theorem z5m {tys all l to : List Int} (hr : inR tys.length to) (h : z0b tys all l (r8of tys to) = true) : l.length = to.length := by
  rw [y7e hr] at h
  unfold z0b at h
  simp only [Bool.and_eq_true, List.length_map, beq_iff_eq] at h
  omega
theorem zk4 {tys all all' l m : List Int} {to : TT} (hty : ∀ v : Int, 0 <= v -> v < tys.length -> tys.getD v.toNat 0 ≠ 0) (hr : Rel tys to all all') (hn : l.Nodup) (hin : inR tys.length l) (h : z0b tys all' m (r8of tys l) = true) : Rel tys (z0n l m to) (all ++ l) all' := fun v hv h0 h1 => by
  have hl := z5m hin h
  rw [y7e hin] at h
  unfold z0b at h
  simp only [Bool.and_eq_true] at h
  by_cases hm : v ∈ l
  ·obtain ⟨t, h2, h3⟩ := zo2 l m to hn hl.symm h.2 v hm
   obtain ⟨u1, u2, u3, u4⟩ := zl0.1 h3
   have e : z1k (z0n l m to) v = t := by unfold z1k; rw [h2]; rfl
   rw [e]
   exact ⟨u1, u2, u3, u4.resolve_left (hty v h0 h1)⟩
  have e : z1k (z0n l m to) v = z1k to v := by unfold z1k; rw [z49 l m to v hm]
  rw [e]
  refine hr v ?_ h0 h1
  rw [List.contains_append, Bool.or_eq_true] at hv
  exact hv.resolve_right fun hc => hm (List.contains_iff_mem.1 hc)
def HT (f : Fl) : Prop := ∀ v : Int, 0 <= v -> v < f.types.length -> f.types.getD v.toNat 0 ≠ 0
theorem z5y {A B : List Nd} (h : B ≠ []) : z0q (A ++ B) = z0q B := by unfold z0q; rw [y26 h]
theorem zl5 {A B : List Nd} (h : B ≠ []) : z1h (A ++ B) = z1h B := by unfold z1h; rw [y26 h]
theorem z4d (x : Nd) : z0q [x] = x.kind := rfl
theorem zp8 {l : List Nd} (h : l ≠ []) : ∃ x ∈ l, l.getLast? = some x := by
  cases hg : l.getLast? with
  | none => exact absurd (List.getLast?_eq_none_iff.1 hg) h
  | some x => exact ⟨x, List.mem_of_getLast? hg, rfl⟩
theorem zp7 {l : List Nd} (h : ∀ y ∈ l, z04 y = false) : z1h l = false := by
  by_cases e : l = []
  ·subst e; rfl
  obtain ⟨x, hx, hg⟩ := zp8 e
  unfold z1h
  rw [hg]; exact h x hx
theorem y62 {u : Un} {f : Fl} {deep : Int} {w : Wh} : ∀ {l : List Nd} {all : List Int}, vPre u f deep w all l = true -> ∀ y ∈ l, z04 y = false
  | x :: r, all, h, y, hy => by
    simp only [vPre, Bool.and_eq_true] at h
    rcases List.mem_cons.1 hy with rfl | hy
    ·simpa using h.1.2
    exact y62 h.2 y hy
theorem pre_open {u : Un} {f : Fl} {deep : Int} {w : Wh} {M out : List Nd} {all : List Int} (h : vPre u f deep w all M = true) (ho : z1h out = false) : z1h (out ++ M) = false := by
  by_cases e : M = []
  ·subst e; simpa using ho
  rw [zl5 e]; exact zp7 (y62 h)
theorem y5a {u : Un} {f : Fl} {deep : Int} {w : Wh} : ∀ {l : List Nd} {all : List Int}, vGo u f deep w all l = true -> ∀ y ∈ l, ∃ s, z42 u f deep w s y = true
  | x :: r, all, h, y, hy => by
    simp only [vGo, Bool.and_eq_true] at h
    rcases List.mem_cons.1 hy with rfl | hy
    ·exact ⟨_, h.1.1.2⟩
    exact y5a h.2 y hy
theorem y20 {u : Un} {f : Fl} {deep : Int} {w : Wh} {e : Nd} : ∀ {A : List Nd} {all : List Int}, vGo u f deep w all (A ++ [e]) = true -> vPre u f deep w all A = true /\ z42 u f deep w (all ++ A.flatMap Nd.outs) e = true
  | [], all, h => by
    simp only [List.nil_append, vGo, Bool.and_eq_true] at h
    exact ⟨rfl, by simpa using h.1.1.2⟩
  | x :: r, all, h => by
    simp only [List.cons_append, vGo, Bool.and_eq_true] at h
    obtain ⟨h1, h2⟩ := y20 h.2
    have hc : z04 x = false := by
      have := h.1.2
      cases r <;> simpa using this
    simp only [vPre, Bool.and_eq_true, List.flatMap_cons]
    exact ⟨⟨⟨h.1.1, by rw [hc]; rfl⟩, h1⟩, by rw [<- List.append_assoc]; exact h2⟩
theorem form12 {u : Un} {f : Fl} {x : Nd} {s : List Int} {w : Wh} (h : x.kind = 12) : z77 u f x s w = ⟨w.If && z0b f.types s x.args w.Yield, none⟩ := by unfold z77; simp [h]
theorem form14 {u : Un} {f : Fl} {x : Nd} {s : List Int} {w : Wh} (h : x.kind = 14) : z77 u f x s w = ⟨w.Loop && z0b f.types s x.args w.Left, none⟩ := by unfold z77; simp [h]
theorem node12 {u : Un} {f : Fl} {deep : Int} {w : Wh} {s : List Int} {x : Nd} (h : z42 u f deep w s x = true) (hk : x.kind = 12) : w.If = true /\ z0b f.types s x.args w.Yield = true := by
  rw [z26 u f deep w s (z2j u f deep w s h) (by simp [hk]) (by simp [hk]), form12 hk] at h
  simp only [SForm.ok, Bool.and_eq_true] at h
  exact h.1
theorem node14 {u : Un} {f : Fl} {deep : Int} {w : Wh} {s : List Int} {x : Nd} (h : z42 u f deep w s x = true) (hk : x.kind = 14) : z0b f.types s x.args w.Left = true := by
  rw [z26 u f deep w s (z2j u f deep w s h) (by simp [hk]) (by simp [hk]), form14 hk] at h
  simp only [SForm.ok, Bool.and_eq_true] at h
  exact h.1.2
theorem no12 {u : Un} {f : Fl} {deep : Int} {w : Wh} {l : List Nd} {all : List Int} (hw : w.If = false) (h : vGo u f deep w all l = true) : ∀ y ∈ l, y.kind ≠ 12 := fun y hy e => by
  obtain ⟨s, hs⟩ := y5a h y hy
  have := (node12 hs e).1
  rw [hw] at this; cases this
theorem y0n : ∀ {l : List Nd} {k : Int}, k = 13 ∨ k = 14 -> z0q l = k -> 1 <= cnL k l := fun {l k} hk h => by
  have hne : l ≠ [] := by intro e; subst e; simp [z0q] at h; omega
  obtain ⟨x, hx, hg⟩ := zp8 hne
  have e : l = l.dropLast ++ [x] := by
    have := List.dropLast_concat_getLast hne
    rw [List.getLast?_eq_some_getLast hne] at hg
    rw [Option.some.inj hg] at this
    exact this.symm
  unfold z0q at h
  rw [hg] at h
  rw [e, z6i]
  simp only [cnL, z94]
  rw [if_pos (by simpa using h)]
  omega
theorem za0 {l : List Nd} (hne : l ≠ []) : ∃ A e, l = A ++ [e] /\ l.dropLast = A /\ z0q l = e.kind /\ z4a l = e.args := by
  obtain ⟨x, hx, hg⟩ := zp8 hne
  have e : l = l.dropLast ++ [x] := by
    have := List.dropLast_concat_getLast hne
    rw [List.getLast?_eq_some_getLast hne] at hg
    rw [Option.some.inj hg] at this
    exact this.symm
  exact ⟨l.dropLast, x, e, rfl, by unfold z0q; rw [hg], by unfold z4a; rw [hg]⟩
def zp5 : List (List Nd) -> Bool
  | [a, b] => z2l a b
  | _ => false
def y3e : List (List Nd) -> Bool
  | [a] => !a.isEmpty && z29 a
  | _ => false
mutual
def fiN : Nd -> Bool
  | .mk kind _ _ _ _ _ _ ks => !(kind == 10 && zp5 ks) && !(kind == 11 && y3e ks) && fiK ks
def fiL : List Nd -> Bool
  | [] => true
  | x :: r => fiN x && fiL r
def fiK : List (List Nd) -> Bool
  | [] => true
  | l :: r => fiL l && fiK r
end
theorem y1x (x : Nd) : fiN x = (!(x.kind == 10 && zp5 x.kids) && !(x.kind == 11 && y3e x.kids) && fiK x.kids) := by cases x; simp only [fiN, Nd.kind, Nd.kids]
theorem y0h : ∀ a b : List Nd, fiL (a ++ b) = (fiL a && fiL b)
  | [], b => by simp [fiL]
  | x :: r, b => by simp only [List.cons_append, fiL, y0h r b, Bool.and_assoc]
structure TPost (u : Un) (f : Fl) (deep : Int) (w : Wh) (all' : List Int) (to : TT) (l N : List Nd) (to' : TT) : Prop where
  run : ∀ out, z1h out = false -> trR out to l = (out ++ N, to')
  good : ∀ out, z1h out = false -> gdR out to l = true
  valid : vGo u f deep w all' N = true
  ne : N ≠ []
  l12 : z0q N = 12 ↔ z0q l = 12
  l14 : z0q N = 14 ↔ z0q l = 14
  cn : ∀ k, k = 13 ∨ k = 14 -> cnL k N = cnL k l
  keys : ∀ v, v ∉ dL l -> aGet v to' = aGet v to
  fine : fiL N = true
theorem TPost.raw {u : Un} {f : Fl} {deep : Int} {w : Wh} {all' : List Int} {to to' : TT} {l N : List Nd} (h : TPost u f deep w all' to l N to') : trR [] to l = (N, to') := by
  have := h.run [] rfl; simpa using this
theorem TPost.tr {u : Un} {f : Fl} {deep : Int} {w : Wh} {all' : List Int} {to to' : TT} {l N : List Nd} (h : TPost u f deep w all' to l N to') : trL to l = (N, to') := by
  unfold trL
  rw [h.raw]
  simp only [y7c u f N deep w all' h.valid]
def TP (u : Un) (f : Fl) (l : List Nd) : Prop := ∀ (deep : Int) (w : Wh) (all all' : List Int) (to : TT), HT f -> l ≠ [] -> (dL l).Nodup -> (∀ v ∈ dL l, all.contains v = false) -> (∀ v ∈ dL l, aGet v to = none) ->
  Rel f.types to all all' -> vGo u f deep w all l = true -> ∃ N to', TPost u f deep w all' to l N to'
structure NPost (u : Un) (f : Fl) (deep : Int) (w : Wh) (all all' : List Int) (to : TT) (x : Nd) (M : List Nd) (to' : TT) : Prop where
  run : trN to x = (M, to')
  good : gdN to x = true
  keys : ∀ v, v ∉ dN x -> aGet v to' = aGet v to
  cn : ∀ k, k = 13 ∨ k = 14 -> cnL k M = cnN k x
  fine : fiL M = true
  post : (z04 x = true /\ vGo u f deep w all' M = true /\ M ≠ [] /\ (z0q M = 12 ↔ x.kind = 12) /\ (z0q M = 14 ↔ x.kind = 14)) ∨
    (z04 x = false /\ vPre u f deep w all' M = true /\ Rel f.types to' (all ++ x.outs) (all' ++ M.flatMap Nd.outs))
theorem zh2 {u : Un} {f : Fl} {deep : Int} {w : Wh} {all all' : List Int} {to to' : TT} {x y : Nd} (hd : ¬ deep > 100) (run : trN to x = ([y], to')) (good : gdN to x = true) (keys : ∀ v, v ∉ dN x -> aGet v to' = aGet v to)
    (cn : ∀ k, k = 13 ∨ k = 14 -> cnN k y = cnN k x) (hf : fiN y = true) (hv : z42 u f deep w all' y = true) (hc : z04 y = z04 x) (hk : y.kind = x.kind) (ho : y.outs = x.outs) (hr : Rel f.types to' (all ++ x.outs) (all' ++ x.outs)) : NPost u f deep w all all' to x [y] to' := by
  refine ⟨run, good, keys, fun k h => by simp only [cnL, cn k h, Nat.add_zero], by simp only [fiL, hf, Bool.and_true], ?_⟩
  cases hx : z04 x with
  | true =>
    refine .inl ⟨rfl, ?_, by simp, by rw [z4d, hk], by rw [z4d, hk]⟩
    simp only [vGo, Bool.and_eq_true, hc, hx, hv]
    simp [hd]
  | false =>
    refine .inr ⟨rfl, ?_, by simpa [ho] using hr⟩
    simp only [vPre, Bool.and_eq_true, hc, hx, hv]
    simp [hd]
theorem zf3 {x : Nd} {a b : List Nd} (hk : x.kind = 10) (h : x.kids = [a, b]) : z04 x = (z3v a != 12 && z3v b != 12) := by
  unfold z04; rw [hk, h]; rfl
theorem z6h {x : Nd} {a : List Nd} (hk : x.kind = 11) (h : x.kids = [a]) : z04 x = !z1g a := by
  unfold z04; rw [hk, h]; rfl
theorem zr1 (l : List Nd) : z3v l = 12 ↔ z0q l = 12 := by
  unfold z3v z0q
  cases l.getLast? with
  | none => simp
  | some x =>
    dsimp only
    by_cases h : x.kind = 12
    ·simp [h, z16]
    by_cases h2 : z16 x.kind = true
    ·rw [if_pos h2]
    rw [if_neg h2]
    constructor
    ·intro e; cases e
    intro e; exact absurd e h
theorem zv8 {a b : List Nd} (h : z0q a = 12 ↔ z0q b = 12) : (z3v a != 12) = (z3v b != 12) := by
  have h2 := (zr1 a).trans (h.trans (zr1 b).symm)
  by_cases e : z3v a = 12
  ·rw [e, h2.1 e]
  have e2 : ¬ z3v b = 12 := fun q => e (h2.2 q)
  have a1 : (z3v a != 12) = true := bne_iff_ne.2 e
  have b1 : (z3v b != 12) = true := bne_iff_ne.2 e2
  rw [a1, b1]
theorem y5h {a b : List Nd} (h : cnL 14 a = cnL 14 b) : z1g a = z1g b := by rw [z52, z52, h]
theorem if_t (u : Un) (f : Fl) (x : Nd) (ih : ∀ q ∈ x.kids, TP u f q) (deep : Int) (w : Wh) (all all' : List Int) (to : TT) (hty : HT f) (hd : ¬ deep > 100) (hnd : (dN x).Nodup) (hall : ∀ v ∈ dN x, all.contains v = false) (hto : ∀ v ∈ dN x, aGet v to = none)
    (hr : Rel f.types to all all') (hv : z42 u f deep w all x = true) (h10 : x.kind = 10) : ∃ M to', NPost u f deep w all all' to x M to' := by
  have hb := z2j u f deep _ all hv
  obtain ⟨a, b, hk⟩ := z30 hb h10
  rw [z4z u f deep w all hb h10 hk] at hv
  simp only [Bool.and_eq_true] at hv
  have hdn : dN x = dL a ++ (dL b ++ x.outs) := dN_if hb h10 hk
  rw [hdn] at hnd hall hto
  obtain ⟨n1, n2, n3⟩ := List.nodup_append.1 hnd
  obtain ⟨n4, n5, n6⟩ := List.nodup_append.1 n2
  have hva := hv.1.1.1.2
  have hvb := hv.1.1.2
  simp only [z3z, Bool.and_eq_true] at hva hvb
  obtain ⟨Na, to1, pa⟩ := ih a (by rw [hk]; simp) (deep + 1) (w1 w f x) all all' to hty (by intro e; subst e; simp at hva) n1 (fun v hv => hall v (by simp [hv])) (fun v hv => hto v (by simp [hv])) hr hva.2
  have hrb : Rel f.types to1 all all' := hr.congr fun v hv => pa.keys v fun hm => by
    have := hall v (by simp [hm]); rw [hv] at this; cases this
  obtain ⟨Nb, to2, pb⟩ := ih b (by rw [hk]; simp) (deep + 1) (w1 w f x) all all' to1 hty (by intro e; subst e; simp at hvb) n4 (fun v hv => hall v (by simp [hv])) (fun v hv => (pa.keys v fun hm => n3 v hm v (by simp [hv]) rfl).trans (hto v (by simp [hv]))) hrb hvb.2
  have hrc : Rel f.types to2 all all' := hrb.congr fun v hv => pb.keys v fun hm => by
    have := hall v (by simp [hm]); rw [hv] at this; cases this
  have hks : trKs to x.kids = ([Na, Nb], to2) := by
    rw [hk, z5k, pa.tr, z5k, pb.tr]; rfl
  have hgk : gdKs to x.kids = true := by
    rw [hk]
    simp only [gdKs, pa.good [] rfl, pa.raw, pb.good [] rfl, Bool.and_true]
  have hkeys : ∀ v, v ∉ dN x -> aGet v to2 = aGet v to := fun v hv => by
    rw [hdn] at hv
    simp only [List.mem_append, not_or] at hv
    rw [pb.keys v hv.2.1, pa.keys v hv.1]
  have h10b : (x.kind == 10) = true := by simp [h10]
  have h11b : (x.kind == 11) = false := by simp [h10]
  have hcx : ∀ k, k = 13 ∨ k = 14 -> cnN k x = cnL k Na + cnL k Nb := fun k hk2 => by
    rw [z94, if_neg (by rw [h10]; rcases hk2 with rfl | rfl <;> decide), if_pos h10b, hk, pa.cn k hk2, pb.cn k hk2]
    simp [cnK]
  have hrun := zo3 to x
  rw [if_neg (by simp [h11b]), if_pos h10b] at hrun
  have hkk : (trA to x).kids = x.kids := rfl
  unfold z6y at hrun
  rw [hkk, hks] at hrun
  have hgood : gdN to x = (true && true && (!z2l Na Nb || decide (x.outs.length <= (z68 Na).length))) := by
    rw [zv0, if_neg (by simp [h11b]), if_pos h10b, hgk, hks, hk]; rfl
  by_cases hid : z2l Na Nb = true
  ·rw [if_pos (show z2l (kid0 [Na, Nb]) (kid1 [Na, Nb]) = true from hid)] at hrun
   match hNa : Na, hNb : Nb, hid with
   | [ya], [yb], hid =>
     subst hNa hNb
     simp only [z2l, Bool.and_eq_true, beq_iff_eq] at hid
     obtain ⟨s, hya⟩ := y5a pa.valid ya (.head _)
     have hva2 := pa.valid
     simp only [vGo, Bool.and_eq_true] at hva2
     have hty2 := (node12 hva2.1.1.2 hid.1.1).2
     have hin : inR f.types.length x.outs := z2b hv.2
     have hlen := z5m hin hty2
     have hca : cnN 13 ya = 0 /\ cnN 14 ya = 0 /\ cnN 13 yb = 0 /\ cnN 14 yb = 0 := by
       refine ⟨?_, ?_, ?_, ?_⟩ <;> (rw [z94]; simp [hid.1.1, hid.1.2])
     refine ⟨[], z0n x.outs ya.args to2, hrun, ?_, fun v hv => ?_, fun k hk2 => ?_, rfl, .inr ⟨?_, rfl, ?_⟩⟩
     ·rw [hgood]
      rw [Bool.true_and, Bool.true_and, Bool.or_eq_true]
      exact .inr (decide_eq_true (show x.outs.length <= ya.args.length by omega))
     ·rw [z49 _ _ _ v (fun hm => hv (by rw [hdn]; simp [hm]))]
      exact hkeys v hv
     ·rw [hcx k hk2]
      rcases hk2 with rfl | rfl <;> simp [cnL, hca]
     ·rw [zf3 h10 hk]
      have : z3v a = 12 := (zr1 a).2 (pa.l12.1 (by rw [z4d]; exact hid.1.1))
      rw [this]; rfl
     simpa using zk4 hty hrc n5 hin hty2
  have hid2 : z2l Na Nb = false := by simpa using hid
  rw [if_neg (show ¬ z2l (kid0 [Na, Nb]) (kid1 [Na, Nb]) = true from hid)] at hrun
  have hvo : (z5n f.types x.outs (zer x.outs)) = true := hv.2
  have hcl : z04 (.mk x.kind x.op x.n x.name (x.args.map (z1k to)) x.outs x.params [Na, Nb]) = z04 x := by
    rw [zf3 h10 hk, zf3 (x := .mk x.kind x.op x.n x.name (x.args.map (z1k to)) x.outs x.params [Na, Nb]) h10 rfl, zv8 pa.l12, zv8 pb.l12]
  refine ⟨[.mk x.kind x.op x.n x.name (x.args.map (z1k to)) x.outs x.params [Na, Nb]], to2, zh2 hd hrun ?_ hkeys (fun k hk2 => ?_) ?_ ?_ hcl rfl rfl ?_⟩
  ·rw [hgood, hid2]; rfl
  ·rw [hcx k hk2]
   show cnN k (.mk x.kind x.op x.n x.name (x.args.map (z1k to)) x.outs x.params [Na, Nb]) = _
   unfold cnN
   rw [if_neg (by rw [h10]; rcases hk2 with rfl | rfl <;> decide), if_pos h10b]
   simp [cnK]
  ·rw [y1x]
   show (!(x.kind == 10 && z2l Na Nb) && !(x.kind == 11 && false) && fiK [Na, Nb]) = true
   rw [hid2]
   simp only [fiK, pa.fine, pb.fine, Bool.and_false, Bool.and_true, Bool.not_false]
  ·have hb2 : z0k (.mk x.kind x.op x.n x.name (x.args.map (z1k to)) x.outs x.params [Na, Nb]) = true := by
     have := hb
     cases x
     simp only [Nd.kids] at hk
     subst hk
     exact this
   rw [z4z u f deep w all' hb2 h10 rfl]
   simp only [Bool.and_eq_true, z3z]
   have hne : ∀ {N : List Nd}, N ≠ [] -> (!N.isEmpty) = true := fun {N} h => by cases N with | nil => exact absurd rfl h | cons _ _ => rfl
   refine ⟨⟨⟨⟨zk8 hr hv.1.1.1.1, hne pa.ne, pa.valid⟩, hne pb.ne, pb.valid⟩, ?_⟩, hvo⟩
   have := hv.1.2
   unfold zh9 at this ⊢
   rw [hcl]; exact this
  exact hrc.outs fun v hv => by
    rw [pb.keys v fun hm => n6 v hm v hv rfl, pa.keys v fun hm => n3 v hm v (by simp [hv]) rfl]
    exact hto v (by simp [hv])
theorem loop_t (u : Un) (f : Fl) (x : Nd) (ih : ∀ q ∈ x.kids, TP u f q) (deep : Int) (w : Wh) (all all' : List Int) (to : TT) (hty : HT f) (hd : ¬ deep > 100) (hnd : (dN x).Nodup) (hall : ∀ v ∈ dN x, all.contains v = false) (hto : ∀ v ∈ dN x, aGet v to = none)
    (hr : Rel f.types to all all') (hv : z42 u f deep w all x = true) (h11 : x.kind = 11) : ∃ M to', NPost u f deep w all all' to x M to' := by
  have hb := z2j u f deep _ all hv
  obtain ⟨a, hk⟩ := z21 hb h11
  rw [z38 u f deep w all hb h11 hk] at hv
  simp only [Bool.and_eq_true] at hv
  have hdn : dN x = x.params ++ (dL a ++ x.outs) := y0g hk
  rw [hdn] at hnd hall hto
  obtain ⟨n1, n2, n3⟩ := List.nodup_append.1 hnd
  obtain ⟨n4, n5, n6⟩ := List.nodup_append.1 n2
  have hva := hv.1.1.2
  simp only [z3z, Bool.and_eq_true] at hva
  have hne : a ≠ [] := by intro e; subst e; simp at hva
  have hinp : inR f.types.length x.params := z2b hv.1.1.1.2
  have hino : inR f.types.length x.outs := z2b hv.2
  have htp : z0b f.types all' (x.args.map (z1k to)) (r8of f.types x.params) = true := zk8 hr hv.1.1.1.1
  have hpl : x.args.length = x.params.length := z5m hinp hv.1.1.1.1
  have h11b : (x.kind == 11) = true := by simp [h11]
  have h10b : (x.kind == 10) = false := by simp [h11]
  have hda : ∀ v ∈ dL a, (all ++ x.params).contains v = false := fun v hm => by
    rw [List.contains_append, hall v (by simp [hm]), Bool.false_or, <- Bool.not_eq_true, List.contains_iff_mem]
    exact fun hp => n3 v hp v (by simp [hm]) rfl
  have hcx : ∀ k, k = 13 ∨ k = 14 -> cnN k x = 0 := fun k hk2 => by
    rw [z94, if_neg (by rw [h11]; rcases hk2 with rfl | rfl <;> decide), if_neg (by simp [h10b])]
  have hrun := zo3 to x
  rw [if_pos h11b] at hrun
  unfold z8l at hrun
  rw [show (trA to x).kids = x.kids from rfl, show (trA to x).params = x.params from rfl, show (trA to x).outs = x.outs from rfl, show (trA to x).args = x.args.map (z1k to) from rfl, hk] at hrun
  have hgood := zv0 to x
  rw [if_pos h11b, hk, show (trA to x).args = x.args.map (z1k to) from rfl] at hgood
  have hpd : decide (x.params.length <= x.args.length) = true := decide_eq_true oM0
  rw [hpd] at hgood
  by_cases ho : z29 a = true
  ·rw [if_pos (show z29 (kid0 [a]) = true from ho)] at hrun hgood
   have hr1 : Rel f.types (z0n x.params (x.args.map (z1k to)) to) (all ++ x.params) all' := zk4 hty hr n1 hinp htp
   obtain ⟨Na, to2, pa⟩ := ih a (by rw [hk]; simp) (deep + 1) (w2 f x) (all ++ x.params) all' (z0n x.params (x.args.map (z1k to)) to) hty hne n4 hda
     (fun v hm => (z49 _ _ _ v fun hp => n3 v hp v (by simp [hm]) rfl).trans (hto v (by simp [hm]))) hr1 hva.2
   have hks : trKs (z0n x.params (x.args.map (z1k to)) to) [a] = ([Na], to2) := by rw [z5k, pa.tr]; rfl
   have hgk : gdKs (z0n x.params (x.args.map (z1k to)) to) [a] = true := by simp only [gdKs, pa.good [] rfl, Bool.and_true]
   rw [hks] at hrun hgood
   rw [hgk] at hgood
   have hkeys : ∀ v, v ∉ x.params -> v ∉ dL a -> aGet v to2 = aGet v to := fun v h1 h2 => by rw [pa.keys v h2, z49 _ _ _ v h1]
   have hr2 : Rel f.types to2 all all' := hr.congr fun v hv => hkeys v (fun hm => by have := hall v (by simp [hm]); rw [hv] at this; cases this) fun hm => by
     have := hall v (by simp [hm]); rw [hv] at this; cases this
   simp only [z29, Bool.and_eq_true, Bool.or_eq_true, beq_iff_eq] at ho
   have c13 : cnL 13 Na = 0 := by rw [pa.cn 13 (.inl rfl)]; exact ho.1
   have hnb : (!(kid0 ([Na], to2).1).isEmpty) = true := by
     show (!Na.isEmpty) = true
     cases hN : Na with
     | nil => exact absurd hN pa.ne
     | cons _ _ => rfl
   rw [hnb] at hgood
   by_cases hl : z0q Na = 14
   ·have hlb : (z0q (kid0 ([Na], to2).1) == 14) = true := by show (z0q Na == 14) = true; simp [hl]
    rw [if_pos hlb] at hrun
    obtain ⟨A, e, hA, hA2, hA3, hA4⟩ := za0 pa.ne
    have hla := pa.l14.1 hl
    have h1 := y0n (.inr rfl) hla
    have c14 : cnL 14 a = 1 := by omega
    have hek : e.kind = 14 := by rw [<- hA3]; exact hl
    have ce : cnN 14 e = 1 := by rw [z94]; simp [hek]
    have cA : cnL 14 A = 0 := by
      have h2 := pa.cn 14 (.inr rfl)
      rw [hA, z6i] at h2
      simp only [cnL, ce] at h2
      omega
    have cA13 : cnL 13 A = 0 := by
      rw [hA, z6i] at c13
      omega
    have hsp := pa.valid
    rw [hA] at hsp
    obtain ⟨s1, s2⟩ := y20 hsp
    have hte := node14 s2 hek
    have hlen := z5m hino hte
    have hfA : fiL A = true := by
      have := pa.fine
      rw [hA, y0h, Bool.and_eq_true] at this
      exact this.1
    refine ⟨A, z0n x.outs e.args to2, ?_, ?_, fun v hv => ?_, fun k hk2 => ?_, hfA, .inr ⟨?_, ?_, ?_⟩⟩
    ·rw [hrun]
     show (Na.dropLast, z0n x.outs (z4a Na) to2) = _
     rw [hA2, hA4]
    ·rw [hgood]
     have hlb2 : (z0q (kid0 ([Na], to2).1) != 14) = false := by rw [bne, hlb]; rfl
     rw [hlb2]
     simp only [List.length_cons, List.length_nil, Bool.false_or, Bool.true_and]
     exact decide_eq_true (show x.outs.length <= (z4a Na).length by rw [hA4]; omega)
    ·rw [hdn] at hv
     simp only [List.mem_append, not_or] at hv
     rw [z49 _ _ _ v hv.2.2]
     exact hkeys v hv.1 hv.2.1
    ·rw [hcx k hk2]
     rcases hk2 with rfl | rfl
     ·exact cA13
     exact cA
    ·rw [z6h h11 hk, z52, c14]; rfl
    ·exact y61 u f A (deep + 1) deep (w2 f x) w all' oM0 (.inl cA13) (.inl cA) s1
    exact zk4 hty (hr2.mono _) n5 hino hte
   have hlb : (z0q (kid0 ([Na], to2).1) == 14) = false := by show (z0q Na == 14) = false; simp [hl]
   rw [if_neg (by rw [hlb]; simp)] at hrun
   have hla : z0q a ≠ 14 := fun h => hl (pa.l14.2 h)
   have c14 : cnL 14 a = 0 := by
     rcases ho.2 with h | h
     ·exact h
     exact absurd h.2 hla
   have c14' : cnL 14 Na = 0 := by rw [pa.cn 14 (.inr rfl)]; exact c14
   have hno := no12 (w := w2 f x) rfl pa.valid
   obtain ⟨A, e, hA, hA2, hA3, hA4⟩ := za0 pa.ne
   refine ⟨Na, to2, hrun, ?_, fun v hv => ?_, fun k hk2 => ?_, pa.fine, .inl ⟨?_, ?_, pa.ne, ⟨fun h => ?_, fun h => ?_⟩, ⟨fun h => absurd h hl, fun h => ?_⟩⟩⟩
   ·rw [hgood]
    have hlb2 : (z0q (kid0 ([Na], to2).1) != 14) = true := by rw [bne, hlb]; rfl
    rw [hlb2]; rfl
   ·rw [hdn] at hv
    simp only [List.mem_append, not_or] at hv
    exact hkeys v hv.1 hv.2.1
   ·rw [hcx k hk2]
    rcases hk2 with rfl | rfl
    ·exact c13
    exact c14'
   ·rw [z6h h11 hk, z52, c14]; rfl
   ·exact zv1 u f Na (deep + 1) deep (w2 f x) w all' oM0 (fun y hy e => absurd e (hno y hy)) (.inl c13) (.inl c14') pa.valid
   ·rw [hA3] at h
    exact absurd h (hno e (by rw [hA]; simp))
   ·rw [h11] at h; cases h
   rw [h11] at h; cases h
  rw [if_neg (show ¬ z29 (kid0 [a]) = true from ho)] at hrun hgood
  have hrp : Rel f.types to (all ++ x.params) (all' ++ x.params) := hr.outs fun v hv => hto v (by simp [hv])
  obtain ⟨Na, to2, pa⟩ := ih a (by rw [hk]; simp) (deep + 1) (w2 f x) (all ++ x.params) (all' ++ x.params) to hty hne n4 hda (fun v hm => hto v (by simp [hm])) hrp hva.2
  have hks : trKs to [a] = ([Na], to2) := by rw [z5k, pa.tr]; rfl
  have hgk : gdKs to [a] = true := by simp only [gdKs, pa.good [] rfl, Bool.and_true]
  rw [hks] at hrun
  rw [hgk] at hgood
  have hr2 : Rel f.types to2 all all' := hr.congr fun v hv => pa.keys v fun hm => by
    have := hall v (by simp [hm]); rw [hv] at this; cases this
  have hcl : z04 (.mk x.kind x.op x.n x.name (x.args.map (z1k to)) x.outs x.params [Na]) = z04 x := by
    rw [z6h h11 hk, z6h (x := .mk x.kind x.op x.n x.name (x.args.map (z1k to)) x.outs x.params [Na]) h11 rfl, y5h (pa.cn 14 (.inr rfl))]
  refine ⟨[.mk x.kind x.op x.n x.name (x.args.map (z1k to)) x.outs x.params [Na]], to2, zh2 hd hrun (by rw [hgood]; rfl) (fun v hv => ?_) (fun k hk2 => ?_) ?_ ?_ hcl rfl rfl ?_⟩
  ·rw [hdn] at hv
   simp only [List.mem_append, not_or] at hv
   exact pa.keys v hv.2.1
  ·rw [hcx k hk2]
   show cnN k (.mk x.kind x.op x.n x.name (x.args.map (z1k to)) x.outs x.params [Na]) = _
   unfold cnN
   rw [if_neg (by rw [h11]; rcases hk2 with rfl | rfl <;> decide), if_neg (by simp [h10b])]
  ·have hoN : z29 Na = false := by
     have : z29 Na = z29 a := by
       unfold z29
       rw [pa.cn 13 (.inl rfl), pa.cn 14 (.inr rfl)]
       by_cases h : z0q Na = 14
       ·rw [h, pa.l14.1 h]
       have h2 : ¬ z0q a = 14 := fun q => h (pa.l14.2 q)
       rw [beq_eq_false_iff_ne.2 h, beq_eq_false_iff_ne.2 h2]
     rw [this]; simpa using ho
   rw [y1x]
   show (!(x.kind == 10 && false) && !(x.kind == 11 && (!Na.isEmpty && z29 Na)) && fiK [Na]) = true
   rw [hoN]
   simp only [fiK, pa.fine, Bool.and_false, Bool.and_true, Bool.not_false]
  ·have hb2 : z0k (.mk x.kind x.op x.n x.name (x.args.map (z1k to)) x.outs x.params [Na]) = true := by
     have := hb
     cases x
     simp only [Nd.kids] at hk
     subst hk
     exact this
   rw [z38 u f deep w all' hb2 h11 rfl]
   simp only [Bool.and_eq_true, z3z]
   have hnb : (!Na.isEmpty) = true := by
     cases hN : Na with
     | nil => exact absurd hN pa.ne
     | cons _ _ => rfl
   refine ⟨⟨⟨⟨htp, hv.1.1.1.2⟩, hnb, pa.valid⟩, ?_⟩, hv.2⟩
   have := hv.1.2
   unfold zh9 at this ⊢
   rw [hcl]; exact this
  exact hr2.outs fun v hv => by
    rw [pa.keys v fun hm => n6 v hm v hv rfl]
    exact hto v (by simp [hv])
theorem node_t (u : Un) (f : Fl) (x : Nd) (ih : ∀ q ∈ x.kids, TP u f q) (deep : Int) (w : Wh) (all all' : List Int) (to : TT) (hty : HT f) (hd : ¬ deep > 100) (hnd : (dN x).Nodup) (hall : ∀ v ∈ dN x, all.contains v = false) (hto : ∀ v ∈ dN x, aGet v to = none)
    (hr : Rel f.types to all all') (hv : z42 u f deep w all x = true) : ∃ M to', NPost u f deep w all all' to x M to' := by
  by_cases h10 : x.kind = 10
  ·exact if_t u f x ih deep w all all' to hty hd hnd hall hto hr hv h10
  by_cases h11 : x.kind = 11
  ·exact loop_t u f x ih deep w all all' to hty hd hnd hall hto hr hv h11
  have hb := z2j u f deep _ all hv
  have e10 : (x.kind == 10) = false := by simpa using h10
  have e11 : (x.kind == 11) = false := by simpa using h11
  rw [z26 u f deep w all hb e10 e11] at hv
  have hrun := zo3 to x
  rw [if_neg (by simp [e11]), if_neg (by simp [e10])] at hrun
  have hgood := zv0 to x
  rw [if_neg (by simp [e11]), if_neg (by simp [e10])] at hgood
  have hb2 : z0k (trA to x) = true := by cases x; exact hb
  have hfi : fiN (trA to x) = true := by
    rw [y1x, show (trA to x).kind = x.kind from rfl, show (trA to x).kids = x.kids from rfl, e10, e11, z7y hb e10 e11]; rfl
  refine ⟨_, _, zh2 hd hrun hgood (fun _ _ => rfl) (fun k _ => by cases x; rfl) hfi ?_ (by cases x; rfl) rfl rfl (hr.outs fun v hv => hto v (by rw [y0f]; simp [hv]))⟩
  rw [z26 u f deep w all' hb2 e10 e11]
  exact y71 (x := x) rfl rfl rfl rfl rfl hr hv
theorem go_t (u : Un) (f : Fl) : ∀ (l : List Nd), (∀ x ∈ l, ∀ q ∈ x.kids, TP u f q) -> TP u f l
  | [], _ => fun _ _ _ _ _ _ h => absurd rfl h
  | [x], ih => fun deep w all all' to hty _ hnd hall hto hr hv => by
    simp only [vGo, Bool.and_eq_true, beq_iff_eq, List.isEmpty_nil] at hv
    have hd : ¬ deep > 100 := by simpa using hv.1.1.1
    have hdl : dL [x] = dN x := by simp [dL]
    rw [hdl] at hnd hall hto
    obtain ⟨M, to', p⟩ := node_t u f x (ih x (.head _)) deep w all all' to hty hd hnd hall hto hr hv.1.1.2
    rcases p.post with ⟨c1, c2, c3, c4, c5⟩ | ⟨c1, _⟩
    ·refine ⟨M, to', ⟨fun out ho => ?_, fun out ho => ?_, c2, c3, c4.trans (by rw [z4d]), c5.trans (by rw [z4d]), fun k hk => by rw [p.cn k hk]; simp [cnL], fun v hv => p.keys v (by rwa [hdl] at hv), p.fine⟩⟩
     ·simp only [trR, p.run]
      split <;> rfl
     simp only [gdR, p.good, Bool.or_true, Bool.and_true]
    rw [hv.1.2] at c1; cases c1
  | x :: y :: r, ih => fun deep w all all' to hty _ hnd hall hto hr hv => by
    unfold vGo at hv
    simp only [Bool.and_eq_true, beq_iff_eq, List.isEmpty_cons] at hv
    have hd : ¬ deep > 100 := by simpa using hv.1.1.1
    have hdl : dL (x :: y :: r) = dN x ++ dL (y :: r) := by rw [dL]
    rw [hdl] at hnd hall hto
    obtain ⟨n1, n2, n3⟩ := List.nodup_append.1 hnd
    obtain ⟨M, to', p⟩ := node_t u f x (ih x (.head _)) deep w all all' to hty hd n1 (fun v hv => hall v (by simp [hv])) (fun v hv => hto v (by simp [hv])) hr hv.1.1.2
    rcases p.post with ⟨c1, _⟩ | ⟨c1, c2, c3⟩
    ·rw [hv.1.2] at c1; cases c1
    obtain ⟨N, to2, q⟩ := go_t u f (y :: r) (fun z hz => ih z (.tail _ hz)) deep w (all ++ x.outs) (all' ++ M.flatMap Nd.outs) to' hty sI0 n2 (fun v hm => by
      rw [List.contains_append, hall v (by simp [hm]), Bool.false_or, <- Bool.not_eq_true, List.contains_iff_mem]
      exact fun ho => n3 v (by rw [y0f]; simp [ho]) v hm rfl) (fun v hm => (p.keys v fun hn => n3 v hn v hm rfl).trans (hto v (by simp [hm]))) c3 hv.2
    have hop : ∀ out, z1h out = false -> z1h (out ++ (trN to x).1) = false := fun out ho => by rw [p.run]; exact pre_open c2 ho
    refine ⟨M ++ N, to2, ⟨fun out ho => ?_, fun out ho => ?_, go_app u f deep w M N all' q.ne c2 q.valid, fun e => q.ne (List.append_eq_nil_iff.1 e).2, ?_, ?_, fun k hk => ?_, fun v hv => ?_, by rw [y0h, p.fine, q.fine]; rfl⟩⟩
    ·have h1 := hop out ho
     rw [trR, if_neg (by rw [h1]; simp), p.run]
     rw [p.run] at h1
     rw [q.run _ h1, List.append_assoc]
    ·have h1 := hop out ho
     rw [gdR, p.good, Bool.true_and, h1, Bool.false_or]
     rw [p.run] at h1 ⊢
     exact q.good _ h1
    ·rw [z5y q.ne, show x :: y :: r = [x] ++ (y :: r) from rfl, z5y sI0]; exact q.l12
    ·rw [z5y q.ne, show x :: y :: r = [x] ++ (y :: r) from rfl, z5y sI0]; exact q.l14
    ·rw [z6i, p.cn k hk, q.cn k hk]; simp [cnL]
    rw [hdl] at hv
    simp only [List.mem_append, not_or] at hv
    rw [q.keys v hv.2, p.keys v hv.1]
theorem tp_all (u : Un) (f : Fl) : ∀ (N : Nat) (l : List Nd), SizeOf.sizeOf l < N -> TP u f l
  | 0, _, h => absurd h (Nat.not_lt_zero _)
  | N + 1, l, hN => go_t u f l fun x hx q hq => tp_all u f N q (Nat.lt_of_lt_of_le (z4s hx rfl hq) (Nat.le_of_lt_succ hN))
theorem flow_ht {u : Un} {f : Fl} (h : z2k u f = true) : HT f := fun v h0 h1 => by
  unfold z2k at h
  simp only [Bool.and_eq_true] at h
  have ht := h.1.2
  rw [List.all_eq_true] at ht
  have hlt : v.toNat < f.types.length := by omega
  have := ht (f.types[v.toNat]) (List.getElem_mem hlt)
  rw [List.getD_eq_getElem?_getD, List.getElem?_eq_getElem hlt]
  simp only [Option.getD_some]
  intro e
  rw [e] at this
  simp at this
theorem zf2 {u : Un} {f : Fl} (hF : z2k u f = true) : ∃ N to', TPost u f 1 z35 (iota f.params.toNat) [] f.body N to' := by
  have h := zg1 hF
  have hp := z8p hF
  have hv := h.1
  simp only [z3z, Bool.and_eq_true] at hv
  exact tp_all u f _ f.body (Nat.lt_succ_self _) 1 z35 (iota f.params.toNat) (iota f.params.toNat) [] (flow_ht hF) (by intro e; rw [e] at hv; simp at hv) h.2.1 (fun v hm => by
    have := h.2.2 v hm
    cases hc : (iota f.params.toNat).contains v with
    | false => rfl
    | true => rw [y0i hp hc] at this; cases this) (fun _ _ => rfl) (fun v hv v0 v1 => ⟨hv, v0, v1, rfl⟩) hv.2
theorem y37 (x : Nd) : List.Sublist (dN (z71 x)) (dN x) := by
  unfold z71
  split
  ·rw [y0f, y0f]
   exact (List.Sublist.refl _).append ((List.Sublist.refl _).append (List.nil_sublist _))
  exact .refl _
mutual
theorem y7b : ∀ x : Nd, List.Sublist (dN (tdN x)) (dN x)
  | .mk kind op n name args outs params ks => by
    unfold tdN
    refine (y37 _).trans ?_
    simp only [dN]
    exact (List.Sublist.refl _).append ((y7a ks).append (List.Sublist.refl _))
theorem zs3 : ∀ l : List Nd, List.Sublist (dL (tdL l)) (dL l)
  | [] => .refl _
  | x :: r => by
    unfold tdL
    split
    ·simp only [dL, List.append_nil]
     exact (y7b x).trans (List.sublist_append_left _ _)
    simp only [dL]
    exact (y7b x).append (zs3 r)
theorem y7a : ∀ ks : List (List Nd), List.Sublist (dK (tdK ks)) (dK ks)
  | [] => .refl _
  | l :: r => by
    simp only [tdK, dK]
    exact (zs3 l).append (y7a r)
end
theorem kid0_sub : ∀ K : List (List Nd), List.Sublist (dL (kid0 K)) (dK K)
  | [] => by simp [kid0, dL, dK]
  | l :: r => by simp only [kid0, dK, List.getElem?_cons_zero, Option.getD_some]; exact List.sublist_append_left _ _
theorem zb6 : ∀ l : List Nd, List.Sublist (dL l.dropLast) (dL l)
  | [] => .refl _
  | [x] => List.nil_sublist _
  | x :: y :: r => by
    rw [List.dropLast_cons_cons]
    simp only [dL]
    exact (List.Sublist.refl _).append (zb6 (y :: r))
mutual
theorem trN_sub : ∀ (x : Nd) (to : TT), List.Sublist (dL (trN to x).1) (dN x)
  | .mk kind op n name args outs params ks, to => by
    have one : ∀ K : List (List Nd), List.Sublist (dK K) (dK ks) -> List.Sublist (dL [.mk kind op n name (args.map (z1k to)) outs params K]) (dN (.mk kind op n name args outs params ks)) := fun K h => by
      simp only [dL, dN, List.append_nil]
      exact (List.Sublist.refl _).append (h.append (List.Sublist.refl _))
    have inn : ∀ L : List Nd, List.Sublist (dL L) (dK ks) -> List.Sublist (dL L) (dN (.mk kind op n name args outs params ks)) := fun L h => by
      simp only [dN]
      exact (h.trans (List.sublist_append_left _ _)).trans (List.sublist_append_right _ _)
    unfold trN
    split
    ·split
     ·have h := (kid0_sub _).trans (ze5 ks (z0n params (args.map (z1k to)) to))
      split
      ·exact inn _ ((zb6 _).trans h)
      exact inn _ h
     exact one _ (ze5 ks to)
    split
    ·split
     ·exact List.nil_sublist _
     exact one _ (ze5 ks to)
    exact one _ (.refl _)
theorem y1k : ∀ (l out : List Nd) (to : TT), List.Sublist (dL (trR out to l).1) (dL out ++ dL l)
  | [], out, to => by simp [trR, dL]
  | x :: r, out, to => by
    have h1 := trN_sub x to
    unfold trR
    split
    ·simp only [y4y, dL]
     exact (List.Sublist.refl _).append (h1.trans (List.sublist_append_left _ _))
    refine (y1k r _ _).trans ?_
    simp only [y4y, dL, List.append_assoc]
    exact (List.Sublist.refl _).append (h1.append (List.Sublist.refl _))
theorem ze5 : ∀ (ks : List (List Nd)) (to : TT), List.Sublist (dK (trKs to ks).1) (dK ks)
  | [], _ => by simp [trKs, dK]
  | l :: r, to => by
    have h := (zs3 (trR [] to l).1).trans (y1k l [] to)
    simp only [trKs, dK]
    exact (by simpa [dL] using h : List.Sublist _ (dL l)).append (ze5 r _)
end
mutual
theorem wt_tdN : ∀ x : Nd, wtN (tdN x) <= wtN x
  | .mk kind op n name args outs params ks => by
    have hk := wt_tdK ks
    unfold tdN z71
    split
    ·simp only [wtN, Nd.name, Nd.args, Nd.params, Nd.kids, List.length_nil]; omega
    simp only [wtN]; omega
theorem y08 : ∀ l : List Nd, (tdL l).length + wtL (tdL l) <= l.length + wtL l
  | [] => Nat.le_refl _
  | x :: r => by
    have h1 := wt_tdN x
    have h2 := y08 r
    unfold tdL
    split
    ·simp only [List.length_cons, List.length_nil, wtL]; omega
    simp only [List.length_cons, wtL]; omega
theorem wt_tdK : ∀ ks : List (List Nd), wtK (tdK ks) <= wtK ks
  | [] => Nat.le_refl _
  | l :: r => by
    have h1 := y08 l
    have h2 := wt_tdK r
    simp only [tdK, wtK]; omega
end
theorem wt_kid0 : ∀ K : List (List Nd), (kid0 K).length + wtL (kid0 K) <= wtK K
  | [] => by simp [kid0, wtL, wtK]
  | l :: r => by simp only [kid0, wtK, List.getElem?_cons_zero, Option.getD_some]; omega
theorem zl2 : ∀ l : List Nd, l.dropLast.length + wtL l.dropLast <= l.length + wtL l
  | [] => Nat.le_refl _
  | [x] => by simp [wtL]
  | x :: y :: r => by
    have h := zl2 (y :: r)
    rw [List.dropLast_cons_cons]
    simp only [List.length_cons, wtL] at h ⊢
    omega
mutual
theorem wt_trN : ∀ (x : Nd) (to : TT), (trN to x).1.length + wtL (trN to x).1 <= 1 + wtN x
  | .mk kind op n name args outs params ks, to => by
    unfold trN
    split
    ·split
     ·have h1 := zt4 ks (z0n params (args.map (z1k to)) to)
      have h2 := wt_kid0 (trKs (z0n params (args.map (z1k to)) to) ks).1
      have h3 := zl2 (kid0 (trKs (z0n params (args.map (z1k to)) to) ks).1)
      split
      ·simp only [wtN]; omega
      simp only [wtN]; omega
     have h1 := zt4 ks to
     simp only [wtL, wtN, List.length_cons, List.length_nil, List.length_map]; omega
    split
    ·split
     ·simp [wtL]
     have h1 := zt4 ks to
     simp only [wtL, wtN, List.length_cons, List.length_nil, List.length_map]; omega
    simp only [wtL, wtN, List.length_cons, List.length_nil, List.length_map]; omega
theorem y2n : ∀ (l out : List Nd) (to : TT), (trR out to l).1.length + wtL (trR out to l).1 <= out.length + wtL out + (l.length + wtL l)
  | [], out, to => by simp [trR, wtL]
  | x :: r, out, to => by
    have h1 := wt_trN x to
    have h2 := y2n r (out ++ (trN to x).1) (trN to x).2
    rw [List.length_append, zt3] at h2
    unfold trR
    split
    ·simp only [List.length_append, zt3, List.length_cons, wtL]; omega
    simp only [List.length_cons, wtL]; omega
theorem zt4 : ∀ (ks : List (List Nd)) (to : TT), wtK (trKs to ks).1 <= wtK ks
  | [], _ => by simp [trKs]
  | l :: r, to => by
    have h1 := y2n l [] to
    have h2 := y08 (trR [] to l).1
    have h3 := zt4 r (trR [] to l).2
    simp only [List.length_nil, wtL] at h1
    simp only [trKs, wtK]
    omega
end
theorem y38 (l : List Nd) : z17 (trB l) <= z17 l := by
  have h1 := y2n l [] []
  have h2 := y08 (trR [] [] l).1
  simp only [List.length_nil, wtL] at h1
  unfold z17 trB trL
  dsimp only
  omega
mutual
theorem y1j (u : Un) (f : Fl) : ∀ (x : Nd) (deep : Int) (w : Wh) (all : List Int), z42 u f deep w all x = true -> zs5 x = true
  | .mk kind op n name args outs params ks, deep, w, all, hv => by
    have hb := z2j u f deep _ all hv
    by_cases h10 : kind = 10
    ·obtain ⟨a, b, hk⟩ := z30 hb h10
     rw [z4z u f deep _ all hb h10 hk] at hv
     simp only [Bool.and_eq_true, z3z] at hv
     simp only [Nd.kids] at hk
     match ks, hk with
     | [a', b'], hk =>
       cases hk
       subst h10
       simp only [zs5, zz8, Bool.and_eq_true, Bool.and_true]
       exact ⟨⟨rfl, rfl⟩, ⟨hv.1.1.1.2.1, z5l u f a _ _ _ hv.1.1.1.2.2⟩, hv.1.1.2.1, z5l u f b _ _ _ hv.1.1.2.2⟩
    by_cases h11 : kind = 11
    ·obtain ⟨a, hk⟩ := z21 hb h11
     rw [z38 u f deep _ all hb h11 hk] at hv
     simp only [Bool.and_eq_true, z3z] at hv
     have hpl : args.length = params.length := z5m (z2b hv.1.1.1.2) hv.1.1.1.1
     simp only [Nd.kids] at hk
     match ks, hk with
     | [a'], hk =>
       cases hk
       subst h11
       simp only [zs5, zz8, Bool.and_eq_true, Bool.and_true]
       exact ⟨⟨rfl, by rw [hpl]; simp⟩, hv.1.1.2.1, z5l u f a _ _ _ hv.1.1.2.2⟩
    have e10 : (kind == 10) = false := by simpa using h10
    have e11 : (kind == 11) = false := by simpa using h11
    have hk0 : ks = [] := z7y hb e10 e11
    subst hk0
    simp only [zs5, zz8, bne, e10, e11, Bool.not_false, Bool.true_or, Bool.and_true]
theorem z5l (u : Un) (f : Fl) : ∀ (l : List Nd) (deep : Int) (w : Wh) (all : List Int), vGo u f deep w all l = true -> zd2 l = true
  | [], _, _, _, _ => rfl
  | x :: r, deep, w, all, hv => by
    simp only [vGo, Bool.and_eq_true] at hv
    simp only [zd2, Bool.and_eq_true]
    exact ⟨y1j u f x deep w all hv.1.1.2, z5l u f r deep w _ hv.2⟩
end
def trGood (l : List Nd) : Prop := zd2 l = true /\ gdR [] [] l = true
theorem y48 {u : Un} (h : (z3h u).1 = 0) : ∀ f ∈ u.flows, trGood f.body := by
  rw [z85] at h
  intro f hf
  have hF := ((z92 u).1 h).2 f hf
  have hb := (zg1 hF).1
  simp only [z3z, Bool.and_eq_true] at hb
  obtain ⟨N, to', p⟩ := zf2 hF
  exact ⟨z5l u f f.body 1 _ _ hb.2, p.good [] rfl⟩
theorem zm2 {u : Un} (h : (z27 u).1 = 0) : z27 (z2y trB u) = (0, 0) :=
  check_m trB h fun f hf hB => by
    obtain ⟨N, to', p⟩ := zf2 (((z92 u).1 h).2 f hf)
    have e : trB f.body = N := by unfold trB; rw [p.tr]
    refine ⟨?_, ?_⟩
    ·rw [e]
     simp only [z3z, Bool.and_eq_true]
     refine ⟨?_, p.valid⟩
     cases hN : N with
     | nil => exact absurd hN p.ne
     | cons _ _ => rfl
    have hs : List.Sublist (dL (trB f.body)) (dL f.body) := by
      have := (zs3 (trR [] [] f.body).1).trans (y1k f.body [] [])
      show List.Sublist (dL (tdL (trR [] [] f.body).1)) (dL f.body)
      simpa [dL] using this
    exact ⟨hB.2.1.sublist hs, fun v hv => hB.2.2 v (hs.subset hv)⟩
def zz7 (u : Un) : Bool := u.flows.all fun f => fiL f.body
theorem y3i (u : Un) : zz7 (z5c trB u).1 = true := by
  by_cases h : (z27 u).1 = 0
  ·rw [z5d trB h]
   unfold zz7
   rw [List.all_eq_true]
   intro g hg
   obtain ⟨f, hf, rfl⟩ := List.mem_map.1 (show g ∈ u.flows.map (z3f trB) from hg)
   obtain ⟨N, to', p⟩ := zf2 (((z92 u).1 h).2 f hf)
   have e : trB f.body = N := by unfold trB; rw [p.tr]
   show fiL (trB f.body) = true
   rw [e]; exact p.fine
  rw [za6 trB h]
  rfl
def tM (to : TT) : List (Nat × HO) := [(3001, .map (inEs to))]
abbrev wV : IV := .agg [.mp 3001]
def y1z (to : TT) (x : Nd) : Bool := x.kids.length == 1 && decide (x.params.length <= x.args.length) &&
  (if z29 (kid0 x.kids) then gdKs (z0n x.params x.args to) x.kids && !(kid0 (trKs (z0n x.params x.args to) x.kids).1).isEmpty &&
      (z0q (kid0 (trKs (z0n x.params x.args to) x.kids).1) != 14 || decide (x.outs.length <= (z4a (kid0 (trKs (z0n x.params x.args to) x.kids).1)).length))
    else gdKs to x.kids)
def zp4 (to : TT) (x : Nd) : Bool := x.kids.length == 2 && gdKs to x.kids && (!z2l (kid0 (trKs to x.kids).1) (kid1 (trKs to x.kids).1) || decide (x.outs.length <= (z68 (kid0 (trKs to x.kids).1)).length))
theorem gdN_loop {to : TT} {x : Nd} (h : x.kind = 11) : gdN to x = y1z to (trA to x) := by
  rw [zv0, if_pos (by simp [h])]
  unfold y1z
  have : (trA to x).args.length = x.args.length := List.length_map _
  rw [this]
  rfl
theorem y2w {to : TT} {x : Nd} (h : x.kind = 10) : gdN to x = zp4 to (trA to x) := by
  rw [zv0, if_neg (by simp [h]), if_pos (by simp [h])]
  rfl
theorem trN_loop {to : TT} {x : Nd} (h : x.kind = 11) : trN to x = z8l to (trA to x) := by rw [zo3, if_pos (by simp [h])]
theorem y46 {to : TT} {x : Nd} (h : x.kind = 10) : trN to x = z6y to (trA to x) := by rw [zo3, if_neg (by simp [h]), if_pos (by simp [h])]
theorem y7d {to : TT} {x : Nd} (h10 : (x.kind == 10) = false) (h11 : (x.kind == 11) = false) : trN to x = ([trA to x], to) := by rw [zo3, if_neg (by simp [h11]), if_neg (by simp [h10])]
theorem zs4 (to : TT) (a : List Nd) : trKs to [a] = ([(trL to a).1], (trL to a).2) := by rw [z5k]; rfl
theorem trKs_two (to : TT) (a b : List Nd) : trKs to [a, b] = ([(trL to a).1, (trL (trL to a).2 b).1], (trL (trL to a).2 b).2) := by rw [z5k, z5k]; rfl
mutual
theorem cnN_wt (k : Int) : ∀ x : Nd, cnN k x <= 1 + wtN x
  | .mk kind op n name args outs params ks => by
    have h := cnK_wt k ks
    simp only [cnN, wtN]
    split <;> split <;> omega
theorem y1u (k : Int) : ∀ l : List Nd, cnL k l <= l.length + wtL l
  | [] => Nat.le_refl _
  | x :: r => by
    have h1 := cnN_wt k x
    have h2 := y1u k r
    simp only [cnL, wtL, List.length_cons]; omega
theorem cnK_wt (k : Int) : ∀ ks : List (List Nd), cnK k ks <= wtK ks
  | [] => Nat.le_refl _
  | l :: r => by
    have h1 := y1u k l
    have h2 := cnK_wt k r
    simp only [cnK, wtK]; omega
end
theorem zo6 : ∀ {l : List Nd} {x : Nd}, x ∈ l -> 1 + wtN x <= l.length + wtL l
  | y :: r, x, h => by
    simp only [wtL, List.length_cons]
    rcases List.mem_cons.1 h with rfl | h
    · omega
    · have := zo6 h; omega
theorem zl3 : ∀ {ks : List (List Nd)} {q : List Nd}, q ∈ ks -> q.length + wtL q + 1 <= wtK ks
  | y :: r, q, h => by
    simp only [wtK]
    rcases List.mem_cons.1 h with rfl | h
    · omega
    · have := zl3 h; omega
theorem z7x (x : Nd) : x.args.length <= wtN x /\ x.outs.length <= wtN x /\ wtK x.kids <= wtN x := by rw [y2m]; omega
end Go.Proofs.YtekdhljpmflboaaGreat
