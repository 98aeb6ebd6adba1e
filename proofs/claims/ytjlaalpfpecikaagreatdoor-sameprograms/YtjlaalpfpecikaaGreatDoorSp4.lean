/- PART 4 of 9 of a proof: see the last part. -/
import Derived.Test.YtjlaalpfpecikaaGreatDoorSp3
set_option maxRecDepth 20000
set_option maxHeartbeats 8000000
set_option linter.unusedSimpArgs false
set_option linter.unusedVariables false
set_option linter.unusedSectionVars false
namespace Go.Proofs.YtjlaalpfpecikaaGreatDoor
open Go
section
variable {P:Program} {T:TB P} {o:Oper} {fr:Fr} {hp:Hp} {Rl:List Nat} {K:Stp->Prop} {c:Cx}
theorem notR{k:Nat}(hR:∀k,c.R k->k∈Rl)(h:nIn k Rl=false):¬c.R k:=λh1=>z3g h (hR k h1)
def vStore(T:TB P)(Rl:List Nat)(t:Nat)(fr:Fr)(hp:Hp)(y w:Operand)(K:Stp->Prop):Prop:=vev fr y λa=>vev fr w λz=>vti T t λe=>match a with
 |.ptr k off=>z2c (!nIn k Rl) (vbox hp k λcs=>match e.i.row with
  |false=>z2c (Nat.beq e.n 1&&Nat.blt off cs.length) (j0e hp z (frcI (cs.set off z) λl=>K ⟨.pv (.val undef),[(k,some (.box l))],k::z03 z,[]⟩))
  |true=>vopt z.parts λzs=>z2c (Nat.beq e.n zs.length&&Nat.ble (off+zs.length) cs.length) (j60 hp zs (frcI (y1c cs off zs) λl=>K ⟨.pv (.val undef),[(k,some (.box l))],k::zs.flatMap z03,[]⟩)))
 |.rpt k n off=>z2c (!nIn k Rl) (vrow hp k λs els=>match z with
  |.pv p=>z2c (Nat.beq e.n 1&&p.one) (∃i j el,els.length=n/\off=i*s.n+j/\els[i]?=some el/\j<el.length/\K ⟨.pv (.val undef),[(k,some (.row s (els.set i (el.set j p))))],[k],[]⟩)
  |_=>False)
 |_=>False
theorem j5x{t:Nat}{y w:Operand}(ho:o.op=.store t y w)(h:vStore T Rl t fr hp y w K):Does P Rl o fr hp K:=by
 replace h:=z1p h;obtain⟨a,ha,h⟩:=h;replace h:=z1p h;obtain⟨z,hz,h⟩:=h;have ea:∀{fr2:Fr},agr fr2 fr (z1c o.op)->fr2.ev y=some a:=λhg=>hg.ev ha (by rw[ho];simp[Op.operands]);have eb:∀{fr2:Fr},agr fr2 fr (z1c o.op)->fr2.ev w=some z:=λhg=>hg.ev hz (by rw[ho];simp[Op.operands]);replace h:=z1q h;obtain⟨e,he,h⟩:=h;split at h
 ·rename_i k off;replace h:=z0e h;obtain⟨hR,h⟩:=h;have hR':nIn k Rl=false:=by simpa using hR
  replace h:=z4f h;obtain⟨cs,hk,h⟩:=h;split at h
  ·obtain⟨h1,h⟩:=z0e h;simp only[A0]at h1;replace h:=y07 h;obtain⟨h,hf⟩:=h;refine⟨_,z67 h,λc fr2 hp2 hc _ hg hh _=>?_⟩;exact sBx ho (ea hg) (eb hg) (hh.at hk (.head _)) (notR hc hR') (by rw[z2m he,Ak h1.1]) (hf hp2 λk hk=>hh k (.tail _ hk)) (B5 h1.2)
  ·obtain⟨zs,hzs,h⟩:=z0l h;replace h:=z0e h;obtain⟨h1,h⟩:=h;simp only[A0]at h1;replace h:=ya5 h;obtain⟨h,hf⟩:=h;refine⟨_,z67 h,λc fr2 hp2 hc _ hg hh _=>?_⟩;exact sBA ho (ea hg) (eb hg) hzs (hh.at hk (.head _)) (notR hc hR') (by rw[z2m he,Ak h1.1]) (hf hp2 λk hk=>hh k (.tail _ hk)) (B5 h1.2)
 ·rename_i k n off;replace h:=z0e h;obtain⟨hR,h⟩:=h;have hR':nIn k Rl=false:=by simpa using hR
  replace h:=z3p h;obtain⟨s,els,hk,h⟩:=h;split at h
  ·obtain⟨h1,h⟩:=z0e h;simp only[A0]at h1;obtain⟨i,j,el,hn,hoff,hi,hj,h⟩:=h;exact⟨_,h,λc fr2 hp2 hc _ hg hh _=>y8n ho (ea hg) (eb hg) (hh.at hk (.head _)) hn hoff hi hj (by rw[z2m he,Ak h1.1]) h1.2 (notR hc hR')⟩
  ·exact h.elim
 ·exact h.elim
def ZV.pvs:List ZV->List IV
 |[]=>[]
 |z::r=>.pv (.val z.val)::ZV.pvs r
theorem ZV.pvs_eq:∀l:List ZV,ZV.pvs l=(l.map ZV.val).map λv=>.pv (.val v)
 |[]=>rfl
 |z::r=>by simp only[ZV.pvs,B7,ZV.pvs_eq r]
def ZV.ps:List ZV->List PV
 |[]=>[]
 |z::r=>.val z.val::ZV.ps r
theorem ZV.ps_eq:∀l:List ZV,ZV.ps l=(l.map ZV.val).map .val
 |[]=>rfl
 |z::r=>by simp only[ZV.ps,B7,ZV.ps_eq r]
def vAlloc(T:TB P)(t k:Nat)(K:Stp->Prop):Prop:=vti T t λe=>z2c (!e.z.isEmpty) (frcI (ZV.pvs e.z) λl=>K ⟨.ptr k 0,[(k,some (.box l))],[k],[k]⟩)
theorem j5n{t k:Nat}(ho:o.op=.alloc t)(h:vAlloc T t k K):Does P Rl o fr hp K:=by
 replace h:=z1q h;obtain⟨e,he,h⟩:=h;replace h:=z0e h;obtain⟨hz,h⟩:=h;have hz':e.z≠[]:=by simpa using hz
 refine⟨_,z67 h,λc fr2 hp2 _ hc _ _ hf=>?_⟩;obtain⟨f1,f2,f3⟩:=z47 (hf k (.head _));have:=aLc (c:=c) ho (z84 he hz') f3 (hc k (.head _)) f1 f2
 rwa [(z6k he hz').1,<- ZV.pvs_eq]at this
def vBox(own:Bool)(fr:Fr)(hp:Hp)(y:Operand)(k:Nat)(K:Stp->Prop):Prop:=vev fr y λa=>match own with
 |true=>match a with
  |.pv (.agg ps)=>frcI (ps.map .pv) λl=>K ⟨.ptr k 0,[(k,some (.box l))],[k],[k]⟩
  |.agg cs=>z2c (!nm.nms k cs) (K ⟨.ptr k 0,[(k,some (.box cs))],[k],[k]⟩)
  |z=>z2c (!nm k z) (j0e hp z (K ⟨.ptr k 0,[(k,some (.box [z]))],k::z03 z,[k]⟩))
 |false=>match a with
  |.pv (.agg ps)=>K ⟨.pv (.ept ps 0),[],[],[]⟩
  |.pv p=>z2c p.one (K ⟨.pv (.ept [p] 0),[],[],[]⟩)
  |_=>False
theorem vBox_ok{t k:Nat}{own:Bool}{y:Operand}(ho:o.op=.box t y)(h:vBox own fr hp y k K):Does P Rl o fr hp K:=by
 replace h:=z1p h;obtain⟨a,ha,h⟩:=h;have ea:∀{fr2:Fr},agr fr2 fr (z1c o.op)->fr2.ev y=some a:=λhg=>hg.ev ha (by rw[ho];simp[Op.operands]);split at h
 ·split at h
  ·refine⟨_,z67 h,λc fr2 hp2 _ hc hg _ hf=>?_⟩;obtain⟨f1,f2,f3⟩:=z47 (hf k (.head _));exact yu8 ho (ea hg) f3 (hc k (.head _)) f1 f2
  ·obtain⟨hn,h⟩:=z0e h;refine⟨_,h,λc fr2 hp2 _ hc hg _ hf=>?_⟩;obtain⟨f1,f2,f3⟩:=z47 (hf k (.head _));exact j2c ho (ea hg) f3 (hc k (.head _)) f1 f2 (by simpa using hn)
  ·obtain⟨hn,h⟩:=z0e h;replace h:=y07 h;obtain⟨h,hz⟩:=h;refine⟨_,h,λc fr2 hp2 _ hc hg hh hf=>?_⟩;obtain⟨f1,f2,f3⟩:=z47 (hf k (.head _));exact yu7 ho (ea hg) (hz hp2 λk hk=>hh k (.tail _ hk)) f3 (hc k (.head _)) f1 f2 (by simpa using hn)
 ·split at h
  ·exact⟨_,h,λc fr2 hp2 _ _ hg _ _=>ok_box ho (ea hg)⟩
  ·obtain⟨h1,h⟩:=z0e h;exact⟨_,h,λc fr2 hp2 _ _ hg _ _=>ok_box1 ho (ea hg) h1⟩
  ·exact h.elim
def szs(T:TB P):List (Nat×Nat)->Option (List (Nat×Nat))
 |[]=>some []
 |(off,t)::r=>match T.ti t with
  |some e=>match szs T r with
   |some l=>some ((off,e.n)::l)
   |none=>none
  |none=>none
theorem j58{w:World}:∀{fs:List Field} {l:List (Nat×Nat)},szs T (fs.map λf=>(f.offset,f.type))=some l->((fs.mapM λf=>do pure (f.offset,<- sizeOf f.type)):Sem (List (Nat×Nat))).run P w=.ok l w
 |[],l,h=>by cases h;rfl
 |f::r,l,h=>by
  simp only[B7,szs]at h;split at h
  ·rename_i e he;split at h
   ·rename_i l' hl
    cases h
    have ih:=j58 (w:=w) hl;have hs:=z1a (z2m (T.tok _ _ he)) w;simp only[List.mapM_cons,Ai,hs,Aw,Ch,ih]
   ·cases h
  ·cases h
theorem y1d{a:Array Field}{l:List (Nat×Nat)}(h:szs T (a.toList.map λf=>(f.offset,f.type))=some l):y56 P a l.toArray:=by
 intro w;have h1:=j58 (P:=P) (w:=w) h;obtain⟨fs⟩:=a;have h2:((#[].append fs.toArray:Array Field).mapM λf=>(do pure (f.offset,<- sizeOf f.type):Sem (Nat×Nat)))=(fs.mapM λf=>(do pure (f.offset,<- sizeOf f.type):Sem (Nat×Nat))) >>= λl=>pure l.toArray:=by
  simp
 have h3:(⟨fs⟩:Array Field) = #[].append fs.toArray:=by simp
 rw[h3,h2,Ai,h1];rfl
def y2o(hp:Hp):List (Nat×IV)->Prop->Prop
 |[],A=>A
 |(_,x)::r,A=>match x.parts with
  |some _=>y2o hp r A
  |none=>j0e hp x (y2o hp r A)
theorem ze3:∀{l:List (Nat×IV)} {A:Prop},y2o hp l A->A/\∀hp2,agh hp2 hp (l.flatMap λp=>z03 p.2)->z6p (look hp2) l
 |[],A,h=>⟨h,λ_ _ p hq=>by cases hq⟩
 |(i,x)::r,A,h=>by
  simp only[y2o]at h;have split:∀{hp2},agh hp2 hp (((i,x)::r).flatMap λp=>z03 p.2)->agh hp2 hp (z03 x)/\agh hp2 hp (r.flatMap λp=>z03 p.2):=λhh=>by
   simp only[F2]at hh;exact⟨λk hk=>hh k (Bq _ hk),λk hk=>hh k (C9 _ hk)⟩
  split at h
  ·rename_i ps hps;replace h:=ze3 h;obtain⟨h1,h2⟩:=h;refine⟨h1,λhp2 hh p hq h0=>?_⟩;rcases Aq.1 hq with rfl|hq
   ·rw[hps]at h0;cases h0
   ·exact h2 hp2 (split hh).2 p hq h0
  ·obtain⟨h,hz⟩:=y07 h;replace h:=ze3 h;obtain⟨h1,h2⟩:=h;refine⟨h1,λhp2 hh p hq h0=>?_⟩;rcases Aq.1 hq with rfl|hq
   ·exact hz hp2 (split hh).1
   ·exact h2 hp2 (split hh).2 p hq h0
def vmade(ids:List Nat)(out:List IV)(K:Stp->Prop):Prop:=match z7v out with
 |some ps=>frcP ps λl=>K ⟨.pv (.agg l),[],ids,[]⟩
 |none=>frcI out λl=>K ⟨.agg l,[],ids,[]⟩
theorem zvIV{e:TE}{t:Nat}(he:teB P t e=true)(hz:e.z≠[]):z74 e.zv=ZV.pvs e.z:=by
 rw[z74,(z6k he hz).1,<- ZV.pvs_eq]
def vBuild(T:TB P)(t:Nat)(fr:Fr)(hp:Hp)(parts:List (Nat×Operand))(K:Stp->Prop):Prop:=vti T t λe=>z2c (!e.z.isEmpty) (vopt (z4u fr parts) λxs=>y2o hp xs (match e.i with
 |.struct fs=>vopt (szs T fs) λpl=>vopt (z6o (pl.toArray[·]?) (ZV.pvs e.z) xs) λout=>vmade (xs.flatMap λp=>z03 p.2) out K
 |.arr _ q=>vti T q λeq=>vopt (z6o (λi=>some (i*eq.n,eq.n)) (ZV.pvs e.z) xs) λout=>frcI out λl=>K ⟨.agg l,[],xs.flatMap λp=>z03 p.2,[]⟩
 |_=>False))
theorem j5q{t:Nat}{parts:Array (Nat×Operand)}(ho:o.op=.build t parts)(h:vBuild T t fr hp parts.toList K):Does P Rl o fr hp K:=by
 replace h:=z1q h;obtain⟨e,he,h⟩:=h;replace h:=z0e h;obtain⟨hz,h⟩:=h;have hz':e.z≠[]:=by simpa using hz
 replace h:=z0l h;obtain⟨xs,hxs,h⟩:=h;have ex:∀{fr2:Fr},agr fr2 fr (z1c o.op)->z4u fr2 parts.toList=some xs:=λhg=>hg.evParts hxs λy hy=>by
  rw[ho];simp only[Op.operands];exact Df hy
 replace h:=ze3 h;obtain⟨h,hfirm⟩:=h;obtain⟨d,hd,hi⟩:=z3k he;have hzi:=zvIV he hz';split at h
 ·rename_i fs hq;rw[hq]at hi;obtain⟨a,rfl,h2⟩:=hi;replace h:=z0l h;obtain⟨pl,hpl,h⟩:=h;replace h:=z0l h;obtain⟨out,hout,h⟩:=h;rw[<- h2]at hpl;unfold vmade at h;split at h
  ·rename_i ps hps;exact⟨_,z8m h,.pure λc R1 fr2 hp2 hg hh _=>bPu ho (ex hg) (z84 he hz') ⟨a,hd,y1d hpl⟩ (by rw[hzi];exact hout) (hfirm hp2 hh) hps⟩
  ·exact⟨_,z67 h,.pure λc R1 fr2 hp2 hg hh _=>yo1 ho (ex hg) (z84 he hz') ⟨a,hd,y1d hpl⟩ (by rw[hzi];exact hout) (hfirm hp2 hh)⟩
 ·rename_i n q hq;rw[hq]at hi
  cases hi
  replace h:=z1q h;obtain⟨eq,heq,h⟩:=h;replace h:=z0l h;obtain⟨out,hout,h⟩:=h;exact⟨_,z67 h,.pure λc R1 fr2 hp2 hg hh _=>y8f ho (ex hg) (z84 he hz') hd (z2m heq) (by rw[hzi];exact hout) (hfirm hp2 hh)⟩
 ·exact h.elim
def repZ(z:List ZV):Nat->List IV
 |0=>[]
 |n+1=>ZV.pvs z++repZ z n
theorem j31{e:TE}{t:Nat}(he:teB P t e=true)(hz:e.z≠[]):∀n,zj0 e.zv n=repZ e.z n
 |0=>rfl
 |n+1=>by simp only[zj0,repZ,j31 he hz n,zvIV he hz]
def frcE:List (List PV)->(List (List PV)->Prop)->Prop
 |[],K=>K []
 |x::r,K=>frcP x λy=>frcE r λl=>K (y::l)
theorem j1a:∀{l:List (List PV)} {K:List (List PV)->Prop},frcE l K->K l
 |[],_,h=>h
 |x::r,K,h=>j1a (l:=r) (K:=λl=>K (x::l)) (z8m (K:=λy=>frcE r λl=>K (y::l)) h)
def j5p(T:TB P)(own:Bool)(t len:Nat)(fr:Fr)(hp:Hp)(parts:List (Nat×Operand))(k:Nat)(K:Stp->Prop):Prop:=vti T t λe=>match e.i with
 |.slice q=>vti T q λeq=>z2c (!eq.z.isEmpty&&Nat.ble 1 eq.n&&Nat.ble (len*eq.n) (2 ^ 24)) (vopt (z4u fr parts) λxs=>y2o hp xs (vopt (z6o (λi=>some (i*eq.n,eq.n)) (repZ eq.z len) xs) λout=>match z7v out with
  |some ps=>frcE (z87 eq.n len ps) λl=>match own with
   |false=>K ⟨.pv (.seq l),[],xs.flatMap λp=>z03 p.2,[]⟩
   |true=>K ⟨.sl k len,[(k,some (.row ⟨q,eq.n⟩ l))],k::xs.flatMap λp=>z03 p.2,[k]⟩
  |none=>z2c (!nm.nms k out) (K ⟨.bs k len,[(k,some (.box out))],k::xs.flatMap λp=>z03 p.2,[k]⟩)))
 |_=>False
theorem j08{t len k:Nat}{own:Bool}{parts:Array (Nat×Operand)}(ho:o.op=.buildSlice t len parts)(h:j5p T own t len fr hp parts.toList k K):Does P Rl o fr hp K:=by
 replace h:=z1q h;obtain⟨e,he,h⟩:=h;obtain⟨d,hd,hi⟩:=z3k he;split at h
 ·rename_i q hq;rw[hq]at hi
  cases hi
  replace h:=z1q h;obtain⟨eq,heq,h⟩:=h;replace h:=z0e h;obtain⟨h1,h⟩:=h;simp only[A0]at h1;have hz':eq.z≠[]:=by simpa using h1.1.1
  replace h:=z0l h;obtain⟨xs,hxs,h⟩:=h;have ex:∀{fr2:Fr},agr fr2 fr (z1c o.op)->z4u fr2 parts.toList=some xs:=λhg=>hg.evParts hxs λy hy=>by
   rw[ho];simp only[Op.operands];exact Df hy
  replace h:=ze3 h;obtain⟨h,hfirm⟩:=h;replace h:=z0l h;obtain⟨out,hout,h⟩:=h;rw[<- j31 heq hz']at hout
  cases hps:z7v out with
  |none =>
   rw[hps]at h;replace h:=z0e h;obtain⟨hn,h⟩:=h;refine⟨_,h,λc fr2 hp2 _ hc hg hh hf=>?_⟩;obtain⟨f1,f2,f3⟩:=z47 (hf k (.head _))
   exact y14 ho (ex hg) hd (z84 heq hz') (z2m heq) (z6k heq hz').2 h1.1.2 h1.2 hout (hfirm hp2 λj hj=>hh j (.tail _ hj)) (by simpa using hn) f3 (hc k (.head _)) f1 f2
  |some ps =>
  rw[hps]at h;replace h:=j1a h;split at h
  ·exact⟨_,h,λc fr2 hp2 _ _ hg hh _=>bSl ho (ex hg) hd (z84 heq hz') (z2m heq) (z6k heq hz').2 h1.1.2 h1.2 hout (hfirm hp2 hh) hps⟩
  ·refine⟨_,h,λc fr2 hp2 _ hc hg hh hf=>?_⟩;obtain⟨f1,f2,f3⟩:=z47 (hf k (.head _));exact zx8 ho (ex hg) hd (z84 heq hz') (z2m heq) (z6k heq hz').2 h1.1.2 h1.2 hout (hfirm hp2 λj hj=>hh j (.tail _ hj)) hps f3 (hc k (.head _)) f1 f2
 ·exact h.elim
def vMkMap(k:Nat)(K:Stp->Prop):Prop:=K ⟨.mp k,[(k,some (.map []))],[k],[k]⟩
theorem j5v{t k:Nat}(ho:o.op=.makeMap t none)(h:vMkMap k K):Does P Rl o fr hp K:=by
 refine⟨_,h,λc fr2 hp2 _ hc _ _ hf=>?_⟩;obtain⟨f1,f2,f3⟩:=z47 (hf k (.head _));exact yv5 ho f3 (hc k (.head _)) f1 f2
inductive VNum(m:Int)(K:Nat->Prop):Prop
 |mk {n:Nat} (hm:m=n) (hb:n<=68719476736) (k:K n)
def ys5(T:TB P)(t:Nat)(fr:Fr)(y w:Operand)(k:Nat)(K:Stp->Prop):Prop:=vti T t λe=>match e.i with
 |.slice q=>vti T q λeq=>z2c (!eq.z.isEmpty&&Nat.ble 1 eq.n&&Nat.ble eq.b 2048) (vev fr y λa=>match a with
  |.pv (.val (.int .i64 m))=>vev fr w λb=>b=a/\VNum m λn=>frcP (ZV.ps eq.z) λl=>K ⟨.sl k n,[(k,some (.row ⟨q,eq.n⟩ (List.replicate n l)))],[k],[k]⟩
  |_=>False)
 |_=>False
theorem yj5{t k:Nat}{y w:Operand}(ho:o.op=.makeSlice t y w)(h:ys5 T t fr y w k K):Does P Rl o fr hp K:=by
 replace h:=z1q h;obtain⟨e,he,h⟩:=h;obtain⟨d,hd,hi⟩:=z3k he;split at h
 ·rename_i q hq;rw[hq]at hi
  cases hi
  replace h:=z1q h;obtain⟨eq,heq,h⟩:=h;replace h:=z0e h;obtain⟨h1,h⟩:=h;simp only[A0]at h1;have hz':eq.z≠[]:=by simpa using h1.1.1
  replace h:=z1p h;obtain⟨a,ha,h⟩:=h;split at h
  ·obtain⟨b,hb,h⟩:=z1p h;obtain⟨rfl,h⟩:=h;obtain⟨rfl,hn,h9⟩:=h;refine⟨_,z8m h9,λc fr2 hp2 _ hc hg _ hf=>?_⟩;obtain⟨f1,f2,f3⟩:=z47 (hf k (.head _));have h128:=B5 h1.2;have:=y8k (c:=c) (s:=⟨q,eq.n⟩) ho (hg.ev ha (by rw[ho];simp[Op.operands])) (hg.ev hb (by rw[ho];simp[Op.operands])) hd (z84 heq hz') (te_by heq) (z6k heq hz').2 (B5 h1.1.2) oM0 (Bm (G7 h128 hn) dC0) f3 (hc k (.head _)) f1 f2
   rwa [(z6k heq hz').1,<- ZV.ps_eq]at this
  ·exact h.elim
 ·exact h.elim
def ya2(T:TB P)(t:Nat)(fr:Fr)(y w:Operand)(K:Stp->Prop):Prop:=vti T t λe=>match e.i with
 |.slice q=>vti T q λeq=>z2c (!eq.z.isEmpty&&Nat.ble 1 eq.n&&Nat.ble eq.b 2048) (vev fr y λa=>match a with
  |.pv (.val (.int .i64 m))=>vev fr w λb=>b=a/\VNum m λn=>frcP (ZV.ps eq.z) λl=>K ⟨.pv (.seq (List.replicate n l)),[],[],[]⟩
  |_=>False)
 |_=>False
theorem ya3{t:Nat}{y w:Operand}(ho:o.op=.makeSlice t y w)(h:ya2 T t fr y w K):Does P Rl o fr hp K:=by
 replace h:=z1q h;obtain⟨e,he,h⟩:=h;obtain⟨d,hd,hi⟩:=z3k he;split at h
 ·rename_i q hq;rw[hq]at hi
  cases hi
  replace h:=z1q h;obtain⟨eq,heq,h⟩:=h;replace h:=z0e h;obtain⟨h1,h⟩:=h;simp only[A0]at h1;have hz':eq.z≠[]:=by simpa using h1.1.1
  replace h:=z1p h;obtain⟨a,ha,h⟩:=h;split at h
  ·obtain⟨b,hb,h⟩:=z1p h;obtain⟨rfl,h⟩:=h;obtain⟨rfl,hn,h9⟩:=h;refine⟨_,z8m h9,λc fr2 hp2 _ hc hg _ hf=>?_⟩;have h128:=B5 h1.2;have:=y61 (c:=c) (s:=⟨q,eq.n⟩) (σ:=look hp2) ho (hg.ev ha (by rw[ho];simp[Op.operands])) (hg.ev hb (by rw[ho];simp[Op.operands])) hd (z84 heq hz') (te_by heq) (z6k heq hz').2 (B5 h1.1.2) oM0 (Bm (G7 h128 hn) dC0)
   rwa [(z6k heq hz').1,<- ZV.ps_eq]at this
  ·exact h.elim
 ·exact h.elim
def j5u(T:TB P)(Rl:List Nat)(t:Nat)(fr:Fr)(hp:Hp)(x y w:Operand)(K:Stp->Prop):Prop:=vev fr x λa=>vev fr y λb=>vev fr w λz=>match a with
 |.mp k=>z2c (!nIn k Rl) (match b with
  |.pv (.val kv)=>match z with
   |.pv p=>vmap hp k λes=>vti T t λe=>match e.i with
    |.map kt _=>vti T kt λek=>vopt ek.i.key λd=>VMap d kv es (K ⟨.pv (.val undef),[(k,some (.map (mput kv p es)))],[k],[]⟩)
    |_=>False
   |_=>False
  |_=>False)
 |_=>False
theorem ya1{t:Nat}{x y w:Operand}(ho:o.op=.mapUpdate t x y w∨o.op=.insert t x y w)(h:j5u T Rl t fr hp x y w K):Does P Rl o fr hp K:=by
 replace h:=z1p h;obtain⟨a,ha,h⟩:=h;replace h:=z1p h;obtain⟨b,hb,h⟩:=h;replace h:=z1p h;obtain⟨z,hz,h⟩:=h;have hops:o.op.operands.toList=[x,y,w]:=by rcases ho with ho|ho<;>rw[ho]<;>rfl
 have ea:∀{fr2:Fr},agr fr2 fr (z1c o.op)->fr2.ev x=some a:=λhg=>hg.ev ha (by rw[hops];simp);have eb:∀{fr2:Fr},agr fr2 fr (z1c o.op)->fr2.ev y=some b:=λhg=>hg.ev hb (by rw[hops];simp);have ez:∀{fr2:Fr},agr fr2 fr (z1c o.op)->fr2.ev w=some z:=λhg=>hg.ev hz (by rw[hops];simp);split at h
 ·rename_i k;replace h:=z0e h;obtain⟨hR,h⟩:=h;have hR':nIn k Rl=false:=by simpa using hR
  split at h
  ·split at h
   ·obtain⟨es,hk,h⟩:=y79 h;replace h:=z1q h;obtain⟨e,he,h⟩:=h;obtain⟨d,hd,hi⟩:=z3k he;split at h
    ·rename_i kt et hq;rw[hq]at hi
     cases hi
     replace h:=z1q h;obtain⟨ek,hek,h⟩:=h;replace h:=z0l h;obtain⟨dk,hdk,h⟩:=h;obtain⟨h1,h2,h⟩:=h;refine⟨_,h,λc fr2 hp2 hc _ hg hh _=>?_⟩;rcases ho with ho|ho
     ·exact y8l ho (ea hg) (eb hg) (ez hg) (hh.at hk (.head _)) (notR hc hR') hd (y5n hek hdk) h1 h2
     ·exact j2f ho (ea hg) (eb hg) (ez hg) (hh.at hk (.head _)) (notR hc hR') hd (y5n hek hdk) h1 h2
    ·exact h.elim
   ·exact h.elim
  ·exact h.elim
 ·exact h.elim
def VFlat(n:Nat)(news:List (List PV)):Prop:=∀el∈news,el.length=n/\∀x∈el,x.one=true
def flatB(n:Nat):List (List PV)->Bool
 |[]=>true
 |el::r=>Nat.beq el.length n&&el.all PV.one&&flatB n r
theorem z3u{n:Nat}:∀{l:List (List PV)},flatB n l=true->VFlat n l
 |[],_=>λ_ h=>by cases h
 |el::r,h=>by
  simp only[flatB,A0]at h;intro e he;rcases Aq.1 he with rfl|he
  ·exact⟨Ak h.1.1,λx hx=>Bj.1 h.1.2 x hx⟩
  ·exact z3u h.2 e he
theorem zl2{α:Type}{n:Nat}{f:α -> List PV}{l:List α}(h:∀x∈l,(f x).length=n/\∀y∈f x,y.one=true):VFlat n (l.map f):=λel hel=>by
 obtain⟨x,hx,rfl⟩:=Bz.1 hel;exact h x hx
inductive VApp(s:RT)(els:List (List PV))(n:Nat)(news:List (List PV))(A:Prop):Prop
 |mk (hn:els.length=n) (hf:VFlat s.n news) (hb:n+news.length<=68719476736) (k:A)
theorem All.back{t:Nat}{v:Value}{y:IV}{ρ:Loc}{σ:Heap'}{w:World}{a:Act}(ht:fr.get t=some (.pv (.val v)))(hv:a.tmps[t]?=some v)(h:All c ρ σ w ((t,y)::fr) a):All c ρ σ w fr a:=by
 refine⟨h.rel,λt' z hz=>?_,h.tr,h.df,h.sz,h.kk⟩
 by_cases e:t=t'
 ·subst e;rw[ht]at hz
  cases hz
  exact⟨v,hv,z3c v⟩
 ·exact h.fr t' z (by simp only[Fr.get,z45 e];exact hz)
theorem All.slot{t:Nat}{v:Value}{ρ:Loc}{σ:Heap'}{w:World}{a:Act}(h:All c ρ σ w fr a)(ht:fr.get t=some (.pv (.val v))):a.tmps[t]?=some v:=by
 obtain⟨u,hu,hr⟩:=h.fr t _ ht;rw[hu,hr.val]
theorem Ok.reval{t:Nat}{v:Value}{y x:IV}{σ σ':Heap'}(ht:fr.get t=some (.pv (.val v)))(hs:∀F ρ w,RepI F ρ σ w y v)(h:Ok P c o ((t,y)::fr) σ x σ'):Ok P c o fr σ x σ':=by
 intro ρ w a Kc Q ha hK;have ha2:All c ρ σ w ((t,y)::fr) a:=ha.putFr ht λu hu=>by rw[hu.val];exact hs _ _ _
 exact h ρ w a Kc Q ha2 λρ' w' u ha' hu=>hK ρ' w' u (ha'.back ht (ha.slot ht)) hu
theorem Ok.ghostR{k t:Nat}{s:RT}{x:IV}{σ':Heap'}(hσ:look hp k=none)(hc:c.σ k=none)(hfr:nmFr k fr=false)(hhp:nmHp k hp=false)(ht:fr.get t=some (.pv (.val (.slice none 0 0))))(h:Ok P c o ((t,.sl k 0)::fr) (look ((k,some (.row s []))::hp)) x σ'):Ok P c o fr (look hp) x σ':=by
 intro ρ w a Kc Q ha hK;obtain⟨hk,ha'⟩:=ha.ghost hσ hc hfr hhp s;have ha2:=ha'.putFr (y:=.sl k 0) ht λv hv=>by
  obtain rfl:=hv.val;exact .sl k 0 _ λs' els' _=>⟨Aj _,λ_=>.inr ⟨hk,rfl,rfl⟩⟩
 exact h ρ w a Kc Q ha2 λρ' w' u ha3 hu=>hK ρ' w' u (ha3.back ht (ha.slot ht)) hu
theorem y5y{t u v k by_:Nat}{s:RT}{news:List (List PV)}(hut:Nat.beq u v=false)(ho:o.op=.call { callee:=.builtin .append,args:=#[.tmp u,.tmp v],argTypes:=#[t,t] })(hx:fr.get u=some (.pv (.val (.slice none 0 0))))(hy:fr.get v=some (.pv (.seq news)))
 (ht:P.underlying t=some (.slice s.e)) (hi:(P.info? s.e).map (λi=>(i.size,i.bytes,(i.zero.map λz=>z.cells.size)))=some (s.n,by_,some s.n)) (hs:0<s.n)
 (hw:∀el∈news,el.length=s.n) (hone:∀el∈news,∀x∈el,x.one=true) (hmax:0+news.length<=maxLen) (hb:(0+news.length)*by_<=140737488355328)
 (hσ:look hp k=none) (hc:c.σ k=none) (hR:¬c.R k) (hfr:nmFr k fr=false) (hhp:nmHp k hp=false) :
 Ok P c o fr (look hp) (.sl k news.length) (look ((k,some (.row s news))::hp)):=by
 refine Ok.ghostR (s:=s) hσ hc hfr hhp hx ?_;have hu:Fr.ev ((u,.sl k 0)::fr) (.tmp u)=some (.sl k 0):=by simp[Fr.ev,Fr.get]
 have hv:Fr.ev ((u,.sl k 0)::fr) (.tmp v)=some (.pv (.seq news)):=by simp only[Fr.ev,Fr.get,hut];exact hy
 have:=aPp (c:=c) (hp:=(k,some (.row s []))::hp) ho hu hv z1h rfl hR ht hi hs hw hone hmax hb;simp only[Bu,Dq]at this
 rwa [yd5]at this
theorem y2w{t k n:Nat}{u:Operand}{v by_:Nat}{s:RT}{els:List (List PV)}(hut:∀x,u=.tmp x->Nat.beq v x=false)(ho:o.op=.call { callee:=.builtin .append,args:=#[u,.tmp v],argTypes:=#[t,t] })(hx:fr.ev u=some (.sl k n))(hy:fr.get v=some (.pv (.val (.slice none 0 0))))
 (hk:look hp k=some (.row s els)) (hn:els.length=n) (hR:¬c.R k) (ht:P.underlying t=some (.slice s.e)) (hi:(P.info? s.e).map (λi=>(i.size,i.bytes,(i.zero.map λz=>z.cells.size)))=some (s.n,by_,some s.n)) (hs:0<s.n)
 (hmax:n+0<=maxLen) (hb:(n+0)*by_<=140737488355328):Ok P c o fr (look hp) (.sl k n) (look ((k,some (.row s els))::hp)):=by
 refine Ok.reval (y:=.pv (.seq [])) hy (λF ρ w=>.pv _ _ (.seq [] none 0 0 0 (λ_ _=>undef) sI0 sI0 sI0 (by simp[maxLen]) sI0 sI0)) ?_;have hu:Fr.ev ((v,.pv (.seq []))::fr) u=some (.sl k n):=by
  cases u with
  |tmp x=>simp only[Fr.ev,Fr.get,hut x rfl];exact hx
  |_=>exact hx
 have hv:Fr.ev ((v,.pv (.seq []))::fr) (.tmp v)=some (.pv (.seq [])):=by simp[Fr.ev,Fr.get]
 have:=aPp (c:=c) ho hu hv hk hn hR ht hi hs (λ_ h=>by cases h) (λ_ h=>by cases h) hmax hb;simpa using this
def tmpB:Operand->Option Nat
 |.tmp t=>some t
 |_=>none
theorem y2i{y:Operand}{t:Nat}(h:tmpB y=some t):y=.tmp t:=by cases y<;>simp_all[tmpB]
inductive VApp1(s:RT)(els:List (List PV))(n m:Nat)(el:List PV)(K:Nat->List (List PV)->Prop):Prop
 |mk {m':Nat} {els':List (List PV)} (hn:els.length=m) (hf:VFlat s.n [el]) (hb:m+1<=68719476736) (h:(n<m/\els'=els.set n el/\m'=m)∨(n=m/\els'=els++[el]/\m'=m+1)) (k:K m' els')
def y5w:List IV->Bool
 |[]=>true
 |x::r=>match x.parts with
  |none=>y5w r
  |some _=>false
theorem y3u:∀{l:List IV},y5w l=true->∀x∈l,x.parts=none
 |y::r,h,x,hx=>by
  simp only[y5w]at h;split at h
  ·rename_i hy;rcases Aq.1 hx with rfl|hx
   ·exact hy
   ·exact y3u h x hx
  ·cases h
def j5o(T:TB P)(Rl:List Nat)(t:Nat)(fr:Fr)(hp:Hp)(x y:Operand)(k0:Nat)(K:Stp->Prop):Prop:=vti T t λe=>match e.i with
 |.slice q=>vti T q λeq=>z2c (!eq.z.isEmpty&&Nat.ble 1 eq.n&&Nat.ble eq.b 2048) (vev fr x λa=>vev fr y λb=>match a with
  |.sl k n=>z2c (!nIn k Rl) (vrow hp k λs els=>z2c (Nat.beq s.e q&&Nat.beq s.n eq.n) (match b with
   |.pv (.seq news)=>VApp s els n news (K ⟨.sl k (n+news.length),[(k,some (.row s (els++news)))],[k],[]⟩)
   |.sl k2 n2=>vrow hp k2 λs2 news=>z2c (Nat.beq s2.e q&&Nat.beq s2.n eq.n) (news.length=n2/\VApp s els n news (K ⟨.sl k (n+news.length),[(k,some (.row s (els++news)))],[k,k2],[]⟩))
   |.pv (.val (.slice none 0 0))=>vopt (tmpB y) λv=>z2c (match tmpB x with
    |some u=>!Nat.beq v u
    |none=>true) (els.length=n/\n<=68719476736/\K ⟨.sl k n,[(k,some (.row s els))],[k],[]⟩)
   |_=>False))
  |.pv (.val (.slice none 0 0))=>vopt (tmpB x) λu=>vopt (tmpB y) λv=>z2c (!Nat.beq u v && !nIn k0 Rl) (match b with
   |.pv (.seq news)=>VApp ⟨q,eq.n⟩ [] 0 news (K ⟨.sl k0 news.length,[(k0,some (.row ⟨q,eq.n⟩ news))],[k0],[k0]⟩)
   |.bs k2 n2=>vbox hp k2 λcs=>z2c (!nm.nms k0 cs&&Nat.beq eq.n 1) (cs.length=n2/\0<n2/\n2<=68719476736/\K ⟨.bs k0 n2,[(k0,some (.box cs))],[k0,k2],[k0]⟩)
   |_=>False)
  |.sp k n m=>vopt (tmpB x) λu=>vopt (tmpB y) λv=>z2c (!Nat.beq u v && !nIn k Rl) (vrow hp k λs els=>z2c (Nat.beq s.e q&&Nat.beq s.n eq.n) (match b with
   |.pv (.seq [el])=>VApp1 s els n m el λm' els'=>K ⟨.sp k (n+1) m',[(k,some (.row s els'))],[k],[]⟩
   |_=>False))
  |.bs k n=>z2c (!nIn k Rl&&Nat.beq eq.n 1) (vbox hp k λcs=>match b with
   |.bs k2 n2=>vbox hp k2 λcs2=>z2c (!nm.nms k0 cs2&&y5w cs2) (y2o hp (cs2.map λx=>((0:Nat),x)) (cs.length=n/\cs2.length=n2/\0<n/\0<n2/\n+n2<=68719476736/\K ⟨.bs k0 (n+n2),[(k0,some (.box (cs++cs2))),(k,none)],k0::k::k2::(cs2.map λx=>((0:Nat),x)).flatMap (λp=>z03 p.2),[k0]⟩))
   |_=>False)
  |_=>False)
 |_=>False
theorem y0e{n b:Nat}(hn:n<=68719476736)(hb:Nat.ble b 2048=true):n<=maxLen/\n*b<=140737488355328:=by
 refine⟨by simp only[maxLen];omega,Bm (G7 hn (B5 hb)) dC0⟩
theorem j06{t k0:Nat}{x y:Operand}(ho:o.op=.call { callee:=.builtin .append,args:=#[x,y],argTypes:=#[t,t] })(h:j5o T Rl t fr hp x y k0 K):Does P Rl o fr hp K:=by
 have hops:o.op.operands.toList=[x,y]:=by rw[ho];rfl
 replace h:=z1q h;obtain⟨e,he,h⟩:=h;obtain⟨d,hd,hi⟩:=z3k he;split at h
 ·rename_i q hq;rw[hq]at hi
  cases hi
  replace h:=z1q h;obtain⟨eq,heq,h⟩:=h;replace h:=z0e h;obtain⟨h1,h⟩:=h;simp only[A0]at h1;have hz':eq.z≠[]:=by simpa using h1.1.1
  have hpos:=B5 h1.1.2;have hinfo:=te_app heq hz';replace h:=z1p h;obtain⟨a,ha,h⟩:=h;replace h:=z1p h;obtain⟨b,hb,h⟩:=h;have ea:∀{fr2:Fr},agr fr2 fr (z1c o.op)->fr2.ev x=some a:=λhg=>hg.ev ha (by rw[hops];simp);have eb:∀{fr2:Fr},agr fr2 fr (z1c o.op)->fr2.ev y=some b:=λhg=>hg.ev hb (by rw[hops];simp);split at h
  ·rename_i k n;replace h:=z0e h;obtain⟨hR,h⟩:=h;have hR':nIn k Rl=false:=by simpa using hR
   replace h:=z3p h;obtain⟨s,els,hk,h⟩:=h;replace h:=z0e h;obtain⟨hs,h⟩:=h;simp only[A0]at hs;have hse:=Ak hs.1;have hsn:=Ak hs.2;split at h
   ·obtain⟨hn,hf,hbd,h⟩:=h;obtain⟨hm1,hm2⟩:=y0e hbd h1.2;exact⟨_,h,λc fr2 hp2 hc _ hg hh _=>aPp ho (ea hg) (eb hg) (hh.at hk (.head _)) hn (notR hc hR') (by rw[hse];exact hd) (by rw[hse,hsn];exact hinfo) oM0 (λel hel=>(hf el hel).1) (λel hel=>(hf el hel).2) hm1 hm2⟩
   ·rename_i k2 n2;replace h:=z3p h;obtain⟨s2,news,hk2,h⟩:=h;replace h:=z0e h;obtain⟨hs2,h⟩:=h;simp only[A0]at hs2;have hss:s2=s:=by
     cases s;cases s2
     have h3:=Ak hs2.1;have h4:=Ak hs2.2
     simp_all
    subst hss;obtain⟨hn2,hn,hf,hbd,h9⟩:=h;obtain⟨hm1,hm2⟩:=y0e hbd h1.2;exact⟨_,h9,λc fr2 hp2 hc _ hg hh _=>y5z ho (ea hg) (eb hg) (hh.at hk (.head _)) hn (hh.at hk2 (.tail _ (.head _))) hn2 (notR hc hR') (by rw[hse];exact hd) (by rw[hse,hsn];exact hinfo) oM0 (λel hel=>(hf el hel).1) (λel hel=>(hf el hel).2) hm1 hm2⟩
   ·replace h:=z0l h;obtain⟨v,hv,h⟩:=h;have hv':=y2i hv;replace h:=z0e h;obtain⟨hut,h⟩:=h;obtain⟨hn,hbd,h⟩:=h;obtain⟨hm1,hm2⟩:=y0e hbd h1.2;refine⟨_,h,λc fr2 hp2 hc _ hg hh _=>y2w (v:=v) (λu hu=>?_) (by rw[ho,hv']) (ea hg) (by have:=eb hg;rw[hv']at this;exact this) (hh.at hk (.head _)) hn (notR hc hR') (by rw[hse];exact hd) (by rw[hse,hsn];exact hinfo) oM0 hm1 hm2⟩;rw[hu]at hut;simpa[tmpB]using hut
   ·exact h.elim
  ·replace h:=z0l h;obtain⟨u,hu,h⟩:=h;replace h:=z0l h;obtain⟨v,hv,h⟩:=h;replace h:=z0e h;obtain⟨hut,h⟩:=h;simp only[A0,Bi]at hut;have hu':=y2i hu;have hv':=y2i hv;split at h
   ·obtain⟨hn,hf,hbd,h⟩:=h;obtain⟨hm1,hm2⟩:=y0e hbd h1.2;refine⟨_,h,λc fr2 hp2 hc hc0 hg _ hfr=>?_⟩;obtain⟨f1,f2,f3⟩:=z47 (hfr k0 (.head _));exact y5y (s:=⟨q,eq.n⟩) hut.1 (by rw[ho,hu',hv']) (by have:=ea hg;rw[hu']at this;exact this) (by have:=eb hg;rw[hv']at this;exact this) hd hinfo hpos (λel hel=>(hf el hel).1) (λel hel=>(hf el hel).2) hm1 hm2 f3 (hc0 k0 (.head _)) (notR hc hut.2) f1 f2
   ·rename_i k2 n2;obtain⟨cs,hk2,h⟩:=z4f h;replace h:=z0e h;obtain⟨hn1,hn2,h02,hbd,h⟩:=h;simp only[A0,Bi]at hn1;obtain⟨hm1,hm2⟩:=y0e hbd h1.2;have hn3:=Ak hn1.2;refine⟨_,h,λc fr2 hp2 hc hc0 hg hh hfr=>?_⟩;obtain⟨f1,f2,f3⟩:=z47 (hfr k0 (.head _));exact y8e ho (ea hg) (eb hg) (hh.at hk2 (.tail _ (.head _))) hn2 h02 hd (by rw[hn3]at hinfo;exact hinfo) hm1 hm2 hn1.1 f3 (hc0 k0 (.head _)) f1 f2
   ·exact h.elim
  ·rename_i k n m;replace h:=z0l h;obtain⟨u,hu,h⟩:=h;replace h:=z0l h;obtain⟨v,hv,h⟩:=h;replace h:=z0e h;obtain⟨hut,h⟩:=h;simp only[A0,Bi]at hut;have hu':=y2i hu;have hv':=y2i hv;replace h:=z3p h;obtain⟨s,els,hk,h⟩:=h;replace h:=z0e h;obtain⟨hs,h⟩:=h;simp only[A0]at hs;have hse:=Ak hs.1;have hsn:=Ak hs.2;split at h
   ·rename_i el;obtain⟨hn,hf,hbd,hor,h⟩:=h;obtain⟨hm1,hm2⟩:=y0e hbd h1.2;obtain⟨hf1,hf2⟩:=hf el (.head _);rcases hor with⟨g1,rfl,rfl⟩|⟨rfl,rfl,rfl⟩
    ·exact⟨_,h,λc fr2 hp2 hc _ hg hh _=>y2x ho (ea hg) (eb hg) (hh.at hk (.head _)) hn g1 (notR hc hut.2) (by rw[hse];exact hd) (by rw[hse,hsn];exact hinfo) hf1 hf2⟩
    ·exact⟨_,h,λc fr2 hp2 hc _ hg hh _=>y13 hut.1 (by rw[ho,hu',hv']) (by have:=ea hg;rw[hu']at this;exact this) (by have:=eb hg;rw[hv']at this;exact this) (hh.at hk (.head _)) hn (notR hc hut.2) (by rw[hse];exact hd) (by rw[hse,hsn];exact hinfo) oM0 hf1 hf2 hm1 hm2⟩
   ·exact h.elim
  ·rename_i k n;replace h:=z0e h;obtain⟨hut,h⟩:=h;simp only[A0,Bi]at hut;obtain⟨cs,hk,h⟩:=z4f h;split at h
   ·rename_i k2 n2;obtain⟨cs2,hk2,h⟩:=z4f h;replace h:=z0e h;obtain⟨hv,h⟩:=h;simp only[A0,Bi]at hv;obtain⟨⟨hn,hn2,h0,h02,hbd,h⟩,hfm⟩:=ze3 h;obtain⟨hm1,hm2⟩:=y0e hbd h1.2;have hn3:=Ak hut.2;refine⟨_,h,λc fr2 hp2 hc hc0 hg hh hfr=>?_⟩;obtain⟨f1,f2,f3⟩:=z47 (hfr k0 (.head _));have hfm2:=hfm hp2 λk hk=>hh k (.tail _ (.tail _ (.tail _ hk)));exact y5x ho (ea hg) (eb hg) (hh.at hk (.tail _ (.head _))) (hh.at hk2 (.tail _ (.tail _ (.head _)))) hn hn2 h0 h02 hd (by rw[hn3]at hinfo;exact hinfo) hm1 hm2 (λx hx=>hfm2 (0,x) (Bz.2 ⟨x,hx,rfl⟩) (y3u hv.2 x hx)) hv.1 (notR hc hut.1) f3 (hc0 k0 (.head _)) f1 f2
   ·exact h.elim
  ·exact h.elim
 ·exact h.elim
end
section
variable {P:Program} {T:TB P} {o:Oper} {fr:Fr} {hp:Hp} {Rl:List Nat} {K:Stp->Prop} {c:Cx}
def zc5(l:List (Nat×HO)):List Nat:=l.map (·.1)
def lBeq:List Nat->List Nat->Bool
 |[],[]=>true
 |a::r,b::s=>match Nat.beq a b with
  |true=>lBeq r s
  |false=>false
 |_,_=>false
theorem yd3:∀{l m:List Nat},lBeq l m=true->l=m
 |[],[],_=>rfl
 |a::r,b::s,h=>by
  simp only[lBeq]at h;split at h
  ·rename_i hb;rw[Ak hb,yd3 h]
  ·cases h
def SubA(xs ys:List IV):Prop:=∀σ,Subs σ xs ys
theorem sR{xs:List IV}:SubA xs xs:=λσ=>sRf σ xs
def cOk(hp:Hp)(Rl U:List Nat)(R:Nat->Prop)(post:List (Nat×HO)):List (Nat×HO)->Prop
 |[]=>True
 |(k,o)::r=>look hp k=some o/\(match nIn k U with
  |true=>look (up post) k=some o/\(match nIn k Rl with
   |true=>R k/\cOk hp Rl U R post r
   |false=>cOk hp Rl U R post r)
  |false=>match nIn k Rl with
   |true=>R k/\cOk hp Rl U R post r
   |false=>cOk hp Rl U R post r)
theorem yb8{U:List Nat}{R:Nat->Prop}{post:List (Nat×HO)}:∀{pre:List (Nat×HO)},cOk hp Rl U R post pre->∀p∈pre,look hp p.1=some p.2/\(p.1∈U->look (up post) p.1=some p.2)/\(p.1∈Rl->R p.1)
 |(k,o)::r,h,p,hq=>by
  simp only[cOk]at h;obtain⟨h0,h⟩:=h;have key:(k∈U->look (up post) k=some o)/\(k∈Rl->R k)/\cOk hp Rl U R post r:=by
   split at h
   ·obtain⟨h1,h⟩:=h;split at h
    ·exact⟨λ_=>h1,λ_=>h.1,h.2⟩
    ·rename_i hn;exact⟨λ_=>h1,λe=>A9 e (z3g hn),h⟩
   ·rename_i hu;split at h
    ·exact⟨λe=>A9 e (z3g hu),λ_=>h.1,h.2⟩
    ·rename_i hn;exact⟨λe=>A9 e (z3g hu),λe=>A9 e (z3g hn),h⟩
  rcases Aq.1 hq with rfl|hq
  ·exact⟨h0,key.1,key.2.1⟩
  ·exact yb8 key.2.2 p hq
def j28(pre post:List (Nat×HO)):List Nat:=(zc5 post).take (post.length-pre.length)
def lAll(f:Nat->Bool):List Nat->Bool
 |[]=>true
 |k::r=>match f k with
  |true=>lAll f r
  |false=>false
theorem y0x{f:Nat->Bool}:∀{l:List Nat},lAll f l=true->∀k∈l,f k=true
 |a::r,h,k,hk=>by
  simp only[lAll]at h;split at h
  ·rename_i ha;rcases Aq.1 hk with rfl|hk
   ·exact ha
   ·exact y0x h k hk
  ·cases h
def callB(U:List Nat)(pre post:List (Nat×HO))(r:IV):Bool :=
 lBeq (zc5 post) (j28 pre post++zc5 pre)&&lAll (λk=>!nIn k U) (j28 pre post)&&only (zc5 post) r&&z97 (zc5 post) post
def upU(U:List Nat):List (Nat×HO)->Hp
 |[]=>[]
 |(k,o)::r=>match nIn k U with
  |true=>upU U r
  |false=>(k,some o)::upU U r
theorem yn1{U:List Nat}{k:Nat}:∀{l:List (Nat×HO)},look (upU U l) k=if k∈U then none else look (up l) k
 |[]=>by simp[upU,up,look]
 |(j,o)::r=>by
  simp only[upU];have ih:=yn1 (U:=U) (k:=k) (l:=r);have hl:look (up ((j,o)::r)) k=bif Nat.beq j k then some o else look (up r) k:=rfl;split
  ·rename_i hj;have hj':=z69.1 hj;rw[ih,hl]
   by_cases e:k∈U
   ·simp[e]
   ·have:j≠k:=λh=>e (h▸hj');simp[e,z45 this]
  ·rename_i hj;have hj':=z3g hj;have hl2:look ((j,some o)::upU U r) k=bif Nat.beq j k then some o else look (upU U r) k:=rfl;rw[hl2,ih,hl]
   by_cases e:k∈U
   ·have:j≠k:=λh=>hj' (h▸e);simp[e,z45 this]
   ·simp[e]
theorem z34{A B:Hp}{k:Nat}:look (A++B) k=if k∈A.map (·.1)then look A k else look B k:=by
 induction A with
 |nil=>simp
 |cons p r ih =>
  obtain⟨j,q⟩:=p;have h1:look ((j,q)::r++B) k=bif Nat.beq j k then q else look (r++B) k:=rfl;have h2:look ((j,q)::r) k=bif Nat.beq j k then q else look r k:=rfl;rw[h1,h2]
  by_cases e:j=k
  ·subst e;simp
  ·have e':k≠j:=C4 e;simp only[z45 e,D7,B7,Aq,e',false_or];exact ih
theorem up_ids{l:List (Nat×HO)}:(up l).map (·.1)=zc5 l:=by simp[up,zc5]
theorem y77{U:List Nat}:∀{l:List (Nat×HO)} {k:Nat},k∈(upU U l).map (·.1)↔k∈zc5 l/\k∉U
 |[],k=>by simp[upU,zc5]
 |(j,o)::r,k=>by
  have ih:=y77 (U:=U) (l:=r) (k:=k);simp only[upU,zc5,B7,Aq];simp only[zc5]at ih;split
  ·rename_i hj;have hj':=z69.1 hj;rw[ih];constructor
   ·exact λh=>⟨.inr h.1,h.2⟩
   ·rintro⟨rfl|h,h2⟩
    ·exact A9 hj' h2
    ·exact⟨h,h2⟩
  ·rename_i hj;have hj':=z3g hj;simp only[B7,Aq];rw[ih];constructor
   ·rintro(rfl|h)
    ·exact⟨.inl rfl,hj'⟩
    ·exact⟨.inr h.1,h.2⟩
   ·rintro⟨rfl|h,h2⟩
    ·exact .inl rfl
    ·exact .inr ⟨h,h2⟩
inductive VCall(P:Program)(Rl:List Nat)(f:FuncId)(xs:List IV)(hp:Hp)(K:Stp->Prop):Prop
 |mk (U:List Nat) {args:List IV} {pre post:List (Nat×HO)} {R:Nat->Prop} {r:IV} (h:SC P f args pre R r post) (hs:SubA xs args) (ho:cOk hp Rl U R post pre) (hc:callB U pre post r=true) (k:K ⟨r,upU U post,zc5 post,j28 pre post⟩)
theorem VCall.does{f:FuncId}{os:Array Operand}{tys:Array TypeId}{xs:List IV}(hf:z6n P f)(ho:o.op=.call { callee:=.value (.func f),args:=os,argTypes:=tys })(hx:evs fr os.toList=some xs)(h:VCall P Rl f xs hp K):Does P Rl o fr hp K:=by
 obtain⟨U,hsc,hs,hok,hc,hk⟩:=h;rename_i args pre post R r;simp only[callB,A0]at hc;obtain⟨⟨⟨h1,h2⟩,h3⟩,h4⟩:=hc;have hdom:=yd3 h1;have hU:=y0x h2;have hm:=yb8 hok;refine⟨_,hk,λc fr2 hp2 hR hc0 hg hh hf0=>?_⟩;have hpre2:∀p∈pre,look hp2 p.1=some p.2:=λp hq=>hh.at (hm p hq).1 (by
  show p.1∈zc5 post;rw[hdom];exact C9 _ (Df hq))
 have hpre3:∀k ob,look (up pre) k=some ob->look hp2 k=some ob:=λk ob hk=>hpre2 (k,ob) (z1o hk);have h5:=j2d (ns:=j28 pre post) (c:=c) hsc hf ho (hg.evs hx λy hy=>by
  rw[ho];simp only[Op.operands,Call.operands,Do];exact C9 _ hy) (hs _) hpre3 hdom
  (λk hk=>(z47 (hf0 k hk)).2.2) (λk hk=>hc0 k hk) (λk hk=>(z47 (hf0 k hk)).1) (λk hk=>(z47 (hf0 k hk)).2.1)
  (λk hk=>by
   cases hl:look (up pre) k with
   |none=>exact .inl rfl
   |some ob=>exact .inr ((hm _ (z1o hl)).2.2 (hR k hk))) h3 h4
 have heq:look (up post++hp2)=look (upU U post++hp2):=by
  funext k
  rw[z34,z34,up_ids]
  by_cases e:k∈zc5 post
  ·rw[A5 e]
   by_cases u:k∈U
   ·rw[A1 (λhx=>(y77.1 hx).2 u)];rw[hdom]at e;rcases B3.1 e with e|e
    ·have:=hU k e;rw[z69.2 u]at this
     cases this
    ·obtain⟨p,hq,rfl⟩:=Bz.1 e;rw[(hm p hq).2.1 u,hpre2 p hq]
   ·rw[A5 (y77.2 ⟨e,u⟩),yn1,A1 u]
  ·rw[A1 e,A1 (λhx=>e (y77.1 hx).1)]
 rw[<- heq];exact h5
inductive VCallV(P:Program)(Rl:List Nat)(f:FuncId)(xs:List IV)(hp:Hp)(K:Stp->Prop):Prop
 |mk {args:List IV} {pre post:List (Nat×HO)} {R:Nat->Prop} {r:IV} (h:SC P f args pre R r post) (hs:SubA xs args) (ho:cOk hp Rl [] R post pre) (hR:∀k∈Rl,R k) (hc:callB [] pre post r=true) (hn:j28 pre post=[]) (k:K ⟨r,up post,zc5 post,[]⟩)
theorem VCallV.does{f:FuncId}{q:Operand}{os:Array Operand}{tys:Array TypeId}{us xs ws:List IV}(hf:z6n P f)(ho:o.op=.call { callee:=.value q,args:=os,argTypes:=tys })(hq:fr.ev q=some (.fn (.func f) us ws))(hx:evs fr os.toList=some xs)(h:VCallV P Rl f (us++xs++ws) hp K):Does P Rl o fr hp K:=by
 obtain⟨hsc,hs,hok,hR0,hc,hn,hk⟩:=h;rename_i args pre post R r;simp only[callB,A0]at hc;obtain⟨⟨⟨h1,_⟩,h3⟩,h4⟩:=hc;have hdom:=yd3 h1;rw[hn,Dq]at hdom;have hm:=yb8 hok;refine⟨_,hk,λc fr2 hp2 hR hc0 hg hh hf0=>?_⟩;have hpre3:∀k ob,look (up pre) k=some ob->look hp2 k=some ob:=λk ob hk=>hh.at (hm _ (z1o hk)).1 (by
  show k∈zc5 post;rw[hdom];exact Df (z1o hk))
 exact ok_callv (c:=c) hsc hf ho (hg.ev hq (by rw[ho];simp[Op.operands,Call.operands])) (hg.evs hx λy hy=>by
  rw[ho];simp only[Op.operands,Call.operands,Do];exact C9 _ hy) (hs _) hpre3 hdom.symm (λk hk=>hR0 k (hR k hk)) h3 h4
inductive Gh where
 |grow (t k e n:Nat)
 |growC (k2 j k e n:Nat)
 |fz (t k:Nat)
 |fzC (k2 j k:Nat)
 |fzB (t k:Nat)
 |len (t:Nat)
 |drop (k:Nat)
 |ni (t:Nat)
 |niC (k j:Nat)
 |un (t:Nat)
 |spC (k2 j k:Nat)
structure Hn where
 gh:List (Nat×List Gh):=[]
 pb:List Nat:=[]
 ob:List Nat:=[]
 an:List Nat:=[]
 jn:List Nat:=[]
 ids:List (Nat×Nat):=[]
def idAt(d:Nat):List (Nat×Nat)->Nat
 |[]=>100+d
 |(s,k)::r=>match Nat.beq s d with
  |true=>k
  |false=>idAt d r
def y2v(H:Hn)(o:Oper):Nat:=match o.dst with
 |some d=>idAt d H.ids
 |none=>0
def newF(H:Hn)(o:Oper)(fr:Fr)(hp:Hp):Nat:=match frsh (y2v H o) fr hp with
 |true=>y2v H o
 |false=>y2v H o+10
def yj2(T:TB P)(H:Hn)(Rl:List Nat)(o:Oper)(q:Call)(fr:Fr)(hp:Hp)(K:Stp->Prop):Prop:=match q.callee with
 |.builtin b=>match b with
  |.len=>match q.args.toList with
   |[y]=>match q.argTypes.toList with
    |[t]=>vLen T t fr hp y K
    |_=>False
   |_=>False
  |.cap=>match q.args.toList with
   |[y]=>match q.argTypes.toList with
    |[t]=>vCap T t fr y K
    |_=>False
   |_=>False
  |.max=>match q.args.toList with
   |[y,w]=>match q.argTypes.toList with
    |[t,u]=>z2c (Nat.beq u t) (vMax fr y w K)
    |_=>False
   |_=>False
  |.append=>match q.args.toList with
   |[y,w]=>match q.argTypes.toList with
    |[t,u]=>z2c (Nat.beq u t) (j5o T Rl t fr hp y w (newF H o fr hp) K)
    |_=>False
   |_=>False
  |_=>False
 |.value y=>vopt (evs fr q.args.toList) λxs=>match y with
  |.func f=>z2c (T.fn f) (VCall P Rl f xs hp K)
  |y=>vev fr y λa=>match a with
   |.fn (.func f) us ws=>z2c (T.fn f) (VCallV P Rl f (us++xs++ws) hp K)
   |_=>False
 |_=>False
theorem zy4{q:Call}{a:Callee}{xs:List Operand}{ts:List TypeId}(ha:q.callee=a)(hx:q.args.toList=xs)(ht:q.argTypes.toList=ts):q={ callee:=a,args:=xs.toArray,argTypes:=ts.toArray }:=by
 cases q;simp_all;exact⟨by rw[<- hx],by rw[<- ht]⟩
theorem j09{H:Hn}{q:Call}(ho:o.op=.call q)(h:yj2 T H Rl o q fr hp K):Does P Rl o fr hp K:=by
 unfold yj2 at h;split at h
 ·rename_i b hb;split at h
  ·split at h
   ·rename_i hy;split at h
    ·rename_i ht;exact vLen_ok (by rw[ho,zy4 hb hy ht]) h
    ·exact h.elim
   ·exact h.elim
  ·split at h
   ·rename_i hy;split at h
    ·rename_i ht;exact vCap_ok (by rw[ho,zy4 hb hy ht]) h
    ·exact h.elim
   ·exact h.elim
  ·split at h
   ·rename_i hy;split at h
    ·rename_i ht;replace h:=z0e h;obtain⟨hu,h⟩:=h;obtain rfl:=Ak hu;exact vMax_ok (by rw[ho,zy4 hb hy ht]) h
    ·exact h.elim
   ·exact h.elim
  ·split at h
   ·rename_i hy;split at h
    ·rename_i ht;replace h:=z0e h;obtain⟨hu,h⟩:=h;obtain rfl:=Ak hu;exact j06 (by rw[ho,zy4 hb hy ht]) h
    ·exact h.elim
   ·exact h.elim
  ·exact h.elim
 ·rename_i y hb;replace h:=z0l h;obtain⟨xs,hx,h⟩:=h;have hq:o.op=.call { callee:=.value y,args:=q.args,argTypes:=q.argTypes }:=by rw[ho];cases q;simp_all
  split at h
  ·replace h:=z0e h;exact VCall.does (T.fok _ h.1) hq hx h.2
  ·replace h:=z1p h;obtain⟨a,ha,h⟩:=h;split at h
   ·replace h:=z0e h;exact VCallV.does (T.fok _ h.1) hq ha hx h.2
   ·exact h.elim
 ·exact h.elim
def vop(T:TB P)(H:Hn)(Rl:List Nat)(key:Nat)(o:Oper)(fr:Fr)(hp:Hp)(K:Stp->Prop):Prop:=match nIn key H.an with
 |true=>VAny P Rl o fr hp K
 |false=>match o.op with
  |.move y=>ya4 fr y K
  |.assign y=>ya4 fr y K
  |.pick q y w=>vPick fr q y w K
  |.binOp p t y w _=>vBin T p t fr y w K
  |.unOp p _ y=>vUn p fr y K
  |.convert s t y=>vConv T s t fr y K
  |.load t y=>yj4 T t fr hp y K
  |.store t y w=>vStore T Rl t fr hp y w K
  |.fieldAddr t y f=>j5r T t fr hp y f K
  |.field t y f=>j5s T t fr y f K
  |.indexAddr t y w=>vIdxA T t fr hp y w K
  |.index t y w=>vIdxV T t fr y w K
  |.extract y i=>ys4 fr y i K
  |.nilCheck y=>vNil fr hp y K
  |.slice t y lo hi none=>vSlice T t fr hp y lo hi K
  |.makeFunc f xs ys=>vFunc fr f xs ys K
  |.lookup t y w two=>j5t T t fr hp y w two K
  |.mapUpdate t x y w=>j5u T Rl t fr hp x y w K
  |.insert t x y w=>j5u T Rl t fr hp x y w K
  |.alloc t=>vAlloc T t (y2v H o) K
  |.box _ y=>vBox (!nIn (y2v H o) H.pb) fr hp y (y2v H o) K
  |.build t parts=>vBuild T t fr hp parts.toList K
  |.buildSlice t len parts=>j5p T (nIn (y2v H o) H.ob) t len fr hp parts.toList (y2v H o) K
  |.makeMap _ none=>vMkMap (y2v H o) K
  |.makeSlice t y w=>match nIn (y2v H o) H.pb with
   |true=>ya2 T t fr y w K
   |false=>ys5 T t fr y w (newF H o fr hp) K
  |.call q=>yj2 T H Rl o q fr hp K
  |_=>False
theorem vop_ok{H:Hn}{key:Nat}(h:vop T H Rl key o fr hp K):Does P Rl o fr hp K:=by
 unfold vop at h;split at h
 ·obtain⟨h1,h2⟩:=h;exact⟨_,h2,h1⟩
 ·split at h
  ·exact vMove_ok ‹_› h
  ·exact j07 ‹_› h
  ·exact vPick_ok ‹_› h
  ·exact vBin_ok ‹_› h
  ·exact vUn_ok ‹_› h
  ·exact vConv_ok ‹_› h
  ·exact vLoad_ok ‹_› h
  ·exact j5x ‹_› h
  ·exact j0a ‹_› h
  ·exact j0b ‹_› h
  ·exact vIdxA_ok ‹_› h
  ·exact vIdxV_ok ‹_› h
  ·exact yj3 ‹_› h
  ·exact vNil_ok ‹_› h
  ·exact j5w ‹_› h
  ·exact vFunc_ok ‹_› h
  ·exact j0d ‹_› h
  ·exact ya1 (.inl ‹_›) h
  ·exact ya1 (.inr ‹_›) h
  ·exact j5n ‹_› h
  ·exact vBox_ok ‹_› h
  ·exact j5q ‹_› h
  ·exact j08 ‹_› h
  ·exact j5v ‹_› h
  ·split at h
   ·exact ya3 ‹_› h
   ·exact yj5 ‹_› h
  ·exact j09 ‹_› h
  ·exact h.elim
end
section
variable {P:Program} {c:Cx} {R1:Nat->Prop} {fr:Fr} {hp:Hp} {σ σ':Heap'} {Q:Exit->Fr->Heap'->Prop} {ops:Array Oper} {l:List Oper} {d e j i t:Nat} {b b':Bool} {x z:IV} {op:Op} {ty:TypeId} {ps:String} {af:Array Edge} {g:Option (Nat×Bool)} {ds:Option Nat}
section
variable {is:List Nat} {fuel:Nat} {li:Array Bool}
end
def yu6:Option Nat->Nat->Bool
 |some d,n=>Nat.blt d n
 |none,_=>true
theorem okDst_lt{n:Nat}(h:yu6 ds n=true):∀t,ds=some t->Nat.blt t n=true:=λt ht=>by subst ht;exact h
section
variable {fuel:Nat} {li:Array Bool}
end
end
theorem fmc{α:Type}{p:α -> Prop}{a:α}{l:List α}(h:p a/\∀x∈l,p x):∀x∈a::l,p x:=Fc.2 h
section
variable {P:Program} {T:TB P} {fr fr':Fr} {hp hp':Hp} {Rl ks:List Nat} {c:Cx} {ops:Array Oper} {Q:Exit->Fr->Heap'->Prop} {nt:Nat}
structure Ent where
 i:Nat
 o:Oper
 s:Option Stp
def Ent.x(e:Ent):IV:=match e.s with
 |some s=>s.x
 |none=>.pv (.val undef)
def Ent.wr(e:Ent):Hp:=match e.s with
 |some s=>s.wr
 |none=>[]
def Ent.rd(e:Ent):List Nat:=match e.s with
 |some s=>s.rd
 |none=>[]
def Ent.nw(e:Ent):List Nat:=match e.s with
 |some s=>s.nw
 |none=>[]
def putE(fr:Fr)(e:Ent):Fr:=fr.put e.o.dst e.x
def putH(hp:Hp)(e:Ent):Hp:=e.wr++hp
def y3i(ops:Array Oper)(o:Oper):List Nat:=match o.guard with
 |some (j,_)=>match ops[j]? with
  |some oj=>oj.dst.toList
  |none=>[]
 |none=>[]
def seen(ops:Array Oper)(o:Oper):List Nat:=y3i ops o++z1c o.op
inductive GYes(ops:Array Oper)(o:Oper)(fr:Fr):Prop
 |free (h:o.guard=none)
 |met {j t:Nat} {b:Bool} {oj:Oper} (h:o.guard=some (j,b)) (hj:ops[j]?=some oj) (ht:oj.dst=some t) (hb:fr.get t=some (.pv (.val (.bool b))))
inductive GNo(ops:Array Oper)(o:Oper)(fr:Fr):Prop
 |not {j t:Nat} {b:Bool} {oj:Oper} (h:o.guard=some (j,!b)) (hj:ops[j]?=some oj) (ht:oj.dst=some t) (hb:fr.get t=some (.pv (.val (.bool b))))
 |un {j t:Nat} {b:Bool} {oj:Oper} (h:o.guard=some (j,b)) (hj:ops[j]?=some oj) (ht:oj.dst=some t) (hb:fr.get t=some (.pv (.val undef)))
theorem GYes.wanted{o:Oper}{ρ:Loc}{σ:Heap'}{w:World}{a:Act}(h:GYes ops o fr)(ha:All c ρ σ w fr a):Region.wanted o (yielded ops a.tmps)=true:=by
 cases h with
 |free h=>simp[Region.wanted,h]
 |met h hj ht hb=>simp[Region.wanted,h,zb0 ha hj ht hb]
theorem GNo.wanted{o:Oper}{ρ:Loc}{σ:Heap'}{w:World}{a:Act}(h:GNo ops o fr)(ha:All c ρ σ w fr a):Region.wanted o (yielded ops a.tmps)=false:=by
 cases h with
 |not h hj ht hb=>simp[Region.wanted,h,zb0 ha hj ht hb]
 |un h hj ht hb=>simp[Region.wanted,h,y7c ha hj ht hb]
theorem GYes.agr{o:Oper}{fr2:Fr}(h:GYes ops o fr)(hg:agr fr2 fr (y3i ops o)):GYes ops o fr2:=by
 cases h with
 |free h=>exact .free h
 |met h hj ht hb=>exact .met h hj ht ((hg _ (by simp[y3i,h,hj,ht])).trans hb)
theorem GNo.agr{o:Oper}{fr2:Fr}(h:GNo ops o fr)(hg:agr fr2 fr (y3i ops o)):GNo ops o fr2:=by
 cases h with
 |not h hj ht hb=>exact .not h hj ht ((hg _ (by simp[y3i,h,hj,ht])).trans hb)
 |un h hj ht hb=>exact .un h hj ht ((hg _ (by simp[y3i,h,hj,ht])).trans hb)
def wrOk(hp:Hp)(nw:List Nat):Hp->Bool
 |[]=>true
 |(k,_)::r=>match nIn k nw with
  |true=>wrOk hp nw r
  |false=>match look hp k with
   |some _=>wrOk hp nw r
   |none=>false
theorem y7b{nw:List Nat}{k:Nat}:∀{l:Hp},wrOk hp nw l=true->k∈l.map (·.1)->k∈nw∨look hp k≠none
 |(j,q)::r,h,hk=>by
  simp only[wrOk]at h;simp only[B7,Aq]at hk;split at h
  ·rename_i hn;rcases hk with rfl|hk
   ·exact .inl (z69.1 hn)
   ·exact y7b h hk
  ·split at h
   ·rename_i ob hl;rcases hk with rfl|hk
    ·exact .inr (by rw[hl];simp)
    ·exact y7b h hk
   ·cases h
def newB(ks:List Nat)(fr:Fr)(hp:Hp)(k:Nat):Bool:=match nIn k ks with
 |true=>false
 |false=>frsh k fr hp
theorem j27{k:Nat}(h:newB ks fr hp k=true):k∉ks/\frsh k fr hp=true:=by
 unfold newB at h;split at h
 ·cases h
 ·rename_i hn;exact⟨z3g hn,h⟩
def Good(P:Program)(ops:Array Oper)(Rl ks:List Nat)(nt:Nat)(e:Ent)(fr:Fr)(hp:Hp):Prop :=
 yu6 e.o.dst nt=true/\match e.s with
 |some s=>GYes ops e.o fr/\OkF P Rl e.o fr hp s/\(∀k∈s.nw,k∉ks/\frsh k fr hp=true)/\wrOk hp s.nw s.wr=true
 |none=>GNo ops e.o fr
def FrEq(fr fr2:Fr):Prop:=(∀t,fr2.get t=fr.get t)/\∀k,nmFr k fr2=nmFr k fr
theorem FrEq.rfl':FrEq fr fr:=⟨λ_=>rfl,λ_=>rfl⟩
theorem FrEq.lit{t:Nat}{v:Value}(h:fr.get t=some (.pv (.val v))):FrEq ((t,.pv (.val v))::fr) fr:=by
 refine⟨λu=>?_,λk=>by simp[nmFr,nm]⟩;simp only[Fr.get]
 cases hb:Nat.beq t u with
 |true=>obtain rfl:=Ak hb;exact h
 |false=>rfl
theorem FrEq.put{d:Option Nat}{x:IV}{fr2:Fr}(h:FrEq fr fr2):FrEq (fr.put d x) (fr2.put d x):=by
 cases d with
 |none=>exact h
 |some t=>exact⟨λu=>by simp only[Fr.put,Fr.get,h.1 u],λk=>by simp only[Fr.put,nmFr,h.2 k]⟩
theorem FrEq.trans{fr2 fr3:Fr}(h:FrEq fr fr2)(h2:FrEq fr2 fr3):FrEq fr fr3:=⟨λt=>(h2.1 t).trans (h.1 t),λk=>(h2.2 k).trans (h.2 k)⟩
theorem FrEq.frsh{k:Nat}{fr2:Fr}(h:FrEq fr fr2):frsh k fr2 hp=frsh k fr hp:=by simp only[Go.Proofs.YtjlaalpfpecikaaGreatDoor.frsh,h.2 k]
theorem Good.eqv{e:Ent}{fr2:Fr}(h:Good P ops Rl ks nt e fr hp)(hf:FrEq fr fr2):Good P ops Rl ks nt e fr2 hp:=by
 refine⟨h.1,?_⟩;have h2:=h.2;split at h2
 ·obtain⟨h3,h4,h5,h6⟩:=h2;exact⟨h3.agr λt _=>hf.1 t,λc fr3 hp3 a b ha=>h4 c fr3 hp3 a b (λt ht=>(ha t ht).trans (hf.1 t)),λk hk=>⟨(h5 k hk).1,by rw[hf.frsh];exact(h5 k hk).2⟩,h6⟩
 ·exact h2.agr λt _=>hf.1 t
inductive Chain(P:Program)(ops:Array Oper)(Rl ks:List Nat)(nt:Nat):Fr->Hp->List Ent->Fr->Hp->Prop
 |nil {fr:Fr} {hp:Hp}:Chain P ops Rl ks nt fr hp [] fr hp
 |lit {fr:Fr} {hp:Hp} {L:List Ent} {fr':Fr} {hp':Hp} {t:Nat} {v:Value} (ht:fr.get t=some (.pv (.val v))) (h:Chain P ops Rl ks nt ((t,.pv (.val v))::fr) hp L fr' hp'):Chain P ops Rl ks nt fr hp L fr' hp'
 |cons {fr:Fr} {hp:Hp} {L:List Ent} {fr':Fr} {hp':Hp} {e:Ent} (g:Good P ops Rl ks nt e fr hp) (h:Chain P ops Rl ks nt (putE fr e) (putH hp e) L fr' hp'):Chain P ops Rl ks nt fr hp (e::L) fr' hp'
def z6y(fr:Fr)(L:List Ent):Fr:=L.foldl putE fr
def z6z(hp:Hp)(L:List Ent):Hp:=L.foldl putH hp
theorem Chain.fin{L:List Ent}(h:Chain P ops Rl ks nt fr hp L fr' hp'):∀{fr2:Fr},FrEq fr fr2->FrEq fr' (z6y fr2 L)/\hp'=z6z hp L:=by
 induction h with
 |nil=>exact λhf=>⟨hf,rfl⟩
 |lit ht _ ih=>exact λhf=>ih ((FrEq.lit ht).trans hf)
 |cons g _ ih=>exact λhf=>ih (FrEq.put hf)
theorem Chain.at{L:List Ent}(h:Chain P ops Rl ks nt fr hp L fr' hp'):∀{fr2:Fr},FrEq fr fr2->∀{A B:List Ent}{e:Ent},L=A++e::B->Good P ops Rl ks nt e (z6y fr2 A) (z6z hp A):=by
 induction h with
 |nil=>intro fr2 hf A B e he;cases A<;>cases he
 |lit ht _ ih=>exact λhf=>ih ((FrEq.lit ht).trans hf)
 |cons g _ ih =>
  intro fr2 hf A B e he
  cases A with
  |nil=>cases he;exact g.eqv hf
  |cons a A=>cases he;exact ih (FrEq.put hf) rfl
theorem All.putU{ρ:Loc}{σ:Heap'}{w:World}{a:Act}{d:Option Nat}{x:IV}{v:Value}(h:All c ρ σ w fr a)(hd:yu6 d c.n=true)(hx:RepI c.F ρ σ w x v):All c ρ σ w (fr.put d x) (a.put d v) :=
 h.put hx λt ht=>by simpa using okDst_lt hd t ht
theorem Chain.text{L:List Ent}(h:Chain P ops Rl ks nt fr hp L fr' hp')(hn:c.n=nt)(hR:∀k,c.R k->k∈Rl)(hσ:∀k,c.σ k≠none->k∈ks)(hQ:Q .normal fr' (look hp')):WL P c ops Q (L.map (·.o)) fr (look hp):=by
 induction h with
 |nil=>exact WL.nil hQ
 |lit ht _ ih=>exact λρ w a ha=>ih hQ ρ w a (ha.putFr ht λ_ h=>h)
 |cons g _ ih =>
  rename_i fr hp L fr' hp' e _;intro ρ w a ha;obtain⟨hd,g⟩:=g;subst hn;refine wpList_step λK hK=>?_;split at g
  ·rename_i s hs;obtain⟨h1,h2,h3,h4⟩:=g;rw[A5 (h1.wanted ha)];refine h2 c fr hp hR (λk hk=>?_) (λ_ _=>rfl) (λ_ _=>rfl) (λk hk=>(h3 k hk).2) ρ w a K _ ha λρ' w' v ha' hv=>hK _ _ ?_
   ·cases h5:c.σ k with
    |none=>rfl
    |some o=>exact A9 (hσ k (by rw[h5];simp)) (h3 k hk).1
   ·have hx:e.x=s.x:=by simp[Ent.x,hs]
    have hw:e.wr=s.wr:=by simp[Ent.wr,hs]
    refine ih hQ ρ' w' _ ?_;simp only[putE,putH,hx,hw];exact ha'.putU hd hv
  ·rename_i hs;rw[A1 (by simp[g.wanted ha])];refine hK _ _ (ih hQ ρ w _ ?_);have hx:e.x=.pv (.val undef):=by simp[Ent.x,hs]
   have hw:e.wr=[]:=by simp[Ent.wr,hs]
   simp only[putE,putH,hx,hw,Dq];exact ha.putU hd (z3c undef)
theorem z5w{t:Nat}{p q:Ent->Bool}:∀{L:List Ent}{fr fr2:Fr},fr.get t=fr2.get t->(∀e∈L,e.o.dst=some t->p e=q e)->(z6y fr (L.filter p)).get t=(z6y fr2 (L.filter q)).get t
 |[],_,_,h,_=>h
 |e::L,fr,fr2,h,hh=>by
  have hL:∀e∈L,e.o.dst=some t->p e=q e:=λe he=>hh e (.tail _ he);have step:∀{f:Fr},e.o.dst≠some t->(putE f e).get t=f.get t:=λ{f} hne=>by
   unfold putE
   cases hd:e.o.dst with
   |none=>rfl
   |some d =>
    have:d≠t:=λh=>hne (by rw[hd,h]);simp[Fr.put,Fr.get,z45 this]
  have step2:∀{f:Fr},e.o.dst=some t->(putE f e).get t=some e.x:=λ{f} hd=>by simp[putE,hd,Fr.put,Fr.get]
  by_cases hd:e.o.dst=some t
  ·have:=hh e (.head _) hd
   cases hp:p e with
   |true =>
    have hq:q e=true:=this▸hp;rw[Bs hp,Bs hq]
    exact z5w (by rw[step2 hd,step2 hd]) hL
   |false =>
    have hq:q e=false:=this▸hp;rw[C5 (by simp[hp]),C5 (by simp[hq])];exact z5w h hL
  ·cases hp:p e<;>cases hq:q e
   ·rw[C5 (by simp[hp]),C5 (by simp[hq])];exact z5w h hL
   ·rw[C5 (by simp[hp]),Bs hq];exact z5w (fr2:=putE fr2 e) (by rw[step hd];exact h) hL
   ·rw[Bs hp,C5 (by simp[hq])];exact z5w (fr:=putE fr e) (by rw[step hd];exact h) hL
   ·rw[Bs hp,Bs hq];exact z5w (fr:=putE fr e) (fr2:=putE fr2 e) (by rw[step hd,step hd];exact h) hL
theorem z4l{k:Nat}{p q:Ent->Bool}:∀{L:List Ent}{hp hp2:Hp},look hp k=look hp2 k->(∀e∈L,k∈e.wr.map (·.1)->p e=q e)->look (z6z hp (L.filter p)) k=look (z6z hp2 (L.filter q)) k
 |[],_,_,h,_=>h
 |e::L,fr,fr2,h,hh=>by
  have hL:∀e∈L,k∈e.wr.map (·.1)->p e=q e:=λe he=>hh e (.tail _ he);have step:∀{f:Hp},k∉e.wr.map (·.1)->look (putH f e) k=look f k:=λ{f} hne=>by unfold putH;rw[z34,A1 hne]
  have step2:∀{f:Hp},k∈e.wr.map (·.1)->look (putH f e) k=look e.wr k:=λ{f} hd=>by unfold putH;rw[z34,A5 hd]
  by_cases hd:k∈e.wr.map (·.1)
  ·have:=hh e (.head _) hd
   cases hp:p e with
   |true =>
    have hq:q e=true:=this▸hp;rw[Bs hp,Bs hq]
    exact z4l (by rw[step2 hd,step2 hd]) hL
   |false =>
    have hq:q e=false:=this▸hp;rw[C5 (by simp[hp]),C5 (by simp[hq])];exact z4l h hL
  ·cases hp:p e<;>cases hq:q e
   ·rw[C5 (by simp[hp]),C5 (by simp[hq])];exact z4l h hL
   ·rw[C5 (by simp[hp]),Bs hq];exact z4l (hp2:=putH fr2 e) (by rw[step hd];exact h) hL
   ·rw[Bs hp,C5 (by simp[hq])];exact z4l (hp:=putH fr e) (by rw[step hd];exact h) hL
   ·rw[Bs hp,Bs hq];exact z4l (hp:=putH fr e) (hp2:=putH fr2 e) (by rw[step hd,step hd];exact h) hL
theorem y5u{k:Nat}:∀{L:List Ent}{fr:Fr},nmFr k (z6y fr L)=false↔nmFr k fr=false/\∀e∈L,e.o.dst≠none->nm k e.x=false
 |[],fr=>by simp[z6y]
 |e::L,fr=>by
  have ih:=y5u (k:=k) (L:=L) (fr:=putE fr e);have h1:z6y fr (e::L)=z6y (putE fr e) L:=rfl;rw[h1,ih];have h2:nmFr k (putE fr e)=false↔nmFr k fr=false/\(e.o.dst≠none->nm k e.x=false):=by
   unfold putE
   cases e.o.dst with
   |none=>simp[Fr.put]
   |some d=>simp[Fr.put,nmFr,and_comm]
  rw[h2];simp only[Fc,and_assoc]
theorem yo0{k:Nat}:∀{A B:Hp},nmHp k (A++B)=false↔nmHp k A=false/\nmHp k B=false
 |[],B=>by simp[nmHp]
 |(j,o)::A,B=>by
  have ih:=yo0 (k:=k) (A:=A) (B:=B)
  match o with
  |some (.box cs)=>simp only[Be,nmHp,Bn,ih,and_assoc]
  |some (.row ..)=>simpa only[Be,nmHp]using ih
  |some (.map _)=>simpa only[Be,nmHp]using ih
  |none=>simpa only[Be,nmHp]using ih
theorem y5v{k:Nat}:∀{L:List Ent}{hp:Hp},nmHp k (z6z hp L)=false↔nmHp k hp=false/\∀e∈L,nmHp k e.wr=false
 |[],hp=>by simp[z6z]
 |e::L,hp=>by
  have ih:=y5v (k:=k) (L:=L) (hp:=putH hp e);have h1:z6z hp (e::L)=z6z (putH hp e) L:=rfl;rw[h1,ih];unfold putH;rw[yo0];simp only[Fc];constructor
  ·rintro⟨⟨a,b⟩,d⟩;exact⟨b,a,d⟩
  ·rintro⟨b,a,d⟩;exact⟨⟨a,b⟩,d⟩
def insN(k:Nat)(l:List Nat):List Nat:=match nIn k l with
 |true=>l
 |false=>k::l
def insL:List Nat->List Nat->List Nat
 |[],l=>l
 |k::r,l=>insL r (insN k l)
theorem yn6{j k:Nat}{l:List Nat}:j∈insN k l↔j=k∨j∈l:=by
 unfold insN;split
 ·rename_i h;have:=z69.1 h;constructor
  ·exact .inr
  ·rintro(rfl|h)
   ·exact this
   ·exact h
 ·simp
theorem yn5{j:Nat}:∀{m l:List Nat},j∈insL m l↔j∈m∨j∈l
 |[],l=>by simp[insL]
 |k::r,l=>by
  simp only[insL,yn5,yn6,Aq];constructor
  ·rintro(h|rfl|h)
   ·exact .inl (.inr h)
   ·exact .inl (.inl rfl)
   ·exact .inr h
  ·rintro((rfl|h)|h)
   ·exact .inr (.inl rfl)
   ·exact .inl h
   ·exact .inr (.inr h)
def nthL:List (List Nat)->Nat->List Nat
 |[],_=>[]
 |x::_,0=>x
 |_::r,n+1=>nthL r n
def j05(ups:List (List Nat))(n:Nat):List Edge->List Nat
 |[]=>[]
 |e::r=>match Region.binds .any e with
  |true=>insN e.on (insL (nthL ups (n-1-e.on)) (j05 ups n r))
  |false=>j05 ups n r
def y9y:List Oper->List (List Nat)->Nat->List (List Nat)
 |[],ups,_=>ups
 |o::r,ups,n=>y9y r (j05 ups n o.after.toList::ups) (n+1)
def y0i(n:Nat):List Edge->Bool
 |[]=>true
 |e::r=>match Region.binds .any e with
  |true=>match Nat.blt e.on n with
   |true=>y0i n r
   |false=>false
  |false=>y0i n r
def zh8:List Oper->Nat->Bool
 |[],_=>true
 |o::r,n=>match y0i n o.after.toList with
  |true=>zh8 r (n+1)
  |false=>false
def disj:List Nat->List Nat->Bool
 |[],_=>true
 |k::r,m=>match nIn k m with
  |true=>false
  |false=>disj r m
theorem z8l{k:Nat}:∀{l m:List Nat},disj l m=true->k∈l->k∉m
 |a::r,m,h,hk=>by
  simp only[disj]at h;split at h
  ·cases h
  ·rename_i hn;rcases Aq.1 hk with rfl|hk
   ·exact z3g hn
   ·exact z8l h hk
def idsH:Hp->List Nat
 |[]=>[]
 |(k,_)::r=>k::idsH r
theorem zi3:∀l:Hp,idsH l=l.map (·.1)
 |[]=>rfl
 |(k,_)::r=>by simp[idsH,zi3 r]
def zk6(e:Ent)(k:Nat):Bool:=match nm k e.x with
 |true=>false
 |false=>!nmHp k e.wr
def zg8(ops:Array Oper)(e f:Ent):Bool :=
 disj e.o.dst.toList (seen ops f.o)&&disj f.o.dst.toList (seen ops e.o)&&disj e.o.dst.toList f.o.dst.toList&&disj (idsH e.wr) f.rd&&disj (idsH f.wr) e.rd&&lAll (zk6 f) e.nw&&lAll (zk6 e) f.nw
def subN:List Nat->List Nat->Bool
 |[],_=>true
 |k::r,m=>match nIn k m with
  |true=>subN r m
  |false=>false
theorem yi2{k:Nat}:∀{l m:List Nat},subN l m=true->k∈l->k∈m
 |a::r,m,h,hk=>by
  simp only[subN]at h;split at h
  ·rename_i hn;rcases Aq.1 hk with rfl|hk
   ·exact z69.1 hn
   ·exact yi2 h hk
  ·cases h
def zk7(ops:Array Oper)(e:Ent)(up:List Nat):List Ent->Bool
 |[]=>true
 |f::r=>match nIn f.i up with
  |true=>zk7 ops e up r
  |false=>match zg8 ops f e with
   |true=>zk7 ops e up r
   |false=>false
def chkL(ops:Array Oper):List Ent->List (List Nat)->Bool
 |[],_=>true
 |e::r,u::us=>match subN (idsH e.wr) e.rd with
  |true=>match subN e.nw e.rd with
   |true=>match zk7 ops e u r with
    |true=>chkL ops r us
    |false=>false
   |false=>false
  |false=>false
 |_::_,[]=>false
def chk(ops:Array Oper)(acc:List Ent):Bool:=match zh8 ops.toList 0 with
 |true=>chkL ops acc (y9y ops.toList [] 0)
 |false=>false
end
section
variable {P:Program} {T:TB P} {fr fr':Fr} {hp hp':Hp} {Rl ks:List Nat} {c:Cx} {ops:Array Oper} {Q:Exit->Fr->Heap'->Prop} {nt:Nat}
def Idx:Nat->List Ent->Prop
 |_,[]=>True
 |n,e::r=>e.i=n/\Idx (n+1) r
theorem Idx.lo:∀{L:List Ent}{n:Nat},Idx n L->∀e∈L,n<=e.i/\e.i<n+L.length
 |[],_,_,_,hf=>by cases hf
 |e::r,n,h,f,hf=>by
  rcases Aq.1 hf with rfl|hf
  ·have:=h.1;simp only[A3];omega
  ·have:=h.2.lo f hf;simp only[A3];omega
theorem Idx.split:∀{L:List Ent}{n:Nat},Idx n L->∀{e:Ent},e∈L->∃A B,L=A++e::B/\e.i=n+A.length/\L.filter (λf=>decide (f.i<e.i))=A/\L.filter (λf=>decide (f.i<=e.i))=A++[e]
 |[],_,_,_,he=>by cases he
 |f::r,n,h,e,he=>by
  have hr:=h.2.lo
  by_cases heq:e.i=n
  ·have:e=f:=by
    rcases Aq.1 he with rfl|he
    ·rfl
    ·have:=(hr e he).1;omega
   subst this;refine⟨[],r,rfl,by simp[heq],?_,?_⟩
   ·rw[C5 sI0];exact Ez.2 λg hg=>by have:=(hr g hg).1;simp;omega
   ·rw[Bs sI0,Ez.2 λg hg=>by have:=(hr g hg).1;simp;omega];rfl
  ·have he':e∈r:=by
    rcases Aq.1 he with rfl|he
    ·exact A9 h.1 heq
    ·exact he
   obtain⟨A,B,h1,h2,h3,h4⟩:=h.2.split he';have:=(hr e he').1;have hf:=h.1;refine⟨f::A,B,by rw[h1];rfl,by simp only[A3];omega,?_,?_⟩
   ·rw[Bs (by simp;omega),h3]
   ·rw[Bs (by simp;omega),h4];rfl
theorem Idx.inj{L:List Ent}{n:Nat}(h:Idx n L){e f:Ent}(he:e∈L)(hf:f∈L)(hi:e.i=f.i):e=f:=by
 obtain⟨A,B,h1,_,h3,h4⟩:=h.split he;obtain⟨A',B',h1',_,h3',h4'⟩:=h.split hf;rw[hi]at h3 h4;rw[h3']at h3;rw[h4',h3]at h4;simpa using h4.symm
theorem Idx.get:∀{L:List Ent}{n:Nat},Idx n L->∀{i:Nat}{o:Oper},(L.map (·.o))[i]?=some o->∃e∈L,e.i=n+i/\e.o=o
 |[],_,_,_,_,hi=>by simp at hi
 |e::r,n,h,0,o,hi=>⟨e,.head _,h.1,by simpa using hi⟩
 |e::r,n,h,i+1,o,hi=>by
  obtain⟨f,hf,h1,h2⟩:=h.2.get (i:=i) (o:=o) (by simpa using hi);exact⟨f,.tail _ hf,by omega,h2⟩
def zg7(l:List Oper)(S:Nat->Prop):Prop:=∀i o,l[i]?=some o->S i->∀e∈o.after.toList,Region.binds .any e=true->S e.on
theorem zq4{n:Nat}:∀{l:List Edge},y0i n l=true->∀e∈l,Region.binds .any e=true->e.on<n
 |[],_,_,he,_=>by cases he
 |a::r,h,e,he,hb=>by
  simp only[y0i]at h;split at h
  ·split at h
   ·rename_i h1 h2;rcases Aq.1 he with rfl|he
    ·exact B5 h2
    ·exact zq4 h e he hb
   ·cases h
  ·rename_i h1;rcases Aq.1 he with rfl|he
   ·rw[hb]at h1;cases h1
   ·exact zq4 h e he hb
theorem y3d:∀{l:List Oper}{n:Nat},zh8 l n=true->∀{i:Nat}{o:Oper},l[i]?=some o->∀e∈o.after.toList,Region.binds .any e=true->e.on<n+i
 |[],_,_,_,_,hi,_,_,_=>by simp at hi
 |a::r,n,h,0,o,hi,e,he,hb=>by
  simp only[zh8]at h;split at h
  ·rename_i h1;simp at hi;subst hi;exact zq4 h1 e he hb
  ·cases h
 |a::r,n,h,i+1,o,hi,e,he,hb=>by
  simp only[zh8]at h;split at h
  ·have:=y3d h (i:=i) (o:=o) (by simpa using hi) e he hb;omega
  ·cases h
theorem y2n{ups:List (List Nat)}{n:Nat}{S:Nat->Prop}{k:Nat}(hS:∀j,j<n->S j->∀k∈nthL ups (n-1-j),S k):∀{l:List Edge},y0i n l=true->(∀e∈l,Region.binds .any e=true->S e.on)->k∈j05 ups n l->S k
 |[],_,_,h=>by cases h
 |a::r,hok,hc,h=>by
  simp only[y0i]at hok;simp only[j05]at h;split at hok
  ·rename_i hb;split at hok
   ·rename_i hlt;have hlt':a.on<n:=B5 hlt;rw[hb]at h;simp only[yn6,yn5]at h;rcases h with rfl|h|h
    ·exact hc a (.head _) hb
    ·exact hS a.on hlt' (hc a (.head _) hb) k h
    ·exact y2n hS hok (λe he=>hc e (.tail _ he)) h
   ·cases hok
  ·rename_i hb;rw[hb]at h;exact y2n hS hok (λe he=>hc e (.tail _ he)) h
theorem y9z:∀{r l0:List Oper} {ups:List (List Nat)} {S:Nat->Prop},zh8 r l0.length=true->ups.length=l0.length->zg7 (l0++r) S->(∀j,j<l0.length->S j->∀k∈nthL ups (l0.length-1-j),S k) ->
 ∀j,j<(l0++r).length->S j->∀k∈nthL (y9y r ups l0.length) ((l0++r).length-1-j),S k
 |[],l0,ups,S,_,_,_,h=>by simpa[y9y]using h
 |o::r,l0,ups,S,hok,hl,hc,h=>by
  simp only[zh8]at hok;split at hok
  ·rename_i h1;have h2:=y9z (r:=r) (l0:=l0++[o]) (ups:=j05 ups l0.length o.after.toList::ups) (S:=S) (by simpa using hok) (by simp[hl]) (by simpa using hc) (λj hj hSj k hk=>by
    simp only[B8,A3,A6]at hj hk
    by_cases e:j=l0.length
    ·subst e;rw[show l0.length+(0+1)-1-l0.length=0 by omega]at hk;refine y2n h h1 (λe he hb=>hc l0.length o ?_ hSj e he hb) hk;simp
    ·rw[show l0.length+(0+1)-1-j=(l0.length-1-j)+1 by omega]at hk;exact h j oM0 hSj k hk)
   simpa[y9y]using h2
  ·cases hok
theorem zc1{e:Ent}{up:List Nat}:∀{l:List Ent},zk7 ops e up l=true->∀f∈l,f.i∈up∨zg8 ops f e=true
 |[],_,_,hf=>by cases hf
 |a::r,h,f,hf=>by
  simp only[zk7]at h;split at h
  ·rename_i h1;rcases Aq.1 hf with rfl|hf
   ·exact .inl (z69.1 h1)
   ·exact zc1 h f hf
  ·split at h
   ·rename_i h1;rcases Aq.1 hf with rfl|hf
    ·exact .inr h1
    ·exact zc1 h f hf
   ·cases h
theorem y59:∀{acc:List Ent} {ups:List (List Nat)},chkL ops acc ups=true->∀{A B:List Ent}{e:Ent},acc=B++e::A->subN (idsH e.wr) e.rd=true/\subN e.nw e.rd=true/\∀f∈A,f.i∈nthL ups B.length∨zg8 ops f e=true
 |[],_,_,A,B,e,he=>by cases B<;>simp at he
 |a::r,u::us,h,A,B,e,he=>by
  simp only[chkL]at h;split at h
  ·rename_i h1;split at h
   ·rename_i h2;split at h
    ·rename_i h3
     cases B with
     |nil=>cases he;exact⟨h1,h2,λf hf=>zc1 h3 f hf⟩
     |cons b B=>cases he;exact y59 h rfl
    ·cases h
   ·cases h
  ·cases h
 |a::r,[],h,_,_,_,_=>by simp[chkL]at h
structure Fine(ops:Array Oper)(L:List Ent):Prop where
 idx:Idx 0 L
 map:L.map (·.o)=ops.toList
 edge:∀{i:Nat}{o:Oper},ops[i]?=some o->∀e∈o.after.toList,Region.binds .any e=true->e.on<i
 wr:∀e∈L,∀k∈e.wr.map (·.1),k∈e.rd
 nw:∀e∈L,∀k∈e.nw,k∈e.rd
 pair:∀e∈L,∀f∈L,e.i<f.i->zg8 ops e f=true∨∀S:Nat->Prop,zg7 ops.toList S->S f.i->S e.i
theorem fine_of{L:List Ent}(hi:Idx 0 L)(hm:L.map (·.o)=ops.toList)(h:chk ops L.reverse=true):Fine ops L:=by
 unfold chk at h;split at h
 ·rename_i he;have hlen:L.length=ops.toList.length:=by rw[<- hm,Ab]
  have hat:∀e∈L,∃A B,L=A++e::B/\A.length=e.i/\L.reverse=B.reverse++e::A.reverse:=λe hme=>by
   obtain⟨A,B,h1,h2,_⟩:=hi.split hme;exact⟨A,B,h1,by omega,by rw[h1];simp⟩
  refine⟨hi,hm,λ{i o} ho e hme hb=>?_,λe hme k hk=>?_,λe hme k hk=>?_,λe hme f hmf hlt=>?_⟩
  ·have:=y3d he (i:=i) (o:=o) (by simpa using ho) e hme hb;omega
  ·obtain⟨A,B,_,_,h3⟩:=hat e hme;exact yi2 (y59 h h3).1 (by rw[zi3];exact hk)
  ·obtain⟨A,B,_,_,h3⟩:=hat e hme;exact yi2 (y59 h h3).2.1 hk
  ·obtain⟨A,B,h1,h2,h3⟩:=hat f hmf;have hA:e∈A:=by
    have:=(hi.split hmf);obtain⟨A',B',h1',h2',h3',_⟩:=this;have hAA:A=A':=by
     have h5:A++f::B=A'++f::B':=h1.symm.trans h1';exact(List.append_inj h5 oM0).1
    rw[hAA,<- h3'];exact Dp.2 ⟨hme,by simpa using hlt⟩
   rcases(y59 h h3).2.2 e (List.mem_reverse.2 hA)with h4|h4
   ·refine .inr λS hS hSf=>?_;have h5:=y9z (r:=ops.toList) (l0:=[]) (ups:=[]) (S:=S) he rfl (by simpa using hS) (λj hj=>by simp at hj) f.i (by
     have:=(hi.lo f hmf).2;simp only[Dq];omega) hSf e.i
    refine h5 ?_;have h6:L.length=A.length+(B.length+1):=by rw[h1];simp
    simp only[Dq,A6];rw[show ops.toList.length-1-f.i=B.reverse.length by simp only[List.length_reverse];omega];exact h4
   ·exact .inl h4
 ·cases h
section
variable {L:List Ent} {S:Nat->Bool} {fr0:Fr} {hp0:Hp}
def z96(S:Nat->Bool)(i:Nat):Nat->Bool:=λj=>S j||j==i
theorem Fine.upto(F:Fine ops L){e f:Ent}(he:e∈L)(hf:f∈L)(hn:S e.i=false)(hS:zg7 ops.toList λj=>S j=true)(hS1:zg7 ops.toList λj=>z96 S e.i j=true)(hap1:zg8 ops f e=false)(hap2:zg8 ops e f=false):S f.i=decide (f.i<e.i):=by
 rcases Nat.lt_trichotomy f.i e.i with h|h|h
 ·rcases F.pair f hf e he h with h1|h1
  ·rw[h1]at hap1;cases hap1
  ·have:=h1 _ hS1 (by simp[z96]);simp only[z96,Bb,At]at this;rcases this with h2|h2
   ·simp[h2,h]
   ·omega
 ·obtain rfl:=F.idx.inj hf he h;simp[hn]
 ·rcases F.pair e he f hf h with h1|h1
  ·rw[h1]at hap2;cases hap2
  ·cases h2:S f.i with
   |false=>simp;omega
   |true=>rw[h1 _ hS h2]at hn;cases hn
theorem z5j{e f:Ent}(h:zg8 ops e f=true):(∀t,e.o.dst=some t->t∉seen ops f.o)/\(∀t,f.o.dst=some t->t∉seen ops e.o)/\(∀t,e.o.dst=some t->f.o.dst≠some t)/\(∀k∈e.wr.map (·.1),k∉f.rd)/\(∀k∈f.wr.map (·.1),k∉e.rd)/\(∀k∈e.nw,zk6 f k=true)/\∀k∈f.nw,zk6 e k=true:=by
 simp only[zg8,A0,zi3]at h;obtain⟨⟨⟨⟨⟨⟨h1,h2⟩,h3⟩,h4⟩,h5⟩,h6⟩,h7⟩:=h;refine⟨λt ht=>z8l h1 (by simp[ht]),λt ht=>z8l h2 (by simp[ht]),λt ht hf=>z8l h3 (k:=t) (by simp[ht]) (by simp[hf]),λk hk=>z8l h4 hk,λk hk=>z8l h5 hk,λk hk=>y0x h6 k hk,λk hk=>y0x h7 k hk⟩
theorem Fine.both(F:Fine ops L){e f:Ent}(he:e∈L)(hf:f∈L)(hn:S e.i=false)(hS:zg7 ops.toList λj=>S j=true)(hS1:zg7 ops.toList λj=>z96 S e.i j=true)(hap:f≠e -> ¬zg8 ops f e=true /\ ¬zg8 ops e f=true):S f.i=decide (f.i<e.i):=by
 by_cases h:f=e
 ·subst h;simp[hn]
 ·obtain⟨h1,h2⟩:=hap h;exact F.upto he hf hn hS hS1 (by simpa using h1) (by simpa using h2)
variable (F:Fine ops L) (hG:∀{A B:List Ent}{e:Ent},L=A++e::B->Good P ops Rl ks nt e (z6y fr0 A) (z6z hp0 A))
include F hG
theorem Fine.now{e:Ent}(he:e∈L)(hn:S e.i=false)(hS:zg7 ops.toList λj=>S j=true)(hS1:zg7 ops.toList λj=>z96 S e.i j=true) :
 Good P ops Rl ks nt e (z6y fr0 (L.filter λf=>S f.i)) (z6z hp0 (L.filter λf=>S f.i)) /\
 (∀t,(z6y fr0 (L.filter λf=>z96 S e.i f.i)).get t=(putE (z6y fr0 (L.filter λf=>S f.i)) e).get t)/\∀k,look (z6z hp0 (L.filter λf=>z96 S e.i f.i)) k=look (putH (z6z hp0 (L.filter λf=>S f.i)) e) k:=by
 obtain⟨A,B,h1,h2,h3,h4⟩:=F.idx.split he;have hg:=hG h1;have hg':=hg;rw[<- h3]at hg';have c1:agr (z6y fr0 (L.filter λf=>S f.i)) (z6y fr0 (L.filter λf=>decide (f.i<e.i))) (seen ops e.o):=λt ht=>z5w rfl λf hf hd=>F.both he hf hn hS hS1 λ_=>⟨λh=>(z5j h).1 t hd ht,λh=>(z5j h).2.1 t hd ht⟩;have c2:agh (z6z hp0 (L.filter λf=>S f.i)) (z6z hp0 (L.filter λf=>decide (f.i<e.i))) e.rd:=λk hk=>z4l rfl λf hf hd=>F.both he hf hn hS hS1 λ_=>⟨λh=>(z5j h).2.2.2.1 k hd hk,λh=>(z5j h).2.2.2.2.1 k hd hk⟩;refine⟨⟨hg.1,?_⟩,λt=>?_,λk=>?_⟩
 ·have h5:=hg'.2;split at h5
  ·rename_i s hs;have hrd:e.rd=s.rd:=by simp[Ent.rd,hs]
   have hnw:e.nw=s.nw:=by simp[Ent.nw,hs]
   have hwr:e.wr=s.wr:=by simp[Ent.wr,hs]
   rw[hrd]at c2;obtain⟨g1,g2,g3,g4⟩:=h5;refine⟨g1.agr λt ht=>c1 t (Bq _ ht),λc fr2 hp2 hR hc hg hh hf=>g2 c fr2 hp2 hR hc (λt ht=>(hg t ht).trans (c1 t (C9 _ ht))) (λk hk=>(hh k hk).trans (c2 k hk)) hf,λk hk=>⟨(g3 k hk).1,?_⟩,?_⟩
   ·have hk':k∈e.nw:=hnw▸hk;obtain⟨f1,f2,f3⟩:=z47 (g3 k hk).2;rw[y5u]at f1;rw[y5v]at f2;have un:∀f∈L.filter (λf=>S f.i),(f.i<e.i)∨zk6 f k=true:=λf hf=>by
     obtain⟨hf,hSf⟩:=Dp.1 hf;rcases Nat.lt_trichotomy f.i e.i with h|h|h
     ·exact .inl h
     ·obtain rfl:=F.idx.inj hf he h;rw[hn]at hSf;cases hSf
     ·rcases F.pair e he f hf h with h6|h6
      ·exact .inr ((z5j h6).2.2.2.2.2.1 k hk')
      ·rw[h6 _ hS hSf]at hn;cases hn
    have unn:∀f,zk6 f k=true->nm k f.x=false/\nmHp k f.wr=false:=λf hu=>by
     unfold zk6 at hu;split at hu
     ·cases hu
     ·rename_i h7;exact⟨h7,by simpa using hu⟩
    have n1:nmFr k (z6y fr0 (L.filter λf=>S f.i))=false:=y5u.2 ⟨f1.1,λf hf hd=>by
     rcases un f hf with h|h
     ·exact f1.2 f (Dp.2 ⟨(Dp.1 hf).1,by simpa using h⟩) hd
     ·exact(unn f h).1⟩
    have n2:nmHp k (z6z hp0 (L.filter λf=>S f.i))=false:=y5v.2 ⟨f2.1,λf hf=>by
     rcases un f hf with h|h
     ·exact f2.2 f (Dp.2 ⟨(Dp.1 hf).1,by simpa using h⟩)
     ·exact(unn f h).2⟩
    have n3:=(c2 k (by rw[<- hrd];exact F.nw e he k hk')).trans f3;simp only[frsh,n1,n2,n3]
   ·have key:∀(l:Hp),(∀k∈l.map (·.1),k∈s.rd)->wrOk (z6z hp0 (L.filter λf=>decide (f.i<e.i))) s.nw l=true->wrOk (z6z hp0 (L.filter λf=>S f.i)) s.nw l=true:=by
     intro l
     induction l with
     |nil=>exact λ_ _=>rfl
     |cons p r ih =>
      intro hl h;obtain⟨k,q⟩:=p;simp only[wrOk]at h⊢;rw[c2 k (hl k sI0)];have ih':=ih λk hk=>hl k (by simp only[B7,Aq];exact .inr hk);split
      ·rename_i h8;rw[h8]at h;exact ih' h
      ·rename_i h8;rw[h8]at h;split
       ·rename_i h9;rw[h9]at h;exact ih' h
       ·rename_i h9;rw[h9]at h;cases h
    exact key s.wr (λk hk=>by rw[<- hrd];exact F.wr e he k (by rw[hwr];exact hk)) g4
  ·exact h5.agr λt ht=>c1 t (Bq _ ht)
 ·by_cases hd:e.o.dst=some t
  ·have:(z6y fr0 (L.filter λf=>z96 S e.i f.i)).get t=(z6y fr0 (L.filter λf=>decide (f.i<=e.i))).get t:=z5w rfl λf hf hdf=>by
    by_cases heq:f=e
    ·subst heq;simp[z96]
    ·have:=F.both he hf hn hS hS1 λ_=>⟨λh=>(z5j h).2.2.1 t hdf hd,λh=>(z5j h).2.2.1 t hd hdf⟩;have hne:f.i≠e.i:=λh=>heq (F.idx.inj hf he h);simp only[z96,this]
     by_cases hlt:f.i<e.i
     ·simp[hlt,G3 hlt]
     ·have hle:¬f.i<=e.i:=by omega
      simp[hlt,hne,hle]
   rw[this,h4];simp[z6y,E4,putE,hd,Fr.put,Fr.get]
  ·have h6:(putE (z6y fr0 (L.filter λf=>S f.i)) e).get t=(z6y fr0 (L.filter λf=>S f.i)).get t:=by
    unfold putE
    cases hq:e.o.dst with
    |none=>rfl
    |some d =>
     have:d≠t:=λh=>hd (by rw[hq,h]);simp[Fr.put,Fr.get,z45 this]
   rw[h6];refine z5w rfl λf hf hdf=>?_;have hne:f.i≠e.i:=λh=>hd (by rw[<- F.idx.inj hf he h];exact hdf);simp[z96,hne]
 ·by_cases hd:k∈e.wr.map (·.1)
  ·have hdr:=F.wr e he k hd;have:look (z6z hp0 (L.filter λf=>z96 S e.i f.i)) k=look (z6z hp0 (L.filter λf=>decide (f.i<=e.i))) k:=z4l rfl λf hf hdf=>by
    by_cases heq:f=e
    ·subst heq;simp[z96]
    ·have:=F.both he hf hn hS hS1 λ_=>⟨λh=>(z5j h).2.2.2.1 k hdf hdr,λh=>(z5j h).2.2.2.2.1 k hdf hdr⟩;have hne:f.i≠e.i:=λh=>heq (F.idx.inj hf he h);simp only[z96,this]
     by_cases hlt:f.i<e.i
     ·simp[hlt,G3 hlt]
     ·have hle:¬f.i<=e.i:=by omega
      simp[hlt,hne,hle]
   rw[this,h4];unfold putH;rw[z34,A5 hd];simp[z6z,E4,putH,z34,hd]
  ·unfold putH;rw[z34,A1 hd];refine z4l rfl λf hf hdf=>?_;have hne:f.i≠e.i:=λh=>hd (by rw[<- F.idx.inj hf he h];exact hdf);simp[z96,hne]
end
theorem WA.ext{R1:Nat->Prop}{fuel:Nat}{listed:Array Bool}{fr2:Fr}{σ σ2:Heap'}(h1:∀t,fr2.get t=fr.get t)(h2:∀k,σ2 k=σ k)(h:WA P c R1 ops Q fuel listed fr σ):WA P c R1 ops Q fuel listed fr2 σ2:=by
 obtain rfl:σ2=σ:=funext h2;exact λρ w a S ha hS=>h ρ w a S (ha.weaken λt x hx=>(h1 t).trans hx) hS
theorem WI.go{R1:Nat->Prop}{fuel:Nat}{listed:Array Bool}{i:Nat}{o:Oper}{x:IV}{σ σ':Heap'}(hi:ops[i]?=some o)(hw:∀ρ w a,All c ρ σ w fr a->Region.wanted o (yielded ops a.tmps)=true)(hd:yu6 o.dst c.n=true)(hR:∀k,c.R k->R1 k)(hnew:∀k,σ k=none -> σ' k≠none->c.σ k=none)
 (hok:∀ρ w,Ok P ⟨c.F,R1,ρ,σ,w,c.n⟩ o fr σ x σ') (h:WA P c R1 ops Q fuel (listed.setIfInBounds i true) (fr.put o.dst x) σ'):WI P c R1 ops Q fuel listed fr σ i:=by
 intro ρ w a S ha hS;unfold wpOp;simp only[hi];rw[A5 (hw ρ w a ha)];refine .inl (hok ρ w ρ w a _ _ ⟨ha.rel,ha.fr,.refl _ _ _ _ _,ha.df,ha.sz,ha.kept⟩ λρ' w' v ha' hv=>?_);have hall:All c ρ' σ' w' fr a:=⟨ha'.rel,ha'.fr,ha.tr.trans ha'.tr hR hnew,ha'.df,ha'.sz,ha.kk⟩;exact⟨hS w' (SameFor.of ha.rel ha'.tr),h ρ' w' _ S (hall.putU hd hv) λw'' h''=>hS w'' (SameFor.trans ha.rel ha'.tr h'')⟩
theorem WI.pass{R1:Nat->Prop}{fuel:Nat}{listed:Array Bool}{i:Nat}{o:Oper}{σ:Heap'}(hi:ops[i]?=some o)(hw:∀ρ w a,All c ρ σ w fr a->Region.wanted o (yielded ops a.tmps)=false)(hd:yu6 o.dst c.n=true)
 (h:WA P c R1 ops Q fuel (listed.setIfInBounds i true) (fr.put o.dst (.pv (.val undef))) σ):WI P c R1 ops Q fuel listed fr σ i:=by
 intro ρ w a S ha hS;unfold wpOp;simp only[hi];rw[A1 (by simp[hw ρ w a ha])];exact⟨hS w (.refl _ _ _ _),h ρ w _ S (ha.putU hd (z3c undef)) hS⟩
def left(n:Nat)(listed:Array Bool):Nat:=((List.range n).filter λi=>!listed.getD i true).length
theorem j18{p q:Nat->Bool}(h:∀j,q j=true->p j=true):∀l:List Nat,(l.filter q).length<=(l.filter p).length
 |[]=>Ag _
 |a::r=>by
  have ih:=j18 h r;simp only[List.filter_cons]
  cases hq:q a with
  |true=>simp only[h a hq,C6,A3];omega
  |false=>cases p a<;>simp only[C6,As,Bv,A3]<;>omega
theorem j19{p q:Nat->Bool}{i:Nat}(h:∀j,q j=true->p j=true)(hp:p i=true)(hq:q i=false):∀l:List Nat,i∈l->(l.filter q).length<(l.filter p).length
 |[],hm=>by cases hm
 |a::r,hm=>by
  simp only[List.filter_cons]
  by_cases e:i=a
  ·subst e;have:=j18 h r;simp only[hp,hq,C6,As,Bv,A3];omega
  ·have hr:i∈r:=by
    rcases Aq.1 hm with h|h
    ·exact A9 h e
    ·exact h
   have ih:=j19 h hp hq r hr
   cases hq:q a with
   |true=>simp only[h a hq,C6,A3];omega
   |false=>cases p a<;>simp only[C6,As,Bv,A3]<;>omega
theorem ym7{n i:Nat}{listed:Array Bool}(hi:i<n)(hs:listed.size=n)(hl:listed.getD i true=false):left n (listed.setIfInBounds i true)<left n listed:=by
 unfold left;refine j19 (i:=i) (λj hj=>?_) (by rw[hl];rfl) ?_ _ (En.2 hi)
 ·by_cases e:i=j
  ·subst e;rw[hl];rfl
  ·simpa[B0,Cw,e]using hj
 ·simp[B0,Cw,hs,hi]
theorem y8t{listed:Array Bool}{i:Nat}(hs:listed.size=ops.size)(h:i∈Region.ready .any ops listed):∃o,ops[i]?=some o/\i<ops.size/\listed.getD i true=false/\listed.getD i false=false/\∀e∈o.after.toList,Region.binds .any e=true->listed.getD e.on false=true:=by
 obtain⟨h1,h2⟩:=Dp.1 h;have hi:=En.1 h1;simp only[A0,Bi]at h2;obtain⟨h2,h3⟩:=h2;refine⟨ops[i],by simp[hi],hi,h2,?_,λe he hb=>?_⟩
 ·simpa[B0,hs,hi]using h2
 ·have h4:ops[i]?=some ops[i]:=by simp[hi]
  rw[h4]at h3;simp only[Da,Cj,Array.all_eq_true_iff_forall_mem]at h3;have:=h3 e (by simpa using he);simpa[hb]using this
theorem yv9{listed:Array Bool}(hs:listed.size=ops.size)(he:∀{i:Nat}{o:Oper},ops[i]?=some o->∀e∈o.after.toList,Region.binds .any e=true->e.on<i)(h:Region.ready .any ops listed=[]):∀i,i<ops.size->listed.getD i false=true:=by
 intro i
 induction i using Nat.strongRecOn with
 |_ i ih =>
  intro hi
  cases hl:listed.getD i false with
  |true=>rfl
  |false =>
   have:i∈Region.ready .any ops listed:=by
    refine Dp.2 ⟨En.2 hi,?_⟩;have h1:listed.getD i true=false:=by simpa[B0,hs,hi]using hl
    have h2:ops[i]?=some ops[i]:=by simp[hi]
    rw[h1,h2];simp only[Dn,B6,Da,Cj,Array.all_eq_true_iff_forall_mem];intro e hme
    cases hb:Region.binds .any e with
    |false=>rfl
    |true =>
     have hlt:=he h2 e (by simpa using hme) hb;simpa using ih e.on hlt oM0
   rw[h]at this
   cases this
theorem Fine.orders{L:List Ent}{fr0:Fr}{hp0:Hp}(F:Fine ops L)(hG:∀{A B:List Ent}{e:Ent},L=A++e::B->Good P ops Rl ks nt e (z6y fr0 A) (z6z hp0 A))(hn:c.n=nt)(hR:∀k,c.R k->k∈Rl)(hσ:∀k,c.σ k≠none->k∈ks)
 (hQ:Q .normal (z6y fr0 L) (look (z6z hp0 L))):∀(fuel:Nat)(listed:Array Bool),listed.size=ops.size->left ops.size listed<=fuel->zg7 ops.toList (λj=>listed.getD j false=true) ->
  WA P c c.R ops Q fuel listed (z6y fr0 (L.filter λf=>listed.getD f.i false)) (look (z6z hp0 (L.filter λf=>listed.getD f.i false))):=by
 subst hn;have hlen:L.length=ops.size:=by rw[<- Ab (f:=(·.o)),F.map];simp
 have hend:∀{fuel:Nat}{listed:Array Bool},listed.size=ops.size->Region.ready .any ops listed=[]->WA P c c.R ops Q fuel listed (z6y fr0 (L.filter λf=>listed.getD f.i false)) (look (z6z hp0 (L.filter λf=>listed.getD f.i false))):=by
  intro fuel listed hs hr;have hall:=yv9 hs F.edge hr;have:(L.filter λf=>listed.getD f.i false)=L:=List.filter_eq_self.2 λf hf=>hall f.i (by have:=(F.idx.lo f hf).2;omega);rw[this];exact wDn hr hQ
 intro fuel
 induction fuel with
 |zero =>
  intro listed hs hl hc;refine hend hs ?_
  cases hq:Region.ready .any ops listed with
  |nil=>rfl
  |cons i r =>
   obtain⟨o,ho,hi,h1,_⟩:=y8t hs (i:=i) (by rw[hq];exact .head _);have:=ym7 hi hs h1
   omega
 |succ fuel ih =>
  intro listed hs hl hc
  by_cases hr:Region.ready .any ops listed=[]
  ·exact hend hs hr
  refine WA.all rfl hr λi hi=>?_;obtain⟨o,ho,hlt,h1,h2,h3⟩:=y8t hs hi;obtain⟨e,he,hei,heo⟩:=F.idx.get (i:=i) (o:=o) (by rw[F.map];simpa using ho);simp only[Bu]at hei;subst hei;subst heo;have hset:∀j,(listed.setIfInBounds e.i true).getD j false=z96 (λj=>listed.getD j false) e.i j:=λj=>by
   by_cases hj:e.i=j
   ·subst hj;simp[z96,B0,Cw,hs,hlt]
   ·simp[z96,B0,Cw,hj,C4 hj]
  have hc1:zg7 ops.toList λj=>z96 (λj=>listed.getD j false) e.i j=true:=by
   intro j oj hoj hj ed hed hb;simp only[z96,Bb,At]at hj⊢;rcases hj with hj|rfl
   ·exact .inl (hc j oj hoj hj ed hed hb)
   ·have:oj=e.o:=by simpa[ho]using hoj.symm
    subst this;exact .inl (h3 ed hed hb)
  obtain⟨g,hF,hH⟩:=F.now hG he h2 hc hc1;have hrest:WA P c c.R ops Q fuel (listed.setIfInBounds e.i true) (putE (z6y fr0 (L.filter λf=>listed.getD f.i false)) e) (look (putH (z6z hp0 (L.filter λf=>listed.getD f.i false)) e)):=by
   refine WA.ext (λt=>(hF t).symm) (λk=>(hH k).symm) ?_;have:=ih (listed.setIfInBounds e.i true) (by simpa using hs) (by have:=ym7 hlt hs h1;omega) (by simpa only[hset]using hc1);simpa only[hset]using this
  obtain⟨hd,g⟩:=g;split at g
  ·rename_i s hsome;have hx:e.x=s.x:=by simp[Ent.x,hsome]
   have hw:e.wr=s.wr:=by simp[Ent.wr,hsome]
   have hnw:e.nw=s.nw:=by simp[Ent.nw,hsome]
   obtain⟨g1,g2,g3,g4⟩:=g;simp only[putE,putH,hx,hw]at hrest;refine WI.go ho (λρ w a ha=>g1.wanted ha) hd (λ_ h=>h) (λk hk1 hk2=>?_) (λρ w=>g2 _ _ _ hR (λk hk=>(z47 (g3 k hk).2).2.2) (λ_ _=>rfl) (λ_ _=>rfl) λk hk=>(g3 k hk).2) hrest;rw[z34]at hk2;split at hk2
   ·rename_i hm;rcases y7b g4 hm with h5|h5
    ·cases h6:c.σ k with
     |none=>rfl
     |some ob=>exact A9 (hσ k (by rw[h6];simp)) (g3 k h5).1
    ·exact A9 hk1 h5
   ·exact A9 hk1 hk2
  ·rename_i hsome;have hx:e.x=.pv (.val undef):=by simp[Ent.x,hsome]
   have hw:e.wr=[]:=by simp[Ent.wr,hsome]
   simp only[putE,putH,hx,hw,Dq]at hrest;exact WI.pass ho (λρ w a ha=>g.wanted ha) hd hrest
theorem Chain.any{L:List Ent}(h:Chain P ops Rl ks nt fr hp L fr' hp')(hm:P.follows .mixedOrders=true)(hi:Idx 0 L)(hmap:L.map (·.o)=ops.toList)(hc:chk ops L.reverse=true)(hn:c.n=nt)(hR:∀k,c.R k->k∈Rl)(hσ:∀k,c.σ k≠none->k∈ks)
 (hQ:∀fr2,(∀t,fr2.get t=fr'.get t)->Q .normal fr2 (look hp')) {id:Nat}:Tr P c (.region id ops true) fr (look hp) Q:=by
 have F:=fine_of hi hmap hc;obtain⟨h1,h2⟩:=h.fin FrEq.rfl';refine tDr hm c.R ?_;have:=F.orders (c:=c) (Q:=Q) (fr0:=fr) (hp0:=hp) (λ{A B e} he=>h.at FrEq.rfl' he) hn hR hσ (by rw[<- h2];exact hQ _ h1.1) ops.size (Array.replicate ops.size false) sI0 (by
  unfold left;exact Bm (List.length_filter_le _ _) sI0) (λi o _ hS=>by
   simp[B0,Array.getElem?_replicate]at hS;split at hS<;>simp at hS)
 have he:(L.filter λf=>(Array.replicate ops.size false).getD f.i false)=[]:=Ez.2 λf _=>by
  simp[B0,Array.getElem?_replicate];split<;>simp
 rw[he]at this;exact this
end
section
variable {P:Program} {T:TB P} {H:Hn} {fr fr':Fr} {hp hp':Hp} {Rl ks:List Nat} {c:Cx} {ops:Array Oper} {Q:Exit->Fr->Heap'->Prop} {nt:Nat}
def j61(ops:Array Oper)(o:Oper)(fr:Fr)(A:Bool->Fr->Prop):Prop:=match o.guard with
 |none=>A true fr
 |some (j,b)=>vopt ops[j]? λoj=>vopt oj.dst λt=>vopt (fr.get t) λx=>match x with
  |.pv (.val (.bool b'))=>bsel b' (A b ((t,.pv (.val (.bool true)))::fr)) (A (!b) ((t,.pv (.val (.bool false)))::fr))
  |.pv (.val (.tuple ⟨[]⟩))=>A false fr
  |_=>False
def appH{α:Type}:List α -> List α -> (List α -> Prop)->Prop
 |[],h,K=>K h
 |p::r,h,K=>appH r h λl=>K (p::l)
theorem zc2{α:Type}:∀{l h:List α}{K:List α -> Prop},appH l h K->K (l++h)
 |[],_,_,h=>h
 |_::r,_,K,h=>zc2 (l:=r) (K:=λl=>K (_::l)) h
def j0k:Type:=Nat->List Ent->Fr->Hp->(Fr->Hp->Prop)->Prop
def vopsN(ops:Array Oper)(draw:Bool):j0k:=λ_ acc fr hp K=>match draw with
 |false=>K fr hp
 |true=>z2c (chk ops acc) (K fr hp)
def vput(d:Option Nat)(x:IV)(fr:Fr)(A:Fr->Prop):Prop:=match d with
 |none=>A fr
 |some d=>A ((d,x)::fr)
def vopsC(T:TB P)(H:Hn)(Rl ks:List Nat)(nt rid:Nat)(ops:Array Oper)(o:Oper)(ih:j0k):j0k:=λi acc fr hp K =>
 j61 ops o fr λgo fr=>z2c (yu6 o.dst nt) (match go with
  |true=>vop T H Rl (rid*1000+i) o fr hp λs=>match s with
   |⟨x,wr,rd,nw⟩=>z2c (lAll (newB ks fr hp) nw&&wrOk hp nw wr) (appH wr hp λhp'=>vput o.dst x fr λfr'=>ih (i+1) (⟨i,o,some ⟨x,wr,rd,nw⟩⟩::acc) fr' hp' K)
  |false=>vput o.dst (.pv (.val undef)) fr λfr'=>ih (i+1) (⟨i,o,none⟩::acc) fr' hp K)
def vops(T:TB P)(H:Hn)(Rl ks:List Nat)(nt rid:Nat)(ops:Array Oper)(draw:Bool)(l:List Oper):j0k :=
 List.rec (motive:=λ_=>j0k) (vopsN ops draw) (λo _ ih=>vopsC T H Rl ks nt rid ops o ih) l
theorem j64{d:Option Nat}{x:IV}{A:Fr->Prop}(h:vput d x fr A):A (fr.put d x):=by
 cases d with
 |none=>exact h
 |some d=>exact h
theorem j62{o:Oper}{A:Bool->Fr->Prop}(h:j61 ops o fr A):(∃fr2,A true fr2/\GYes ops o fr2/\(fr2=fr∨∃t v,fr.get t=some (.pv (.val v))/\fr2=(t,.pv (.val v))::fr))∨(∃fr2,A false fr2/\GNo ops o fr2/\(fr2=fr∨∃t v,fr.get t=some (.pv (.val v))/\fr2=(t,.pv (.val v))::fr)):=by
 unfold j61 at h;split at h
 ·rename_i hg;exact .inl ⟨fr,h,.free hg,.inl rfl⟩
 ·rename_i j b hg;replace h:=z0l h;obtain⟨oj,hj,h⟩:=h;replace h:=z0l h;obtain⟨t,ht,h⟩:=h;replace h:=z0l h;obtain⟨x,hx,h⟩:=h;split at h
  ·rename_i b';have key:∀{q:Bool},b'=q->Fr.get ((t,.pv (.val (.bool q)))::fr) t=some (.pv (.val (.bool q))):=λ_=>by simp[Fr.get]
   cases b' with
   |true =>
    cases b with
    |true=>exact .inl ⟨_,h,.met hg hj ht (key rfl),.inr ⟨t,_,hx,rfl⟩⟩
    |false=>exact .inr ⟨_,h,.not (b:=true) hg hj ht (key rfl),.inr ⟨t,_,hx,rfl⟩⟩
   |false =>
    cases b with
    |true=>exact .inr ⟨_,h,.not (b:=false) hg hj ht (key rfl),.inr ⟨t,_,hx,rfl⟩⟩
    |false=>exact .inl ⟨_,h,.met hg hj ht (key rfl),.inr ⟨t,_,hx,rfl⟩⟩
  ·exact .inr ⟨fr,h,.un hg hj ht hx,.inl rfl⟩
  ·exact h.elim
theorem j63{rid:Nat}{draw:Bool}:∀{l:List Oper}{i:Nat}{acc:List Ent}{fr:Fr}{hp:Hp}{K:Fr->Hp->Prop},vops T H Rl ks nt rid ops draw l i acc fr hp K ->
 ∃L fr' hp',Chain P ops Rl ks nt fr hp L fr' hp'/\L.map (·.o)=l/\Idx i L/\(draw=true->chk ops (L.reverse++acc)=true)/\K fr' hp'
 |[],i,acc,fr,hp,K,h=>by
  replace h:vopsN ops draw i acc fr hp K:=h;unfold vopsN at h
  cases draw with
  |false=>exact⟨[],fr,hp,.nil,rfl,Gf,(λe=>A9 e dC0),h⟩
  |true =>
   replace h:=z0e h
   exact⟨[],fr,hp,.nil,rfl,Gf,λ_=>h.1,h.2⟩
 |o::l,i,acc,fr,hp,K,h=>by
  replace h:vopsC T H Rl ks nt rid ops o (vops T H Rl ks nt rid ops draw l) i acc fr hp K:=h;unfold vopsC at h;have fin:∀{fr2:Fr}{e:Ent},(fr2=fr∨∃t v,fr.get t=some (.pv (.val v))/\fr2=(t,.pv (.val v))::fr)->e.i=i->e.o=o->Good P ops Rl ks nt e fr2 hp->vops T H Rl ks nt rid ops draw l (i+1) (e::acc) (putE fr2 e) (putH hp e) K ->
   ∃L fr' hp',Chain P ops Rl ks nt fr hp L fr' hp'/\L.map (·.o)=o::l/\Idx i L/\(draw=true->chk ops (L.reverse++acc)=true)/\K fr' hp':=by
   intro fr2 e hf hi ho hg h;obtain⟨L,fr',hp',h1,h2,h3,h4,h5⟩:=j63 h;have hc:Chain P ops Rl ks nt fr2 hp (e::L) fr' hp':=.cons hg h1;refine⟨e::L,fr',hp',?_,by simp[ho,h2],⟨hi,h3⟩,λhd=>by have:=h4 hd;simpa using this,h5⟩;rcases hf with rfl|⟨t,v,ht,rfl⟩
   ·exact hc
   ·exact .lit ht hc
  rcases j62 h with⟨fr2,h,hg,hf⟩|⟨fr2,h,hg,hf⟩
  ·replace h:=z0e h;obtain⟨hd,h⟩:=h;obtain⟨s,h,hok⟩:=vop_ok h;obtain⟨x,wr,rd,nw⟩:=s;replace h:=z0e h;obtain⟨h1,h⟩:=h;simp only[A0]at h1;replace h:=j64 (zc2 h);exact fin (e:=⟨i,o,some ⟨x,wr,rd,nw⟩⟩) hf rfl rfl ⟨hd,hg,hok,λk hk=>j27 (y0x h1.1 k hk),h1.2⟩ h
  ·replace h:=z0e h;obtain⟨hd,h⟩:=h;replace h:=j64 h;exact fin (e:=⟨i,o,none⟩) hf rfl rfl ⟨hd,hg⟩ h
def y5q(K:Exit->Fr->Hp->Prop):Exit->Fr->Heap'->Prop:=λe fr σ=>∃fr' hp',Sub σ fr fr'/\(∀k o,look hp' k=some o -> σ k=some o)/\K e fr' hp'
theorem zm2{K:Exit->Fr->Hp->Prop}{e:Exit}{fr2:Fr}(hf:∀t,fr2.get t=fr'.get t)(h:K e fr' hp'):y5q K e fr2 (look hp') :=
 ⟨fr',hp',λt y hy=>⟨y,(hf t).trans hy,λ_ _ _ _ h=>h⟩,λ_ _ h=>h,h⟩
theorem Tr.weak{x:Code}{σ:Heap'}(hs:Sub σ fr fr')(hh:∀k o,look hp' k=some o -> σ k=some o)(h:Tr P c x fr' (look hp') Q):Tr P c x fr σ Q:=by
 intro ρ w a ha;obtain⟨ρ',ha',_⟩:=(ha.sub hs).restrict hh;exact h ρ' w a ha'
theorem j2y{id:Nat}{draw:Bool}{K:Fr->Hp->Prop}{K':Exit->Fr->Hp->Prop}(hn:c.n=nt)(hR:∀k,c.R k->k∈Rl)(hσ:∀k,c.σ k≠none->k∈ks)(hK:∀fr hp,K fr hp->K' .normal fr hp)(h:vops T H Rl ks nt id ops draw ops.toList 0 [] fr hp K):Tr P c (.region id ops draw) fr (look hp) (y5q K'):=by
 obtain⟨L,fr',hp',h1,h2,h3,h4,h5⟩:=j63 h
 cases draw with
 |false=>exact Tr.region rfl (by rw[<- h2];exact h1.text hn hR hσ (zm2 (λ_=>rfl) (hK _ _ h5)))
 |true=>exact h1.any T.mx h3 h2 (by simpa using h4 rfl) hn hR hσ λfr2 hf=>zm2 hf (hK _ _ h5)
theorem All.boxSub{ρ:Loc}{w:World}{a:Act}{k2 j:Nat}{cs:List IV}{x0 y:IV}(h':All c ρ (look hp) w fr a)(hk2:look hp k2=some (.box cs))(hj:cs[j]?=some x0)(hxy:∀v,RepI c.F ρ (look hp) w x0 v->RepI c.F ρ (look hp) w y v):All c ρ (look ((k2,some (.box (cs.set j y)))::hp)) w fr a:=by
 have hlk:∀i,i≠k2->look ((k2,some (.box (cs.set j y)))::hp) i=look hp i:=λi hi=>z1n (C4 hi);have hlk2:look ((k2,some (.box (cs.set j y)))::hp) k2=some (.box (cs.set j y)):=z1h;have hconv:∀x v,RepI c.F ρ (look hp) w x v->RepI c.F ρ (look ((k2,some (.box (cs.set j y)))::hp)) w x v:=by
  intro x v hx
  induction hx with
  |pv p v hp=>exact .pv p v hp
  |ptr i off v hi =>
   refine .ptr i off v λcs' h2=>?_
   by_cases e:i=k2
   ·subst e;exact hi _ hk2
   ·rw[hlk i e]at h2;exact hi _ h2
  |sl i len v hi =>
   refine .sl i len v λs' els' h2=>?_
   by_cases e:i=k2
   ·subst e;rw[hlk2]at h2;cases h2
   ·rw[hlk i e]at h2;exact hi _ _ h2
  |sp i n len v hi =>
   refine .sp i n len v λs' els' h2=>?_
   by_cases e:i=k2
   ·subst e;rw[hlk2]at h2;cases h2
   ·rw[hlk i e]at h2;exact hi _ _ h2
  |rpt i len off v hi =>
   refine .rpt i len off v λs' els' h2=>?_
   by_cases e:i=k2
   ·subst e;rw[hlk2]at h2;cases h2
   ·rw[hlk i e]at h2;exact hi _ _ h2
  |bs i n v hi =>
   refine .bs i n v λcs' h2=>?_
   by_cases e:i=k2
   ·subst e;exact hi _ hk2
   ·rw[hlk i e]at h2;exact hi _ h2
  |mp i v hi =>
   refine .mp i v λes h2=>?_
   by_cases e:i=k2
   ·subst e;rw[hlk2]at h2;cases h2
   ·rw[hlk i e]at h2;exact hi _ h2
  |tnil i T v hi =>
   refine .tnil i T v λcs' h2=>?_
   by_cases e:i=k2
   ·subst e;exact hi _ hk2
   ·rw[hlk i e]at h2;exact hi _ h2
  |agg cs vs u hl hv _ ih=>exact .agg cs vs u hl hv ih
  |tup cs vs u hl hv _ ih=>exact .tup cs vs u hl hv ih
  |fn f xs ys vs ws u t hl hv _ hl' hv' _ ih ih'=>exact .fn f xs ys vs ws u t hl hv ih hl' hv' ih'
 refine⟨⟨h'.rel.inj,h'.rel.apart,h'.rel.old,λi b cc hi=>?_,λi o h1 h2=>?_⟩,λt x hx=>?_,?_,h'.df,h'.sz,h'.kk⟩
 ·obtain⟨o1,h1,h2⟩:=h'.rel.obj i b cc hi
  by_cases e:i=k2
  ·subst e;rw[hk2]at h1;cases h1
   refine⟨_,hlk2,?_⟩
   cases h2 with
   |box _ e' r u h5 hl hv hr =>
    refine .box _ e' r u h5 (by simpa using hl) (λq x hq=>?_) λq x hq=>?_
    ·by_cases eq:q=j
     ·subst eq;exact hv q _ hj
     ·rw[Bo (C4 eq)]at hq;exact hv q x hq
    ·by_cases eq:q=j
     ·subst eq;have hlt:q<cs.length:=(A7.1 hj).1;rw[Bp hlt]at hq;cases hq
      exact hconv _ _ (hxy _ (hr q _ hj))
     ·rw[Bo (C4 eq)]at hq;exact hconv _ _ (hr q x hq)
  ·refine⟨o1,(hlk i e).trans h1,?_⟩
   cases h2 with
   |box cs' e' r u h hl hv hr=>exact .box cs' e' r u h hl hv λq x hq=>hconv _ _ (hr q x hq)
   |row s' els' r u h hs hl hm hw hv hr=>exact .row s' els' r u h hs hl hm hw hv hr
   |map es r t u h hl hv hr=>exact .map es r t u h hl hv hr
 ·by_cases e:i=k2
  ·subst e;obtain⟨s',h3⟩:=h'.rel.real i _ hk2 h2
   cases h3
  ·rw[hlk i e]at h1;exact h'.rel.real i o h1 h2
 ·obtain⟨v,hv,hr⟩:=h'.fr t x hx;exact⟨v,hv,hconv _ _ hr⟩
 ·have t:=h'.tr;refine⟨t.os,t.tape,t.output,t.size,t.blk,t.own,λi a1 a2 e1 e2=>?_,λi a1 a2 e1 e2=>?_,λi s1 s2 a1 a2 e1 e2 hl=>?_,λi s1 s2 a1 a2 e1 e2=>?_,λi a2 e2=>?_,λi a2 e2=>?_,λi s1 a2 e2=>?_⟩
  all_goals by_cases e:i=k2
  ·subst e;exact t.box i _ _ e1 hk2
  ·rw[hlk i e]at e2;exact t.box i _ _ e1 e2
  ·subst e;rw[hlk2]at e2;cases e2
  ·rw[hlk i e]at e2;exact t.map i _ _ e1 e2
  ·subst e;rw[hlk2]at e2;cases e2
  ·rw[hlk i e]at e2;exact t.row i _ _ _ _ e1 e2 hl
  ·subst e;rw[hlk2]at e2;cases e2
  ·rw[hlk i e]at e2;exact t.grow i _ _ _ _ e1 e2
  ·subst e;exact t.kindB i _ hk2
  ·rw[hlk i e]at e2;exact t.kindB i _ e2
  ·subst e;rw[hlk2]at e2;cases e2
  ·rw[hlk i e]at e2;exact t.kindM i _ e2
  ·subst e;rw[hlk2]at e2;cases e2
  ·rw[hlk i e]at e2;exact t.kindR i _ _ e2
theorem yd8{F:Nat->Prop}{ρ:Loc}{σ:Heap'}{w:World}{v:Value}(h:RepI F ρ σ w (.pv (.val (.slice none 0 0))) v):RepI F ρ σ w (.pv (.seq [])) v:=sub_pv PSub.nil h
def yu2:Option IV->Bool
 |some (.pv (.val (.slice none 0 0)))=>true
 |_=>false
theorem zz0{x:Option IV}(h:yu2 x=true):x=some (.pv (.val (.slice none 0 0))):=by
 unfold yu2 at h;split at h
 ·rfl
 ·cases h
def y5b:Option IV->Option Nat
 |some (.pv (.val (.slice _ 0 n)))=>some n
 |_=>none
theorem yc1{x:Option IV}{n:Nat}(h:y5b x=some n):∃a,x=some (.pv (.val (.slice a 0 n))):=by
 unfold y5b at h;split at h
 ·cases h;exact⟨_,rfl⟩
 ·cases h
theorem j12{F:Nat->Prop}{ρ:Loc}{σ:Heap'}{w:World}{v:Value}{a:Option Addr}{n:Nat}(hn:n<=maxLen)(h:RepI F ρ σ w (.pv (.val (.slice a 0 n))) v):RepI F ρ σ w (.pv (.seq [])) v:=by
 obtain rfl:=h.val;exact .pv _ _ (.seq [] a n 0 0 (λ_ _=>.int .i64 0) (λh=>A9 rfl h) (λh=>A9 rfl h) (Aj _) hn (λi el hi=>by simp at hi) λi el hi=>by simp at hi)
def isSl(k:Nat):Option IV->Option Nat
 |some (.sl j n)=>match Nat.beq j k with
  |true=>some n
  |false=>none
 |_=>none
theorem yc7{k n:Nat}{x:Option IV}(h:isSl k x=some n):x=some (.sl k n):=by
 unfold isSl at h;split at h
 ·split at h
  ·rename_i hb;obtain rfl:=Ak hb;cases h;rfl
  ·cases h
 ·cases h
def isPtr(k:Nat):Option IV->Bool
 |some (.ptr j 0)=>Nat.beq j k
 |_=>false
theorem isPtr_ok{k:Nat}{x:Option IV}(h:isPtr k x=true):x=some (.ptr k 0):=by
 unfold isPtr at h;split at h
 ·obtain rfl:=Ak h;rfl
 ·cases h
def vgh(ks:List Nat)(g:Gh)(fr:Fr)(hp:Hp)(K:Fr->Hp->Prop):Prop:=match g with
 |.grow t k e n=>z2c (yu2 (fr.get t)&&newB ks fr hp k) (K ((t,.sl k 0)::fr) ((k,some (.row ⟨e,n⟩ []))::hp))
 |.growC k2 j k e n=>vbox hp k2 λcs=>z2c (yu2 cs[j]? && newB ks fr hp k) (frcI (cs.set j (.sl k 0)) λl=>K fr ((k2,some (.box l))::(k,some (.row ⟨e,n⟩ []))::hp))
 |.fz t k=>vopt (isSl k (fr.get t)) λn=>vrow hp k λ_ els=>els.length=n/\K ((t,.pv (.seq els))::fr) ((k,none)::hp)
 |.fzC k2 j k=>vbox hp k2 λcs=>vopt (isSl k cs[j]?) λn=>z2c (!Nat.beq k k2) (vrow hp k λ_ els=>els.length=n/\frcI (cs.set j (.pv (.seq els))) λl=>K fr ((k2,some (.box l))::(k,none)::hp))
 |.fzB t k=>z2c (isPtr k (fr.get t)) (vbox hp k λcs=>vopt (z7v cs) λps=>frcP ps λl=>K ((t,.pv (.ept l 0))::fr) ((k,none)::hp))
 |.len t=>vopt (fr.get t) λx=>match x with
  |.pv (.seq els)=>els.length<=9223372036854775807->K fr hp
  |.sl k n=>vrow hp k λ_ els=>els.length=n/\(n<=9223372036854775807->K fr hp)
  |_=>False
 |.drop k=>K fr ((k,none)::hp)
 |.ni t=>match yu2 (fr.get t)with
  |true=>K ((t,.pv (.seq []))::fr) hp
  |false=>K fr hp
 |.niC k j=>vbox hp k λcs=>match yu2 cs[j]? with
  |true=>frcI (cs.set j (.pv (.seq []))) λl=>K fr ((k,some (.box l))::hp)
  |false=>K fr hp
 |.un t=>vopt (y5b (fr.get t)) λn=>n<=maxLen/\K ((t,.pv (.seq []))::fr) hp
 |.spC k2 j k=>vbox hp k2 λcs=>vopt (isSl k cs[j]?) λn=>frcI (cs.set j (.sp k n n)) λl=>K fr ((k2,some (.box l))::hp)
theorem vgh_ok{g:Gh}{x:Code}{K:Fr->Hp->Prop}(hσ:∀k,c.σ k≠none->k∈ks)(hK:∀fr hp,K fr hp->Tr P c x fr (look hp) Q)(h:vgh ks g fr hp K):Tr P c x fr (look hp) Q:=by
 have hc:∀{k:Nat},newB ks fr hp k=true->look hp k=none/\c.σ k=none/\nmFr k fr=false/\nmHp k hp=false:=λ{k} hk=>by
  obtain⟨h1,h2⟩:=j27 hk;obtain⟨f1,f2,f3⟩:=z47 h2;refine⟨f3,?_,f1,f2⟩
  cases h4:c.σ k with
  |none=>rfl
  |some o=>exact A9 (hσ k (by rw[h4];simp)) h1
 unfold vgh at h;split at h
 ·replace h:=z0e h;obtain⟨h1,h⟩:=h;simp only[A0]at h1;obtain⟨f1,f2,f3,f4⟩:=hc h1.2;exact Tr.grow _ (zz0 h1.1) f1 f2 f3 f4 (hK _ _ h)
 ·replace h:=z4f h;obtain⟨cs,hk,h⟩:=h;replace h:=z0e h;obtain⟨h1,h⟩:=h;simp only[A0]at h1;obtain⟨f1,f2,f3,f4⟩:=hc h1.2;exact Tr.growCell _ hk (zz0 h1.1) f1 f2 f3 f4 (hK _ _ (z67 h))
 ·replace h:=z0l h;obtain⟨n,hn,h⟩:=h;replace h:=z3p h;obtain⟨s,els,hk,hl,h⟩:=h;exact Tr.freeze (yc7 hn) hk hl (hK _ _ h)
 ·replace h:=z4f h;obtain⟨cs,hk2,h⟩:=h;replace h:=z0l h;obtain⟨n,hn,h⟩:=h;replace h:=z0e h;obtain⟨hne,h⟩:=h;replace h:=z3p h;obtain⟨s,els,hk,hl,h⟩:=h;exact Tr.freezeCell hk hl hk2 (yc7 hn) (λe=>by subst e;simp at hne) (hK _ _ (z67 h))
 ·replace h:=z0e h;obtain⟨h1,h⟩:=h;replace h:=z4f h;obtain⟨cs,hk,h⟩:=h;replace h:=z0l h;obtain⟨ps,hps,h⟩:=h;exact Tr.freezeBox (isPtr_ok h1) hk hps (hK _ _ (z8m (K:=λl=>K ((_,.pv (.ept l 0))::fr) ((_,none)::hp)) h))
 ·replace h:=z0l h;obtain⟨x,hx,h⟩:=h;split at h
  ·exact Tr.lenOf hx λhl=>hK _ _ (h hl)
  ·replace h:=z3p h;obtain⟨s,els,hk,hl,h⟩:=h;exact Tr.rowLen hx hk hl λhn=>hK _ _ (h hn)
  ·exact h.elim
 ·exact Tr.drop (hK _ _ h)
 ·split at h
  ·rename_i hn;exact λρ w a ha=>hK _ _ h ρ w a (ha.putFr (zz0 hn) λv hv=>yd8 hv)
  ·exact hK _ _ h
 ·replace h:=z4f h;obtain⟨cs,hk,h⟩:=h;split at h
  ·rename_i hn;exact λρ w a ha=>hK _ _ (z67 (K:=λl=>K fr ((_,some (.box l))::hp)) h) ρ w a (ha.boxSub hk (zz0 hn) λv hv=>yd8 hv)
  ·exact hK _ _ h
 ·replace h:=z0l h;obtain⟨n,hn,hm,h⟩:=h;obtain⟨a,ha⟩:=yc1 hn;exact λρ w a' h'=>hK _ _ h ρ w a' (h'.putFr ha λv hv=>j12 hm hv)
 ·replace h:=z4f h;obtain⟨cs,hk,h⟩:=h;replace h:=z0l h;obtain⟨n,hn,h⟩:=h;exact λρ w a ha=>hK _ _ (z67 (K:=λl=>K fr ((_,some (.box l))::hp)) h) ρ w a (ha.boxSub hk (yc7 hn) λv hv=>hv.toSp)
def vghs(ks:List Nat):List Gh->Fr->Hp->(Fr->Hp->Prop)->Prop
 |[],fr,hp,K=>K fr hp
 |g::r,fr,hp,K=>vgh ks g fr hp λfr hp=>vghs ks r fr hp K
theorem yj6{x:Code}{K:Fr->Hp->Prop}(hσ:∀k,c.σ k≠none->k∈ks)(hK:∀fr hp,K fr hp->Tr P c x fr (look hp) Q):∀{gs:List Gh}{fr:Fr}{hp:Hp},vghs ks gs fr hp K->Tr P c x fr (look hp) Q
 |[],fr,hp,h=>hK _ _ h
 |g::r,fr,hp,h=>vgh_ok hσ (λ_ _ h=>yj6 hσ hK (gs:=r) h) h
def ghAt:List (Nat×List Gh)->Nat->List Gh
 |[],_=>[]
 |(k,g)::r,id=>match Nat.beq k id with
  |true=>g
  |false=>ghAt r id
def idsF:Fr->List Nat
 |[]=>[]
 |(t,_)::r=>t::idsF r
def zh3(ds:List Nat):Fr->Fr
 |[]=>[]
 |(t,x)::r=>match nIn t ds with
  |true=>zh3 ds r
  |false=>(t,x)::zh3 (t::ds) r
def zd5(ds:List Nat):Hp->Hp
 |[]=>[]
 |(k,o)::r=>match nIn k ds with
  |true=>zd5 ds r
  |false=>match o with
   |some o=>(k,some o)::zd5 (k::ds) r
   |none=>zd5 (k::ds) r
theorem ze8{x:IV}{t:Nat}:∀{fr:Fr}{ds:List Nat},(zh3 ds fr).get t=some x->t∉ds/\fr.get t=some x
 |[],_,h=>by cases h
 |(u,y)::r,ds,h=>by
  simp only[zh3]at h;split at h
  ·rename_i hu;obtain⟨h1,h2⟩:=ze8 h;have:u≠t:=λe=>h1 (e▸z69.1 hu);exact⟨h1,by simp only[Fr.get,z45 this];exact h2⟩
  ·rename_i hu;simp only[Fr.get]at h⊢
   cases hb:Nat.beq u t with
   |true =>
    obtain rfl:=Ak hb;rw[hb]at h
    exact⟨z3g hu,h⟩
   |false =>
    rw[hb]at h;obtain⟨h1,h2⟩:=ze8 h;exact⟨λhm=>h1 (.tail _ hm),h2⟩
theorem z7u{o:HO}{k:Nat}:∀{hp:Hp}{ds:List Nat},look (zd5 ds hp) k=some o->k∉ds/\look hp k=some o
 |[],_,h=>by cases h
 |(j,q)::r,ds,h=>by
  simp only[zd5]at h;split at h
  ·rename_i hu;obtain⟨h1,h2⟩:=z7u h;have:j≠k:=λe=>h1 (e▸z69.1 hu);exact⟨h1,by rw[z1n this];exact h2⟩
  ·rename_i hu;split at h
   ·rename_i ob
    by_cases e:j=k
    ·subst e;rw[z1h]at h;exact⟨z3g hu,by rw[z1h];exact h⟩
    ·rw[z1n e]at h;obtain⟨h1,h2⟩:=z7u h;exact⟨λhm=>h1 (.tail _ hm),by rw[z1n e];exact h2⟩
   ·obtain⟨h1,h2⟩:=z7u h;have e:j≠k:=λe=>h1 (e▸ .head _);exact⟨λhm=>h1 (.tail _ hm),by rw[z1n e];exact h2⟩
def frcL{α:Type}:List α -> (List α -> Prop)->Prop
 |[],K=>K []
 |x::r,K=>frcL r λl=>K (x::l)
theorem y0n{α:Type}:∀{l:List α}{K:List α -> Prop},frcL l K->K l
 |[],_,h=>h
 |_::r,K,h=>y0n (l:=r) (K:=λl=>K (_::l)) h
def dstsO:List Oper->List Nat->List Nat
 |[],acc=>acc
 |o::r,acc=>match o.dst with
  |some d=>dstsO r (d::acc)
  |none=>dstsO r acc
def y7p:Code->List Nat->List Nat
 |.region _ ops _,acc=>dstsO ops.toList acc
 |.seq a b,acc=>y7p a (y7p b acc)
 |.cond _ a b,acc=>y7p a (y7p b acc)
 |.block _ x,acc=>y7p x acc
 |.loop x,acc=>y7p x acc
 |_,acc=>acc
def subH(hp:Hp):List (Nat×HO)->Prop
 |[]=>True
 |(k,o)::r=>look hp k=some o/\subH hp r
theorem zp0{k:Nat}{o:HO}:∀{l:List (Nat×HO)},subH hp l->(k,o)∈l->look hp k=some o
 |(j,q)::r,h,hm=>by
  rcases Aq.1 hm with e|hm
  ·cases e;exact h.1
  ·exact zp0 h.2 hm
inductive VNext{α:Type}(F:α -> Fr)(Hf:α -> List (Nat×HO))(m:α -> Nat)(I:α -> Prop)(a:α)(bf:Fr)(bh:Hp)(fr':Fr)(hp':Hp):Prop
 |mk (b:α) (hm:m b<m a) (hI:I b) (hf:subB fr' (F b)) (hh:subH hp' (Hf b)) (tf:fr'.drop (fr'.length-bf.length)=bf) (df:disj (idsF (fr'.take (fr'.length-bf.length))) (idsF bf)=true)
  (th:hp'.drop (hp'.length-bh.length)=bh) (dh:disj (idsH (hp'.take (hp'.length-bh.length))) (idsH bh)=true)
def vround{α:Type}(f:Fr->Hp->(Exit->Fr->Hp->Prop)->Prop)(K:Exit->Fr->Hp->Prop)(F:α -> Fr)(Hf:α -> List (Nat×HO))(m:α -> Nat)(I:α -> Prop)(bf:Fr)(bh:Hp)(a:α):Prop :=
 appH (F a) bf λfr=>appH (up (Hf a)) bh λhp=>f fr hp λe fr' hp'=>match e with
  |.normal=>VNext F Hf m I a bf bh fr' hp'
  |e=>K e fr' hp'
inductive VLoop(f:Fr->Hp->(Exit->Fr->Hp->Prop)->Prop)(ds:List Nat)(fr:Fr)(hp:Hp)(K:Exit->Fr->Hp->Prop):Prop
 |mk (α:Type) (F:α -> Fr) (Hf:α -> List (Nat×HO)) (m:α -> Nat) (I:α -> Prop) (gone:List Nat) (a0:α) (hI:I a0) (hf:subB fr (F a0)) (hh:subH hp (Hf a0))
  (round:frcL (zh3 (idsF (F a0)++ds) fr) λbf=>frcL (zd5 (gone++(Hf a0).map (·.1)) hp) λbh=>∀a,I a->vround f K F Hf m I bf bh a)
theorem yc5{t:Nat}:∀{A B:Fr},t∉idsF A->(A++B).get t=B.get t
 |[],_,_=>rfl
 |(u,x)::A,B,h=>by
  simp only[idsF,Aq,not_or]at h;simp only[Be,Fr.get,z45 (C4 h.1)];exact yc5 h.2
theorem yc6{t:Nat}{x:IV}:∀{A:Fr},A.get t=some x->t∈idsF A
 |(u,y)::A,h=>by
  simp only[Fr.get]at h
  cases hb:Nat.beq u t with
  |true=>obtain rfl:=Ak hb;exact .head _
  |false=>rw[hb]at h;exact .tail _ (yc6 h)
theorem zc4{t:Nat}{x:IV}:∀{A B:Fr},(A++B).get t=some x->A.get t=some x∨(t∉idsF A/\B.get t=some x)
 |[],B,h=>.inr ⟨by simp[idsF],h⟩
 |(u,y)::A,B,h=>by
  simp only[Be,Fr.get]at h⊢
  cases hb:Nat.beq u t with
  |true=>rw[hb]at h;exact .inl h
  |false =>
   rw[hb]at h;have hne:u≠t:=λe=>by subst e;simp at hb
   rcases zc4 h with h|⟨h1,h2⟩
   ·exact .inl h
   ·exact .inr ⟨by simp only[idsF,Aq,not_or];exact⟨C4 hne,h1⟩,h2⟩
theorem y05{t:Nat}{y:IV}:∀{l:Fr},subB fr l->l.get t=some y->fr.get t=some y
 |(u,x)::r,h,hy=>by
  simp only[Fr.get]at hy
  cases hb:Nat.beq u t with
  |true=>obtain rfl:=Ak hb;rw[hb]at hy;cases hy;exact h.1
  |false=>rw[hb]at hy;exact y05 h.2 hy
theorem zz1{k:Nat}{o:HO}:∀{l:Hp},look l k=some o->k∈l.map (·.1)
 |(j,q)::r,h=>by
  by_cases e:j=k
  ·subst e;simp
  ·rw[z1n e]at h;simp only[B7,Aq];exact .inr (zz1 h)
theorem VLoop.ok{f:Fr->Hp->(Exit->Fr->Hp->Prop)->Prop}{x:Code}{ds:List Nat}{K:Exit->Fr->Hp->Prop}(hx:∀fr hp K,f fr hp K->Tr P c x fr (look hp) (y5q K))(h:VLoop f ds fr hp K):Tr P c (.loop x) fr (look hp) (y5q K):=by
 obtain⟨α,F,Hf,m,I,gone,a0,hI,hf,hh,round⟩:=h;replace round:=y0n (y0n round);have hsub0:Sub (look hp) fr (F a0++zh3 (idsF (F a0)++ds) fr):=λt y hy=>by
  rcases zc4 hy with h|⟨_,h⟩
  ·exact⟨y,y05 hf h,λ_ _ _ _ h=>h⟩
  ·exact⟨y,(ze8 h).2,λ_ _ _ _ h=>h⟩
 generalize zh3 (idsF (F a0)++ds) fr=bf at round hsub0;have hheap0:∀k o,look (up (Hf a0)++zd5 (gone++(Hf a0).map (·.1)) hp) k=some o->look hp k=some o:=λk o hk=>by
  rw[z34]at hk;split at hk
  ·exact zp0 hh (z1o hk)
  ·exact(z7u hk).2
 generalize zd5 (gone++(Hf a0).map (·.1)) hp=bh at round hheap0;refine Tr.weak hsub0 hheap0 ?_;refine Tr.loop (λfr σ n=>∃a,I a/\m a=n/\fr=F a++bf/\∀k o,look (up (Hf a)++bh) k=some o -> σ k=some o) (n:=m a0) ⟨a0,hI,rfl,rfl,λ_ _ h=>h⟩ ?_;rintro fr1 σ1 n ⟨a,hIa,rfl,rfl,hσ⟩;have hr:=round a hIa;replace hr:=zc2 hr;replace hr:=zc2 hr;have h1:=hx _ _ _ hr;refine Tr.weak (fr':=F a++bf) (λt y hy=>⟨y,hy,λ_ _ _ _ h=>h⟩) hσ (Tr.mono h1 λe fr' σ' hq=>?_);obtain⟨fr2,hp2,hs,hl,hk⟩:=hq
 cases e with
 |normal =>
  obtain⟨b,hm,hIb,hf,hh,tf,df,th,dh⟩:=hk;refine⟨F b++bf,m b,hm,λt y hy=>?_,b,hIb,rfl,rfl,λk o hk=>?_⟩
  ·have:fr2.get t=some y:=by
    rcases zc4 hy with h|⟨_,h⟩
    ·exact y05 hf h
    ·have h3:fr2=fr2.take (fr2.length-bf.length)++bf:=by
      conv=>lhs;rw[<- Dc (fr2.length-bf.length) fr2]
      rw[tf]
     rw[h3,yc5 λhm=>z8l df hm (yc6 h)];exact h
   obtain⟨z,hz,hr⟩:=hs t y this;exact⟨z,hz,hr⟩
  ·refine hl k o ?_;rw[z34]at hk;split at hk
   ·exact zp0 hh (z1o hk)
   ·have h3:hp2=hp2.take (hp2.length-bh.length)++bh:=by
     conv=>lhs;rw[<- Dc (hp2.length-bh.length) hp2]
     rw[th]
    rw[h3,z34,A1]
    ·exact hk
    ·intro hm;rw[<- zi3]at hm
     exact z8l dh hm (by rw[zi3];exact zz1 hk)
 |_=>exact⟨fr2,hp2,hs,hl,hk⟩
inductive VJoin{α:Type}(F:α -> Fr)(Hf:α -> List (Nat×HO))(I:α -> Prop)(bf:Fr)(bh:Hp)(fr':Fr)(hp':Hp):Prop
 |mk (b:α) (hI:I b) (hf:subB fr' (F b)) (hh:subH hp' (Hf b)) (tf:fr'.drop (fr'.length-bf.length)=bf) (df:disj (idsF (fr'.take (fr'.length-bf.length))) (idsF bf)=true)
  (th:hp'.drop (hp'.length-bh.length)=bh) (dh:disj (idsH (hp'.take (hp'.length-bh.length))) (idsH bh)=true)
def zv2(ds:List Nat):Fr->Fr
 |[]=>[]
 |(t,x)::r=>match nIn t ds with
  |true=>(t,x)::zv2 ds r
  |false=>zv2 ds r
def zv3(ds:List Nat):Hp->Hp
 |[]=>[]
 |(k,o)::r=>match nIn k ds with
  |true=>(k,o)::zv3 ds r
  |false=>zv3 ds r
theorem zq7{t:Nat}{ds:List Nat}{x:IV}:∀{fr:Fr},(zv2 ds fr).get t=some x->fr.get t=some x
 |(u,y)::r,h=>by
  simp only[zv2]at h;split at h
  ·simp only[Fr.get]at h⊢
   cases hb:Nat.beq u t with
   |true=>rw[hb]at h;exact h
   |false=>rw[hb]at h;exact zq7 h
  ·rename_i hu;have h2:=zq7 h;have ht:t∈ds:=by
    have key:∀{l:Fr},(zv2 ds l).get t=some x->t∈ds:=by
     intro l
     induction l with
     |nil=>intro h;cases h
     |cons p r ih =>
      obtain⟨u,y⟩:=p;intro h;simp only[zv2]at h;split at h
      ·rename_i hu;simp only[Fr.get]at h
       cases hb:Nat.beq u t with
       |true=>obtain rfl:=Ak hb;exact z69.1 hu
       |false=>rw[hb]at h;exact ih h
      ·exact ih h
    exact key h
   have:u≠t:=λe=>z3g hu (e▸ht);simp only[Fr.get,z45 this];exact h2
theorem zi0{k:Nat}{ds:List Nat}:∀{hp:Hp},k∈ds->look (zv3 ds hp) k=look hp k
 |[],_=>rfl
 |(j,o)::r,hk=>by
  simp only[zv3];split
  ·by_cases e:j=k
   ·subst e;rw[z1h,z1h]
   ·rw[z1n e,z1n e];exact zi0 hk
  ·rename_i hj;have:j≠k:=λe=>z3g hj (e▸hk);rw[z1n this];exact zi0 hk
theorem zq8{k:Nat}{ds:List Nat}:∀{hp:Hp},k∈(zv3 ds hp).map (·.1)->k∈ds
 |(j,o)::r,h=>by
  simp only[zv3]at h;split at h
  ·rename_i hj;simp only[B7,Aq]at h;rcases h with rfl|h
   ·exact z69.1 hj
   ·exact zq8 h
  ·exact zq8 h
inductive VCut(ds:List Nat)(x y:Fr->Hp->(Exit->Fr->Hp->Prop)->Prop)(fr:Fr)(hp:Hp)(K:Exit->Fr->Hp->Prop):Prop
 |mk (α:Type) (F:α -> Fr) (Hf:α -> List (Nat×HO)) (I:α -> Prop) (gone:List Nat)
  (h:frcL (zh3 ds fr) λbf=>frcL (zd5 gone hp) λbh=>appH (zv2 ds fr) bf λfr1=>appH (zv3 gone hp) bh λhp1=>(x fr1 hp1 λe fr' hp'=>match e with
   |.normal=>VJoin F Hf I bf bh fr' hp'
   |e=>K e fr' hp')/\∀b,I b->appH (F b) bf λfr2=>appH (up (Hf b)) bh λhp2=>y fr2 hp2 K)
theorem join_sub{α:Type}{F:α -> Fr}{b:α}{bf fr2:Fr}{σ:Heap'}{fr1:Fr}(hs:Sub σ fr1 fr2)(hf:subB fr2 (F b))(tf:fr2.drop (fr2.length-bf.length)=bf)(df:disj (idsF (fr2.take (fr2.length-bf.length))) (idsF bf)=true):Sub σ fr1 (F b++bf):=λt y hy=>by
 have:fr2.get t=some y:=by
  rcases zc4 hy with h|⟨_,h⟩
  ·exact y05 hf h
  ·have h3:fr2=fr2.take (fr2.length-bf.length)++bf:=by
    conv=>lhs;rw[<- Dc (fr2.length-bf.length) fr2]
    rw[tf]
   rw[h3,yc5 λhm=>z8l df hm (yc6 h)];exact h
 exact hs t y this
theorem j1p{l:List (Nat×HO)}{bh hp2:Hp}(hh:subH hp2 l)(th:hp2.drop (hp2.length-bh.length)=bh)(dh:disj (idsH (hp2.take (hp2.length-bh.length))) (idsH bh)=true)(k:Nat)(o:HO)(hk:look (up l++bh) k=some o):look hp2 k=some o:=by
 rw[z34]at hk;split at hk
 ·exact zp0 hh (z1o hk)
 ·have h3:hp2=hp2.take (hp2.length-bh.length)++bh:=by
   conv=>lhs;rw[<- Dc (hp2.length-bh.length) hp2]
   rw[th]
  rw[h3,z34,A1]
  ·exact hk
  ·intro hm;rw[<- zi3]at hm;exact z8l dh hm (by rw[zi3];exact zz1 hk)
theorem VCut.ok{x y:Fr->Hp->(Exit->Fr->Hp->Prop)->Prop}{cx cy:Code}{ds:List Nat}{K:Exit->Fr->Hp->Prop}(hx:∀fr hp K,x fr hp K->Tr P c cx fr (look hp) (y5q K))(hy:∀fr hp K,y fr hp K->Tr P c cy fr (look hp) (y5q K))(h:VCut ds x y fr hp K):Tr P c (.seq cx cy) fr (look hp) (y5q K):=by
 obtain⟨α,F,Hf,I,gone,h⟩:=h;replace h:=y0n (y0n h);replace h:=zc2 (zc2 h);have hsub0:Sub (look hp) fr (zv2 ds fr++zh3 ds fr):=λt y hy=>by
  rcases zc4 hy with h|⟨_,h⟩
  ·exact⟨y,zq7 h,λ_ _ _ _ h=>h⟩
  ·exact⟨y,(ze8 h).2,λ_ _ _ _ h=>h⟩
 generalize zh3 ds fr=bf at h hsub0;have hheap0:∀k o,look (zv3 gone hp++zd5 gone hp) k=some o->look hp k=some o:=λk o hk=>by
  rw[z34]at hk;split at hk
  ·rename_i hm;rw[zi0 (zq8 hm)]at hk;exact hk
  ·exact(z7u hk).2
 generalize zd5 gone hp=bh at h hheap0;obtain⟨h1,h2⟩:=h;refine Tr.weak hsub0 hheap0 ?_;refine Tr.seq (Tr.mono (hx _ _ _ h1) λe fr' σ' hq=>?_);obtain⟨fr2,hp2,hs,hl,hk⟩:=hq
 cases e with
 |normal =>
  obtain⟨b,hI,hf,hh,tf,df,th,dh⟩:=hk;have h3:=h2 b hI;replace h3:=zc2 h3;replace h3:=zc2 h3
  exact Tr.weak (join_sub hs hf tf df) (λk o hk=>hl k o (j1p hh th dh k o hk)) (hy _ _ _ h3)
 |_=>exact⟨fr2,hp2,hs,hl,hk⟩
def VcT:Type:=Fr->Hp->(Exit->Fr->Hp->Prop)->Prop
def vcNo:VcT:=λ_ _ _=>False
def vcSkip:VcT:=λfr hp K=>K .normal fr hp
def vcReg(T:TB P)(H:Hn)(Rl ks:List Nat)(nt id:Nat)(ops:Array Oper)(draw:Bool):VcT:=λfr hp K =>
 vghs ks (ghAt H.gh id) fr hp λfr hp=>vops T H Rl ks nt id ops draw ops.toList 0 [] fr hp (K .normal)
def vcSeq(a b:VcT):VcT:=λfr hp K=>a fr hp λe fr hp=>match e with
 |.normal=>b fr hp K
 |e=>K e fr hp
def y0j:Code->Nat
 |.region id _ _=>id
 |.seq a _=>y0j a
 |.block _ x=>y0j x
 |.loop x=>y0j x
 |.cond _ _ _=>1000001
 |_=>1000000
def ys6(H:Hn)(ca cb:Code)(a b:VcT):VcT:=match nIn (y0j cb) H.jn with
 |true=>λfr hp K=>VCut (y7p ca []) a b fr hp K
 |false=>vcSeq a b
def vcCond(x:Operand)(a b:VcT):VcT:=λfr hp K=>vev fr x λv=>match v with
 |.pv (.val (.bool t))=>bsel t (a fr hp K) (b fr hp K)
 |_=>False
def j5z(id:Nat)(x:VcT):VcT:=λfr hp K=>x fr hp λe fr hp=>match e with
 |.exit id'=>match Nat.beq id' id with
  |true=>K .normal fr hp
  |false=>K (.exit id') fr hp
 |e=>K e fr hp
def vcBlk(H:Hn)(ks:List Nat)(id:Nat)(x:VcT):VcT:=λfr hp K=>vghs ks (ghAt H.gh (2000000+id)) fr hp λfr hp=>j5z id x fr hp K
def vcLoop(c:Code)(x:VcT):VcT:=λfr hp K=>VLoop x (y7p c []) fr hp K
def vcExit(id:Nat):VcT:=λfr hp K=>K (.exit id) fr hp
def vcRet:VcT:=λfr hp K=>K .ret fr hp
def vc(T:TB P)(H:Hn)(Rl ks:List Nat)(nt:Nat)(c:Code):VcT :=
 Code.rec (motive:=λ_=>VcT) vcSkip (λid ops draw=>vcReg T H Rl ks nt id ops draw) (λca cb a b=>ys6 H ca cb a b) (λx _ _ a b=>vcCond x a b) (λid _ x=>vcBlk H ks id x) (λc x=>vcLoop c x)
  (λ_ _ _ _ _ _=>vcNo) (λid=>vcExit id) (λ_ _=>vcNo) (λ_=>vcNo) (λ_=>vcNo) vcRet (λ_=>vcNo) c
theorem y78(hn:c.n=nt)(hR:∀k,c.R k->k∈Rl)(hσ:∀k,c.σ k≠none->k∈ks):∀(x:Code){fr:Fr}{hp:Hp}{K:Exit->Fr->Hp->Prop},vc T H Rl ks nt x fr hp K->Tr P c x fr (look hp) (y5q K)
 |.skip,fr,hp,K,h=>tSk (zm2 (λ_=>rfl) h)
 |.region id ops draw,fr,hp,K,h=>yj6 hσ (λfr hp h=>j2y hn hR hσ (λ_ _ h=>h) h) h
 |.seq a b,fr,hp,K,h=>by
  replace h:ys6 H a b (Go.Proofs.YtjlaalpfpecikaaGreatDoor.vc T H Rl ks nt a) (Go.Proofs.YtjlaalpfpecikaaGreatDoor.vc T H Rl ks nt b) fr hp K:=h
  cases hj:nIn (y0j b) H.jn with
  |true =>
   simp only[ys6,hj]at h
   exact VCut.ok (λfr hp K h=>y78 hn hR hσ a h) (λfr hp K h=>y78 hn hR hσ b h) h
  |false =>
  simp only[ys6,hj]at h;refine Tr.seq (Tr.mono (y78 hn hR hσ a h) λe fr' σ' hq=>?_);obtain⟨fr2,hp2,hs,hl,hk⟩:=hq
  cases e with
  |normal=>exact Tr.weak hs hl (y78 hn hR hσ b hk)
  |_=>exact⟨fr2,hp2,hs,hl,hk⟩
 |.cond x a b,fr,hp,K,h=>by
  obtain⟨v,hv,h⟩:=z1p h;split at h
  ·rename_i t;refine Tr.cond hv (λht=>?_) λht=>?_
   ·subst ht;exact y78 hn hR hσ a h
   ·subst ht;exact y78 hn hR hσ b h
  ·exact h.elim
 |.block id x,fr,hp,K,h=>by
  refine yj6 hσ (K:=λfr hp=>j5z id (Go.Proofs.YtjlaalpfpecikaaGreatDoor.vc T H Rl ks nt x) fr hp K) (λfr hp h=>?_) h;refine tBk (Tr.mono (y78 hn hR hσ x h) λe fr' σ' hq=>?_);obtain⟨fr2,hp2,hs,hl,hk⟩:=hq
  cases e with
  |exit id' =>
   simp only[j0p];simp only at hk;split at hk
   iterate 2 ·rename_i hb;rw[hb];exact⟨fr2,hp2,hs,hl,hk⟩
  |_=>exact⟨fr2,hp2,hs,hl,hk⟩
 |.loop x,fr,hp,K,h=>VLoop.ok (f:=Go.Proofs.YtjlaalpfpecikaaGreatDoor.vc T H Rl ks nt x) (λfr hp K h=>y78 hn hR hσ x h) h
 |.exit id,fr,hp,K,h=>tEx (zm2 (λ_=>rfl) h)
 |.ret,fr,hp,K,h=>tRt (zm2 (λ_=>rfl) h)
 |.scope _,_,_,_,h=>h.elim
 |.rangeFunc ..,_,_,_,h=>h.elim
 |.label _,_,_,_,h=>h.elim
 |.goto _,_,_,_,h=>h.elim
 |.refuse _,_,_,_,h=>h.elim
def SubI(x y:IV):Prop:=∀F ρ σ w v,RepI F ρ σ w x v->RepI F ρ σ w y v
theorem sI{x:IV}:SubI x x:=λ_ _ _ _ _ h=>h
theorem sE{x y:IV}(h:x=y):SubI x y:=λ_ _ _ _ _ hv=>h▸hv
inductive VEnd(x r:IV)(post:List (Nat×HO))(hp:Hp):Prop
 |mk (hr:SubI x r) (hh:subH hp post)
def vend(T:TB P)(rs:List ResultVar)(r:IV)(post:List (Nat×HO))(fr:Fr)(hp:Hp):Prop:=match rs with
 |[]=>VEnd (.tup []) r post hp
 |[.tmp t]=>vopt (fr.get t) λx=>VEnd x r post hp
 |[.tmp t,.tmp u]=>vopt (fr.get t) λx=>vopt (fr.get u) λy=>VEnd (.tup [x,y]) r post hp
 |[.tmp t,.tmp u,.tmp v]=>vopt (fr.get t) λx=>vopt (fr.get u) λy=>vopt (fr.get v) λz=>VEnd (.tup [x,y,z]) r post hp
 |[.cell q t]=>yj4 T t fr hp (.tmp q) λs=>match s with
  |⟨x,_,_,_⟩=>VEnd x r post hp
 |[.cell q t,.tmp b]=>yj4 T t fr hp (.tmp q) λs=>match s with
  |⟨x,_,_,_⟩=>vopt (fr.get b) λy=>VEnd (.tup [x,y]) r post hp
 |[.tmp b,.cell q t]=>vopt (fr.get b) λy=>yj4 T t fr hp (.tmp q) λs=>match s with
  |⟨x,_,_,_⟩=>VEnd (.tup [y,x]) r post hp
 |[.cell q t,.tmp b,.tmp d]=>yj4 T t fr hp (.tmp q) λs=>match s with
  |⟨x,_,_,_⟩=>vopt (fr.get b) λy=>vopt (fr.get d) λz=>VEnd (.tup [x,y,z]) r post hp
 |[.tmp t,.tmp u,.tmp v,.tmp q,.tmp b]=>vopt (fr.get t) λx=>vopt (fr.get u) λy=>vopt (fr.get v) λz=>vopt (fr.get q) λx1=>vopt (fr.get b) λx2=>VEnd (.tup [x,y,z,x1,x2]) r post hp
 |_=>False
theorem tup_five{F:Nat->Prop}{ρ:Loc}{σ:Heap'}{w:World}{x y z x1 x2:IV}{u v t u1 u2:Value}(hx:RepI F ρ σ w x u)(hy:RepI F ρ σ w y v)(hz:RepI F ρ σ w z t)(h1:RepI F ρ σ w x1 u1)(h2:RepI F ρ σ w x2 u2):RepI F ρ σ w (.tup [x,y,z,x1,x2]) (.tuple #[u,v,t,u1,u2]):=by
 refine .tup _ _ (λj=>if j=0 then u else if j=1 then v else if j=2 then t else if j=3 then u1 else u2) rfl (λj z hj=>?_) λj z hj=>?_
 ·match j with
  |0=>rfl
  |1=>rfl
  |2=>rfl
  |3=>rfl
  |4=>rfl
  |j+5=>simp at hj
 ·match j with
  |0=>cases hj;exact hx
  |1=>cases hj;exact hy
  |2=>cases hj;exact hz
  |3=>cases hj;exact h1
  |4=>cases hj;exact h2
  |j+5=>simp at hj
def vret(T:TB P)(rs:List ResultVar)(r:IV)(post:List (Nat×HO)):Exit->Fr->Hp->Prop
 |.ret,fr,hp=>vend T rs r post fr hp
 |.normal,fr,hp=>vend T rs r post fr hp
 |_,_,_=>False
theorem zp5{t:Nat}{y:Operand}{K:Stp->Prop}(h:yj4 T t fr hp y K):∃x rd,K ⟨x,[],rd,[]⟩/\∀(c:Cx)(o:Oper),o.op=.load t y->OkV P c (λ_=>True) o fr (look hp) x:=by
 obtain⟨a,ea,h⟩:=z1p h;replace h:=z1q h;obtain⟨e,he,h⟩:=h;obtain⟨d,hd,hi⟩:=z3k he;have hrow:=TI.is_row hi;split at h
 ·split at h
  ·rename_i hr;replace h:=z0l h;obtain⟨z,hz,h⟩:=h;exact⟨_,_,h,λc o ho=>y17 ho ea hd (hrow.trans hr) hz⟩
  ·rename_i hr;replace h:=z0e h;obtain⟨hn,h⟩:=h;exact⟨_,_,z8m (K:=λl=>K ⟨.pv (.agg l),[],[],[]⟩) h,λc o ho=>lEA ho ea hd (hrow.trans hr) (z2m he) (B5 hn)⟩
 ·replace h:=z4f h;obtain⟨cs,hk,h⟩:=h;split at h
  ·rename_i hr;replace h:=z0l h;obtain⟨z,hz,h⟩:=h;exact⟨_,_,h,λc o ho=>y16 ho ea hk hd (hrow.trans hr) hz trivial⟩
  ·rename_i hr;replace h:=z0e h;obtain⟨hn,h⟩:=h;split at h
   ·rename_i ps hps;exact⟨_,_,z8m (K:=λl=>K ⟨.pv (.agg l),[],[_],[]⟩) h,λc o ho=>lBP ho ea hk hd (hrow.trans hr) (z2m he) (B5 hn) hps trivial⟩
   ·exact⟨_,_,z67 (K:=λl=>K ⟨.agg l,[],[_],[]⟩) h,λc o ho=>z7s ho ea hk hd (hrow.trans hr) (z2m he) (B5 hn) trivial⟩
 ·replace h:=z3p h;obtain⟨s,els,hk,h⟩:=h;split at h
  ·rename_i hr;obtain⟨hn,hoff,h1,h2,h⟩:=h;exact⟨_,_,h,λc o ho=>lRw ho ea hk hn hoff h1 h2 hd (hrow.trans hr) trivial⟩
  ·rename_i hr;replace h:=z0e h;obtain⟨hq,h⟩:=h;obtain⟨hn,hoff,h1,h⟩:=h;exact⟨_,_,h,λc o ho=>zd3 ho ea hk hn hoff h1 hd (hrow.trans hr) (by rw[z2m he,Ak hq]) trivial⟩
 ·exact h.elim
theorem vend_ok{fn:Func}{r:IV}{post:List (Nat×HO)}(h:vend T fn.results.toList r post fr hp):(∀k o,look (up post) k=some o->look hp k=some o)/\∀(c:Cx) ρ w a,All c ρ (look hp) w fr a->∃v,(results fn a.tmps).run P w=.ok v w/\RepI c.F ρ (look hp) w r v:=by
 have fin:∀{x:IV},VEnd x r post hp->(∀(c:Cx) ρ w a,All c ρ (look hp) w fr a->∃v,(results fn a.tmps).run P w=.ok v w/\RepI c.F ρ (look hp) w x v)->(∀k o,look (up post) k=some o->look hp k=some o)/\∀(c:Cx) ρ w a,All c ρ (look hp) w fr a->∃v,(results fn a.tmps).run P w=.ok v w/\RepI c.F ρ (look hp) w r v:=by
  rintro x ⟨hr,hh⟩ hx;exact⟨λk o hk=>zp0 hh (z1o hk),λc ρ w a ha=>by
   obtain⟨v,h1,h2⟩:=hx c ρ w a ha;exact⟨v,h1,hr _ _ _ _ _ h2⟩⟩
 have tmps:∀{x:IV},y6b fn fr=some x->∀(c:Cx) ρ w a,All c ρ (look hp) w fr a->∃v,(results fn a.tmps).run P w=.ok v w/\RepI c.F ρ (look hp) w x v:=λhx c ρ w a ha=>zs2 (P:=P) ha hx;have arr:∀{l:List ResultVar},fn.results.toList=l->fn.results=l.toArray:=λhl=>by rw[<- hl]
 unfold vend at h;split at h
 ·rename_i hl;exact fin h (tmps (by simp[y6b,hl]))
 ·rename_i t hl;obtain⟨x,hx,h⟩:=z0l h;exact fin h (tmps (by simp[y6b,hl,hx]))
 ·rename_i t u hl;obtain⟨x,hx,h⟩:=z0l h;obtain⟨y,hy,h⟩:=z0l h;exact fin h (tmps (by simp[y6b,hl,hx,hy]))
 ·rename_i t u v hl;obtain⟨x,hx,h⟩:=z0l h;obtain⟨y,hy,h⟩:=z0l h;obtain⟨z,hz,h⟩:=z0l h;exact fin h (tmps (by simp[y6b,hl,hx,hy,hz]))
 ·rename_i q t hl;obtain⟨x,rd,h,hv⟩:=zp5 h;refine fin h λc ρ w a ha=>?_;obtain⟨v,ad,h1,h2,h3⟩:=y6a ha (λc o ho=>hv c o ho);refine⟨v,?_,h3⟩;simp[results,arr hl,h1,h2,Ai]
 ·rename_i q t b hl;obtain⟨x,rd,h,hv⟩:=zp5 h;obtain⟨y,hy,h⟩:=z0l h;refine fin h λc ρ w a ha=>?_;obtain⟨v,ad,h1,h2,h3⟩:=y6a ha (λc o ho=>hv c o ho);obtain⟨v',hv',h1'⟩:=ha.fr b y hy;refine⟨.tuple #[v,v'],?_,yi9 h3 h1'⟩;simp[results,arr hl,h1,h2,hv',Ai]
 ·rename_i b q t hl;obtain⟨y,hy,h⟩:=z0l h;obtain⟨x,rd,h,hv⟩:=zp5 h;refine fin h λc ρ w a ha=>?_;obtain⟨v,ad,h1,h2,h3⟩:=y6a ha (λc o ho=>hv c o ho);obtain⟨v',hv',h1'⟩:=ha.fr b y hy;refine⟨.tuple #[v',v],?_,yi9 h1' h3⟩;simp[results,arr hl,h1,h2,hv',Ai]
 ·rename_i q t b d hl;obtain⟨x,rd,h,hv⟩:=zp5 h;obtain⟨y,hy,h⟩:=z0l h;obtain⟨z,hz,h⟩:=z0l h;refine fin h λc ρ w a ha=>?_;obtain⟨v,ad,h1,h2,h3⟩:=y6a ha (λc o ho=>hv c o ho);obtain⟨v',hv',h1'⟩:=ha.fr b y hy;obtain⟨v'',hv'',h1''⟩:=ha.fr d z hz;refine⟨.tuple #[v,v',v''],?_,y2j h3 h1' h1''⟩;simp[results,arr hl,h1,h2,hv',hv'',Ai]
 ·rename_i t u v q b hl;obtain⟨x,hx,h⟩:=z0l h;obtain⟨y,hy,h⟩:=z0l h;obtain⟨z,hz,h⟩:=z0l h;obtain⟨y1,hy1,h⟩:=z0l h;obtain⟨y2,hy2,h⟩:=z0l h;refine fin h λc ρ w a ha=>?_;obtain⟨v1,e1,g1⟩:=ha.fr t x hx;obtain⟨v2,e2,g2⟩:=ha.fr u y hy;obtain⟨v3,e3,g3⟩:=ha.fr v z hz;obtain⟨v4,e4,g4⟩:=ha.fr q y1 hy1;obtain⟨v5,e5,g5⟩:=ha.fr b y2 hy2;refine⟨.tuple #[v1,v2,v3,v4,v5],?_,tup_five g1 g2 g3 g4 g5⟩;simp[results,arr hl,e1,e2,e3,e4,e5]
 ·exact h.elim
theorem retL_ok{fn:Func}{r:IV}{post:List (Nat×HO)}{e:Exit}{fr:Fr}{σ:Heap'}(h:y5q (vret T fn.results.toList r post) e fr σ):(e=.ret∨e=.normal)/\(∀k o,look (up post) k=some o -> σ k=some o)/\∀(c:Cx) ρ w a,All c ρ σ w fr a->∃v ρ',(results fn a.tmps).run P w=.ok v w/\All c ρ' (look (up post)) w fr a/\RepI c.F ρ' (look (up post)) w r v:=by
 obtain⟨fr2,hp2,hs,hl,hk⟩:=h;have key:vend T fn.results.toList r post fr2 hp2->(∀k o,look (up post) k=some o -> σ k=some o)/\∀(c:Cx) ρ w a,All c ρ σ w fr a->∃v ρ',(results fn a.tmps).run P w=.ok v w/\All c ρ' (look (up post)) w fr a/\RepI c.F ρ' (look (up post)) w r v:=λhk=>by
  obtain⟨h1,h2⟩:=vend_ok hk;refine⟨λk o hk=>hl k o (h1 k o hk),λc ρ w a ha=>?_⟩;obtain⟨ρ1,ha1,keep1⟩:=ha.restrict hl;obtain⟨ρ2,ha2,keep2⟩:=ha1.restrict h1;have hsub:All c ρ1 (look hp2) w fr2 a:=⟨ha1.rel,λt y hy=>by
   obtain⟨x,hx,hr⟩:=hs t y hy;obtain⟨v,hv,h3⟩:=ha.fr t x hx;exact⟨v,hv,keep1 _ _ (hr _ _ _ _ h3)⟩,ha1.tr,ha1.df,ha1.sz,ha1.kk⟩
  obtain⟨v,hv,h4⟩:=h2 c ρ1 w a hsub;exact⟨v,ρ2,hv,ha2,keep2 _ _ h4⟩
 cases e with
 |ret=>exact⟨.inl rfl,key hk⟩
 |normal=>exact⟨.inr rfl,key hk⟩
 |_=>exact hk.elim
theorem K0{f:FuncId}{fn:Func}{code:Code}{args:List IV}{pre post:List (Nat×HO)}{r:IV}(T:TB P)(H:Hn)(Rl:List Nat)(hf:P.funcs[f]?=some fn)(hb:fn.body=some code)(hn:Nat.ble args.length fn.ntmps=true)
 (h:Go.Proofs.YtjlaalpfpecikaaGreatDoor.vc T H Rl (pre.map (·.1)) fn.ntmps code (frOf 0 args) (up pre) (vret T fn.results.toList r post)):SC P f args pre (λk=>k∈Rl) r post:=by
 intro F ρ w vs hkept hrel hargs;refine calls_of_wp hf hb ?_;have ha:All ⟨F,λk=>k∈Rl,ρ,look (up pre),w,fn.ntmps⟩ ρ (look (up pre)) w (frOf 0 args) { tmps:=vs.toArray++Array.replicate (fn.ntmps-vs.toArray.size) undef,defers:=[] }:=by
  refine⟨hrel,λt x hx=>?_,.refl _ _ _ _ _,rfl,?_,hkept⟩
  ·obtain⟨v,hv,hr⟩:=hargs.2 t x (by simpa using(y5f hx).2);refine⟨v,?_,hr⟩;rw[El (by simpa using(A7.1 hv).1)];simpa using hv
  ·have:=hargs.1;have:=B5 hn;simp;omega
 have hσ:∀k,look (up pre) k≠none->k∈pre.map (·.1):=λk hk=>by
  refine By λhn=>hk (z2r.2 hn)
 refine Ge (y78 (c:=⟨F,λk=>k∈Rl,ρ,look (up pre),w,fn.ntmps⟩) rfl (λ_ h=>h) hσ code h ρ w _ ha) λe a' w' hq=>?_;obtain⟨ρ',σ',fr',ha',hq⟩:=hq;obtain⟨he,_,hres⟩:=retL_ok hq;obtain⟨v,ρ'',hv,ha'',h1⟩:=hres _ ρ' w' a' ha';rcases he with rfl|rfl
 iterate 2 exact⟨ha'.df,v,hv,ρ'',v,rfl,h1,ha''.rel,ha''.tr⟩
end
theorem slq{k m n:Nat}(h:m=n):some (IV.sl k m)=some (IV.sl k n):=h▸rfl
theorem rwq{s:RT}{a b:List (List PV)}(h:a=b):some (HO.row s a)=some (HO.row s b):=h▸rfl
theorem mpq{a b:List (Value×PV)}(h:a=b):some (HO.map a)=some (HO.map b):=h▸rfl
theorem boq{a b:List IV}(h:a=b):some (HO.box a)=some (HO.box b):=h▸rfl
theorem ivq{a b:Int}(h:a=b):some (iInt a)=some (iInt b):=h▸rfl
theorem z0u{α:Type}{l:List α}{k:Nat}(h:k<l.length):∃x,l[k]?=some x/\l.take (k+1)=l.take k++[x]/\l.drop k=x::l.drop (k+1)/\x∈l :=
 ⟨l[k],Ad h,by rw[List.take_append_getElem],D8 h,D4 h⟩
theorem z12{l:List (List PV)}{α:Type}{f:α -> List PV}{a:List α}{k:Nat}(hl:l=a.map f)(h:decide ((k:Int)<l.length)=true):k<a.length:=by subst hl;simpa using h
theorem z13{l:List (List PV)}{α:Type}{f:α -> List PV}{a:List α}{k:Nat}(hl:l=a.map f)(h:decide ((k:Int)<l.length)=false):a.length<=k:=by subst hl;simpa using h
theorem at0{α:Type}{a:α}{r:List α}:(a::r)[0]?=some a:=rfl
theorem at1{α:Type}{a b:α}{r:List α}:(a::b::r)[1]?=some b:=rfl
theorem at2{α:Type}{a b c:α}{r:List α}:(a::b::c::r)[2]?=some c:=rfl
theorem z05{n k:Nat}(h:k<n):n-(k+1)<n-k:=by omega
theorem sN:SubI (.pv (.val (.slice none 0 0))) (.pv (.seq [])):=λ_ _ _ _ _ h=>yd8 h
theorem I0{x y:IV}{xs ys:List IV}(h:SubI x y)(hs:SubA xs ys):SubA (x::xs) (y::ys):=λσ=>Subs.cons (λ_ _ _ _ hv=>h _ _ _ _ _ hv) (hs σ)
theorem H0{x:IV}{xs ys:List IV}(hs:SubA xs ys):SubA (x::xs) (x::ys):=I0 sI hs
theorem J0:SubA [] []:=sR
theorem sP{p q:PV}(h:PSub p q):SubI (.pv p) (.pv q):=λ_ _ _ _ _ hv=>sub_pv h hv
theorem sT2{x x' y:IV}(h:SubI x x'):SubI (.tup [x,y]) (.tup [x',y]):=λ_ _ _ _ _ hv=>tup2_sub (λv hv=>h _ _ _ _ v hv) hv
def tabE:List (Nat×TE):=[(2,⟨.int .i64,1,8,[.int .i64]⟩),
 (3,⟨.int .i64,1,8,[.int .i64]⟩),
 (4,⟨.bool,1,1,[.bool]⟩),
 (5,⟨.int .u8,1,1,[.int .u8]⟩),
 (6,⟨.int .u8,1,1,[.int .u8]⟩),
 (7,⟨.struct [(0,2),(1,3),(2,4),(3,6)],4,24,[.int .i64,.int .i64,.bool,.int .u8]⟩),
 (8,⟨.struct [(0,2),(1,3),(2,4),(3,6)],4,24,[.int .i64,.int .i64,.bool,.int .u8]⟩),
 (9,⟨.str,1,16,[.str]⟩),
 (10,⟨.str,1,16,[.str]⟩),
 (11,⟨.str,1,16,[.str]⟩),
 (12,⟨.int .u64,1,8,[.int .u64]⟩),
 (13,⟨.struct [(0,9),(1,12)],2,24,[.str,.int .u64]⟩),
 (14,⟨.struct [(0,9),(1,12)],2,24,[.str,.int .u64]⟩),
 (15,⟨.ptr 318,1,8,[.ptr]⟩),
 (16,⟨.ptr 321,1,8,[.ptr]⟩),
 (17,⟨.ptr 329,1,8,[.ptr]⟩),
 (18,⟨.struct [(0,17)],1,8,[.ptr]⟩),
 (19,⟨.struct [(0,17)],1,8,[.ptr]⟩),
 (21,⟨.int .i32,1,4,[.int .i32]⟩),
 (22,⟨.slice 5,1,24,[.slice]⟩),
 (23,⟨.slice 3,1,24,[.slice]⟩),
 (25,⟨.slice 84,1,24,[.slice]⟩),
 (26,⟨.slice 59,1,24,[.slice]⟩),
 (27,⟨.struct [(0,25),(1,26)],2,48,[.slice,.slice]⟩),
 (28,⟨.struct [(0,25),(1,26)],2,48,[.slice,.slice]⟩),
 (29,⟨.int .i64,1,8,[.int .i64]⟩),
 (32,⟨.slice 57,1,24,[.slice]⟩),
 (33,⟨.struct [(0,25),(1,32)],2,48,[.slice,.slice]⟩),
 (34,⟨.struct [(0,25),(1,32)],2,48,[.slice,.slice]⟩),
 (45,⟨.slice 48,1,24,[.slice]⟩),
 (46,⟨.struct [(0,3),(1,3),(2,3),(3,9),(4,23),(5,23),(6,23),(7,45)],8,136,[.int .i64,.int .i64,.int .i64,.str,.slice,.slice,.slice,.slice]⟩),
 (47,⟨.struct [(0,3),(1,3),(2,3),(3,9),(4,23),(5,23),(6,23),(7,45)],8,136,[.int .i64,.int .i64,.int .i64,.str,.slice,.slice,.slice,.slice]⟩),
 (48,⟨.slice 47,1,24,[.slice]⟩),
 (49,⟨.struct [(0,3),(1,3),(2,23),(3,3),(4,3)],5,56,[.int .i64,.int .i64,.slice,.int .i64,.int .i64]⟩),
 (50,⟨.struct [(0,3),(1,3),(2,23),(3,3),(4,3)],5,56,[.int .i64,.int .i64,.slice,.int .i64,.int .i64]⟩),
 (54,⟨.slice 102,1,24,[.slice]⟩),
 (55,⟨.slice 149,1,24,[.slice]⟩),
 (56,⟨.struct [(0,9),(1,3),(2,54),(3,55)],4,72,[.str,.int .i64,.slice,.slice]⟩),
 (57,⟨.struct [(0,9),(1,3),(2,54),(3,55)],4,72,[.str,.int .i64,.slice,.slice]⟩),
 (58,⟨.struct [(0,9),(1,3),(2,3),(3,23),(4,48)],5,80,[.str,.int .i64,.int .i64,.slice,.slice]⟩),
 (59,⟨.struct [(0,9),(1,3),(2,3),(3,23),(4,48)],5,80,[.str,.int .i64,.int .i64,.slice,.slice]⟩),
 (61,⟨.ptr 63,1,8,[.ptr]⟩),
 (62,⟨.struct [(0,22),(1,3)],2,32,[.slice,.int .i64]⟩),
 (63,⟨.struct [(0,22),(1,3)],2,32,[.slice,.int .i64]⟩),
 (69,⟨.map 171 3,1,8,[.map]⟩),
 (70,⟨.map 3 3,1,8,[.map]⟩),
 (71,⟨.struct [(0,69),(1,70),(2,70)],3,24,[.map,.map,.map]⟩),
 (72,⟨.struct [(0,69),(1,70),(2,70)],3,24,[.map,.map,.map]⟩),
 (77,⟨.slice 9,1,24,[.slice]⟩),
 (79,⟨.ptr 82,1,8,[.ptr]⟩),
 (80,⟨.slice 23,1,24,[.slice]⟩),
 (81,⟨.struct [(0,28),(2,23),(3,80),(4,50),(9,4)],10,160,[.slice,.slice,.slice,.slice,.int .i64,.int .i64,.slice,.int .i64,.int .i64,.bool]⟩),
 (82,⟨.struct [(0,28),(2,23),(3,80),(4,50),(9,4)],10,160,[.slice,.slice,.slice,.slice,.int .i64,.int .i64,.slice,.int .i64,.int .i64,.bool]⟩),
 (83,⟨.struct [(0,9),(1,3)],2,24,[.str,.int .i64]⟩),
 (84,⟨.struct [(0,9),(1,3)],2,24,[.str,.int .i64]⟩),
 (87,⟨.arr 2 3,2,16,[.int .i64,.int .i64]⟩),
 (92,⟨.ptr 100,1,8,[.ptr]⟩),
 (93,⟨.ptr 96,1,8,[.ptr]⟩),
 (94,⟨.slice 77,1,24,[.slice]⟩),
 (95,⟨.struct [(0,34),(2,23),(3,94)],4,96,[.slice,.slice,.slice,.slice]⟩),
 (96,⟨.struct [(0,34),(2,23),(3,94)],4,96,[.slice,.slice,.slice,.slice]⟩),
 (97,⟨.map 9 3,1,8,[.map]⟩),
 (98,⟨.map 9 3,1,8,[.map]⟩),
 (99,⟨.struct [(0,93),(1,98),(2,48)],3,40,[.ptr,.map,.slice]⟩),
 (100,⟨.struct [(0,93),(1,98),(2,48)],3,40,[.ptr,.map,.slice]⟩),
 (101,⟨.struct [(0,9),(1,3)],2,24,[.str,.int .i64]⟩),
 (102,⟨.struct [(0,9),(1,3)],2,24,[.str,.int .i64]⟩),
 (105,⟨.slice 113,1,24,[.slice]⟩),
 (108,⟨.ptr 110,1,8,[.ptr]⟩),
 (109,⟨.struct [(0,105),(1,3),(2,4),(3,4)],4,40,[.slice,.int .i64,.bool,.bool]⟩),
 (110,⟨.struct [(0,105),(1,3),(2,4),(3,4)],4,40,[.slice,.int .i64,.bool,.bool]⟩),
 (112,⟨.struct [(0,3),(1,9),(2,3)],3,32,[.int .i64,.str,.int .i64]⟩),
 (113,⟨.struct [(0,3),(1,9),(2,3)],3,32,[.int .i64,.str,.int .i64]⟩),
 (116,⟨.ptr 119,1,8,[.ptr]⟩),
 (117,⟨.slice 4,1,24,[.slice]⟩),
 (118,⟨.struct [(0,28),(2,59),(7,117)],8,152,[.slice,.slice,.str,.int .i64,.int .i64,.slice,.slice,.slice]⟩),
 (119,⟨.struct [(0,28),(2,59),(7,117)],8,152,[.slice,.slice,.str,.int .i64,.int .i64,.slice,.slice,.slice]⟩),
 (121,⟨.struct [(0,4),(1,4),(2,23),(3,23),(4,23)],5,80,[.bool,.bool,.slice,.slice,.slice]⟩),
 (122,⟨.struct [(0,4),(1,4),(2,23),(3,23),(4,23)],5,80,[.bool,.bool,.slice,.slice,.slice]⟩),
 (128,⟨.struct [(0,3),(1,23)],2,32,[.int .i64,.slice]⟩),
 (129,⟨.struct [(0,3),(1,23)],2,32,[.int .i64,.slice]⟩),
 (132,⟨.ptr 136,1,8,[.ptr]⟩),
 (133,⟨.struct [(0,34)],2,48,[.slice,.slice]⟩),
 (134,⟨.struct [(0,34)],2,48,[.slice,.slice]⟩),
 (135,⟨.struct [(0,134),(2,3),(3,3)],4,64,[.slice,.slice,.int .i64,.int .i64]⟩),
 (136,⟨.struct [(0,134),(2,3),(3,3)],4,64,[.slice,.slice,.int .i64,.int .i64]⟩),
 (138,⟨.ptr 223,1,8,[.ptr]⟩),
 (140,⟨.map 9 9,1,8,[.map]⟩),
 (141,⟨.map 9 9,1,8,[.map]⟩),
 (147,⟨.slice 187,1,24,[.slice]⟩),
 (148,⟨.struct [(0,3),(1,3),(2,9),(3,147),(4,55),(5,55)],6,104,[.int .i64,.int .i64,.str,.slice,.slice,.slice]⟩),
 (149,⟨.struct [(0,3),(1,3),(2,9),(3,147),(4,55),(5,55)],6,104,[.int .i64,.int .i64,.str,.slice,.slice,.slice]⟩),
 (153,⟨.ptr 155,1,8,[.ptr]⟩),
 (154,⟨.struct [(0,28),(2,59),(7,23)],8,152,[.slice,.slice,.str,.int .i64,.int .i64,.slice,.slice,.slice]⟩),
 (155,⟨.struct [(0,28),(2,59),(7,23)],8,152,[.slice,.slice,.str,.int .i64,.int .i64,.slice,.slice,.slice]⟩),
 (157,⟨.struct [(0,4),(1,4),(2,23),(3,23),(4,23)],5,80,[.bool,.bool,.slice,.slice,.slice]⟩),
 (158,⟨.struct [(0,4),(1,4),(2,23),(3,23),(4,23)],5,80,[.bool,.bool,.slice,.slice,.slice]⟩),
 (170,⟨.struct [(0,3),(1,3),(2,3),(3,3),(4,3)],5,40,[.int .i64,.int .i64,.int .i64,.int .i64,.int .i64]⟩),
 (171,⟨.struct [(0,3),(1,3),(2,3),(3,3),(4,3)],5,40,[.int .i64,.int .i64,.int .i64,.int .i64,.int .i64]⟩),
 (186,⟨.struct [(0,3),(1,3),(2,3),(3,9),(4,147)],5,64,[.int .i64,.int .i64,.int .i64,.str,.slice]⟩),
 (187,⟨.struct [(0,3),(1,3),(2,3),(3,9),(4,147)],5,64,[.int .i64,.int .i64,.int .i64,.str,.slice]⟩),
 (190,⟨.ptr 149,1,8,[.ptr]⟩),
 (222,⟨.struct [(0,102),(2,138),(3,3)],4,40,[.str,.int .i64,.ptr,.int .i64]⟩),
 (223,⟨.struct [(0,102),(2,138),(3,3)],4,40,[.str,.int .i64,.ptr,.int .i64]⟩),
 (237,⟨.int .u64,1,8,[.int .u64]⟩),
 (246,⟨.slice 55,1,24,[.slice]⟩),
 (247,⟨.map 9 253,1,8,[.map]⟩),
 (253,⟨.struct [],0,0,[]⟩),
 (263,⟨.struct [(0,4),(1,4),(2,3),(3,4),(4,4)],5,24,[.bool,.bool,.int .i64,.bool,.bool]⟩),
 (264,⟨.struct [(0,4),(1,4),(2,3),(3,4),(4,4)],5,24,[.bool,.bool,.int .i64,.bool,.bool]⟩),
 (266,⟨.map 3 264,1,8,[.map]⟩),
 (273,⟨.arr 24 5,24,24,[.int .u8,.int .u8,.int .u8,.int .u8,.int .u8,.int .u8,.int .u8,.int .u8,.int .u8,.int .u8,.int .u8,.int .u8,.int .u8,.int .u8,.int .u8,.int .u8,.int .u8,.int .u8,.int .u8,.int .u8,.int .u8,.int .u8,.int .u8,.int .u8]⟩),
 (286,⟨.arr 20 237,20,160,[.int .u64,.int .u64,.int .u64,.int .u64,.int .u64,.int .u64,.int .u64,.int .u64,.int .u64,.int .u64,.int .u64,.int .u64,.int .u64,.int .u64,.int .u64,.int .u64,.int .u64,.int .u64,.int .u64,.int .u64]⟩),
 (287,⟨.int .u32,1,4,[.int .u32]⟩),
 (288,⟨.arr 65 5,65,65,[.int .u8,.int .u8,.int .u8,.int .u8,.int .u8,.int .u8,.int .u8,.int .u8,.int .u8,.int .u8,.int .u8,.int .u8,.int .u8,.int .u8,.int .u8,.int .u8,.int .u8,.int .u8,.int .u8,.int .u8,.int .u8,.int .u8,.int .u8,.int .u8,.int .u8,.int .u8,.int .u8,.int .u8,.int .u8,.int .u8,.int .u8,.int .u8,.int .u8,.int .u8,.int .u8,.int .u8,.int .u8,.int .u8,.int .u8,.int .u8,.int .u8,.int .u8,.int .u8,.int .u8,.int .u8,.int .u8,.int .u8,.int .u8,.int .u8,.int .u8,.int .u8,.int .u8,.int .u8,.int .u8,.int .u8,.int .u8,.int .u8,.int .u8,.int .u8,.int .u8,.int .u8,.int .u8,.int .u8,.int .u8,.int .u8]⟩),
 (289,⟨.int .u64,1,8,[.int .u64]⟩),
 (293,⟨.struct [(0,9),(1,3)],2,24,[.str,.int .i64]⟩),
 (294,⟨.struct [(0,9),(1,3)],2,24,[.str,.int .i64]⟩),
 (298,⟨.int .i64,1,8,[.int .i64]⟩),
 (305,⟨.arr 29 294,58,696,[.str,.int .i64,.str,.int .i64,.str,.int .i64,.str,.int .i64,.str,.int .i64,.str,.int .i64,.str,.int .i64,.str,.int .i64,.str,.int .i64,.str,.int .i64,.str,.int .i64,.str,.int .i64,.str,.int .i64,.str,.int .i64,.str,.int .i64,.str,.int .i64,.str,.int .i64,.str,.int .i64,.str,.int .i64,.str,.int .i64,.str,.int .i64,.str,.int .i64,.str,.int .i64,.str,.int .i64,.str,.int .i64,.str,.int .i64,.str,.int .i64,.str,.int .i64,.str,.int .i64]⟩),
 (307,⟨.arr 32 5,32,32,[.int .u8,.int .u8,.int .u8,.int .u8,.int .u8,.int .u8,.int .u8,.int .u8,.int .u8,.int .u8,.int .u8,.int .u8,.int .u8,.int .u8,.int .u8,.int .u8,.int .u8,.int .u8,.int .u8,.int .u8,.int .u8,.int .u8,.int .u8,.int .u8,.int .u8,.int .u8,.int .u8,.int .u8,.int .u8,.int .u8,.int .u8,.int .u8]⟩),
 (308,⟨.arr 64 5,64,64,[.int .u8,.int .u8,.int .u8,.int .u8,.int .u8,.int .u8,.int .u8,.int .u8,.int .u8,.int .u8,.int .u8,.int .u8,.int .u8,.int .u8,.int .u8,.int .u8,.int .u8,.int .u8,.int .u8,.int .u8,.int .u8,.int .u8,.int .u8,.int .u8,.int .u8,.int .u8,.int .u8,.int .u8,.int .u8,.int .u8,.int .u8,.int .u8,.int .u8,.int .u8,.int .u8,.int .u8,.int .u8,.int .u8,.int .u8,.int .u8,.int .u8,.int .u8,.int .u8,.int .u8,.int .u8,.int .u8,.int .u8,.int .u8,.int .u8,.int .u8,.int .u8,.int .u8,.int .u8,.int .u8,.int .u8,.int .u8,.int .u8,.int .u8,.int .u8,.int .u8,.int .u8,.int .u8,.int .u8,.int .u8]⟩),
 (309,⟨.int .u64,1,8,[.int .u64]⟩),
 (313,⟨.ptr 3,1,8,[.ptr]⟩),
 (315,⟨.ptr 309,1,8,[.ptr]⟩),
 (317,⟨.struct [(0,17),(1,17),(2,17),(3,9)],4,40,[.ptr,.ptr,.ptr,.str]⟩),
 (318,⟨.struct [(0,17),(1,17),(2,17),(3,9)],4,40,[.ptr,.ptr,.ptr,.str]⟩),
 (319,⟨.arr 0 16,0,0,[]⟩),
 (320,⟨.struct [(0,319)],0,0,[]⟩),
 (321,⟨.struct [(0,319)],0,0,[]⟩),
 (322,⟨.int .u8,1,1,[.int .u8]⟩),
 (323,⟨.int .u8,1,1,[.int .u8]⟩),
 (325,⟨.ptr 5,1,8,[.ptr]⟩),
 (326,⟨.int .i32,1,4,[.int .i32]⟩),
 (327,⟨.int .i32,1,4,[.int .i32]⟩),
 (328,⟨.struct [(0,12),(1,12),(2,287),(3,322),(4,5),(5,5),(6,323),(7,324),(8,325),(9,326),(10,327)],11,48,[.int .u64,.int .u64,.int .u32,.int .u8,.int .u8,.int .u8,.int .u8,.fn,.ptr,.int .i32,.int .i32]⟩),
 (329,⟨.struct [(0,12),(1,12),(2,287),(3,322),(4,5),(5,5),(6,323),(7,324),(8,325),(9,326),(10,327)],11,48,[.int .u64,.int .u64,.int .u32,.int .u8,.int .u8,.int .u8,.int .u8,.fn,.ptr,.int .i32,.int .i32]⟩)]
def tabN:List Nat:=[2,3,4,5,6,7,8,9,10,11,12,13,14,15,16,17,18,19,20,21,22,23,24,25,26,27,28,29,30,31,32,33,34,35,36,37,38,39,40,41,42,43,44,45,46,47,48,49,50,51,52,53,54,55,56,57,58,59,60,61,62,63,64,65,66,67,68,69,70,71,72,73,74,75,76,77,78,79,80,81,82,83,84,85,86,87,88,89,90,91,92,93,94,95,96,97,98,99,100,101,102,103,104,105,106,107,108,109,110,111,112,113,114,115,116,117,118,119,120,121,122,123,124,125,126,127,128,129,130,131,132,133,134,135,136,137,138,139,140,141,143,144,145,146,147,148,149,150,151,152,153,154,155,156,157,158,159,160,161,162,163,164,165,166,167,168,169,170,171,172,173,174,175,176,177,178,179,180,181,182,183,184,185,186,187,188,189,190,191,192,193,194,195,196,197,198,199,200,201,202,203,204,205,206,207,208,209,210,211,212,213,214,215,216,217,218,219,220,221,222,223,224,225,226,227,228,229,230,231,232,233,234,235,236,237,238,239,240,241,242,243,244,245,246,247,248,249,250,251,252,253,254,255,256,257,258,259,260,261,262,263,264,265,266,267,268,269,270,271,272,273,295]
theorem tabE_ok:tAll Tryz.prog tabE=true:=by kernel_rfl
theorem tabN_ok:y7q Tryz.prog tabN=true:=by kernel_rfl
def tb:TB Tryz.prog:=mkTB Tryz.prog tabE tabN tabE_ok tabN_ok kR0
theorem idsR{pre:List (Nat×HO)}{k:Nat}(h:look (up pre) k≠none):k∈zc5 pre:=by
 cases h2:look (up pre) k with
 |none=>exact A9 h2 h
 |some o=>exact Df (z1o h2)
theorem z5c(u:Un)(s:Rs):SC Tryz.prog 33 [.ptr 1001 0] (rH u s) (λ_=>True) (iBool (z16 s)) (rH u s):=by
 obtain⟨ins,ar,st,code,out,cost,fuel,spent⟩:=s;rcases ar with _|⟨r,_|⟨r2,t⟩⟩
 ·refine L0 (K0 tb {} [1001,1002] Tryz.func33 rfl rfl ?_) (λk hk _=>idsR hk)
  cases spent<;>exact⟨sI,rfl,rfl,Gf⟩
 ·refine L0 (K0 tb {} [1001,1002,1003,1004] Tryz.func33 rfl rfl ?_) (λk hk _=>idsR hk)
  cases spent<;>exact⟨sI,rfl,rfl,rfl,rfl,Gf⟩
 ·refine L0 (K0 tb {} [1001,1002,1013,1004,1014] Tryz.func33 rfl rfl ?_) (λk hk _=>idsR hk)
  cases spent<;>exact⟨sI,rfl,rfl,rfl,rfl,rfl,Gf⟩
theorem j54(u:Un)(s:Rs):SC Tryz.prog 94 [.ptr 1001 0] (rH u s) (λ_=>False) (iBool (zb8 s).1) (rH u (zb8 s).2):=by
 refine L0 (K0 tb {} [] Tryz.func94 rfl rfl ?_) (λk _ h=>h.elim);have h1:=z5c u s;unfold zb8;generalize z16 s=b at h1⊢;obtain⟨ins,ar,st,code,out,cost,fuel,spent⟩:=s
 cases b with
 |true =>
  rcases ar with _|⟨r,_|⟨row2,t⟩⟩
  ·exact⟨[],h1,sR,Gi,rfl,sI,rfl,rfl,Gf⟩
  ·exact⟨[],h1,sR,Gk,rfl,sI,rfl,rfl,rfl,rfl,Gf⟩
  ·exact⟨[],h1,sR,Gl,rfl,sI,rfl,rfl,rfl,rfl,rfl,Gf⟩
 |false =>
  by_cases hf:fuel<1
  ·rw[A1 dC0,A5 hf];have hd:decide (fuel<1)=true:=Cb hf;rcases ar with _|⟨r,_|⟨row2,t⟩⟩
   ·exact⟨[],h1,sR,Gi,rfl,z00 (λ_=>⟨sI,rfl,rfl,Gf⟩) λh=>A9 (hd.symm.trans h) dC0⟩
   ·exact⟨[],h1,sR,Gk,rfl,z00 (λ_=>⟨sI,rfl,rfl,rfl,rfl,Gf⟩) λh=>A9 (hd.symm.trans h) dC0⟩
   ·exact⟨[],h1,sR,Gl,rfl,z00 (λ_=>⟨sI,rfl,rfl,rfl,rfl,rfl,Gf⟩) λh=>A9 (hd.symm.trans h) dC0⟩
  ·rw[A1 dC0,A1 hf];have hd:decide (fuel<1)=false:=Dk hf;rcases ar with _|⟨r,_|⟨row2,t⟩⟩
   ·exact⟨[],h1,sR,Gi,rfl,z00 (λh=>A9 (hd.symm.trans h) dC0) λ_=>⟨rfl,sI,rfl,rfl,Gf⟩⟩
   ·exact⟨[],h1,sR,Gk,rfl,z00 (λh=>A9 (hd.symm.trans h) dC0) λ_=>⟨rfl,sI,rfl,rfl,rfl,rfl,Gf⟩⟩
   ·exact⟨[],h1,sR,Gl,rfl,z00 (λh=>A9 (hd.symm.trans h) dC0) λ_=>⟨rfl,sI,rfl,rfl,rfl,rfl,rfl,Gf⟩⟩
theorem eI0{y:Int}:(eInt y)[0]?=some (vInt y):=rfl
theorem mOf_cons{v l o:List Int}{x:Int}(h:mOf v (x::l)=some o):∃y r,0<=x/\v[x.toNat]?=some y/\mOf v l=some r/\o=y::r:=by
 simp only[mOf,getV]at h;split at h
 ·obtain⟨y,h1,h2⟩:=Ao.1 h;obtain⟨r,h3,h4⟩:=A8.1 h2;exact⟨y,r,‹_›,h1,h3,h4.symm⟩
 ·cases h
theorem sr_of(v l o:List Int)(h:mOf v l=some o)(hb:l.length<=34359738368):SC Tryz.prog 95 [.sl 510 (v.map eInt).length,.pv (ints l)] [(510,rowI v)] (λk=>k=510) (.pv (ints o)) [(510,rowI v)]:=by
 refine L0 (K0 tb { gh:=[(2,[.grow 5 105 3 1]),(6,[.fz 5 105])] } [510] Tryz.func95 rfl rfl ?_) (λk _ h=>Al.2 h);refine⟨Nat×List Int×List Int,λ(k,acc,_)=>[(6,iInt k),(5,.sl 105 (acc.map eInt).length)],λ(_,acc,_)=>[(105,.row ⟨3,1⟩ (acc.map eInt))],λ(k,_,_)=>l.length-k,λ(k,acc,rest)=>k<=l.length/\mOf v (l.drop k)=some rest/\o=acc++rest/\acc.length=k,[],(0,[],o),⟨Aj _,h,rfl,rfl⟩,Gi,Gg,?_⟩;rintro⟨k,acc,rest⟩ ⟨hk,hm,ho,ha⟩;refine z00 (λhc=>?_) λhc=>?_
 ·have hlt:=z12 (f:=eInt) rfl hc;obtain⟨x,hx,_,hd,_⟩:=z0u hlt;rw[hd]at hm;obtain⟨y,r,h0,h1,h2,rfl⟩:=mOf_cons hm;have hi:x.toNat<(v.map eInt).length:=by have:=(A7.1 h1).1;simpa using this
  have hxn:x=((x.toNat:Nat):Int):=by omega
  exact⟨z02 (f:=eInt) hx,rfl,rfl,hi,hxn,rfl,(Ca _).symm,z02 (f:=eInt) h1,eI0,rfl,z3u rfl,by simp;omega,z01 rfl oM0,(k+1,acc++[y],r),z05 hlt,⟨hlt,h2,by rw[ho];simp,by simp[ha]⟩,⟨rfl,slq sI0,Gf⟩,⟨rwq (by simp[eInt]),Gf⟩,rfl,rfl,rfl,rfl⟩
 ·rw[Ae (z13 (f:=eInt) rfl hc)]at hm
  cases hm
  exact⟨rfl,sE (by rw[ho,Cy];rfl),rfl,Gf⟩
theorem j24{v l n v':List Int}{x:Int}{k:Nat}(h:mSet v (x::l) (n.drop k)=some v'):∃y,n[k]?=some y/\0<=x/\x.toNat<v.length/\mSet (v.set x.toNat y) l (n.drop (k+1))=some v':=by
 rcases hn:n.drop k with _|⟨y,r⟩
 ·rw[hn]at h;cases h
 ·rw[hn]at h;have h2:n[k]?=some y:=by have:=Ah (·[0]?) hn;simpa using this
  have h3:n.drop (k+1)=r:=by rw[<- List.tail_drop,hn];rfl
  simp only[mSet,setV]at h;split at h
  ·rename_i h4;rw[h3];exact⟨y,h2,h4.1,h4.2,h⟩
  ·cases h
theorem zx4(v l n v':List Int)(h:mSet v l n=some v'):SC Tryz.prog 96 [.sl 510 (v.map eInt).length,.pv (ints l),.pv (ints n)] [(510,rowI v)] (λ_=>False) (.tup []) [(510,rowI v')]:=by
 refine L0 (K0 tb { gh:=[(0,[.len 1])] } [] Tryz.func96 rfl rfl ?_) (λk _ h=>h.elim);intro hl;replace hl:(l.map eInt).length<=maxLen:=hl;simp only[Ab,maxLen]at hl;refine⟨Nat×List Int,λ(k,_)=>[(6,iInt k)],λ(_,w)=>[(510,rowI w)],λ(k,_)=>l.length-k,λ(k,w)=>k<=l.length/\mSet w (l.drop k) (n.drop k)=some v'/\w.length=v.length,[],(0,v),⟨Aj _,h,rfl⟩,Gg,Gg,?_⟩;rintro⟨k,w⟩ ⟨hk,hm,hw⟩;refine z00 (λhc=>?_) λhc=>?_
 ·have hlt:=z12 (f:=eInt) rfl hc;obtain⟨x,hx,_,hd,_⟩:=z0u hlt;rw[hd]at hm;obtain⟨y,hy,hw0,h1,hm⟩:=j24 hm;have hi:x.toNat<(v.map eInt).length:=by rw[hw]at h1;simpa using h1
  have hxn:x=((x.toNat:Nat):Int):=by omega
  have hwl:(w.map eInt).length=(v.map eInt).length:=by simp[hw]
  have hz:w[x.toNat]?=some (w[x.toNat]'h1):=Ad h1;exact⟨z02 (f:=eInt) hx,rfl,z02 (f:=eInt) hy,rfl,hwl,hi,hxn,x.toNat,0,_,hwl,(Ca _).symm,z02 (f:=eInt) hz,Bx,z01 rfl oM0,(k+1,w.set x.toNat y),z05 hlt,⟨hlt,hm,by simp[hw]⟩,Gg,⟨rwq (by simp[eInt,C8]),Gf⟩,rfl,rfl,rfl,rfl⟩
 ·rw[Ae (z13 (f:=eInt) rfl hc)]at hm
  cases hm
  exact⟨sI,rfl,Gf⟩
theorem za1(b:Bool):SC Tryz.prog 186 [iBool b] [] (λ_=>False) (iInt (zm4 b)) []:=by
 refine SC.anyR (K0 tb {} [] Tryz.func186 rfl rfl ?_)
 cases b with
 |true=>exact⟨sI,Gf⟩
 |false=>exact⟨sI,Gf⟩
theorem yg3(op a:Int):SC Tryz.prog 145 [iInt op,iInt a] [] (λ_=>False) (iInt (mOne op a)) []:=by
 refine SC.anyR (K0 tb {} [] Tryz.func145 rfl rfl ?_);rcases(show op=20∨op=21∨op=22∨op=26∨op=27∨op=28∨op=23∨op=24∨op=25∨(op≠20/\op≠21/\op≠22/\op≠26/\op≠27/\op≠28/\op≠23/\op≠24/\op≠25) by omega)with rfl|rfl|rfl|rfl|rfl|rfl|rfl|rfl|rfl|hk
 iterate 2 exact⟨rfl,sI,Gf⟩
 ·exact⟨[],za1 (a==0),sR,Gf,rfl,sI,Gf⟩
 iterate 3 exact⟨rfl,sI,Gf⟩
 iterate 3 exact⟨rfl,rfl,rfl,sI,Gf⟩
 ·obtain⟨k20,k21,k22,k26,k27,k28,k23,k24,k25⟩:=hk;have no:∀{i:Int},op≠i->(op==i)=true->False:=λh e=>h (Av e);have ne:∀{i:Int},op≠i->(op==i)=false:=λh=>Aa.2 h;rw[show mOne op a=0 by unfold mOne;simp only[ne k20,ne k21,ne k22,ne k26,ne k27,ne k28,ne k23,ne k24,ne k25];rfl];exact z00 (λh=>(no k20 h).elim) λ_=>z00 (λh=>(no k21 h).elim) λ_=>z00 (λh=>(no k22 h).elim) λ_=>z00 (λh=>(no k26 h).elim) λ_=>z00 (λh=>(no k27 h).elim) λ_=>z00 (λh=>(no k28 h).elim) λ_=>z00 (λh=>(no k23 h).elim) λ_=>z00 (λh=>(no k24 h).elim) λ_=>z00 (λh=>(no k25 h).elim) λ_=>⟨sI,Gf⟩
theorem sc_mTwo(op a b:Int):SC Tryz.prog 146 [iInt op,iInt a,iInt b] [] (λ_=>False) (.tup [iInt (mTwo op a b).1,iBool (mTwo op a b).2]) []:=by
 refine SC.anyR (K0 tb {} [] Tryz.func146 rfl rfl ?_);have h63:=and63 b;rcases(show op=1∨op=2∨op=3∨op=4∨op=5∨op=6∨op=7∨op=8∨op=9∨op=10∨op=11∨op=12∨op=13∨op=14∨op=15∨op=16∨op=17∨(op≠1/\op≠2/\op≠3/\op≠4/\op≠5/\op≠6/\op≠7/\op≠8/\op≠9/\op≠10/\op≠11/\op≠12/\op≠13/\op≠14/\op≠15/\op≠16/\op≠17) by omega)with rfl|rfl|rfl|rfl|rfl|rfl|rfl|rfl|rfl|rfl|rfl|rfl|rfl|rfl|rfl|rfl|rfl|hk
 iterate 3 exact⟨rfl,sI,Gf⟩
 ·cases hb:(b==0)with
  |true =>
   rw[show mTwo 4 a b=(0,false) by unfold mTwo;rw[hb];rfl]
   exact z00 (λ_=>⟨sI,Gf⟩) λh=>A9 (hb.symm.trans h) dC0
  |false =>
   have hb0:b≠0:=by simpa using hb
   rw[show mTwo 4 a b=(w64 (a.tdiv b),true) by unfold mTwo;rw[hb];rfl];exact z00 (λh=>A9 (hb.symm.trans h) dC0) λ_=>⟨show z3f .quo .i64 a b=some (.int .i64 (w64 (a.tdiv b))) by simp[z3f,w64,hb0],sI,Gf⟩
 ·cases hb:(b==0)with
  |true =>
   rw[show mTwo 5 a b=(0,false) by unfold mTwo;rw[hb];rfl]
   exact z00 (λ_=>⟨sI,Gf⟩) λh=>A9 (hb.symm.trans h) dC0
  |false =>
   have hb0:b≠0:=by simpa using hb
   rw[show mTwo 5 a b=(a.tmod b,true) by unfold mTwo;rw[hb];rfl];exact z00 (λh=>A9 (hb.symm.trans h) dC0) λ_=>⟨show z3f .rem .i64 a b=some (.int .i64 (a.tmod b)) by simp[z3f,w64,hb0],sI,Gf⟩
 iterate 3 exact⟨rfl,sI,Gf⟩
 iterate 3 exact⟨rfl,h63,sI,Gf⟩
 ·exact⟨[],za1 (decide (a<b)),sR,Gf,rfl,sI,Gf⟩
 ·exact⟨[],za1 (decide (a<=b)),sR,Gf,rfl,sI,Gf⟩
 ·exact⟨[],za1 (decide (a > b)),sR,Gf,rfl,sI,Gf⟩
 ·exact⟨[],za1 (decide (a≥b)),sR,Gf,rfl,sI,Gf⟩
 ·exact⟨[],za1 (a==b),sR,Gf,rfl,sI,Gf⟩
 ·exact⟨[],za1 (a != b),sR,Gf,rfl,sI,Gf⟩
 ·obtain⟨k1,k2,k3,k4,k5,k6,k7,k8,k9,k10,k11,k12,k13,k14,k15,k16,k17⟩:=hk;have no:∀{i:Int},op≠i->(op==i)=true->False:=λh e=>h (Av e);have ne:∀{i:Int},op≠i->(op==i)=false:=λh=>Aa.2 h;rw[show mTwo op a b=(0,false) by unfold mTwo;simp only[ne k1,ne k2,ne k3,ne k4,ne k5,ne k6,ne k7,ne k8,ne k9,ne k10,ne k11,ne k12,ne k13,ne k14,ne k15,ne k16,ne k17];rfl];exact z00 (λh=>(no k1 h).elim) λ_=>z00 (λh=>(no k2 h).elim) λ_=>z00 (λh=>(no k3 h).elim) λ_=>z00 (λh=>(no k4 h).elim) λ_=>z00 (λh=>(no k5 h).elim) λ_=>z00 (λh=>(no k6 h).elim) λ_=>z00 (λh=>(no k7 h).elim) λ_=>z00 (λh=>(no k8 h).elim) λ_=>z00 (λh=>(no k9 h).elim) λ_=>z00 (λh=>(no k10 h).elim) λ_=>z00 (λh=>(no k11 h).elim) λ_=>z00 (λh=>(no k12 h).elim) λ_=>z00 (λh=>(no k13 h).elim) λ_=>z00 (λh=>(no k14 h).elim) λ_=>z00 (λh=>(no k15 h).elim) λ_=>z00 (λh=>(no k16 h).elim) λ_=>z00 (λh=>(no k17 h).elim) λ_=>⟨sI,Gf⟩
theorem sc_r8in(l:List Int)(n:Int):SC Tryz.prog 183 [.pv (ints l),iInt n] [] (λ_=>False) (iBool (l.contains n)) []:=by
 refine SC.anyR (K0 tb { gh:=[(0,[.len 0])] } [] Tryz.func183 rfl rfl ?_);intro hl;simp only[Ab]at hl;refine⟨Nat,λk=>[(5,iInt k)],λ_=>[],λk=>l.length-k,λk=>k<=l.length/\l.contains n=(l.drop k).contains n,[],0,⟨Aj _,rfl⟩,Gg,Gf,?_⟩;rintro k ⟨hk,hI⟩;refine z00 (λhc=>?_) λhc=>?_
 ·have hlt:=z12 (f:=eInt) rfl hc;obtain⟨x,hx,_,hd,_⟩:=z0u hlt;rw[hd,Ew]at hI;refine⟨z02 (f:=eInt) hx,rfl,z00 (λh=>?_) λh=>?_⟩
  ·have e:(n==x)=true:=by
    have:x=n:=by simpa using h
    simp[this]
   exact⟨sE (by rw[hI,e];rfl),Gf⟩
  ·have e:(n==x)=false:=by
    have:¬x=n:=by simpa using h
    simpa using λh=>this h.symm
   exact⟨z01 rfl oM0,k+1,z05 hlt,⟨hlt,by rw[hI,e];rfl⟩,Gg,Gf,rfl,rfl,rfl,rfl⟩
 ·rw[Ae (z13 (f:=eInt) rfl hc)]at hI;exact⟨sE (by rw[hI];rfl),Gf⟩
theorem z4n(u:Un)(name:ByteArray):SC Tryz.prog 32 [.pv u.enc,iStr name] [] (λ_=>False) (iInt (z06 name u.flows 0)) []:=by
 refine SC.anyR (K0 tb { gh:=[(4,[.len 8])] } [] Tryz.func32 rfl rfl ?_);refine⟨Nat,λk=>[(5,iInt k)],λ_=>[],λk=>u.flows.length-k,λk=>k<=u.flows.length/\z06 name u.flows 0=z06 name (u.flows.drop k) k,[],0,⟨Aj _,rfl⟩,Gg,Gf,?_⟩;rintro k ⟨hk,hI⟩;refine z00 (λhc=>?_) λhc=>?_
 ·have hlt:=z12 (f:=Fl.enc) rfl hc;intro hl;simp only[Ab]at hl;obtain⟨x,hx,_,hd,_⟩:=z0u hlt;rw[hd,show z06 name (x::u.flows.drop (k+1)) k=if eqS x.name name then(k:Int)else z06 name (u.flows.drop (k+1)) (k+1)from rfl]at hI;refine⟨z02 (f:=Fl.enc) hx,rfl,z00 (λh=>⟨sE (by rw[hI,A5 (show eqS x.name name=true from h)]),Gf⟩) λh=>?_⟩;rw[A1 (show ¬eqS x.name name=true from λe=>by rw[show eqS x.name name=false from h]at e;cases e)]at hI;exact⟨z01 rfl oM0,k+1,z05 hlt,⟨hlt,hI⟩,Gg,Gf,rfl,rfl,rfl,rfl⟩
 ·rw[Ae (z13 (f:=Fl.enc) rfl hc)]at hI;exact⟨sE (by rw[hI];rfl),Gf⟩
theorem z0d(u:Un)(name:ByteArray):SC Tryz.prog 47 [.pv u.enc,iStr name] [] (λ_=>False) (iInt (z0i name u.arrays 0)) []:=by
 refine SC.anyR (K0 tb { gh:=[(4,[.len 8])] } [] Tryz.func47 rfl rfl ?_);refine⟨Nat,λk=>[(5,iInt k)],λ_=>[],λk=>u.arrays.length-k,λk=>k<=u.arrays.length/\z0i name u.arrays 0=z0i name (u.arrays.drop k) k,[],0,⟨Aj _,rfl⟩,Gg,Gf,?_⟩;rintro k ⟨hk,hI⟩;refine z00 (λhc=>?_) λhc=>?_
 ·have hlt:=z12 (f:=Ar.enc) rfl hc;intro hl;simp only[Ab]at hl;obtain⟨x,hx,_,hd,_⟩:=z0u hlt;rw[hd,show z0i name (x::u.arrays.drop (k+1)) k=if eqS x.name name then(k:Int)else z0i name (u.arrays.drop (k+1)) (k+1)from rfl]at hI;refine⟨z02 (f:=Ar.enc) hx,rfl,z00 (λh=>⟨sE (by rw[hI,A5 (show eqS x.name name=true from h)]),Gf⟩) λh=>?_⟩;rw[A1 (show ¬eqS x.name name=true from λe=>by rw[show eqS x.name name=false from h]at e;cases e)]at hI;exact⟨z01 rfl oM0,k+1,z05 hlt,⟨hlt,hI⟩,Gg,Gf,rfl,rfl,rfl,rfl⟩
 ·rw[Ae (z13 (f:=Ar.enc) rfl hc)]at hI;exact⟨sE (by rw[hI];rfl),Gf⟩
theorem z2j(u:Un)(f:Fl)(set:List Bool)(l seen want:List Int):SC Tryz.prog 136 [.ptr 3 0,.pv (ints l),.pv (ints seen),.pv (ints want)] (ckHp u f 4 set) (λ_=>True) (iBool (z07 f.types seen l want)) (ckHp u f 4 set):=by
 refine L0 (K0 tb { gh:=[(1,[.len 1])] } [3,4] Tryz.func136 rfl rfl ?_) λk hk _=>?_
 ·intro hl;simp only[Ab]at hl;refine z00 (λh1=>?_) λh1=>?_
  ·have e:((l.length:Int)==want.length)=false:=by simpa using h1
   exact⟨sE (by unfold z07;rw[e];rfl),rfl,rfl,Gf⟩
  ·have e:((l.length:Int)==want.length)=true:=by simpa using h1
   have hlw:l.length=want.length:=by have:=Av e;omega
   have hT:z07 f.types seen l want=z14 f.types seen l want:=by unfold z07;rw[e];rfl
   rw[hT];refine⟨Nat,λk=>[(9,iInt k)],λ_=>[],λk=>l.length-k,λk=>k<=l.length/\z14 f.types seen l want=z14 f.types seen (l.drop k) (want.drop k),[],0,⟨Aj _,rfl⟩,Gg,Gf,?_⟩;rintro k ⟨hk,hI⟩;refine z00 (λhc=>?_) λhc=>?_
   ·have hlt:=z12 (f:=eInt) rfl hc;obtain⟨v,hv,_,hd,_⟩:=z0u hlt;obtain⟨w,hw,_,hd2,_⟩:=z0u (show k<want.length by omega);rw[hd,hd2,show z14 f.types seen (v::l.drop (k+1)) (w::want.drop (k+1))=(z9b f.types seen v w&&z14 f.types seen (l.drop (k+1)) (want.drop (k+1)))from rfl]at hI;have bad:z9b f.types seen v w=false->SubI (iBool false) (iBool (z14 f.types seen l want)):=λh=>sE (by rw[hI,h];rfl);have hin:=sc_r8in seen v;have iv:=z02 (f:=eInt) hv;have iw:=z02 (f:=eInt) hw;refine⟨iv,rfl,z00 (λh2=>⟨bad (by unfold z9b;rw[show decide (v<0)=true from h2];rfl),rfl,rfl,Gf⟩) λh2=>⟨iv,rfl,z00 (λh3=>⟨bad (by unfold z9b;rw[show decide (v≥f.types.length)=true by simpa using h3];simp),rfl,rfl,Gf⟩) λh3=>⟨iv,rfl,[],hin,sR,Gf,rfl,?_⟩⟩⟩;have e2:decide (v<0)=false:=h2;have e3:decide (v≥f.types.length)=false:=by simpa using h3
    have v0:0<=v:=by simpa using h2
    have v1:v.toNat<f.types.length:=by
     have:¬v≥f.types.length:=by simpa using e3
     omega
    have it:(f.types.map eInt)[v.toNat]?=some (eInt (f.types.getD v.toNat 0)):=z02 (f:=eInt) (by rw[Ax,Ad v1];rfl)
    cases h4:seen.contains v with
    |false=>exact⟨bad (by unfold z9b;rw[h4];simp),rfl,rfl,Gf⟩
    |true =>
     refine⟨iw,rfl,z00 (λh5=>⟨iv,rfl,it,by omega,iw,rfl,z00 (λh6=>?_) λh6=>?_⟩) λh5=>?_⟩
     ·have e5:(w != 0)=true:=h5;have e6:(f.types.getD v.toNat 0 != w)=true:=h6;exact⟨bad (by unfold z9b;rw[e5,e6];simp),rfl,rfl,Gf⟩
     ·have e6:(f.types.getD v.toNat 0 != w)=false:=h6;have good:z9b f.types seen v w=true:=by unfold z9b;rw[e2,e3,h4,e6,D1];rfl
      exact⟨z01 rfl oM0,k+1,z05 hlt,⟨hlt,by rw[hI,good];rfl⟩,Gg,Gf,rfl,rfl,rfl,rfl⟩
     ·have e5:(w != 0)=false:=h5;have good:z9b f.types seen v w=true:=by unfold z9b;rw[e2,e3,h4,e5,D2];rfl
      exact⟨z01 rfl oM0,k+1,z05 hlt,⟨hlt,by rw[hI,good];rfl⟩,Gg,Gf,rfl,rfl,rfl,rfl⟩
   ·rw[Ae (z13 (f:=eInt) rfl hc)]at hI;exact⟨sE (by rw[hI];rfl),rfl,rfl,Gf⟩
 ·cases hq:look (up (ckHp u f 4 set)) k with
  |none=>exact A9 hq hk
  |some o =>
   have:=zz1 hq;simpa[up,ckHp]using this
abbrev ndv(x:Nd):PV:=.agg [vInt x.kind,vInt x.op,vInt x.n,vStr x.name,ints x.args,ints x.outs,ints x.params,kids x.kids]
theorem z6d(x:Nd):SC Tryz.prog 141 [.pv (ndv x)] [] (λ_=>False) (iBool (z0y x.kind)) []:=by
 refine SC.anyR (K0 tb {} [] Tryz.func141 rfl rfl ?_);refine z00 (λh=>⟨sE ?_,Gf⟩) λh=>⟨sE ?_,Gf⟩
 ·unfold z0y;rw[show decide (x.kind≥12)=true from h];rfl
 ·unfold z0y;rw[show decide (x.kind≥12)=false from h];rfl
theorem y99(l:List Nd):SC Tryz.prog 139 [.pv (z2h l)] [] (λ_=>False) (iInt (z2x l)) []:=by
 refine SC.anyR (K0 tb { gh:=[(0,[.len 0])] } [] Tryz.func139 rfl rfl ?_);intro hl;simp only[Ab]at hl;refine z00 (λh=>?_) λh=>?_
 ·have e:l=[]:=by
   cases l with
   |nil=>rfl
   |cons a b=>simp at h;omega
  subst e;exact⟨sE rfl,Gf⟩
 ·have hne:l≠[]:=λe=>by subst e;exact A9 h dC0
  have hpos:0<l.length:=D0.2 hne;obtain⟨x,hx⟩:∃x,l[((l.length:Int)-1).toNat]?=some x:=⟨_,Ad oM0⟩;have hT:z2x l=if z0y x.kind then x.kind else 0:=by
   unfold z2x;rw[Em,show l.length-1=((l.length:Int)-1).toNat by omega,hx]
  have ll:(l.map Nd.enc).length=l.length:=Ab _;have hi:(l.map Nd.enc)[(((l.map Nd.enc).length:Int)-1).toNat]?=some [vInt x.kind,vInt x.op,vInt x.n,vStr x.name,ints x.args,ints x.outs,ints x.params,kids x.kids]:=by
   rw[ll];exact z0a hx
  have hE:=z6d x;rw[hT];generalize z0y x.kind=b at hE⊢
  cases b with
  |true=>exact⟨z3e rfl (by rw[ll];omega),hi,by rw[ll];omega,[],hE,sR,Gf,rfl,z3e rfl (by rw[ll];omega),hi,by rw[ll];omega,sI,Gf⟩
  |false=>exact⟨z3e rfl (by rw[ll];omega),hi,by rw[ll];omega,[],hE,sR,Gf,rfl,sI,Gf⟩
theorem yg4(l:List Nd):SC Tryz.prog 140 [.pv (z2h l)] [] (λ_=>False) (iBool (z0m l)) []:=by
 suffices H:∀N (l:List Nd),SizeOf.sizeOf l<N->SC Tryz.prog 140 [.pv (z2h l)] [] (λ_=>False) (iBool (z0m l)) []from H _ l (Ac _)
 intro N
 induction N with
 |zero=>intro l hN;exact A9 hN (An _)
 |succ N ih =>
  intro l hN;refine SC.anyR (K0 tb { gh:=[(0,[.len 0]),(9,[.len 22])] } [] Tryz.func140 rfl rfl ?_);intro hl;simp only[Ab]at hl;refine⟨Nat,λk=>[(3,iInt k)],λ_=>[],λk=>l.length-k,λk=>k<=l.length/\z0m l=z0m (l.drop k),[],0,⟨Aj _,rfl⟩,Gg,Gf,?_⟩;rintro k ⟨hk,hI⟩;refine z00 (λhc=>?_) λhc=>?_
  ·have hlt:k<l.length:=by simpa using hc
   obtain⟨x,hx,hm,hd,_⟩:=z0u hlt;rw[hd,show z0m (x::l.drop (k+1))=(z2n x||z0m (l.drop (k+1)))from rfl,z4a]at hI;refine⟨z0a hx,rfl,z00 (λh=>⟨sE (by rw[hI,show(x.kind==14)=true from h];rfl),Gf⟩) λh=>?_⟩;rw[show(x.kind==14)=false from h,Ce]at hI;refine⟨Nat,λi=>[(4,iInt i),(3,iInt k)],λ_=>[],λi=>x.kids.length-i,λi=>i<=x.kids.length/\z0m l=((x.kind==10&&z39 (x.kids.drop i))||z0m (l.drop (k+1))),[],0,⟨Aj _,hI⟩,Gi,Gf,?_⟩;rintro i ⟨hi,hJ⟩;refine⟨z0a hx,rfl,z00 (λh2=>?_) λh2=>?_⟩
   ·have hlt2:i<x.kids.length:=by simpa using h2
    obtain⟨q,hq,hm2,hd2,_⟩:=z0u hlt2;have hdec:SizeOf.sizeOf q<N:=Bg (zc7 (Af hx) rfl (Af hq)) (C7 hN);refine⟨z0a hx,rfl,z00 (λh3=>?_) λh3=>?_⟩
    ·intro hl2;simp only[Ab]at hl2;rw[show(x.kind==10)=true from h3,B6,hd2,show z39 (q::x.kids.drop (i+1))=(z0m q||z39 (x.kids.drop (i+1)))from rfl]at hJ;have hL:=ih q hdec;generalize z0m q=b at hL hJ;refine⟨z0a hx,rfl,z02 (f:=eKid) hq,rfl,[],hL,sR,Gf,rfl,?_⟩
     cases b with
     |true=>exact⟨sE (by rw[hJ];rfl),Gf⟩
     |false=>exact⟨z01 rfl oM0,i+1,z05 hlt2,⟨hlt2,by rw[hJ,show(x.kind==10)=true from h3];rfl⟩,Gi,Gf,rfl,rfl,rfl,rfl⟩
    ·rw[show(x.kind==10)=false from h3,D2,Ce]at hJ;exact⟨z01 rfl oM0,k+1,z05 hlt,⟨hlt,hJ⟩,Gg,Gf,rfl,rfl,rfl,rfl⟩
   ·rw[Ae (by simpa using h2),show z39 []=false from rfl,D1,Ce]at hJ;exact⟨z01 rfl oM0,k+1,z05 hlt,⟨hlt,hJ⟩,Gg,Gf,rfl,rfl,rfl,rfl⟩
  ·rw[Ae (by simpa using hc)]at hI;exact⟨sE (by rw[hI];rfl),Gf⟩
attribute [local simp] z1m r8op r8num yo6 r8kn Nd.kind Nd.op Nd.n Nd.name Nd.kids Nd.params z2d in
theorem j3z(x:Nd):SC Tryz.prog 134 [.pv (ndv x)] [] (λ_=>False) (iBool (z1m x)) []:=by
 refine SC.anyR (K0 tb {} [] Tryz.func134 rfl rfl ?_);obtain⟨kind,op,n,name,args,outs,params,kids⟩:=x;rcases(show kind=3∨kind=4∨kind=1∨kind=2∨kind=5∨kind=6∨kind=7∨kind=11∨kind=10∨(kind≠1/\kind≠2/\kind≠3/\kind≠4/\kind≠5/\kind≠6/\kind≠7/\kind≠11/\kind≠10) by omega)with rfl|rfl|rfl|rfl|rfl|rfl|rfl|rfl|rfl|h
 iterate 7 exact z00 (λh3=>z00 (λh2=>z00 (λh1=>⟨sE (Ah iBool (by simp_all)),Gf⟩) λh1=>⟨sE (Ah iBool (by simp_all)),Gf⟩) λh2=>⟨sE (Ah iBool (by simp_all)),Gf⟩) λh3=>⟨sE (Ah iBool (by simp_all)),Gf⟩
 iterate 2 exact z00 (λh4=>z00 (λh3=>z00 (λh2=>z00 (λh1=>⟨sE (Ah iBool (by simp_all)),Gf⟩) λh1=>⟨sE (Ah iBool (by simp_all)),Gf⟩) λh2=>⟨sE (Ah iBool (by simp_all)),Gf⟩) λh3=>⟨sE (Ah iBool (by simp_all)),Gf⟩) λh4=>⟨sE (Ah iBool (by simp_all)),Gf⟩
 ·obtain⟨k1,k2,k3,k4,k5,k6,k7,k8,k9⟩:=h;have no:∀{i:Int},kind≠i->(kind==i)=true->False:=λh e=>h (Av e);exact z00 (λh=>(no k3 h).elim) λ_=>z00 (λh=>(no k1 h).elim) λ_=>z00 (λh=>(no k5 h).elim) λ_=>z00 (λh=>(no k6 h).elim) λ_=>z00 (λh=>(no k9 h).elim) λ_=>z00 (λh=>(no k8 h).elim) λ_=>z00 (λh=>(no k4 h).elim) λ_=>z00 (λa1=>z00 (λh=>(no k2 h).elim) λ_=>z00 (λa2=>z00 (λh=>(no k7 h).elim) λ_=>z00 (λa3=>z00 (λa4=>z00 (λh=>(no k8 h).elim) λ_=>⟨sE (Ah iBool (by simp_all)),Gf⟩) λa4=>⟨sE (Ah iBool (by simp_all)),Gf⟩) λa3=>⟨sE (Ah iBool (by simp_all)),Gf⟩) λa2=>⟨sE (Ah iBool (by simp_all)),Gf⟩) λa1=>⟨sE (Ah iBool (by simp_all)),Gf⟩
theorem zj7(x:Nd):SC Tryz.prog 89 [.pv (ndv x)] [] (λ_=>False) (iBool (z04 x)) []:=by
 refine SC.anyR (K0 tb {} [] Tryz.func89 rfl rfl ?_);obtain⟨kind,op,n,name,args,outs,params,kids⟩:=x;rcases(show kind=10∨kind=11∨(kind≠11/\kind≠10) by omega)with rfl|rfl|⟨k8,k9⟩
 ·match kids with
  |[]=>exact⟨[],z6d _,sR,Gf,rfl,sI,Gf⟩
  |[a]=>exact⟨[],z6d _,sR,Gf,rfl,sI,Gf⟩
  |[a,b]=>exact⟨at0 (a:=[z2h a]),rfl,[],y99 a,sR,Gf,rfl,z00 (λh=>⟨at1 (b:=[z2h b]),rfl,[],y99 b,sR,Gf,rfl,sE (Ah iBool (show _=((z2x a != 12)&&(z2x b != 12)) by rw[h];rfl)),Gf⟩) λh=>⟨sE (Ah iBool (show _=((z2x a != 12)&&(z2x b != 12)) by rw[h];rfl)),Gf⟩⟩
  |a::b::c::r=>exact⟨[],z6d _,sR,Gf,rfl,sI,Gf⟩
 ·match kids with
  |[]=>exact⟨[],z6d _,sR,Gf,rfl,sI,Gf⟩
  |[a]=>exact⟨at0 (a:=[z2h a]),rfl,[],yg4 a,sR,Gf,rfl,sI,Gf⟩
  |a::b::r=>exact⟨[],z6d _,sR,Gf,rfl,sI,Gf⟩
 ·have no:∀{i:Int},kind≠i->(kind==i)=true->False:=λh e=>h (Av e);exact z00 (λh=>(no k9 h).elim) λ_=>z00 (λh=>(no k8 h).elim) λ_=>⟨[],z6d _,sR,Gf,rfl,sE (by simp[z04,Nd.kind,Nd.kids,k8,k9]),Gf⟩
theorem j53(u:Un)(s:Rs)(k n:Int)(q:Bool×Rs)(h:zc9 s k n=some q)(h1:s.ar.length<=2):SC Tryz.prog 147 [.ptr 1001 0,iInt k,iInt n] (rH u s) (λ_=>False) (iBool q.1) (rH u q.2):=by
 refine L0 (K0 tb {} [] Tryz.func147 rfl rfl ?_) (λk _ h=>h.elim);obtain⟨ins,ar,st,code,out,cost,fuel,spent⟩:=s;simp only[zc9]at h
 by_cases hn:n<0
 ·rw[A5 hn]at h
  cases h
  have hd:decide (n<0)=true:=Cb hn;rcases ar with _|⟨r,_|⟨r2,t⟩⟩
  ·exact z00 (λ_=>⟨sI,rfl,rfl,Gf⟩) λh=>A9 (hd.symm.trans h) dC0
  ·exact z00 (λ_=>⟨sI,rfl,rfl,rfl,rfl,Gf⟩) λh=>A9 (hd.symm.trans h) dC0
  ·exact z00 (λ_=>⟨sI,rfl,rfl,rfl,rfl,rfl,Gf⟩) λh=>A9 (hd.symm.trans h) dC0
 ·rw[A1 hn]at h;have hd:decide (n<0)=false:=Dk hn;split at h
  ·rename_i hk;obtain⟨row,hr,hb⟩:=Ao.1 h;rcases ar with _|⟨r,_|⟨r2,t⟩⟩
   ·cases hr
   ·have hk0:k=0:=by have:=(A7.1 hr).1;simp at this;omega
    subst hk0
    cases hr
    have hl:((row.map eInt).length:Int)=row.length:=by simp
    refine z00 (λh=>A9 (hd.symm.trans h) dC0) λ_=>⟨Bx,rfl,rfl,z00 (λhc=>?_) λhc=>?_⟩
    ·have hc':n≥row.length:=by rw[hl]at hc;exact Ap hc
     rw[A5 hc']at hb
     cases hb
     exact⟨sI,rfl,rfl,rfl,rfl,Gf⟩
    ·have hc':¬n≥row.length:=by rw[hl]at hc;exact Am hc
     rw[A1 hc']at hb
     cases hb
     exact⟨sI,rfl,rfl,rfl,rfl,Gf⟩
   ·have hk01:k.toNat=0∨k.toNat=1:=by
     have h2:k.toNat<(r::r2::t).length:=(A7.1 hr).1;have h3:(r::r2::t).length<=2:=h1;simp only[A3]at h2 h3;omega
    rcases hk01 with hk0|hk0
    ·obtain rfl:k=0:=by omega
     cases hr
     have hl:((row.map eInt).length:Int)=row.length:=by simp
     refine z00 (λh=>A9 (hd.symm.trans h) dC0) λ_=>⟨(by decide:0<2),rfl,rfl,z00 (λhc=>?_) λhc=>?_⟩
     ·have hc':n≥row.length:=by rw[hl]at hc;exact Ap hc
      rw[A5 hc']at hb
      cases hb
      exact⟨sI,rfl,rfl,rfl,rfl,rfl,Gf⟩
     ·have hc':¬n≥row.length:=by rw[hl]at hc;exact Am hc
      rw[A1 hc']at hb
      cases hb
      exact⟨sI,rfl,rfl,rfl,rfl,rfl,Gf⟩
    ·obtain rfl:k=1:=by omega
     cases hr
     have hl:((row.map eInt).length:Int)=row.length:=by simp
     refine z00 (λh=>A9 (hd.symm.trans h) dC0) λ_=>⟨(by decide:1<2),rfl,rfl,z00 (λhc=>?_) λhc=>?_⟩
     ·have hc':n≥row.length:=by rw[hl]at hc;exact Ap hc
      rw[A5 hc']at hb
      cases hb
      exact⟨sI,rfl,rfl,rfl,rfl,rfl,Gf⟩
     ·have hc':¬n≥row.length:=by rw[hl]at hc;exact Am hc
      rw[A1 hc']at hb
      cases hb
      exact⟨sI,rfl,rfl,rfl,rfl,rfl,Gf⟩
  ·cases h
def SRC(u:Un)(D:Nat):Prop:=∀d,d<D->∀k a s r,z4j u d k a s=some r->s.ar.length<=2/\s.ar.length≠1->SC Tryz.prog 31 [.ptr 1001 0,iInt k,.pv (ints a)] (rH u s) (λ_=>False) (iInt r.1) (rH u r.2)
def SRL(u:Un)(D:Nat):Prop:=∀d,d<D->∀l v s r,z2f u d l v s=some r->lsW l<=34359738368->s.ar.length<=2/\s.ar.length≠1->SC Tryz.prog 56 [.ptr 1001 0,.pv (z2h l),.sl 510 (v.map eInt).length] (rHV u s v) (λ_=>False) (.pv (endv r.1)) (rHV u r.2.2 r.2.1)
theorem sr_sum(u:Un)(D:Nat)(ihC:SRC u D)(hA:∀d k a s r,z4j u d k a s=some r->r.2.ar.length=s.ar.length)(d:Nat)(hd:d<=D)(x:Nd)(a:List Int)(s:Rs)(r:Int×Rs)(h:mSum u d x a s=some r)(hs1:s.ar.length<=2/\s.ar.length≠1):SC Tryz.prog 98 [.ptr 1001 0,.pv (ndv x),.pv (ints a)] (rH u s) (λ_=>False) (iInt r.1) (rH u r.2):=by
 refine L0 (K0 tb {} [] Tryz.func98 rfl rfl ?_) (λk _ h=>h.elim);obtain⟨d,rfl⟩:=z6h h;obtain⟨kind,op,n,name,args,outs,params,kids⟩:=x;rcases(show kind=3∨kind=4∨kind=5∨kind=6∨kind=7∨kind=9∨kind=8∨(kind≠3/\kind≠4/\kind≠5/\kind≠6/\kind≠7/\kind≠9/\kind≠8) by omega)with rfl|rfl|rfl|rfl|rfl|rfl|rfl|hk
 ·obtain⟨a0,h1,rfl⟩:=z9r h rfl;have hi:=z02 (f:=eInt) h1;obtain⟨ins,ar,st,code,out,cost,fuel,spent⟩:=s;rcases ar with _|⟨row,_|⟨row2,t⟩⟩
  ·exact⟨rfl,[],z0d u name,sR,Gf,rfl,hi,rfl,[],yg3 op a0,sR,Gf,rfl,sI,rfl,rfl,Gf⟩
  ·exact⟨rfl,[],z0d u name,sR,Gf,rfl,hi,rfl,[],yg3 op a0,sR,Gf,rfl,sI,rfl,rfl,rfl,rfl,Gf⟩
  ·exact⟨rfl,[],z0d u name,sR,Gf,rfl,hi,rfl,[],yg3 op a0,sR,Gf,rfl,sI,rfl,rfl,rfl,rfl,rfl,Gf⟩
 ·obtain⟨a0,a1,h1,h2,rfl⟩:=z8a h rfl;have hi:=z02 (f:=eInt) h1;have hi2:=z02 (f:=eInt) h2;have hT:=sc_mTwo op a0 a1;obtain⟨y,b,e⟩:∃y b,mTwo op a0 a1=(y,b):=⟨_,_,rfl⟩;rw[e]at hT;rw[show mTwo (Nd.mk 4 op n name args outs params kids).op a0 a1=(y,b)from e];obtain⟨ins,ar,st,code,out,cost,fuel,spent⟩:=s
  cases b<;>rcases ar with _|⟨row,_|⟨row2,t⟩⟩
  ·exact⟨rfl,[],z0d u name,sR,Gf,rfl,hi,rfl,hi2,rfl,[],hT,sR,Gf,rfl,sI,rfl,rfl,Gf⟩
  ·exact⟨rfl,[],z0d u name,sR,Gf,rfl,hi,rfl,hi2,rfl,[],hT,sR,Gf,rfl,sI,rfl,rfl,rfl,rfl,Gf⟩
  ·exact⟨rfl,[],z0d u name,sR,Gf,rfl,hi,rfl,hi2,rfl,[],hT,sR,Gf,rfl,sI,rfl,rfl,rfl,rfl,rfl,Gf⟩
  ·exact⟨rfl,[],z0d u name,sR,Gf,rfl,hi,rfl,hi2,rfl,[],hT,sR,Gf,rfl,sI,rfl,rfl,Gf⟩
  ·exact⟨rfl,[],z0d u name,sR,Gf,rfl,hi,rfl,hi2,rfl,[],hT,sR,Gf,rfl,sI,rfl,rfl,rfl,rfl,Gf⟩
  ·exact⟨rfl,[],z0d u name,sR,Gf,rfl,hi,rfl,hi2,rfl,[],hT,sR,Gf,rfl,sI,rfl,rfl,rfl,rfl,rfl,Gf⟩
 ·obtain⟨a0,b,s',h1,h2,h3⟩:=z7j h rfl;have hi:=z02 (f:=eInt) h1;have hC:=j53 u (z60 s) _ a0 _ h2 hs1.1;rw[show(Nd.mk 5 op n name args outs params kids).name=name from rfl]at *
  obtain⟨ins,ar,st,code,out,cost,fuel,spent⟩:=s;rcases h3 with⟨rfl,rfl⟩|⟨rfl,row,y,h4,h5,rfl⟩
  ·obtain⟨ins',ar',st',code',out',cost',fuel',spent'⟩:=s';have hl:ar'.length=ar.length:=zm3 h2;rcases ar with _|⟨row,_|⟨row2,t⟩⟩<;>rcases ar' with _|⟨row',_|⟨row2',t'⟩⟩
   ·exact⟨rfl,[],z0d u name,sR,Gf,rfl,hi,rfl,[],hC,sR,Gi,rfl,sI,rfl,rfl,Gf⟩
   iterate 3 exact A9 hl sI0
   ·exact⟨rfl,[],z0d u name,sR,Gf,rfl,hi,rfl,[],hC,sR,Gk,rfl,sI,rfl,rfl,rfl,rfl,Gf⟩
   iterate 3 exact A9 hl sI0
   ·exact⟨rfl,[],z0d u name,sR,Gf,rfl,hi,rfl,[],hC,sR,Gl,rfl,sI,rfl,rfl,rfl,rfl,rfl,Gf⟩
  ·obtain⟨rfl,h6,h7,row2,h8,h9⟩:=y3s h2;have hj:a0.toNat<(row.map eInt).length:=by have:=(A7.1 h5).1;simpa using this
   rcases two_ar (s:=z60 ⟨ins,ar,st,code,out,cost,fuel,spent⟩) hs1.1 h7 h4 with⟨hk0,e⟩|⟨hk0,r2,e⟩|⟨hk0,r1,e⟩
   ·obtain rfl:ar=[row]:=e;exact⟨rfl,[],z0d u name,sR,Gf,rfl,hi,rfl,[],hC,sR,Gk,rfl,Bx,hk0,hi,rfl,rfl,hj,by omega,rfl,(Ca _).symm,z02 (f:=eInt) h5,eI0,sI,rfl,rfl,rfl,rfl,Gf⟩
   ·obtain rfl:ar=[row,r2]:=e;exact⟨rfl,[],z0d u name,sR,Gf,rfl,hi,rfl,[],hC,sR,Gl,rfl,(by decide:0<2),hk0,hi,rfl,rfl,hj,by omega,rfl,(Ca _).symm,z02 (f:=eInt) h5,eI0,sI,rfl,rfl,rfl,rfl,rfl,Gf⟩
   ·obtain rfl:ar=[r1,row]:=e;exact⟨rfl,[],z0d u name,sR,Gf,rfl,hi,rfl,[],hC,sR,Gl,rfl,(by decide:1<2),hk0,hi,rfl,rfl,hj,by omega,rfl,(Ca _).symm,z02 (f:=eInt) h5,eI0,sI,rfl,rfl,rfl,rfl,rfl,Gf⟩
 ·obtain⟨a0,b,s',h1,h2,h3⟩:=z68 h rfl;have hi:=z02 (f:=eInt) h1;have hC:=j53 u (z60 s) _ a0 _ h2 hs1.1;rw[show(Nd.mk 6 op n name args outs params kids).name=name from rfl]at *
  obtain⟨ins,ar,st,code,out,cost,fuel,spent⟩:=s;rcases h3 with⟨rfl,rfl⟩|⟨rfl,row,y,h4,h5,hr⟩
  ·obtain⟨ins',ar',st',code',out',cost',fuel',spent'⟩:=s';have hl:ar'.length=ar.length:=zm3 h2;rcases ar with _|⟨row,_|⟨row2,t⟩⟩<;>rcases ar' with _|⟨row',_|⟨row2',t'⟩⟩
   ·exact⟨rfl,[],z0d u name,sR,Gf,rfl,hi,rfl,[],hC,sR,Gi,rfl,sI,rfl,rfl,Gf⟩
   iterate 3 exact A9 hl sI0
   ·exact⟨rfl,[],z0d u name,sR,Gf,rfl,hi,rfl,[],hC,sR,Gk,rfl,sI,rfl,rfl,rfl,rfl,Gf⟩
   iterate 3 exact A9 hl sI0
   ·exact⟨rfl,[],z0d u name,sR,Gf,rfl,hi,rfl,[],hC,sR,Gl,rfl,sI,rfl,rfl,rfl,rfl,rfl,Gf⟩
  ·obtain⟨rfl,h6,h7,row2,h8,h9⟩:=y3s h2;have hi2:=z02 (f:=eInt) h5;rcases two_ar (s:=z60 ⟨ins,ar,st,code,out,cost,fuel,spent⟩) hs1.1 h7 h4 with⟨hk0,e⟩|⟨hk0,r2,e⟩|⟨hk0,r1,e⟩
   ·obtain rfl:ar=[row]:=e;rw[show(z0i name u.arrays 0).toNat=0 by omega]at hr h8
    cases h8
    subst hr;have hj0:a0.toNat<row.length:=by omega
    have hj:a0.toNat<(row.map eInt).length:=by simpa using hj0
    exact⟨rfl,[],z0d u name,sR,Gf,rfl,hi,rfl,[],hC,sR,Gk,rfl,Bx,hk0,hi,rfl,hi2,rfl,rfl,hj,by omega,a0.toNat,0,_,rfl,(Ca _).symm,z02 (f:=eInt) (Ad hj0),Bx,sI,rfl,rfl,boq sI0,rwq (by simp[eInt,C8]),Gf⟩
   ·obtain rfl:ar=[row,r2]:=e;rw[show(z0i name u.arrays 0).toNat=0 by omega]at hr h8
    cases h8
    subst hr;have hj0:a0.toNat<row.length:=by omega
    have hj:a0.toNat<(row.map eInt).length:=by simpa using hj0
    exact⟨rfl,[],z0d u name,sR,Gf,rfl,hi,rfl,[],hC,sR,Gl,rfl,(by decide:0<2),hk0,hi,rfl,hi2,rfl,rfl,hj,by omega,a0.toNat,0,_,rfl,(Ca _).symm,z02 (f:=eInt) (Ad hj0),Bx,sI,rfl,rfl,boq sI0,rwq (by simp[eInt,C8]),rfl,Gf⟩
   ·obtain rfl:ar=[r1,row]:=e;rw[show(z0i name u.arrays 0).toNat=1 by omega]at hr h8
    cases h8
    subst hr;have hj0:a0.toNat<row.length:=by omega
    have hj:a0.toNat<(row.map eInt).length:=by simpa using hj0
    exact⟨rfl,[],z0d u name,sR,Gf,rfl,hi,rfl,[],hC,sR,Gl,rfl,(by decide:1<2),hk0,hi,rfl,hi2,rfl,rfl,hj,by omega,a0.toNat,0,_,rfl,(Ca _).symm,z02 (f:=eInt) (Ad hj0),Bx,sI,rfl,rfl,boq sI0,rfl,rwq (by simp[eInt,C8]),Gf⟩
 ·have h2:=zd1 h rfl;have hl:=hA _ _ _ _ _ h2;have hC:=ihC d oM0 _ _ _ _ h2 hs1;obtain⟨ins,ar,st,code,out,cost,fuel,spent⟩:=s;obtain⟨y,ins',ar',st',code',out',cost',fuel',spent'⟩:=r;replace hl:ar'.length=ar.length:=hl;rcases ar with _|⟨row,_|⟨row2,t⟩⟩<;>rcases ar' with _|⟨row',_|⟨row2',t'⟩⟩
  ·exact⟨rfl,[],z0d u name,sR,Gf,rfl,[],z4n u name,sR,Gf,rfl,[],hC,sR,Gi,rfl,sI,rfl,rfl,Gf⟩
  iterate 3 exact A9 hl sI0
  ·exact⟨rfl,[],z0d u name,sR,Gf,rfl,[],z4n u name,sR,Gf,rfl,[],hC,sR,Gk,rfl,sI,rfl,rfl,rfl,rfl,Gf⟩
  iterate 3 exact A9 hl sI0
  ·exact⟨rfl,[],z0d u name,sR,Gf,rfl,[],z4n u name,sR,Gf,rfl,[],hC,sR,Gl,rfl,sI,rfl,rfl,rfl,rfl,rfl,Gf⟩
 ·obtain⟨a0,h1,h2,rfl⟩:=z7k h rfl;have hi:=z02 (f:=eInt) h1;obtain⟨ins,ar,st,code,out,cost,fuel,spent⟩:=s;replace h2:out.length<1073741824:=h2;rcases ar with _|⟨row,_|⟨row2,t⟩⟩
  ·exact⟨rfl,[],z0d u name,sR,Gf,rfl,hi,rfl,rfl,z3u rfl,by simp;omega,by simp,sI,boq (by simp[z60,w64]),rwq (by simp[eInt]),Gf⟩
  ·exact⟨rfl,[],z0d u name,sR,Gf,rfl,hi,rfl,rfl,z3u rfl,by simp;omega,by simp,sI,boq (by simp[z60,w64]),rwq (by simp[eInt]),rfl,rfl,Gf⟩
  ·exact⟨rfl,[],z0d u name,sR,Gf,rfl,hi,rfl,rfl,z3u rfl,by simp;omega,by simp,sI,boq (by simp[z60,w64]),rwq (by simp[eInt]),rfl,rfl,rfl,Gf⟩
 ·rcases z92 h rfl with⟨h1,rfl⟩|⟨y,q,h1,rfl⟩
  ·obtain⟨ins,ar,st,code,out,cost,fuel,spent⟩:=s;obtain rfl:ins=[]:=h1;rcases ar with _|⟨row,_|⟨row2,t⟩⟩
   ·exact⟨rfl,[],z0d u name,sR,Gf,rfl,sI,rfl,rfl,Gf⟩
   ·exact⟨rfl,[],z0d u name,sR,Gf,rfl,sI,rfl,rfl,rfl,rfl,Gf⟩
   ·exact⟨rfl,[],z0d u name,sR,Gf,rfl,sI,rfl,rfl,rfl,rfl,rfl,Gf⟩
  ·obtain⟨ins,ar,st,code,out,cost,fuel,spent⟩:=s;obtain rfl:ins=y::q:=h1;rcases ar with _|⟨row,_|⟨row2,t⟩⟩
   ·exact⟨rfl,[],z0d u name,sR,Gf,rfl,at0 (a:=eInt y),rfl,1,rfl,Nat.le_add_left 1 _,Ag _,zl7,sI,boq (by simp[z60,w64,ints];rw[<- Ek,Er]),rfl,Gf⟩
   ·exact⟨rfl,[],z0d u name,sR,Gf,rfl,at0 (a:=eInt y),rfl,1,rfl,Nat.le_add_left 1 _,Ag _,zl7,sI,boq (by simp[z60,w64,ints];rw[<- Ek,Er]),rfl,rfl,rfl,Gf⟩
   ·exact⟨rfl,[],z0d u name,sR,Gf,rfl,at0 (a:=eInt y),rfl,1,rfl,Nat.le_add_left 1 _,Ag _,zl7,sI,boq (by simp[z60,w64,ints];rw[<- Ek,Er]),rfl,rfl,rfl,rfl,Gf⟩
 ·obtain⟨k3,k4,k5,k6,k7,k9,k8⟩:=hk;have ne:∀{i:Int},kind≠i->(kind==i)=false:=λh=>Aa.2 h;have no:∀{i:Int},kind≠i->(kind==i)=true->False:=λh e=>h (Av e);obtain rfl:=z91 h (ne k3) (ne k4) (ne k5) (ne k6) (ne k7) (ne k9) (ne k8);obtain⟨ins,ar,st,code,out,cost,fuel,spent⟩:=s;rcases ar with _|⟨row,_|⟨row2,t⟩⟩
  ·exact⟨rfl,[],z0d u name,sR,Gf,rfl,z00 (λh=>(no k3 h).elim) λ_=>z00 (λh=>(no k4 h).elim) λ_=>z00 (λh=>(no k5 h).elim) λ_=>z00 (λh=>(no k6 h).elim) λ_=>z00 (λh=>(no k7 h).elim) λ_=>z00 (λh=>(no k9 h).elim) λ_=>z00 (λh=>(no k8 h).elim) λ_=>⟨sI,rfl,rfl,Gf⟩⟩
  ·exact⟨rfl,[],z0d u name,sR,Gf,rfl,z00 (λh=>(no k3 h).elim) λ_=>z00 (λh=>(no k4 h).elim) λ_=>z00 (λh=>(no k5 h).elim) λ_=>z00 (λh=>(no k6 h).elim) λ_=>z00 (λh=>(no k7 h).elim) λ_=>z00 (λh=>(no k9 h).elim) λ_=>z00 (λh=>(no k8 h).elim) λ_=>⟨sI,rfl,rfl,rfl,rfl,Gf⟩⟩
  ·exact⟨rfl,[],z0d u name,sR,Gf,rfl,z00 (λh=>(no k3 h).elim) λ_=>z00 (λh=>(no k4 h).elim) λ_=>z00 (λh=>(no k5 h).elim) λ_=>z00 (λh=>(no k6 h).elim) λ_=>z00 (λh=>(no k7 h).elim) λ_=>z00 (λh=>(no k9 h).elim) λ_=>z00 (λh=>(no k8 h).elim) λ_=>⟨sI,rfl,rfl,rfl,rfl,rfl,Gf⟩⟩
theorem zr1{α:Type}{l:List α}(h:l.length=2):∃a b,l=[a,b]:=by
 match l,h with
 |[a,b],_=>exact⟨a,b,rfl⟩
theorem slE{k m n:Nat}(h:m=n):SubI (.sl k m) (.sl k n):=sE (by rw[h])
theorem sr_loop0(u:Un)(D:Nat)(ihL:SRL u D)(hAL:∀d l v s r,z2f u d l v s=some r->r.2.2.ar.length=s.ar.length)(d:Nat)(hd:d<=D)(x:Nd)(hx:ndW x<=34359738368)(v a:List Int)(s:Rs)(r:Rres)(h:z3w u d x v a { s with ar:=[] }=some r):SC Tryz.prog 97 [.ptr 1001 0,.pv (ndv x),.sl 510 (v.map eInt).length,.pv (ints a)] (rHV u { s with ar:=[] } v) (λ_=>False) (.pv (endv r.1)) (rHV u r.2.2 r.2.1):=by
 refine L0 (K0 tb {} [] Tryz.func97 rfl rfl ?_) (λk _ h=>h.elim);refine⟨Nat×List Int×List Int×Rs,λ(e,w,b,z)=>[(3,.pv (ints b))],λ(e,w,b,z)=>[(1001,rBox u { z with ar:=[] }),(1002,rowI z.out),(510,rowI w)],λ(e,w,b,z)=>e,λ(e,w,b,z)=>e<=D/\w.length=v.length/\z3w u e x w b { z with ar:=[] }=some r,[],(d,v,a,s),⟨hd,rfl,h⟩,Gg,Gj,?_⟩;rintro⟨e,w,b,z⟩ ⟨he,hw,hm⟩;obtain⟨e,w2,k,r1,rfl,h1,h2,h3,h4⟩:=z5g hm;have hS:=zx4 _ _ _ _ h1;have hkl:=z02 (f:=eKid) h2;have hw2:w2.length=v.length:=(z54 h1).trans hw;have hkw:lsW k<=34359738368:=by have:=z9o (Af h2);have:=zb5 x;omega
 have hL:=ihL e oM0 _ _ _ _ h3 hkw sI0;have hl2:r1.2.1.length=v.length:=(z8x h3).trans hw2;have hal:=hAL _ _ _ _ _ h3;obtain⟨⟨ek,el⟩,v3,ins,ar,st,code,out,cost,fuel,spent⟩:=r1;obtain⟨rfl⟩:ar=[]:=Ay hal;have hO:=z5c u ⟨ins,[],st,code,out,cost,fuel,spent⟩;dsimp only at h4 hl2 hO;generalize z16 ⟨ins,[],st,code,out,cost,fuel,spent⟩=o at h4 hO
 cases o with
 |true =>
  cases h4
  exact⟨[],hS,I0 (slE (by simp[hw])) sR,Gg,rfl,hkl,rfl,[],hL,H0 (H0 (I0 (slE (by simp[hw2])) J0)),Gj,rfl,[],hO,sR,Gi,rfl,sI,rfl,rfl,rfl,Gf⟩
 |false =>
  refine⟨[],hS,I0 (slE (by simp[hw])) sR,Gg,rfl,hkl,rfl,[],hL,H0 (H0 (I0 (slE (by simp[hw2])) J0)),Gj,rfl,[],hO,sR,Gi,rfl,z00 (λh5=>?_) λh5=>?_⟩
  ·rw[show(false||ek==15)=true from h5]at h4
   cases h4
   exact⟨sI,rfl,rfl,rfl,Gf⟩
  ·rw[show(false||ek==15)=false from h5]at h4;refine z00 (λh6=>?_) λh6=>?_
   ·rw[show(ek==14)=true from h6]at h4;obtain⟨v4,h7,rfl⟩:=A8.1 h4;exact⟨[],zx4 _ _ _ _ h7,I0 (slE (by simp[hl2])) sR,Gg,rfl,sP z6t,rfl,rfl,rfl,Gf⟩
   ·rw[show(ek==14)=false from h6]at h4;exact⟨(e,v3,el,⟨ins,[],st,code,out,cost,fuel,spent⟩),Ac e,⟨by omega,hl2,h4⟩,Gg,Gj,rfl,rfl,rfl,rfl⟩
theorem sr_loop2(u:Un)(D:Nat)(ihL:SRL u D)(hAL:∀d l v s r,z2f u d l v s=some r->r.2.2.ar.length=s.ar.length)(d:Nat)(hd:d<=D)(x:Nd)(hx:ndW x<=34359738368)(v a:List Int)(s:Rs)(row row':List Int)(r:Rres)(h:z3w u d x v a { s with ar:=[row,row'] }=some r):SC Tryz.prog 97 [.ptr 1001 0,.pv (ndv x),.sl 510 (v.map eInt).length,.pv (ints a)] (rHV u { s with ar:=[row,row'] } v) (λ_=>False) (.pv (endv r.1)) (rHV u r.2.2 r.2.1):=by
 refine L0 (K0 tb {} [] Tryz.func97 rfl rfl ?_) (λk _ h=>h.elim);refine⟨Nat×List Int×List Int×Rs×List Int×List Int,λ(e,w,b,z,q,q')=>[(3,.pv (ints b))],λ(e,w,b,z,q,q')=>[(1001,rBox u { z with ar:=[q,q'] }),(1002,rowI z.out),(510,rowI w),(1013,.box [.sl 1004 (q.map eInt).length,.sl 1014 (q'.map eInt).length]),(1004,rowI q),(1014,rowI q')],λ(e,w,b,z,q,q')=>e,λ(e,w,b,z,q,q')=>e<=D/\w.length=v.length/\z3w u e x w b { z with ar:=[q,q'] }=some r,[],(d,v,a,s,row,row'),⟨hd,rfl,h⟩,Gg,Gm,?_⟩;rintro⟨e,w,b,z,q,q'⟩ ⟨he,hw,hm⟩;obtain⟨e,w2,k,r1,rfl,h1,h2,h3,h4⟩:=z5g hm;have hS:=zx4 _ _ _ _ h1;have hkl:=z02 (f:=eKid) h2;have hw2:w2.length=v.length:=(z54 h1).trans hw;have hkw:lsW k<=34359738368:=by have:=z9o (Af h2);have:=zb5 x;omega
 have hL:=ihL e oM0 _ _ _ _ h3 hkw sI0;have hl2:r1.2.1.length=v.length:=(z8x h3).trans hw2;have hal:=hAL _ _ _ _ _ h3;obtain⟨⟨ek,el⟩,v3,ins,ar,st,code,out,cost,fuel,spent⟩:=r1;obtain⟨q2,q2',rfl⟩:=zr1 hal;have hO:=z5c u ⟨ins,[q2,q2'],st,code,out,cost,fuel,spent⟩;dsimp only at h4 hl2 hO;generalize z16 ⟨ins,[q2,q2'],st,code,out,cost,fuel,spent⟩=o at h4 hO
 cases o with
 |true =>
  cases h4
  exact⟨[],hS,I0 (slE (by simp[hw])) sR,Gg,rfl,hkl,rfl,[],hL,H0 (H0 (I0 (slE (by simp[hw2])) J0)),Gm,rfl,[],hO,sR,Gl,rfl,sI,rfl,rfl,rfl,rfl,rfl,rfl,Gf⟩
 |false =>
  refine⟨[],hS,I0 (slE (by simp[hw])) sR,Gg,rfl,hkl,rfl,[],hL,H0 (H0 (I0 (slE (by simp[hw2])) J0)),Gm,rfl,[],hO,sR,Gl,rfl,z00 (λh5=>?_) λh5=>?_⟩
  ·rw[show(false||ek==15)=true from h5]at h4
   cases h4
   exact⟨sI,rfl,rfl,rfl,rfl,rfl,rfl,Gf⟩
  ·rw[show(false||ek==15)=false from h5]at h4;refine z00 (λh6=>?_) λh6=>?_
   ·rw[show(ek==14)=true from h6]at h4;obtain⟨v4,h7,rfl⟩:=A8.1 h4;exact⟨[],zx4 _ _ _ _ h7,I0 (slE (by simp[hl2])) sR,Gg,rfl,sP z6t,rfl,rfl,rfl,rfl,rfl,rfl,Gf⟩
   ·rw[show(ek==14)=false from h6]at h4;exact⟨(e,v3,el,⟨ins,[],st,code,out,cost,fuel,spent⟩,q2,q2'),Ac e,⟨by omega,hl2,h4⟩,Gg,Gm,rfl,rfl,rfl,rfl⟩
theorem y3q:∀{l:List Nd},l.length<=lsW l/\∀x∈l,ndW x<=lsW l
 |[]=>⟨Aj _,λx h=>by cases h⟩
 |y::r=>by
  obtain⟨h1,h2⟩:=@y3q r;have h3:=zb5 y;refine⟨by simp only[lsW,A3];omega,λx hx=>?_⟩;rcases Aq.1 hx with rfl|hx
  ·simp only[lsW];omega
  ·have:=h2 x hx;simp only[lsW];omega
theorem zz4(s:Rs):(zb8 s).2.ar=s.ar:=by
 unfold zb8;split
 ·rfl
 ·split<;>rfl
theorem sr_list0(u:Un)(D:Nat)(ihC:SRC u D)(ihL:SRL u D)(hA:∀d k a s r,z4j u d k a s=some r->r.2.ar.length=s.ar.length)(hAL:∀d l v s r,z2f u d l v s=some r->r.2.2.ar.length=s.ar.length)(hALo:∀d x v a s r,z3w u d x v a s=some r->r.2.2.ar.length=s.ar.length)(hAS:∀d x a s r,mSum u d x a s=some r->r.2.ar.length=s.ar.length)(d:Nat)(hd:d<=D)(l:List Nd)(v:List Int)(s:Rs)(r:Rres)(h:z2f u d l v { s with ar:=[] }=some r)(hb:lsW l<=34359738368):SC Tryz.prog 56 [.ptr 1001 0,.pv (z2h l),.sl 510 (v.map eInt).length] (rHV u { s with ar:=[] } v) (λ_=>False) (.pv (endv r.1)) (rHV u r.2.2 r.2.1):=by
 refine L0 (K0 tb {} [] Tryz.func56 rfl rfl ?_) (λk _ h=>h.elim);have hll:=(@y3q l).1;refine⟨Nat×Nat×List Int×Rs,λ(e,k,w,z)=>[(7,iInt k)],λ(e,k,w,z)=>[(1001,rBox u { z with ar:=[] }),(1002,rowI z.out),(510,rowI w)],λ(e,k,w,z)=>l.length-k,λ(e,k,w,z)=>e<=D/\k<=l.length/\w.length=v.length/\z2f u e (l.drop k) w { z with ar:=[] }=some r,[],(d,0,v,s),⟨hd,Aj _,rfl,h⟩,Gg,Gj,?_⟩;rintro⟨e,k,w,z⟩ ⟨he,hk,hw,hm⟩;refine z00 (λhc=>?_) λhc=>?_
 ·have hlt:=z12 (f:=Nd.enc) rfl hc;obtain⟨x,hx,_,hdr,hmem⟩:=z0u hlt;rw[hdr]at hm;have hxw:=(@y3q l).2 x hmem;have hxe:=zb5 x;obtain⟨e,rfl,hm2⟩:=z8y rfl hm;clear hm;have hSt:=j54 u { z with ar:=[] };have har:=zz4 { z with ar:=[] };generalize zb8 { z with ar:=[] }=p at hm2 hSt har;obtain⟨b,ins,ar,st,code,out,cost,fuel,spent⟩:=p;obtain rfl:ar=[]:=har;rcases hm2 with⟨hb0,rfl⟩|⟨hb0,a,r1,ha,hn,hm⟩
  ·obtain rfl:b=false:=hb0;exact⟨z0a hx,rfl,[],hSt,sR,Gi,rfl,sP z6t,rfl,rfl,rfl,Gf⟩
  ·obtain rfl:b=true:=hb0;have hOf:=sr_of w x.args a ha oM0;have hO:=z5c u ⟨ins,[],st,code,out,cost,fuel,spent⟩;obtain⟨kind,op,n,name,args,outs,params,kids⟩:=x;rcases(show kind=1∨kind=2∨kind=12∨kind=13∨kind=14∨kind=15∨kind=10∨kind=11∨(kind≠1/\kind≠2/\kind≠12/\kind≠13/\kind≠14/\kind≠15/\kind≠10/\kind≠11) by omega)with rfl|rfl|rfl|rfl|rfl|rfl|rfl|rfl|hkk
   iterate 2
    ·obtain⟨o,w2,ho,hv2,rfl⟩:=z8z hn rfl;obtain⟨ho0,hol,rfl⟩:=zk1 hv2;dsimp only at hm;generalize z16 ⟨ins,[],st,code,out,cost,fuel,spent⟩=ov at hm hO
     cases ov with
     |true =>
      cases hm
      exact⟨z0a hx,rfl,[],hSt,sR,Gi,rfl,[],hOf,I0 (slE (by simp[hw])) sR,Gg,rfl,z02 (f:=eInt) ho,rfl,by simp[hw],by rw[hw]at hol;simpa using hol,by omega,o.toNat,0,_,by simp[hw],(Ca _).symm,z02 (f:=eInt) (Ad hol),Bx,[],hO,sR,Gi,rfl,sP z6t,rfl,rfl,rwq (by simp[eInt,C8,Nd.n]),Gf⟩
     |false =>
      exact⟨z0a hx,rfl,[],hSt,sR,Gi,rfl,[],hOf,I0 (slE (by simp[hw])) sR,Gg,rfl,z02 (f:=eInt) ho,rfl,by simp[hw],by rw[hw]at hol;simpa using hol,by omega,o.toNat,0,_,by simp[hw],(Ca _).symm,z02 (f:=eInt) (Ad hol),Bx,[],hO,sR,Gi,rfl,z01 rfl oM0,(e,k+1,w.set o.toNat n,⟨ins,[],st,code,out,cost,fuel,spent⟩),z05 hlt,⟨by omega,hlt,by simp[hw],hm⟩,Gg,⟨rfl,rfl,rwq (by simp[eInt,C8,Nd.n]),Gf⟩,rfl,rfl,rfl,rfl⟩
   iterate 4
    ·obtain rfl:=z5p hn rfl;have hm3:=(A5 (by simp[Nd.kind])).symm.trans hm
     cases hm3
     exact⟨z0a hx,rfl,[],hSt,sR,Gi,rfl,[],hOf,I0 (slE (by simp[hw])) sR,Gg,rfl,sI,rfl,rfl,rfl,Gf⟩
   ·obtain⟨a0,q0,r2,h1,h2,h3,h4⟩:=zm5 hn rfl;have hi:=z02 (f:=eInt) h1;have hkw:lsW q0<=34359738368:=by have:=z9o (Af h2);dsimp only[Nd.kids]at this hxe;omega
    have hL:=ihL e oM0 _ _ _ _ h3 hkw sI0;have hl2:r2.2.1.length=w.length:=z8x h3;have hal:=hAL _ _ _ _ _ h3;obtain⟨⟨ek,el⟩,v3,ins',ar',st',code',out',cost',fuel',spent'⟩:=r2;obtain rfl:ar'=[]:=Ay hal;have hO2:=z5c u ⟨ins',[],st',code',out',cost',fuel',spent'⟩;clear hO;dsimp only at h4 hl2 hO2 hm;generalize hov:z16 ⟨ins',[],st',code',out',cost',fuel',spent'⟩=ov at h4 hO2;refine⟨z0a hx,rfl,[],hSt,sR,Gi,rfl,[],hOf,I0 (slE (by simp[hw])) sR,Gg,rfl,hi,rfl,z00 (λhc0=>?_) λhc0=>?_⟩
    ·rw[show(a0 != 0)=true from hc0]at h2;have hkl:=z02 (f:=eKid) h2
     cases ov with
     |true =>
      cases h4
      rw[hov]at hm
      cases hm
      exact⟨hkl,rfl,[],hL,H0 (H0 (I0 (slE (by simp[hw])) J0)),Gj,rfl,[],hO2,sR,Gi,rfl,[],hO2,sR,Gi,rfl,sI,rfl,rfl,rfl,Gf⟩
     |false =>
      refine⟨hkl,rfl,[],hL,H0 (H0 (I0 (slE (by simp[hw])) J0)),Gj,rfl,[],hO2,sR,Gi,rfl,z00 (λh5=>?_) λh5=>?_⟩
      ·rw[show(ek==12)=true from h5]at h4;obtain⟨v4,h7,rfl⟩:=A8.1 h4;dsimp only at hm;rw[hov]at hm;exact⟨[],zx4 _ _ _ _ h7,I0 (slE (by simp[hl2,hw])) sR,Gg,rfl,[],hO2,sR,Gi,rfl,z01 rfl oM0,(e,k+1,v4,⟨ins',[],st',code',out',cost',fuel',spent'⟩),z05 hlt,⟨by omega,hlt,by rw[z54 h7,hl2,hw],hm⟩,Gg,Gj,rfl,rfl,rfl,rfl⟩
      ·rw[show(ek==12)=false from h5]at h4
       cases h4
       dsimp only at hm;rw[hov]at hm;refine⟨[],hO2,sR,Gi,rfl,z00 (λh6=>?_) λh6=>?_⟩
       ·rw[show(ek != 0)=true from h6]at hm
        cases hm
        exact⟨sI,rfl,rfl,rfl,Gf⟩
       ·rw[show(ek != 0)=false from h6]at hm;exact⟨z01 rfl oM0,(e,k+1,v3,⟨ins',[],st',code',out',cost',fuel',spent'⟩),z05 hlt,⟨by omega,hlt,by rw[hl2,hw],hm⟩,Gg,Gj,rfl,rfl,rfl,rfl⟩
    ·rw[show(a0 != 0)=false from hc0]at h2;have hkl:=z02 (f:=eKid) h2
     cases ov with
     |true =>
      cases h4
      rw[hov]at hm
      cases hm
      exact⟨hkl,rfl,[],hL,H0 (H0 (I0 (slE (by simp[hw])) J0)),Gj,rfl,[],hO2,sR,Gi,rfl,[],hO2,sR,Gi,rfl,sI,rfl,rfl,rfl,Gf⟩
     |false =>
      refine⟨hkl,rfl,[],hL,H0 (H0 (I0 (slE (by simp[hw])) J0)),Gj,rfl,[],hO2,sR,Gi,rfl,z00 (λh5=>?_) λh5=>?_⟩
      ·rw[show(ek==12)=true from h5]at h4;obtain⟨v4,h7,rfl⟩:=A8.1 h4;dsimp only at hm;rw[hov]at hm;exact⟨[],zx4 _ _ _ _ h7,I0 (slE (by simp[hl2,hw])) sR,Gg,rfl,[],hO2,sR,Gi,rfl,z01 rfl oM0,(e,k+1,v4,⟨ins',[],st',code',out',cost',fuel',spent'⟩),z05 hlt,⟨by omega,hlt,by rw[z54 h7,hl2,hw],hm⟩,Gg,Gj,rfl,rfl,rfl,rfl⟩
      ·rw[show(ek==12)=false from h5]at h4
       cases h4
       dsimp only at hm;rw[hov]at hm;refine⟨[],hO2,sR,Gi,rfl,z00 (λh6=>?_) λh6=>?_⟩
       ·rw[show(ek != 0)=true from h6]at hm
        cases hm
        exact⟨sI,rfl,rfl,rfl,Gf⟩
       ·rw[show(ek != 0)=false from h6]at hm;exact⟨z01 rfl oM0,(e,k+1,v3,⟨ins',[],st',code',out',cost',fuel',spent'⟩),z05 hlt,⟨by omega,hlt,by rw[hl2,hw],hm⟩,Gg,Gj,rfl,rfl,rfl,rfl⟩
   ·have h3:=z7i hn rfl;have hL:=sr_loop0 u D ihL hAL e oM0 _ oM0 _ _ ⟨ins,[],st,code,out,cost,fuel,spent⟩ _ h3;have hl2:r1.2.1.length=w.length:=(zr4 u e).2 _ _ _ _ _ h3;have hal:=hALo _ _ _ _ _ _ h3;obtain⟨⟨ek,el⟩,v3,ins',ar',st',code',out',cost',fuel',spent'⟩:=r1;obtain rfl:ar'=[]:=Ay hal;have hO2:=z5c u ⟨ins',[],st',code',out',cost',fuel',spent'⟩;clear hO;dsimp only at hl2 hO2 hm;generalize hov:z16 ⟨ins',[],st',code',out',cost',fuel',spent'⟩=ov at hm hO2
    cases ov with
    |true =>
     cases hm
     exact⟨z0a hx,rfl,[],hSt,sR,Gi,rfl,[],hOf,I0 (slE (by simp[hw])) sR,Gg,rfl,[],hL,H0 (H0 (I0 (slE (by simp[hw])) sR)),Gj,rfl,[],hO2,sR,Gi,rfl,sI,rfl,rfl,rfl,Gf⟩
    |false =>
     refine⟨z0a hx,rfl,[],hSt,sR,Gi,rfl,[],hOf,I0 (slE (by simp[hw])) sR,Gg,rfl,[],hL,H0 (H0 (I0 (slE (by simp[hw])) sR)),Gj,rfl,[],hO2,sR,Gi,rfl,z00 (λh6=>?_) λh6=>?_⟩
     ·rw[show(ek != 0)=true from h6]at hm
      cases hm
      exact⟨sI,rfl,rfl,rfl,Gf⟩
     ·rw[show(ek != 0)=false from h6]at hm;exact⟨z01 rfl oM0,(e,k+1,v3,⟨ins',[],st',code',out',cost',fuel',spent'⟩),z05 hlt,⟨by omega,hlt,by rw[hl2,hw],hm⟩,Gg,Gj,rfl,rfl,rfl,rfl⟩
   ·obtain⟨k1,k2,k12,k13,k14,k15,k10,k11⟩:=hkk;have ne:∀{i:Int},kind≠i->(kind==i)=false:=λh=>Aa.2 h;have no:∀{i:Int},kind≠i->(kind==i)=true->False:=λh e=>h (Av e);obtain⟨r2,h1,h2⟩:=z7q hn (by simp only[Nd.kind,ne k1,ne k2];rfl) (by simp only[Nd.kind,ne k12,ne k13,ne k14,ne k15];rfl) (ne k10) (ne k11);have hS:=sr_sum u D ihC hA e oM0 _ a _ _ h1 sI0;have hal:=hAS _ _ _ _ _ h1;obtain⟨y,ins',ar',st',code',out',cost',fuel',spent'⟩:=r2;obtain rfl:ar'=[]:=Ay hal;have hO2:=z5c u ⟨ins',[],st',code',out',cost',fuel',spent'⟩;clear hO;dsimp only at h2 hO2;generalize hov:z16 ⟨ins',[],st',code',out',cost',fuel',spent'⟩=ov at h2 hO2;refine⟨z0a hx,rfl,[],hSt,sR,Gi,rfl,[],hOf,I0 (slE (by simp[hw])) sR,Gg,rfl,z00 (λh=>(no k1 h).elim) λ_=>z00 (λh=>(no k2 h).elim) λ_=>z00 (λh=>(no k12 h).elim) λ_=>z00 (λh=>(no k13 h).elim) λ_=>z00 (λh=>(no k14 h).elim) λ_=>z00 (λh=>(no k15 h).elim) λ_=>z00 (λh=>(no k10 h).elim) λ_=>z00 (λh=>(no k11 h).elim) λ_=>?_⟩
    cases ov with
    |true =>
     cases h2
     dsimp only at hm;rw[hov]at hm
     cases hm
     exact⟨[],hS,sR,Gi,rfl,[],hO2,sR,Gi,rfl,[],hO2,sR,Gi,rfl,sP z6t,rfl,rfl,rfl,Gf⟩
    |false =>
     cases outs with
     |nil =>
      cases h2
      dsimp only at hm;rw[hov]at hm
      exact⟨[],hS,sR,Gi,rfl,[],hO2,sR,Gi,rfl,[],hO2,sR,Gi,rfl,z01 rfl oM0,(e,k+1,w,⟨ins',[],st',code',out',cost',fuel',spent'⟩),z05 hlt,⟨by omega,hlt,hw,hm⟩,Gg,Gj,rfl,rfl,rfl,rfl⟩
     |cons o os =>
      rw[A5 (by simp[Nd.outs])]at h2;obtain⟨o',ho,h3⟩:=Ao.1 h2;obtain rfl:o=o':=C0 ho;obtain⟨w2,hv2,rfl⟩:=A8.1 h3;obtain⟨ho0,hol,rfl⟩:=zk1 hv2;dsimp only at hm;rw[hov]at hm;exact⟨[],hS,sR,Gi,rfl,[],hO2,sR,Gi,rfl,z00 (λ_=>⟨at0 (a:=eInt o),rfl,by simp[hw],by rw[hw]at hol;simpa using hol,by omega,o.toNat,0,_,by simp[hw],(Ca _).symm,z02 (f:=eInt) (Ad hol),Bx,[],hO2,sR,Gi,rfl,z01 rfl oM0,(e,k+1,w.set o.toNat y,⟨ins',[],st',code',out',cost',fuel',spent'⟩),z05 hlt,⟨by omega,hlt,by simp[hw],hm⟩,Gg,⟨rfl,rfl,rwq (by simp[eInt,C8]),Gf⟩,rfl,rfl,rfl,rfl⟩) λh=>A9 h (by simp[Nd.outs])⟩
 ·rw[Ae (z13 (f:=Nd.enc) rfl hc)]at hm;obtain rfl:=y89 hm;exact⟨sP z6t,rfl,rfl,rfl,Gf⟩
theorem sr_list2(u:Un)(D:Nat)(ihC:SRC u D)(ihL:SRL u D)(hA:∀d k a s r,z4j u d k a s=some r->r.2.ar.length=s.ar.length)(hAL:∀d l v s r,z2f u d l v s=some r->r.2.2.ar.length=s.ar.length)(hALo:∀d x v a s r,z3w u d x v a s=some r->r.2.2.ar.length=s.ar.length)(hAS:∀d x a s r,mSum u d x a s=some r->r.2.ar.length=s.ar.length)(d:Nat)(hd:d<=D)(l:List Nd)(v:List Int)(s:Rs)(row row':List Int)(r:Rres)(h:z2f u d l v { s with ar:=[row,row'] }=some r)(hb:lsW l<=34359738368):SC Tryz.prog 56 [.ptr 1001 0,.pv (z2h l),.sl 510 (v.map eInt).length] (rHV u { s with ar:=[row,row'] } v) (λ_=>False) (.pv (endv r.1)) (rHV u r.2.2 r.2.1):=by
 refine L0 (K0 tb {} [] Tryz.func56 rfl rfl ?_) (λk _ h=>h.elim);have hll:=(@y3q l).1;refine⟨Nat×Nat×List Int×Rs×List Int×List Int,λ(e,k,w,z,q,q')=>[(7,iInt k)],λ(e,k,w,z,q,q')=>[(1001,rBox u { z with ar:=[q,q'] }),(1002,rowI z.out),(510,rowI w),(1013,.box [.sl 1004 (q.map eInt).length,.sl 1014 (q'.map eInt).length]),(1004,rowI q),(1014,rowI q')],λ(e,k,w,z,q,q')=>l.length-k,λ(e,k,w,z,q,q')=>e<=D/\k<=l.length/\w.length=v.length/\z2f u e (l.drop k) w { z with ar:=[q,q'] }=some r,[],(d,0,v,s,row,row'),⟨hd,Aj _,rfl,h⟩,Gg,Gm,?_⟩;rintro⟨e,k,w,z,q,q'⟩ ⟨he,hk,hw,hm⟩;refine z00 (λhc=>?_) λhc=>?_
 ·have hlt:=z12 (f:=Nd.enc) rfl hc;obtain⟨x,hx,_,hdr,hmem⟩:=z0u hlt;rw[hdr]at hm;have hxw:=(@y3q l).2 x hmem;have hxe:=zb5 x;obtain⟨e,rfl,hm2⟩:=z8y rfl hm;clear hm;have hSt:=j54 u { z with ar:=[q,q'] };have har:=zz4 { z with ar:=[q,q'] };generalize zb8 { z with ar:=[q,q'] }=p at hm2 hSt har;obtain⟨b,ins,ar,st,code,out,cost,fuel,spent⟩:=p;obtain rfl:ar=[q,q']:=har;rcases hm2 with⟨hb0,rfl⟩|⟨hb0,a,r1,ha,hn,hm⟩
  ·obtain rfl:b=false:=hb0;exact⟨z0a hx,rfl,[],hSt,sR,Gl,rfl,sP z6t,rfl,rfl,rfl,rfl,rfl,rfl,Gf⟩
  ·obtain rfl:b=true:=hb0;have hOf:=sr_of w x.args a ha oM0;have hO:=z5c u ⟨ins,[q,q'],st,code,out,cost,fuel,spent⟩;obtain⟨kind,op,n,name,args,outs,params,kids⟩:=x;rcases(show kind=1∨kind=2∨kind=12∨kind=13∨kind=14∨kind=15∨kind=10∨kind=11∨(kind≠1/\kind≠2/\kind≠12/\kind≠13/\kind≠14/\kind≠15/\kind≠10/\kind≠11) by omega)with rfl|rfl|rfl|rfl|rfl|rfl|rfl|rfl|hkk
   iterate 2
    ·obtain⟨o,w2,ho,hv2,rfl⟩:=z8z hn rfl;obtain⟨ho0,hol,rfl⟩:=zk1 hv2;dsimp only at hm;generalize z16 ⟨ins,[q,q'],st,code,out,cost,fuel,spent⟩=ov at hm hO
     cases ov with
     |true =>
      cases hm
      exact⟨z0a hx,rfl,[],hSt,sR,Gl,rfl,[],hOf,I0 (slE (by simp[hw])) sR,Gg,rfl,z02 (f:=eInt) ho,rfl,by simp[hw],by rw[hw]at hol;simpa using hol,by omega,o.toNat,0,_,by simp[hw],(Ca _).symm,z02 (f:=eInt) (Ad hol),Bx,[],hO,sR,Gl,rfl,sP z6t,rfl,rfl,rwq (by simp[eInt,C8,Nd.n]),rfl,rfl,rfl,Gf⟩
     |false =>
      exact⟨z0a hx,rfl,[],hSt,sR,Gl,rfl,[],hOf,I0 (slE (by simp[hw])) sR,Gg,rfl,z02 (f:=eInt) ho,rfl,by simp[hw],by rw[hw]at hol;simpa using hol,by omega,o.toNat,0,_,by simp[hw],(Ca _).symm,z02 (f:=eInt) (Ad hol),Bx,[],hO,sR,Gl,rfl,z01 rfl oM0,(e,k+1,w.set o.toNat n,⟨ins,[q,q'],st,code,out,cost,fuel,spent⟩,q,q'),z05 hlt,⟨by omega,hlt,by simp[hw],hm⟩,Gg,⟨rfl,rfl,rwq (by simp[eInt,C8,Nd.n]),rfl,rfl,rfl,Gf⟩,rfl,rfl,rfl,rfl⟩
   iterate 4
    ·obtain rfl:=z5p hn rfl;have hm3:=(A5 (by simp[Nd.kind])).symm.trans hm
     cases hm3
     exact⟨z0a hx,rfl,[],hSt,sR,Gl,rfl,[],hOf,I0 (slE (by simp[hw])) sR,Gg,rfl,sI,rfl,rfl,rfl,rfl,rfl,rfl,Gf⟩
   ·obtain⟨a0,q0,r2,h1,h2,h3,h4⟩:=zm5 hn rfl;have hi:=z02 (f:=eInt) h1;have hkw:lsW q0<=34359738368:=by have:=z9o (Af h2);dsimp only[Nd.kids]at this hxe;omega
    have hL:=ihL e oM0 _ _ _ _ h3 hkw sI0;have hl2:r2.2.1.length=w.length:=z8x h3;have hal:=hAL _ _ _ _ _ h3;obtain⟨⟨ek,el⟩,v3,ins',ar',st',code',out',cost',fuel',spent'⟩:=r2;obtain⟨q2,q2',rfl⟩:=zr1 hal;have hO2:=z5c u ⟨ins',[q2,q2'],st',code',out',cost',fuel',spent'⟩;clear hO;dsimp only at h4 hl2 hO2 hm;generalize hov:z16 ⟨ins',[q2,q2'],st',code',out',cost',fuel',spent'⟩=ov at h4 hO2;refine⟨z0a hx,rfl,[],hSt,sR,Gl,rfl,[],hOf,I0 (slE (by simp[hw])) sR,Gg,rfl,hi,rfl,z00 (λhc0=>?_) λhc0=>?_⟩
    ·rw[show(a0 != 0)=true from hc0]at h2;have hkl:=z02 (f:=eKid) h2
     cases ov with
     |true =>
      cases h4
      rw[hov]at hm
      cases hm
      exact⟨hkl,rfl,[],hL,H0 (H0 (I0 (slE (by simp[hw])) J0)),Gm,rfl,[],hO2,sR,Gl,rfl,[],hO2,sR,Gl,rfl,sI,rfl,rfl,rfl,rfl,rfl,rfl,Gf⟩
     |false =>
      refine⟨hkl,rfl,[],hL,H0 (H0 (I0 (slE (by simp[hw])) J0)),Gm,rfl,[],hO2,sR,Gl,rfl,z00 (λh5=>?_) λh5=>?_⟩
      ·rw[show(ek==12)=true from h5]at h4;obtain⟨v4,h7,rfl⟩:=A8.1 h4;dsimp only at hm;rw[hov]at hm;exact⟨[],zx4 _ _ _ _ h7,I0 (slE (by simp[hl2,hw])) sR,Gg,rfl,[],hO2,sR,Gl,rfl,z01 rfl oM0,(e,k+1,v4,⟨ins',[q2,q2'],st',code',out',cost',fuel',spent'⟩,q2,q2'),z05 hlt,⟨by omega,hlt,by rw[z54 h7,hl2,hw],hm⟩,Gg,Gm,rfl,rfl,rfl,rfl⟩
      ·rw[show(ek==12)=false from h5]at h4
       cases h4
       dsimp only at hm;rw[hov]at hm;refine⟨[],hO2,sR,Gl,rfl,z00 (λh6=>?_) λh6=>?_⟩
       ·rw[show(ek != 0)=true from h6]at hm
        cases hm
        exact⟨sI,rfl,rfl,rfl,rfl,rfl,rfl,Gf⟩
       ·rw[show(ek != 0)=false from h6]at hm;exact⟨z01 rfl oM0,(e,k+1,v3,⟨ins',[q2,q2'],st',code',out',cost',fuel',spent'⟩,q2,q2'),z05 hlt,⟨by omega,hlt,by rw[hl2,hw],hm⟩,Gg,Gm,rfl,rfl,rfl,rfl⟩
    ·rw[show(a0 != 0)=false from hc0]at h2;have hkl:=z02 (f:=eKid) h2
     cases ov with
     |true =>
      cases h4
      rw[hov]at hm
      cases hm
      exact⟨hkl,rfl,[],hL,H0 (H0 (I0 (slE (by simp[hw])) J0)),Gm,rfl,[],hO2,sR,Gl,rfl,[],hO2,sR,Gl,rfl,sI,rfl,rfl,rfl,rfl,rfl,rfl,Gf⟩
     |false =>
      refine⟨hkl,rfl,[],hL,H0 (H0 (I0 (slE (by simp[hw])) J0)),Gm,rfl,[],hO2,sR,Gl,rfl,z00 (λh5=>?_) λh5=>?_⟩
      ·rw[show(ek==12)=true from h5]at h4;obtain⟨v4,h7,rfl⟩:=A8.1 h4;dsimp only at hm;rw[hov]at hm;exact⟨[],zx4 _ _ _ _ h7,I0 (slE (by simp[hl2,hw])) sR,Gg,rfl,[],hO2,sR,Gl,rfl,z01 rfl oM0,(e,k+1,v4,⟨ins',[q2,q2'],st',code',out',cost',fuel',spent'⟩,q2,q2'),z05 hlt,⟨by omega,hlt,by rw[z54 h7,hl2,hw],hm⟩,Gg,Gm,rfl,rfl,rfl,rfl⟩
      ·rw[show(ek==12)=false from h5]at h4
       cases h4
       dsimp only at hm;rw[hov]at hm;refine⟨[],hO2,sR,Gl,rfl,z00 (λh6=>?_) λh6=>?_⟩
       ·rw[show(ek != 0)=true from h6]at hm
        cases hm
        exact⟨sI,rfl,rfl,rfl,rfl,rfl,rfl,Gf⟩
       ·rw[show(ek != 0)=false from h6]at hm;exact⟨z01 rfl oM0,(e,k+1,v3,⟨ins',[q2,q2'],st',code',out',cost',fuel',spent'⟩,q2,q2'),z05 hlt,⟨by omega,hlt,by rw[hl2,hw],hm⟩,Gg,Gm,rfl,rfl,rfl,rfl⟩
   ·have h3:=z7i hn rfl;have hL:=sr_loop2 u D ihL hAL e oM0 _ oM0 _ _ ⟨ins,[],st,code,out,cost,fuel,spent⟩ q q' _ h3;have hl2:r1.2.1.length=w.length:=(zr4 u e).2 _ _ _ _ _ h3;have hal:=hALo _ _ _ _ _ _ h3;obtain⟨⟨ek,el⟩,v3,ins',ar',st',code',out',cost',fuel',spent'⟩:=r1;obtain⟨q2,q2',rfl⟩:=zr1 hal;have hO2:=z5c u ⟨ins',[q2,q2'],st',code',out',cost',fuel',spent'⟩;clear hO;dsimp only at hl2 hO2 hm;generalize hov:z16 ⟨ins',[q2,q2'],st',code',out',cost',fuel',spent'⟩=ov at hm hO2
    cases ov with
    |true =>
     cases hm
     exact⟨z0a hx,rfl,[],hSt,sR,Gl,rfl,[],hOf,I0 (slE (by simp[hw])) sR,Gg,rfl,[],hL,H0 (H0 (I0 (slE (by simp[hw])) sR)),Gm,rfl,[],hO2,sR,Gl,rfl,sI,rfl,rfl,rfl,rfl,rfl,rfl,Gf⟩
    |false =>
     refine⟨z0a hx,rfl,[],hSt,sR,Gl,rfl,[],hOf,I0 (slE (by simp[hw])) sR,Gg,rfl,[],hL,H0 (H0 (I0 (slE (by simp[hw])) sR)),Gm,rfl,[],hO2,sR,Gl,rfl,z00 (λh6=>?_) λh6=>?_⟩
     ·rw[show(ek != 0)=true from h6]at hm
      cases hm
      exact⟨sI,rfl,rfl,rfl,rfl,rfl,rfl,Gf⟩
     ·rw[show(ek != 0)=false from h6]at hm;exact⟨z01 rfl oM0,(e,k+1,v3,⟨ins',[q2,q2'],st',code',out',cost',fuel',spent'⟩,q2,q2'),z05 hlt,⟨by omega,hlt,by rw[hl2,hw],hm⟩,Gg,Gm,rfl,rfl,rfl,rfl⟩
   ·obtain⟨k1,k2,k12,k13,k14,k15,k10,k11⟩:=hkk;have ne:∀{i:Int},kind≠i->(kind==i)=false:=λh=>Aa.2 h;have no:∀{i:Int},kind≠i->(kind==i)=true->False:=λh e=>h (Av e);obtain⟨r2,h1,h2⟩:=z7q hn (by simp only[Nd.kind,ne k1,ne k2];rfl) (by simp only[Nd.kind,ne k12,ne k13,ne k14,ne k15];rfl) (ne k10) (ne k11);have hS:=sr_sum u D ihC hA e oM0 _ a _ _ h1 sI0;have hal:=hAS _ _ _ _ _ h1;obtain⟨y,ins',ar',st',code',out',cost',fuel',spent'⟩:=r2;obtain⟨q2,q2',rfl⟩:=zr1 hal;have hO2:=z5c u ⟨ins',[q2,q2'],st',code',out',cost',fuel',spent'⟩;clear hO;dsimp only at h2 hO2;generalize hov:z16 ⟨ins',[q2,q2'],st',code',out',cost',fuel',spent'⟩=ov at h2 hO2;refine⟨z0a hx,rfl,[],hSt,sR,Gl,rfl,[],hOf,I0 (slE (by simp[hw])) sR,Gg,rfl,z00 (λh=>(no k1 h).elim) λ_=>z00 (λh=>(no k2 h).elim) λ_=>z00 (λh=>(no k12 h).elim) λ_=>z00 (λh=>(no k13 h).elim) λ_=>z00 (λh=>(no k14 h).elim) λ_=>z00 (λh=>(no k15 h).elim) λ_=>z00 (λh=>(no k10 h).elim) λ_=>z00 (λh=>(no k11 h).elim) λ_=>?_⟩
    cases ov with
    |true =>
     cases h2
     dsimp only at hm;rw[hov]at hm
     cases hm
     exact⟨[],hS,sR,Gl,rfl,[],hO2,sR,Gl,rfl,[],hO2,sR,Gl,rfl,sP z6t,rfl,rfl,rfl,rfl,rfl,rfl,Gf⟩
    |false =>
     cases outs with
     |nil =>
      cases h2
      dsimp only at hm;rw[hov]at hm
      exact⟨[],hS,sR,Gl,rfl,[],hO2,sR,Gl,rfl,[],hO2,sR,Gl,rfl,z01 rfl oM0,(e,k+1,w,⟨ins',[q2,q2'],st',code',out',cost',fuel',spent'⟩,q2,q2'),z05 hlt,⟨by omega,hlt,hw,hm⟩,Gg,Gm,rfl,rfl,rfl,rfl⟩
     |cons o os =>
      rw[A5 (by simp[Nd.outs])]at h2;obtain⟨o',ho,h3⟩:=Ao.1 h2;obtain rfl:o=o':=C0 ho;obtain⟨w2,hv2,rfl⟩:=A8.1 h3;obtain⟨ho0,hol,rfl⟩:=zk1 hv2;dsimp only at hm;rw[hov]at hm;exact⟨[],hS,sR,Gl,rfl,[],hO2,sR,Gl,rfl,z00 (λ_=>⟨at0 (a:=eInt o),rfl,by simp[hw],by rw[hw]at hol;simpa using hol,by omega,o.toNat,0,_,by simp[hw],(Ca _).symm,z02 (f:=eInt) (Ad hol),Bx,[],hO2,sR,Gl,rfl,z01 rfl oM0,(e,k+1,w.set o.toNat y,⟨ins',[q2,q2'],st',code',out',cost',fuel',spent'⟩,q2,q2'),z05 hlt,⟨by omega,hlt,by simp[hw],hm⟩,Gg,⟨rfl,rfl,rwq (by simp[eInt,C8]),rfl,rfl,rfl,Gf⟩,rfl,rfl,rfl,rfl⟩) λh=>A9 h (by simp[Nd.outs])⟩
 ·rw[Ae (z13 (f:=Nd.enc) rfl hc)]at hm;obtain rfl:=y89 hm;exact⟨sP z6t,rfl,rfl,rfl,rfl,rfl,rfl,Gf⟩
end Go.Proofs.YtjlaalpfpecikaaGreatDoor
