/- What comes out of same does what the unit does that rises of a program by numbers, at no more cost, with no less fuel left; and the other way round. Its card: the three tables of Go's library that the row lists are tied to the program's text. -/
import Derived.Test.YtjlaalpfpecikaaGreatDoorSp8
set_option maxRecDepth 20000
set_option maxHeartbeats 8000000
set_option linter.unusedSimpArgs false
set_option linter.unusedVariables false
set_option linter.unusedSectionVars false
namespace Go.Proofs.YtjlaalpfpecikaaGreatDoor
open Go
section
open Go Go.ChangeShapes Go.WideShapes Go.ChangeAt Go.RowKit
section
variable {H:Type} {enc:TypeId×Value->H} {P:Program} {w:World} {base:Nat} {spare:Nat->Bool} {held:Bool}
def RepEl(own:Nat->Prop)(w:World)(ps:List PV)(cs:List Value):Prop:=ps.length=cs.length/\∀(j:Nat) p v,ps[j]?=some p->cs[j]?=some v->RepP own w p v
theorem RepEl.nil{own:Nat->Prop}:RepEl own w [] []:=⟨rfl,λj p v h=>by simp at h⟩
theorem RepEl.cons{own:Nat->Prop}{p:PV}{v:Value}{ps:List PV}{cs:List Value}(h:RepP own w p v)(hr:RepEl own w ps cs):RepEl own w (p::ps) (v::cs):=by
 refine⟨by simp[hr.1],λj q x hq hx=>?_⟩
 cases j with
 |zero=>simp at hq hx;subst hq;subst hx;exact h
 |succ j=>exact hr.2 j q x (by simpa using hq) (by simpa using hx)
theorem y39{α:Type}(f:α -> List PV)(wt:α -> Nat){own:Nat->Prop}(R:Nat->DataW H×List MemPlace->List Value->Prop)
 (hR:∀i y cs,R i y cs->∃z:α,RepEl own w (f z) cs/\wt z+1<=Rows.uptoBulk y.1) :
 ∀(ys:List (DataW H×List MemPlace)) (s:Nat),(∀i y,ys[i]?=some y->∃cs,R (s+i) y cs) ->
  ∃l:List α,l.length=ys.length/\(∀i z,l[i]?=some z->∃y cs,ys[i]?=some y/\R (s+i) y cs/\RepEl own w (f z) cs)/\(l.map wt).sum+l.length<=Rows.uptoBulkAll (ys.map (·.1))
 |[],_,_=>⟨[],rfl,λi z h=>by simp at h,by simp[Rows.uptoBulkAll]⟩
 |y::ys,s,h=>by
  obtain⟨cs,hcs⟩:=h 0 y rfl;obtain⟨z,hz,hw⟩:=hR _ _ _ hcs;obtain⟨l,hl,hg,hb⟩:=y39 f wt R hR ys (s+1) (λi y' hy=>by
   have:=h (i+1) y' (by simpa using hy)
   rwa [show s+1+i=s+(i+1) by omega])
  refine⟨z::l,by simp[hl],λi z' hz'=>?_,?_⟩
  ·cases i with
   |zero=>simp at hz';subst hz';exact⟨y,cs,rfl,hcs,hz⟩
   |succ i =>
    obtain⟨y',cs',h1,h2,h3⟩:=hg i z' (by simpa using hz');exact⟨y',cs',by simpa using h1,by rwa [show s+(i+1)=s+1+i by omega],h3⟩
  ·simp only[B7,List.sum_cons,A3,Rows.uptoBulkAll];omega
theorem y9x{α:Type}(f:α -> List PV)(wt:α -> Nat){own:Nat->Prop}(hown:∀b,b<w.heap.size -> ¬own b){t e:TypeId}{fuel:Nat}{cs:List Value}{x:DataW H×List MemPlace}{N:Nat}(ht:P.underlying t=some (.slice e))(hC:P.cellsOf e=N)(hN:0<N)
 (h:DataW.trod enc P w base spare held fuel t cs=some x)
 (hel:∀n cs' y,n<fuel->cs'.length=N->DataW.trod enc P w base spare held n e cs'=some y->∃z:α,RepEl own w (f z) cs'/\wt z+1<=Rows.uptoBulk y.1) :
 ∃(l:List α)(v:Value),cs=[v]/\RepP own w (.seq (l.map f)) v/\(l.map wt).sum+l.length+1<=Rows.uptoBulk x.1:=by
 rcases DataW.trod_slice ht h with⟨rfl,rfl⟩|⟨a,len,cap,elems,rest,n,rfl,rfl,rfl,hb,hl,hm,hlen,hg,_,_⟩
 ·refine⟨[],_,rfl,?_,by simp[Rows.uptoBulk]⟩;have:=RepP.seq (own:=own) (w:=w) [] none 0 0 0 (λ_ _=>default) (λh=>A9 rfl h) (λh=>A9 rfl h) (Ag _) (Aj _) (λi el h=>by simp at h) (λi el h=>by simp at h);simpa using this
 ·obtain⟨l,hll,hat,hsum⟩:=y39 (w:=w) f wt (own:=own) (λi y cs=>w.cells? base (a.add (i*P.cellsOf e)) (P.cellsOf e)=some cs/\DataW.trod enc P w base spare held n e cs=some y)
   (λi y cs' hr=>hel n cs' y (Ac _) (by rw[(Ft hr.1).2.1,hC]) hr.2) elems 0 (λi y hy=>by
    have hlt:i<len:=by rw[<- hlen];exact(A7.1 hy).1
    have h1:=hg i hlt;rw[hy,Ao]at h1;obtain⟨cs',h2,h3⟩:=h1;exact⟨cs',by rw[Bu];exact h2,h3⟩)
  obtain⟨ab,ao,asp⟩:=a;have hlen2:l.length=len:=by rw[hll,hlen]
  -- a cell that can be read
  have hsp:l≠[]->asp=none/\ab<w.heap.size:=by
   intro hne;obtain⟨z,r,rfl⟩:=Cf hne;obtain⟨y,cs',_,hr,hrep⟩:=hat 0 z rfl;obtain⟨_,hcl,hcell⟩:=Ft hr.1;have h0:=hcell 0 (by rw[hC];exact hN);have hlt:0<cs'.length:=by rw[hcl,hC];exact hN
   rw[Ad hlt]at h0;unfold World.cell? at h0;have e0:(Addr.add (Addr.add ⟨ab,ao,asp⟩ ((0+0)*P.cellsOf e)) 0)=⟨ab,ao,asp⟩:=by simp[Addr.add]
   rw[e0]at h0;split at h0
   ·rename_i hh;refine⟨?_,(Cc.1 hh).1⟩
    cases asp with
    |none=>rfl
    |some _=>simp at h0
   ·cases h0
  refine⟨l,_,rfl,?_,?_⟩
  ·-- the cells of an element
   have key:∀i z,l[i]?=some z->∃cs',RepEl own w (f z) cs'/\cs'.length=N/\∀j,j<N->w.cell? ⟨ab,ao+i*N+j,none⟩=cs'[j]?:=by
    intro i z hz;obtain⟨y,cs',_,hr,hrep⟩:=hat i z hz;obtain⟨_,hcl,hcell⟩:=Ft hr.1;refine⟨cs',hrep,hcl.trans hC,λj hj=>?_⟩;have h1:=hcell j (by rw[hC];exact hj);have hne:l≠[]:=by intro e;subst e;simp at hz
    have hs:=(hsp hne).1;subst hs;rw[<- h1,Cu,Cu,hC,Bu]
   have hrep:=RepP.seq (own:=own) (w:=w) (l.map f) (some ⟨ab,ao,asp⟩) cap ab ao (λi j=>(w.cell? ⟨ab,ao+i*N+j,none⟩).getD default)
    (λhne=>by rw[(hsp (by intro e;subst e;exact hne rfl)).1]) (λhne=>by
     have:=(hsp (by intro e;subst e;exact hne rfl)).2;exact⟨hown _ this,this⟩) (by simp;omega) hm ?_ ?_
   ·rw[Ab,hlen2]at hrep;exact hrep
   ·intro i el hi j c hj;rw[Bc,A8]at hi;obtain⟨z,hz,rfl⟩:=hi;obtain⟨cs',hrep,hcl,hcell⟩:=key i z hz;have hjN:j<N:=by have:=(A7.1 hj).1;rw[hrep.1,hcl]at this;exact this
    have h1:=hcell j hjN;have hfl:(f z).length=N:=by rw[hrep.1,hcl]
    rw[hfl,h1,Ad oM0];rfl
   ·intro i el hi j c hj;rw[Bc,A8]at hi;obtain⟨z,hz,rfl⟩:=hi;obtain⟨cs',hrep,hcl,hcell⟩:=key i z hz;have hjN:j<N:=by have:=(A7.1 hj).1;rw[hrep.1,hcl]at this;exact this
    have h1:=hcell j hjN;rw[Ad oM0]at h1;rw[h1];exact hrep.2 j c _ hj (Ad oM0)
  ·simp only[Rows.uptoBulk];omega
end
end
section
open Go Go.ChangeShapes Go.WideShapes Go.ChangeAt Go.RowKit Go.Deep
theorem Tryz.own:ownKnob Tryz.prog.godebug=none:=by kernel_rfl
theorem Tryz.laidOut:laidOutB Tryz.prog=true:=by kernel_rfl
section
variable {H:Type} {enc:TypeId×Value->H} {P:Program}
theorem j3m{W W':World}{p:MemPlace}(h:W'.heap[p.block]?=W.heap[p.block]?):W.sameAt W' p:=by
 cases p<;>simp_all[World.sameAt,MemPlace.block,World.cell?]
theorem zp3(hl:laidOutB P=true){W W':World}(hb:∀b,b<W.heap.size->W'.heap[b]?=W.heap[b]?):∀(ts:List TypeId) (vs:List Value) (ds:List (DataW H)) (ps:List MemPlace),
 (∀t∈ts,P.readableRec t=true/\t<P.types.size)->DataW.TrodAll enc P W 0 (λ_=>true) true ts vs ds ps->(∀x∈ps,x.block<W.heap.size) ->
 DataW.TrodAll enc P W' 0 (λb=>decide (b<W.heap.size)) true ts vs ds ps
 |[],vs,ds,ps,_,h,_=>by
  obtain⟨rfl,rfl,rfl⟩:=trodAll_nil h
  exact trodAll_mk0
 |t::ts,vs,ds,ps,hr,h,hp=>by
  obtain⟨v,vs',d,ds',p,q,rfl,rfl,rfl,h1,h2⟩:=trodAll_cons h;have ht:=hr t (.head _);refine⟨p,q,?_,zp3 hl hb ts vs' ds' q (λt' h'=>hr t' (.tail _ h')) h2 (λx hx=>hp x (C9 _ hx)),rfl⟩;refine WideElems.Trod_stays hl ht.1 ht.2 h1 (λx hx=>?_) (λx hx=>by simpa using hp x (Bq _ hx));exact j3m (hb _ (hp x (Bq _ hx)))
theorem yu4{W W':World}(may:MemPlace->Prop)(hos:W'.os=W.os)(hout:W'.output=W.output)(hb:∀b,b<W.heap.size->W'.heap[b]?=W.heap[b]?):W.keptBut W' may:=by
 refine⟨hos,hout,λi hi=>?_⟩;rw[hb i hi];rcases h:W.heap[i]? with _|o
 ·trivial
 ·cases o with
  |cells c t fr=>exact⟨rfl,rfl,rfl,λ_ _=>rfl⟩
  |map es clock=>exact .inr ⟨rfl,rfl⟩
  |_=>rfl
theorem j2s{f:Func}{s:ChangeSpec}{apart fresh handsOn:Bool}{W W':World}{args:Array Value}{ds gs:List (DataW H)}{before:List MemPlace}{tb:TypeId}(hl:laidOutB P=true)(hv0:s.vars=[])
 (hW:DataW.Whole enc P f.params.toList s.vars apart W args.toList ds gs before) (hrd:∀t∈f.params.toList,P.readableRec t=true/\t<P.types.size) (hres:f.resultTypes = #[tb]) (htb:P.underlying tb=some .bool)
 (hs:s.fn H (ds++gs)={ results:=[.lit (.bool true)],args:=ds }) (hos:W'.os=W.os) (hout:W'.output=W.output) (hb:∀b,b<W.heap.size->W'.heap[b]?=W.heap[b]?) :
 s.post enc P f apart fresh handsOn false W args (.bool true) W':=by
 have hlt:=hW.lt;have hW':=hW;obtain⟨p,q,hA,hV,rfl,_,_⟩:=hW;refine⟨ds,gs,p++q,[],p,[],hW',?_,?_,?_,yu4 _ hos hout hb,λh=>by cases h⟩
 ·rw[hs,hres];exact trodAll_mk1 ⟨1,by simp[DataW.trod,htb,Value.cells]⟩
 ·rw[hs];exact zp3 hl hb _ _ _ _ hrd hA (λx hx=>hlt x (Bq _ hx))
 ·rw[hs,hv0];exact rfl
end
theorem j2z{W:World}:RelH (λ_=>False) (λ_=>none) (look (up [])) W where
 inj _ _ _ _ _ h:=by cases h
 apart _ _ _ h:=by cases h
 old _ h:=h.elim
 obj _ _ _ h:=by cases h
 real _ _ h:=by cases h
theorem j0s{P:Program}{f:FuncId}{args:List IV}{R:Nat->Prop}(hsc:SC P f args [] R (iBool true) []){W:World}{vs:List Value}(hK:Kept W (owned (λ_=>False) λ_=>none))(hr:RepL (λ_=>False) (λ_=>none) (look (up [])) W args vs) :
 Calls P f vs.toArray W λe W'=>e=.returned (.bool true)/\W'.os=W.os/\W'.output=W.output/\∀b,b<W.heap.size->W'.heap[b]?=W.heap[b]?:=by
 refine(hsc (λ_=>False) (λ_=>none) W vs hK j2z hr).mono ?_;rintro e W' ⟨ρ',v,rfl,hv,_,t⟩;refine⟨?_,t.os,t.output,λb hb=>t.blk b hb λk c h=>by cases h⟩
 cases hv with
 |pv _ _ hp=>cases hp;rfl
theorem y64{b:Nat}:¬owned (λ_=>False) (λ_=>none) b:=by
 rintro(h|⟨_,_,h⟩)
 ·exact h
 ·cases h
end
section
open Go Go.ChangeShapes Go.WideShapes Go.ChangeAt Go.RowKit Go.Deep
section
variable {H:Type} {enc:TypeId×Value->H} {P:Program} {w:World} {base:Nat} {spare:Nat->Bool} {held:Bool}
theorem j04{own:Nat->Prop}(hown:∀b,b<w.heap.size -> ¬own b){t e:TypeId}{fuel:Nat}{cs:List Value}{x:DataW H×List MemPlace}(ht:P.underlying t=some (.slice e))(he:P.underlying e=some (.int .u8))(hC:P.cellsOf e=1)
 (h:DataW.trod enc P w base spare held fuel t cs=some x):∃(l:List UInt8)(v:Value),cs=[v]/\RepP own w (bts l) v:=by
 obtain⟨l,v,h1,h2,_⟩:=y9x eB (λ_=>0) hown ht hC dC0 h (λn cs' y _ _ hy=>by
  obtain⟨k,rfl,rfl,hk⟩:=G5 he hy;have hr:0<=k/\k<=255:=by
   simp[Lit.wf,IntKind.min,IntKind.max,IntKind.bits,IntKind.signed]at hk;omega
  refine⟨UInt8.ofNat k.toNat,?_,by simp[Rows.uptoBulk]⟩;have e:((UInt8.ofNat k.toNat).toNat:Int)=k:=by
   rw[UInt8.toNat_ofNat_of_lt' (by simp[UInt8.size];omega)];omega
  unfold eB;rw[e];exact RepEl.cons (.val _) .nil)
 exact⟨l,v,h1,h2⟩
end
set_option maxRecDepth 100000 in
theorem yv6{H:Type}{enc:TypeId×Value->H}{W:World}{base b0:Nat}{spare:Nat->Bool}{held:Bool}{r:Reach}{v:Value}{d:DataW H}{p:List MemPlace}(hv:Value.okWide Tryz.prog W r b0 22 v)
 (h:DataW.Trod enc Tryz.prog W base spare held 22 v d p):∃l:List UInt8,RepI (λ_=>False) (λ_=>none) (look (up [])) W (.pv (bts l)) v:=by
 obtain⟨a,len,cap,rfl⟩:=okWide_slice Tryz.underlying22 hv;obtain⟨fuel,hf⟩:=h;obtain⟨l,v',h1,h2⟩:=j04 (own:=owned (λ_=>False) (λ_=>none)) (λ_ _=>y64) Tryz.underlying22 Tryz.underlying5 kR0 hf;have e:(Value.slice a len cap).cells.toList=[Value.slice a len cap]:=rfl;rw[e]at h1
 cases h1
 exact⟨l,.pv _ _ h2⟩
theorem yi8{H:Type}{enc:TypeId×Value->H}{P:Program}{w:World}{base:Nat}{spare:Nat->Bool}{held:Bool}{own:Nat->Prop}(hown:∀b,b<w.heap.size -> ¬own b){t e:TypeId}{fuel:Nat}{cs:List Value}{x:DataW H×List MemPlace}(ht:P.underlying t=some (.slice e))(he:P.underlying e=some (.int .i64))(hC:P.cellsOf e=1)
 (h:DataW.trod enc P w base spare held fuel t cs=some x):∃(l:List Int)(v:Value),cs=[v]/\RepP own w (ints l) v/\P64 l:=by
 obtain⟨l,v,h1,h2,_⟩:=y9x (λz:{ k:Int // I64 k }=>eInt z.1) (λ_=>0) hown ht hC dC0 h (λn cs' y _ _ hy=>by
  obtain⟨k,rfl,rfl,hk⟩:=G5 he hy;have hr:I64 k:=by
   simp[Lit.wf,IntKind.min,IntKind.max,IntKind.bits,IntKind.signed]at hk;unfold I64;omega
  exact⟨⟨k,hr⟩,RepEl.cons (.val _) .nil,by simp[Rows.uptoBulk]⟩)
 refine⟨l.map λz=>z.1,v,h1,?_,λy hy=>?_⟩
 ·unfold ints;rw[Eg];exact h2
 ·obtain⟨z,_,rfl⟩:=Bz.1 hy;exact z.2
set_option maxRecDepth 100000 in
theorem j2k{H:Type}{enc:TypeId×Value->H}{W:World}{base b0:Nat}{spare:Nat->Bool}{held:Bool}{r:Reach}{v:Value}{d:DataW H}{p:List MemPlace}(hv:Value.okWide Tryz.prog W r b0 23 v)
 (h:DataW.Trod enc Tryz.prog W base spare held 23 v d p):∃l:List Int,P64 l/\RepI (λ_=>False) (λ_=>none) (look (up [])) W (.pv (ints l)) v:=by
 obtain⟨a,len,cap,rfl⟩:=okWide_slice Tryz.underlying23 hv;obtain⟨fuel,hf⟩:=h;obtain⟨l,v',h1,h2,h3⟩:=yi8 (own:=owned (λ_=>False) (λ_=>none)) (λ_ _=>y64) Tryz.underlying23 Tryz.underlying3 kR0 hf;have e:(Value.slice a len cap).cells.toList=[Value.slice a len cap]:=rfl;rw[e]at h1
 cases h1
 exact⟨l,h3,.pv _ _ h2⟩
set_option maxRecDepth 100000 in
theorem open_u8{H:Type}{enc:TypeId×Value->H}{W:World}{base b0:Nat}{spare:Nat->Bool}{held:Bool}{r:Reach}{v:Value}{d:DataW H}{p:List MemPlace}(hv:Value.okWide Tryz.prog W r b0 5 v)
 (h:DataW.Trod enc Tryz.prog W base spare held 5 v d p):∃n:Int,0<=n/\n<=255/\RepI (λ_=>False) (λ_=>none) (look (up [])) W (.pv (.val (.int .u8 n))) v:=by
 obtain⟨n,rfl⟩:=okWide_int Tryz.underlying5 hv;obtain⟨fuel,hf⟩:=h;obtain⟨k,h1,_,hk⟩:=G5 Tryz.underlying5 hf;have e:(Value.int IntKind.u8 n).cells.toList=[Value.int IntKind.u8 n]:=rfl;rw[e]at h1
 cases h1
 have hr:0<=n/\n<=255:=by
  simp[Lit.wf,IntKind.min,IntKind.max,IntKind.bits,IntKind.signed]at hk;omega
 exact⟨n,hr.1,hr.2,.pv _ _ (.val _)⟩
theorem yw0{F:Nat->Prop}{ρ:Loc}{σ:Heap'}{w:World}{x y z:IV}{a b c:Value}(h1:RepI F ρ σ w x a)(h2:RepI F ρ σ w y b)(h3:RepI F ρ σ w z c):RepL F ρ σ w [x,y,z] [a,b,c]:=by
 refine⟨rfl,λj q hj=>?_⟩
 match j,hj with
 |0,hj=>simp at hj;subst hj;exact⟨a,rfl,h1⟩
 |1,hj=>simp at hj;subst hj;exact⟨b,rfl,h2⟩
 |2,hj=>simp at hj;subst hj;exact⟨c,rfl,h3⟩
 |j+3,hj=>simp at hj
def j1x:List (String×DataW Unit):=Rows.sameLoopsRow.laid
theorem tab_of{P:Program}{W:World}{name:String}{k:IntKind}{zs:List Int}{rest:List (String×DataW Unit)}{g:Nat}{t e:TypeId}{n:Nat}{ps:List MemPlace}
 (hg:P.globalNamed name=some g) (hty:(P.globals[g]?).map (·.type)=some t) (ht:P.underlying t=some (.array n e)) (he:P.underlying e=some (.int k)) (hce:P.cellsOf e=1) (hct:P.cellsOf t=n)
 (h:DataW.LaidVars P W ((name,Lib.tabData k zs)::rest) ps):W.var? P name=some (zs.map λz=>Value.int k z).toArray:=by
 obtain⟨g',t',cs,fuel,p,q,hg',ht',hvar,hd,_,_⟩:=h;obtain rfl:=C0 (hg.symm.trans hg');obtain rfl:=C0 (hty.symm.trans ht');rw[hvar,<- Lib.cells_of_tab ht he hce hct hd]
theorem kept_of{W:World}(h:laidMet Tryz.prog j1x W):Kept W (owned (λ_=>False) λ_=>none):=by
 obtain⟨ps,⟨_,_,_,_,_,_,_,_,_,_,⟨_,_,_,_,_,_,_,_,_,_,h3,_⟩,_⟩,_⟩:=h;intro e he;simp only[tabs,Al]at he;subst he;refine⟨?_,y64⟩;have h4:=tab_of (P:=Tryz.prog) (name := "internal/strconv.uint64pow10") (k:=.u64) (zs:=Lib.pow10Tab) (g:=0) (t:=286) (e:=237) (n:=20) kR0 kR0 Tryz.underlying286 Tryz.underlying237 kR0 kR0 h3;unfold World.var? at h4;rw[show Tryz.prog.globalNamed "internal/strconv.uint64pow10" = some 0 by kernel_rfl]at h4;dsimp only[Option.bind_some,Option.bind]at h4;split at h4
 ·rename_i cs T f hh
  cases h4
  exact⟨T,f,hh⟩
 ·cases h4
def j4s(k:IntKind)(zs:List Int):Obj->Obj
 |.cells _ t frozen=>.cells (zs.map λz=>Value.int k z).toArray t frozen
 |o=>o
def zsOf:DataW Unit->List Int
 |.agg l=>l.map λ
  |.lit (.int _ z)=>z
  |_=>0
 |_=>[]
noncomputable def laidWorld(os:Os):World :=
 let w0:=World.holding Tryz.prog os ⟨#[],#[],[]⟩
 { w0 with heap:=((w0.heap.modify 1 (j4s .u8 (zsOf Rows.laid_math_bits_deBruijn32tab))).modify 2 (j4s .u8 (zsOf Rows.laid_math_bits_deBruijn64tab))).modify 0 (j4s .u64 Lib.pow10Tab) }
set_option maxRecDepth 100000 in
theorem y5p(os:Os)(args:Array Value):laidMet Tryz.prog j1x ((laidWorld os).forCall (λ_ _=>0) ⟨#[],args,[]⟩).memory :=
 laidMet_of_run' 8 kR0 kR0
end
section
open Go Go.ChangeShapes Go.WideShapes Go.ChangeAt Go.RowKit Go.Deep
set_option maxRecDepth 100000 in
theorem zj6(hsc:∀(l:List UInt8)(ins:List Int),P64 ins->∀(n:Int),0<=n/\n<=255->SC Tryz.prog 3 [.pv (bts l),.pv (ints ins),.pv (.val (.int .u8 n))] [] (λk=>k∈[]) (iBool true) [])(os:Os)(started:os.Started)(H:Type)(enc:TypeId×Value->H) :
 ReturnsInHanded {} Tryz.checked os 3 .any (λw args=>(Rows.sameProgramsSpec.pre enc Tryz.prog Tryz.f3 Rows.sameProgramsRow.domain false w args/\laidMet Tryz.prog j1x w)/\sizedMet enc Tryz.prog Tryz.f3 (OpenSpec.ofChange Rows.sameProgramsSpec) false w args) (Rows.sameProgramsSpec.post enc Tryz.prog Tryz.f3 false true false false):=by
 refine returnsInHanded_of_change_and (C:=Tryz.checked) (X:=λw _=>laidMet Tryz.prog j1x w) (λ_ _ _ hh h=>h.of_heap hh) Tryz.own started kR0 Tryz.func3
  (ChangeSpec.witness_at (enc:=enc) (C:=Tryz.checked) (os:=os) (X:=λw _=>laidMet Tryz.prog j1x w) false (laidWorld os) #[.slice none 0 0,.slice none 0 0,.int .u8 0] 8 rfl kR0 kR0 kR0 kR0 kR0 (y5p os _)) ?_
 intro W base args ds gs before hval0 hW _ _ hL _;have hval:∀(j:Nat) t v,Tryz.f3.params[j]?=some t->args[j]?=some v->Value.okWide Tryz.prog W .any base t v:=hval0;clear hval0;have hW':=hW;obtain⟨p,q,hA0,hV,rfl,hfz,hnd⟩:=hW;have hA:DataW.TrodAll enc Tryz.prog W 0 (λ_=>true) true Tryz.f3.params.toList args.toList ds p:=hA0;rw[Tryz.params3]at hA hval;obtain⟨v0,vs0,d0,ds0,p0,q0,hargs,rfl,rfl,h0,r0⟩:=trodAll_cons hA;obtain⟨v1,vs1,d1,ds1,p1,q1,rfl,rfl,rfl,h1,r1⟩:=trodAll_cons r0;obtain⟨v2,vs2,d2,ds2,p2,q2,rfl,rfl,rfl,h2,r2⟩:=trodAll_cons r1;obtain⟨rfl,rfl,rfl⟩:=trodAll_nil r2;obtain rfl:args = #[v0,v1,v2]:=by cases args;simp_all
 obtain⟨rfl,rfl⟩:=trodVars_none hV;obtain⟨l,hu⟩:=yv6 (hval 0 22 v0 rfl rfl) h0;obtain⟨ins,hi64,hi⟩:=j2k (hval 1 23 v1 rfl rfl) h1;obtain⟨n,hn0,hn1,hn⟩:=open_u8 (hval 2 5 v2 rfl rfl) h2;refine(j0s (hsc l ins hi64 n ⟨hn0,hn1⟩) (kept_of hL) (yw0 hu hi hn)).mono ?_;rintro e W' ⟨rfl,hos,hout,hbl⟩;exact⟨_,rfl,j2s Tryz.laidOut rfl hW' (λt ht=>by
  have ht':t∈Tryz.f3.params.toList:=ht;rw[Tryz.params3]at ht';have ht2:t=22∨t=23∨t=5:=by simpa using ht'
  rcases ht2 with rfl|rfl|rfl<;>exact⟨by kernel_rfl,Ap kR0⟩) kR0 Tryz.underlying4 rfl hos hout hbl⟩
set_option maxRecDepth 100000 in
theorem y1v(hsc:∀(l:List UInt8)(ins:List Int),P64 ins->∀(n:Int),0<=n/\n<=255->SC Tryz.prog 3 [.pv (bts l),.pv (ints ins),.pv (.val (.int .u8 n))] [] (λk=>k∈[]) (iBool true) []):Rows.SameProgramsSaid :=
 OpenClaim.holds_of_wide 3 Tryz.f3 rfl rfl rfl rfl rfl rfl rfl ⟨rfl,rfl,rfl,rfl,rfl⟩ rfl rfl rfl rfl rfl kR0 Tryz.func3 kR0
  (Ap kR0) (by unfold Func.isWrapper;first|(rw[A5 (by decide +kernel)];kernel_rfl)|(rw[A1 (by decide +kernel)];exact⟨rfl,rfl⟩))
  (λos started H enc _=>zj6 hsc os started H enc)
end
theorem zn8:Rows.SameProgramsSaid:=y1v λl ins hi n hn=>y1x l ins hi n hn
theorem sameProgramsCard_holds:Rows.SameProgramsCardSaid :=
 Claim7.holds_tied_plain_at .later [] [.data,.data,.data] true (true, "244c884938960747ccae1b2fb6e9b94bfeaaa023d621776261fad47c01e442b2") true
  zn8 (λ_ h=>by cases h) kR0 (λ_ h=>by cases h) samePrograms_row_tie rfl ⟨rfl,rfl⟩ kR0 rfl
  (λf fn hf hfn=>by
   obtain rfl:f=3:=C0 ((show Tryz.prog.funcNamed "boxhedge/boxhedgelaw13.SamePrograms" = some 3 by kernel_rfl).symm.trans hf) |>.symm;obtain rfl:fn=Tryz.f3:=(C0 (Tryz.func3.symm.trans hfn)).symm;exact⟨by kernel_rfl,λj t ht=>by
    rw[Tryz.params3]at ht;have hm:t∈[22,23,5]:=by
     have:=Array.mem_of_getElem? ht;simpa using this
    have hall:([22,23,5].all λu=>!Tryz.prog.wantsStandIn u)=true:=by kernel_rfl
    exact(show Tryz.prog.wantsStandIn t=false by simpa using Bj.1 hall t hm)⟩)
  kR0
end Go.Proofs.YtjlaalpfpecikaaGreatDoor
