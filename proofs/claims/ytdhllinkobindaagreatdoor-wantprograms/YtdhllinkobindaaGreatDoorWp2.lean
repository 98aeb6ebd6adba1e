/- PART 2 of 9 of a proof: see the last part. -/
import Derived.Test.YtdhllinkobindaaGreatDoorWp1
set_option maxRecDepth 20000
set_option maxHeartbeats 8000000
set_option linter.unusedSimpArgs false
set_option linter.unusedVariables false
set_option linter.unusedSectionVars false
namespace Go.Proofs.YtdhllinkobindaaGreatDoor
open Go
section
variable {P:Program} {c:Cx} {R1:Nat->Prop} {o:Oper} {fr:Fr} {hp:Hp}
theorem ok_box1{t:TypeId}{x:Operand}{p:PV}{σ:Heap'}(ho:o.op=.box t x)(hx:fr.ev x=some (.pv p))(h1:p.one=true):Ok P c o fr σ (.pv (.ept [p] 0)) σ:=by
 intro ρ w a K Q h hK;have hr:=h.ev hx;have hone:=RepI.one hr (show(IV.pv p).firm σ from h1);generalize hv:a.eval x=v at hr hone
 cases hr with
 |pv _ _ hr =>
  have hcells:v.cells = #[v]:=by cases v<;>first|rfl|cases hone
  have hrun:(execOp a.eval o).run P w=.ok (.value (.pointer (some ⟨w.heap.size,0,none⟩))) (w.alloc (.cells #[v] t)):=by
   have hn:(newVar t v).run P w=.ok ⟨w.heap.size,0,none⟩ (w.alloc (.cells v.cells t)):=rfl;rw[hcells]at hn;simp only[execOp,ho,hv,Instr.box,Ai,hn,As];rfl
  unfold Oper.wp;rw[hrun];obtain⟨h3,keep⟩:=h.push (.cells #[v] t);refine hK ρ _ _ h3 (.pv _ _ (.ept [p] 0 w.heap.size 0 (λ_=>v) ⟨h.fresh,by simp⟩ (λj z hj=>?_) λj z hj=>?_))
  ·have h0:j=0:=by have:=(A7.1 hj).1;simp at this;exact this
   subst h0;rw[z4v (z2y w _)];rfl
  ·have h0:j=0:=by have:=(A7.1 hj).1;simp at this;exact this
   subst h0;simp only[Cr,Co]at hj;subst hj;exact keep _ _ hr
theorem yt4{t:TypeId}{x:Operand}{k:Nat}{z:IV}(ho:o.op=.box t x)(hx:fr.ev x=some z)(hz:z.firm (look hp))(hσ:look hp k=none)(hc:c.σ k=none)(hfr:nmFr k fr=false)(hhp:nmHp k hp=false)(hcs:nm k z=false) :
 Ok P c o fr (look hp) (.ptr k 0) (look ((k,some (.box [z]))::hp)):=by
 intro ρ w a K Q h hK;have hr:=h.ev hx;have hone:=RepI.one hr hz;generalize hv:a.eval x=v at hr hone;have hcells:v.cells = #[v]:=by cases v<;>first|rfl|cases hone
 have hrun:(execOp a.eval o).run P w=.ok (.value (.pointer (some ⟨w.heap.size,0,none⟩))) (w.alloc (.cells #[v] t)):=by
  have hn:(newVar t v).run P w=.ok ⟨w.heap.size,0,none⟩ (w.alloc (.cells v.cells t)):=rfl;rw[hcells]at hn;simp only[execOp,ho,hv,Instr.box,Ai,hn,As];rfl
 unfold Oper.wp;rw[hrun];refine hK (z15 ρ k (some (w.heap.size,1))) _ _ (h.alloc hσ hc hfr hhp 1 _ _ λkeep _=>?_) (.ptr _ _ _ λcs' _=>⟨w.heap.size,1,z0a,rfl⟩);refine .box _ t #[v] (λ_=>v) (z2y w _) (Ae _) (λj x hj=>?_) λj x hj=>?_
 ·have h0:j=0:=by have:=(A7.1 hj).1;simp at this;exact this
  subst h0;rfl
 ·have h0:j=0:=by have:=(A7.1 hj).1;simp at this;exact this
  subst h0;simp only[Cr,Co]at hj;subst hj;exact keep _ _ hr hcs
theorem y8l{t e:TypeId}{x y:Operand}{k off n s i:Nat}{m:Int}{cs:List IV}{kk:IntKind}(ho:o.op=.indexAddr t x y)(hx:fr.ev x=some (.ptr k off))(hy:fr.ev y=some (.pv (.val (.int kk m))))(hk:look hp k=some (.box cs))
 (hu:P.underlying t=some (.array n e)) (hs:(P.info? e).map (·.size)=some s) (hm:m=i) (hi:i<n):OkV P c R1 o fr (look hp) (.ptr k (off+i*s)):=by
 subst hm;intro ρ w a h;obtain⟨b,cc,e',r,u,hv,hρ,h3,h4,h5,h6⟩:=h.box hx hk;refine⟨.pointer (some ⟨b,off+i*s,none⟩),λw2 _=>?_,.ptr _ _ _ λcs' _=>⟨b,cc,hρ,rfl⟩⟩;have hs':=z18 hs w2;have h0:(0:Int)<=i/\(i:Int)<n:=by omega
 simp[execOp,ho,hv,z0u h hy,Instr.indexAt,Ai,asIntOf,B6 hu,Instr.sureAddr,h0,hi,hs',Addr.add]
theorem y8h{t e:TypeId}{n s:Nat}{parts:Array (Nat×Operand)}{xs:List (Nat×IV)}{z:Value}{out:List IV}{σ:Heap'}(ho:o.op=.build t parts)(hx:z4w fr parts.toList=some xs)
 (hz:((P.info? t).bind (·.zero))=some z) (hu:P.underlying t=some (.array n e)) (hs:(P.info? e).map (·.size)=some s) (hf:z6h (λi=>some (i*s,s)) (z71 z) xs=some out) (hfirm:z6i σ xs):OkV P c R1 o fr σ (.agg out):=by
 intro ρ w a h;have hzv:∀w,(zeroValue t).run P w=.ok z w:=λw=>by
  cases hq:P.info? t with
  |none=>simp[hq]at hz
  |some i=>simp[hq]at hz;simp[zeroValue,typeInfo,hq,hz]
 obtain⟨hl,hv⟩:=z7g h hx;obtain⟨vs,h1,h2⟩:=zk5 (yb1 c.F ρ σ w z) hl (λj i x hj=>by
  obtain⟨v,h3,h4⟩:=hv j i x hj;exact⟨v,h3,h4,hfirm _ (Ag hj)⟩) hf
 have hparts:(parts.map λ(i,x)=>(i,a.eval x)).toList=parts.toList.map λp=>(p.1,a.eval p.2):=by simp
 refine⟨.agg vs,λw2 _=>?_,.agg _ _ (λj=>vs.getD j undef) h2.1 (λj x hj=>?_) λj x hj=>?_⟩
 ·have hso:=z18 hs w2;simp only[execOp,ho,Instr.build,Ai,hzv,B6 hu,hso,As,hparts,h1];rfl
 ·obtain⟨v,h3,_⟩:=h2.2 j x hj;simp[h3,Aw]
 ·obtain⟨v,h3,h4⟩:=h2.2 j x hj;simp only[Aw,h3,Cf];exact h4
end
def idxP{α:Type}(p:α -> Bool):List α -> Int->Int
 |[],_=>-1
 |x::r,i=>if p x then i else idxP p r (i+1)
theorem z6c{α:Type}(p:α -> Bool):∀(l:List α)(i:Int),0<=i->decide (idxP p l i≥0)=l.any p
 |[],_,_=>rfl
 |x::r,i,hi=>by
  unfold idxP
  cases hx:p x with
  |true=>simp[hx,hi]
  |false=>simp[hx,z6c p r (i+1) oM0]
def eqGo{S:Type}(p:S->Int->Int->Bool×S):S->List Int->List Int->Bool×S
 |s,x::a,y::b=>if (p s x y).1 then eqGo p (p s x y).2 a b else(false,(p s x y).2)
 |s,_,_=>(true,s)
def eqf{S:Type}(p:S->Int->Int->Bool×S)(s:S)(a b:List Int):Bool×S:=if (a.length:Int)=b.length then eqGo p s a b else(false,s)
theorem zw1:∀l:List Nd,z0i l=l.any z3f
 |[]=>rfl
 |x::r=>by simp[z0i,zw1 r]
theorem zm7:∀l:List (List Nd),z34 l=l.any z0i
 |[]=>rfl
 |x::r=>by simp[z34,zm7 r]
def z8b(l:List Nd):Bool:=match l.getLast? with
 |some x=>x.kind==12
 |none=>false
theorem y2f(l:List Nd):(z2i l != 12) = !z8b l:=by
 unfold z2i z8b
 cases l.getLast? with
 |none=>rfl
 |some x =>
  simp only[z0v]
  by_cases h:x.kind=12
  ·simp[h]
  ·have hb:(x.kind==12)=false:=by simpa using h
   by_cases h2:(decide (x.kind≥12)&&decide (x.kind<=15))=true
   ·simp only[h2,C8,bne,hb]
   ·simp[h2,h]
theorem y3v(name:ByteArray):∀(l:List Fl)(i:Int),idxP (λf:Fl=>f.name.toList==name.toList) l i=z05 name l i
 |[],_=>rfl
 |f::r,i=>by
  unfold idxP z05 eqS;rw[y3v name r]
theorem y1f(name:ByteArray):∀(l:List Ar)(i:Int),0<=i->decide (z0h name l i≥0)=l.any (λa:Ar=>a.name.toList==name.toList)
 |[],_,_=>rfl
 |f::r,i,hi=>by
  have ih:=y1f name r (i+1) oM0;rw[List.any_cons,<- ih];rw[show z0h name (f::r) i=if (f.name.toList==name.toList)=true then i else z0h name r (i+1)from rfl]
  by_cases h:(f.name.toList==name.toList)=true
  ·rw[if_pos h,h];simp[hi]
  ·rw[if_neg h,(by simpa using h:(f.name.toList==name.toList)=false)];simp
def isTy(t:Int):Bool:=t==1||t==2
def z38(op:Int):Int×Int :=
 if op==22 then(2,2)else if op==16||op==17 then(0,2)else if decide (op≥12)&&decide (op<=15)then(1,2)else(1,1)
def wSigns:List ByteArray:=[⟨#[]⟩,⟨#[43]⟩,⟨#[45]⟩,⟨#[42]⟩,⟨#[47]⟩,⟨#[37]⟩,⟨#[38]⟩,⟨#[124]⟩,⟨#[94]⟩,⟨#[60,60]⟩,⟨#[62,62]⟩,⟨#[62,62,62]⟩,⟨#[60]⟩,⟨#[60,61]⟩,⟨#[62]⟩,⟨#[62,61]⟩,⟨#[61,61]⟩,⟨#[33,61]⟩,⟨#[38,38]⟩,⟨#[124,124]⟩,⟨#[45]⟩,⟨#[126]⟩,⟨#[33]⟩,⟨#[105,56]⟩,⟨#[105,49,54]⟩,⟨#[105,51,50]⟩,⟨#[117,56]⟩,⟨#[117,49,54]⟩,⟨#[117,51,50]⟩]
def zp7(op:Int):ByteArray:=if op<0||op≥29 then⟨#[]⟩else wSigns.getD op.toNat ⟨#[]⟩
def levelTab:List Int:=[0,9,9,10,10,10,5,3,4,8,8,8,7,7,7,7,6,6,2,1,0,0,0,0,0,0,0,0,0]
def z4j(op:Int):Int:=if op<0||op≥29 then 0 else levelTab.getD op.toNat 0
theorem j05{op:Int}(h0:0<=op)(h1:op<29):op=0∨op=1∨op=2∨op=3∨op=4∨op=5∨op=6∨op=7∨op=8∨op=9∨op=10∨op=11∨op=12∨op=13∨op=14∨op=15∨op=16∨op=17∨op=18∨op=19∨op=20∨op=21∨op=22∨op=23∨op=24∨op=25∨op=26∨op=27∨op=28:=by omega
def ckS(u:Un)(f:Fl)(it:TypeId)(st:List Int):List (Nat×HO):=[(3,.box (y5f u f (st.map eInt).length)),(4,.row ⟨it,1⟩ (st.map eInt))]
def z93(tys:List Int)(v t:Int):Bool:=decide (0<=v)&&decide (v<tys.length)&&(t==0||tys.getD v.toNat 0==t)
def zt5(tys:List Int)(st:List Int)(v t:Int):Bool×List Int:=(z93 tys v t&&st.getD v.toNat 0==1,st)
def z5t(tys:List Int)(st:List Int)(v t:Int):Bool×List Int:=if z93 tys v t&&st.getD v.toNat 0==0 then(true,st.set v.toNat 1)else(false,st)
def z0w(tys st l want:List Int):Bool:=(eqf (zt5 tys) st l want).1
def z1r(tys st l want:List Int):Bool×List Int:=eqf (z5t tys) st l want
def z3l(st l:List Int):List Int:=l.foldl (λs v=>s.set v.toNat 2) st
theorem z9t(tys st:List Int)(v t:Int):(z5t tys st v t).2.length=st.length:=by
 unfold z5t;split<;>simp
theorem zh2(tys:List Int):∀(a b st:List Int),(eqGo (z5t tys) st a b).2.length=st.length
 |[],_,st=>by simp[eqGo]
 |_::_,[],st=>by simp[eqGo]
 |x::a,y::b,st=>by
  simp only[eqGo];split
  ·rw[zh2 tys a b,z9t]
  ·exact z9t ..
theorem z2d(tys st a b:List Int):(z1r tys st a b).2.length=st.length:=by
 unfold z1r eqf;split
 ·exact zh2 ..
 ·rfl
theorem z4r:∀(l st:List Int),(z3l st l).length=st.length
 |[],st=>rfl
 |v::r,st=>by
  have:=z4r r (st.set v.toNat 2);simpa[z3l]using this
theorem y51(tys:List Int):∀(a b st:List Int),a.length=b.length->(eqGo (z5t tys) st a b).1=true->∀v∈a,0<=v/\v<tys.length
 |[],_,st,_,_,v,hv=>by simp at hv
 |_::_,[],_,hl,_,_,_=>by simp at hl
 |x::a,y::b,st,hl,h,v,hv=>by
  simp only[eqGo]at h;split at h
  ·rename_i h1;rcases Ao.1 hv with rfl|hv
   ·unfold z5t at h1;split at h1
    ·rename_i h2;simp only[z93,A0,Bj]at h2;exact⟨h2.1.1.1,h2.1.1.2⟩
    ·cases h1
   ·exact y51 tys a b _ (by simpa using hl) h v hv
  ·cases h
theorem y2c{tys st a b:List Int}(h:(z1r tys st a b).1=true):∀v∈a,0<=v/\v<tys.length:=by
 unfold z1r eqf at h;split at h
 ·exact y51 tys a b st oM0 h
 ·cases h
def ckSp(u:Un)(f:Fl)(it:TypeId)(q:Nat)(st:List Int):List (Nat×HO):=(q,.box [.ptr 3 0])::ckS u f it st
def andP{S:Type}(b:Bool)(s:S)(r:Bool×S):Bool×S:=if b then r else(false,s)
def andQ{S:Type}(r:Bool×S)(k:S->Bool×S):Bool×S:=if r.1 then k r.2 else(false,r.2)
theorem yy0{tys st a b:List Int}(h:z0w tys st a b=true):a.length=b.length:=by
 unfold z0w eqf at h;split at h
 ·omega
 ·cases h
theorem yy1{tys st l:List Int}{t:Int}(h:z0w tys st l [t,t]=true):∃a b,l=[a,b]/\a=(a.toNat:Int)/\a.toNat<tys.length/\b=(b.toNat:Int)/\b.toNat<tys.length:=by
 have hl:=yy0 h
 match l,hl with
 |[a,b],_ =>
  unfold z0w eqf at h;simp only[A1,A6,C8,eqGo]at h;split at h
  ·rename_i h1;split at h
   ·rename_i h2;simp only[zt5,z93,A0,Bj]at h1 h2;exact⟨a,b,rfl,by omega,by omega,by omega,by omega⟩
   ·cases h
  ·cases h
def y9t(f:Fl)(st:List Int)(x:Nd):Bool×List Int :=
 if x.kind==3 then andP (z2w x.op&&z0w f.types st x.args [(z38 x.op).1]) st (z1r f.types st x.outs [(z38 x.op).2])
 else andP (decide (z4j x.op > 0)&&decide (x.op<=17)&&z0w f.types st x.args [(z38 x.op).1,(z38 x.op).1]&&f.types.getD (x.args.getD 0 0).toNat 0==f.types.getD (x.args.getD 1 0).toNat 0) st (z1r f.types st x.outs [(z38 x.op).2])
def y9q(f:Fl)(st:List Int)(x:Nd)(w:Wh):Bool :=
 if x.kind==12 then(x.outs.length:Int)==0&&w.If&&z0w f.types st x.args w.Yield
 else if x.kind==13 then(x.outs.length:Int)==0&&w.Loop&&z0w f.types st x.args w.Next
 else if x.kind==14 then(x.outs.length:Int)==0&&w.Loop&&z0w f.types st x.args w.Left
 else(x.outs.length:Int)==0&&z0w f.types st x.args [f.ty]
def zx4(u:Un)(f:Fl)(st:List Int)(x:Nd):Bool×List Int :=
 if z05 x.name u.flows 0<0 then(false,st)else
  match u.flows[(z05 x.name u.flows 0).toNat]? with
  |some g=>andP (z0w f.types st x.args (g.types.take g.params.toNat)) st (z1r f.types st x.outs [g.ty])
  |none=>(false,st)
def z2l(u:Un)(f:Fl)(st:List Int)(x:Nd):Bool×List Int :=
 if x.kind==1 then andP (z0w f.types st x.args []) st (z1r f.types st x.outs [1])
 else if x.kind==2 then andP ((x.n==0||x.n==1)&&z0w f.types st x.args []) st (z1r f.types st x.outs [2])
 else if x.kind==3||x.kind==4 then y9t f st x
 else if x.kind==5 then andP (decide (z0h x.name u.arrays 0≥0)&&z0w f.types st x.args [1]) st (z1r f.types st x.outs [1])
 else if x.kind==6 then andP (decide (z0h x.name u.arrays 0≥0)&&z0w f.types st x.args [1,1]) st (z1r f.types st x.outs [])
 else if x.kind==8 then andP (z0w f.types st x.args []) st (z1r f.types st x.outs [1])
 else if x.kind==9 then andP (z0w f.types st x.args [1]) st (z1r f.types st x.outs [])
 else if x.kind==7 then zx4 u f st x
 else(false,st)
theorem z96{b:Bool}{st:List Int}{r:Bool×List Int}(h:r.2.length=st.length):(andP b st r).2.length=st.length:=by
 unfold andP;split
 ·exact h
 ·rfl
theorem y9u(f:Fl)(st:List Int)(x:Nd):(y9t f st x).2.length=st.length:=by
 unfold y9t;split<;>exact z96 (z2d ..)
theorem y72(u:Un)(f:Fl)(st:List Int)(x:Nd):(zx4 u f st x).2.length=st.length:=by
 unfold zx4;split
 ·rfl
 ·split
  ·exact z96 (z2d ..)
  ·rfl
theorem y2d(u:Un)(f:Fl)(st:List Int)(x:Nd):(z2l u f st x).2.length=st.length:=by
 unfold z2l
 repeat' split
 all_goals first
  |exact z96 (z2d ..)
  |exact y9u ..
  |exact y72 ..
  |rfl
def z4g(f:Fl)(x:Nd)(st:List Int):Bool×List Int:=andP ((x.outs.length:Int)==0 || !z08 x) st (z1r f.types st x.outs (List.replicate x.outs.length 0))
def z4f(st:List Int)(l:List Nd):List Int:=l.foldl (λs x=>z3l s x.outs) st
def y9r(l:List Nd)(s:List Int):Bool×List Int:=(decide ((l.length:Int) > 0),z4f s l)
mutual
def z5y(u:Un)(f:Fl)(deep:Int)(w:Wh)(st:List Int):Nd->Bool×List Int
 |.mk kind op n name args outs params kids =>
  if !z1j (.mk kind op n name args outs params kids)then(false,st)
  else if kind==10 then
   match kids with
   |a::b::_ =>
    if z0w f.types st args [2]then
     andQ (andQ (shGo u f (deep+1) ⟨true,w.Loop,r8of f.types outs,w.Next,w.Left⟩ st a) (y9r a)) λs1 =>
     andQ (andQ (shGo u f (deep+1) ⟨true,w.Loop,r8of f.types outs,w.Next,w.Left⟩ s1 b) (y9r b)) λs2 =>
     z4g f (.mk kind op n name args outs params kids) s2
    else(false,st)
   |_=>(false,st)
  else if kind==11 then
   if z0w f.types st args (r8of f.types params)then
    andQ (z1r f.types st params (List.replicate params.length 0)) λs1 =>
    match kids with
    |a::_ =>
     andQ (andQ (shGo u f (deep+1) ⟨false,true,[],r8of f.types params,r8of f.types outs⟩ s1 a) (y9r a)) λs2 =>
     z4g f (.mk kind op n name args outs params kids) (z3l s2 params)
    |_=>(false,s1)
   else(false,st)
  else if z0v kind then(y9q f st (.mk kind op n name args outs params kids) w,st)
  else z2l u f st (.mk kind op n name args outs params kids)
def shGo(u:Un)(f:Fl)(deep:Int)(w:Wh)(st:List Int):List Nd->Bool×List Int
 |[]=>(true,st)
 |x::r =>
  if deep > 100 then(false,st)
  else andQ (z5y u f deep w st x) λs1 =>
   if z08 x != r.isEmpty then(false,s1)
   else shGo u f deep w s1 r
end
def z25(u:Un)(f:Fl)(deep:Int)(w:Wh)(st:List Int)(l:List Nd):Bool×List Int:=andQ (shGo u f deep w st l) (y9r l)
theorem z3o{r:Bool×List Int}{k:List Int->Bool×List Int}{n:Nat}(h1:r.2.length=n)(h2:∀s,s.length=n->(k s).2.length=n):(andQ r k).2.length=n:=by
 unfold andQ;split
 ·exact h2 _ h1
 ·exact h1
theorem z6y:∀(l:List Nd)(st:List Int),(z4f st l).length=st.length
 |[],_=>rfl
 |x::r,st=>by
  have:=z6y r (z3l st x.outs);rw[z4r]at this;simpa[z4f]using this
theorem zo5{f:Fl}{x:Nd}{st:List Int}{n:Nat}(h:st.length=n):(z4g f x st).2.length=n:=(z96 (z2d ..)).trans h
theorem z8a{l:List Nd}{s:List Int}{n:Nat}(h:s.length=n):(y9r l s).2.length=n:=(z6y l s).trans h
mutual
theorem zo4(u:Un)(f:Fl):∀(x:Nd)(deep:Int)(w:Wh)(st:List Int),(z5y u f deep w st x).2.length=st.length
 |.mk kind op n name args outs params kids,deep,w,st=>by
  unfold z5y;split
  ·rfl
  split
  ·match kids with
   |[]=>rfl
   |[_]=>rfl
   |a::b::_ =>
    simp only;split
    ·exact z3o (z3o (z7z u f a ..) λs hs=>z8a hs) λs hs=>z3o (z3o ((z7z u f b ..).trans hs) λs hs=>z8a hs) λs hs=>zo5 hs
    ·rfl
  split
  ·split
   ·refine z3o (z2d ..) λs hs=>?_
    match kids with
    |[]=>exact hs
    |a::_=>exact z3o (z3o ((z7z u f a ..).trans hs) λs hs=>z8a hs) λs hs=>zo5 ((z4r ..).trans hs)
   ·rfl
  split
  ·rfl
  ·exact y2d ..
theorem z7z(u:Un)(f:Fl):∀(l:List Nd)(deep:Int)(w:Wh)(st:List Int),(shGo u f deep w st l).2.length=st.length
 |[],_,_,_=>by simp[shGo]
 |x::r,deep,w,st=>by
  unfold shGo;split
  ·rfl
  ·refine z3o (zo4 u f x ..) λs hs=>?_;split
   ·exact hs
   ·exact(z7z u f r ..).trans hs
end
theorem z9r(u:Un)(f:Fl)(deep:Int)(w:Wh)(st:List Int)(l:List Nd):(z25 u f deep w st l).2.length=st.length:=z3o (z7z ..) λ_ h=>z8a h
theorem zj7(u:Un)(f:Fl)(deep:Int)(w:Wh)(st:List Int){x:Nd}(h:z1j x=false):z5y u f deep w st x=(false,st):=by
 cases x;unfold z5y;simp[h]
theorem y2b(u:Un)(f:Fl)(deep:Int)(w:Wh)(st:List Int){x:Nd}{a b:List Nd}(h:z1j x=true)(hk:x.kind=10)(hx:x.kids=[a,b]) :
 z5y u f deep w st x=if z0w f.types st x.args [2]then andQ (z25 u f (deep+1) ⟨true,w.Loop,r8of f.types x.outs,w.Next,w.Left⟩ st a) (λs1=>andQ (z25 u f (deep+1) ⟨true,w.Loop,r8of f.types x.outs,w.Next,w.Left⟩ s1 b) λs2=>z4g f x s2)else(false,st):=by
 cases x
 simp only[Nd.kind,Nd.kids]at hk hx;subst hk hx;unfold z5y;simp only[h,F5,Ap,By,Nd.args,Nd.outs];rfl
theorem zj8(u:Un)(f:Fl)(deep:Int)(w:Wh)(st:List Int){x:Nd}{a:List Nd}(h:z1j x=true)(hk:x.kind=11)(hx:x.kids=[a]) :
 z5y u f deep w st x=if z0w f.types st x.args (r8of f.types x.params)then andQ (z1r f.types st x.params (List.replicate x.params.length 0)) (λs1=>andQ (z25 u f (deep+1) ⟨false,true,[],r8of f.types x.params,r8of f.types x.outs⟩ s1 a) λs2=>z4g f x (z3l s2 x.params))else(false,st):=by
 cases x
 simp only[Nd.kind,Nd.kids]at hk hx;subst hk hx;unfold z5y;simp only[h,F5,Ap,By,Nd.args,Nd.outs,Nd.params];rfl
theorem zt4(u:Un)(f:Fl)(deep:Int)(w:Wh)(st:List Int){x:Nd}(h:z1j x=true)(h1:(x.kind==10)=false)(h2:(x.kind==11)=false)(h3:z0v x.kind=true):z5y u f deep w st x=(y9q f st x w,st):=by
 cases x
 simp only[Nd.kind]at h1 h2 h3;unfold z5y;simp[h,h1,h2,h3]
theorem z9s(u:Un)(f:Fl)(deep:Int)(w:Wh)(st:List Int){x:Nd}(h:z1j x=true)(h1:(x.kind==10)=false)(h2:(x.kind==11)=false)(h3:z0v x.kind=false):z5y u f deep w st x=z2l u f st x:=by
 cases x
 simp only[Nd.kind]at h1 h2 h3;unfold z5y;simp[h,h1,h2,h3]
theorem y7i{S:Type}{b:Bool}{s:S}{r:Bool×S}(h:(andP b s r).1=true):b=true/\r.1=true:=by
 unfold andP at h;split at h
 ·rename_i hb;exact⟨hb,h⟩
 ·cases h
theorem za8{S:Type}{r:Bool×S}{k:S->Bool×S}(h:(andQ r k).1=true):r.1=true/\(k r.2).1=true:=by
 unfold andQ at h;split at h
 ·rename_i hb;exact⟨hb,h⟩
 ·cases h
theorem y2e{f:Fl}{x:Nd}{st:List Int}(h:(z4g f x st).1=true):∀v∈x.outs,0<=v/\v<f.types.length:=y2c (y7i h).2
theorem y74{u:Un}{f:Fl}{st:List Int}{x:Nd}(h:(z2l u f st x).1=true):∀v∈x.outs,0<=v/\v<f.types.length:=by
 unfold z2l y9t zx4 at h
 repeat' split at h
 all_goals first
  |exact y2c (y7i h).2
  |cases h
theorem yx9{f:Fl}{st:List Int}{x:Nd}{w:Wh}(h:y9q f st x w=true):x.outs=[]:=by
 unfold y9q at h;have key:∀b:Bool,((x.outs.length:Int)==0&&b)=true->x.outs=[]:=λb hb=>by
  simp only[A0,Au]at hb;exact At oM0
 repeat' split at h
 all_goals first
  |exact key _ h
  |(rw[Ew]at h;exact key _ h)
theorem yh8{u:Un}{f:Fl}{deep:Int}{w:Wh}{st:List Int}{x:Nd}(h:(z5y u f deep w st x).1=true):∀v∈x.outs,0<=v/\v<f.types.length:=by
 cases hb:z1j x with
 |false=>rw[zj7 _ _ _ _ _ hb]at h;cases h
 |true =>
  by_cases h10:x.kind=10
  ·obtain⟨a,b,hk⟩:=z3u hb h10;rw[y2b _ _ _ _ _ hb h10 hk]at h;split at h
   ·exact y2e (za8 (za8 h).2).2
   ·cases h
  ·by_cases h11:x.kind=11
   ·obtain⟨a,hk⟩:=z2a hb h11;rw[zj8 _ _ _ _ _ hb h11 hk]at h;split at h
    ·exact y2e (za8 (za8 h).2).2
    ·cases h
   ·have e10:(x.kind==10)=false:=by simpa using h10
    have e11:(x.kind==11)=false:=by simpa using h11
    cases he:z0v x.kind with
    |true=>rw[zt4 _ _ _ _ _ hb e10 e11 he]at h;intro v hv;rw[yx9 h]at hv;simp at hv
    |false=>rw[z9s _ _ _ _ _ hb e10 e11 he]at h;exact y74 h
theorem y9s{u:Un}{f:Fl}{deep:Int}{w:Wh}:∀{l:List Nd}{st:List Int},(shGo u f deep w st l).1=true->∀x∈l,∀v∈x.outs,0<=v/\v<f.types.length
 |[],_,_,x,hx=>by simp at hx
 |y::r,st,h,x,hx=>by
  unfold shGo at h;split at h
  ·cases h
  ·obtain⟨h1,h2⟩:=za8 h;split at h2
   ·cases h2
   ·rcases Ao.1 hx with rfl|hx
    ·exact yh8 h1
    ·exact y9s h2 x hx
theorem y11:∀{l:List Nd}{x:Nd},x∈l->ndW x<=lsW l
 |y::r,x,h=>by
  rcases Ao.1 h with rfl|h
  ·simp only[lsW];omega
  ·have:=y11 h;simp only[lsW];omega
theorem z6s:∀{ks:List (List Nd)} {q:List Nd},q∈ks->lsW q<=kdW ks
 |y::r,x,h=>by
  rcases Ao.1 h with rfl|h
  ·simp only[kdW];omega
  ·have:=z6s h;simp only[kdW];omega
def zo2(k n:Nat):List Int:=List.replicate k 1++List.replicate (n-k) 0
def y2a(u:Un)(f:Fl):Bool:=!(decide (f.params > 8)||decide ((f.types.length:Int) > 20000)||f.types.any (λt=>!isTy t))&&(z25 u f 1 z47 (zo2 f.params.toNat f.types.length) f.body).1
theorem zx3{k n:Nat}(h:k<=n):(zo2 k n).length=n:=by simp[zo2];omega
theorem j3p{k n:Nat}(h:k<n):(zo2 k n).set k 1=zo2 (k+1) n:=by
 unfold zo2;rw[D9 _ _ sI0,E7,Nat.sub_self];have:n-k=(n-(k+1))+1:=by omega
 rw[this,Ek,Fd,List.replicate_succ',C2];rfl
def bump(s:ByteArray)(es:List (Value×PV)):List (Value×PV) :=
 mput (.string s) (match z1m (.string s) es with|some (.val (.int .i64 n))=>.val (.int .i64 (IntKind.i64.wrap (n+1)))|_=>.val (.int .i64 1)) es
def zy2(a:Ar):Bool:=z0l a.name && !decide (a.size<1) && !decide (a.size > 1000)
def zo3(f:Fl):Bool:=z0l f.name&&isTy f.ty && !decide (f.params<0) && !decide (f.params > f.types.length)
def y0c(es:List (Value×PV))(l:List Ar):List (Value×PV):=l.foldl (λe a=>bump a.name e) es
def y3m(es:List (Value×PV))(l:List Fl):List (Value×PV):=l.foldl (λe a=>bump a.name e) es
def z92(u:Un):Bool:=u.arrays.all zy2&&u.flows.all zo3&&((y3m (y0c [] u.arrays) u.flows).length:Int)==u.arrays.length+u.flows.length&&za3 u
def z9u(u:Un):List Fl->Int->Int×Int
 |[],_=>(0,0)
 |f::r,i=>if y2a u f then z9u u r (i+1)else(80,i)
def z59(u:Un):Int×Int:=if z92 u then z9u u u.flows 0 else(1,0)
theorem y73{u:Un}(h:z92 u=true):∀g∈u.flows,0<=g.params/\g.params<=g.types.length:=by
 simp only[z92,A0,Be]at h;intro g hg;have:=h.1.1.2 g hg;simp only[zo3,A0,Bc,Ci]at this;omega
section
variable {P:Program} {c:Cx} {R1:Nat->Prop} {o:Oper} {fr:Fr} {hp:Hp}
def ResC(P:Program)(fr:Fr)(σ:Heap')(a:Tmp)(t:TypeId)(x:IV):Prop:=∀(c:Cx)(o:Oper),o.op=.load t (.tmp a)->OkV P c (λ_=>True) o fr σ x
theorem y6c{ρ:Loc}{σ:Heap'}{w:World}{a:Act}{q:Tmp}{t:TypeId}{x:IV}(h:All c ρ σ w fr a)(hr:ResC P fr σ q t x):∃v ad,(asAddr ((a.tmps[q]?).getD undef)).run P w=.ok ad w/\(loadVar t ad).run P w=.ok v w/\RepI c.F ρ σ w x v:=by
 obtain⟨v,h1,h2⟩:=hr c { (default:Oper)with op:=.load t (.tmp q) } rfl ρ w a h;have h3:=h1 w (SameFor.refl _ _ _ _);simp only[execOp,Instr.loadAt,Ai]at h3;have hev:a.eval (.tmp q)=(a.tmps[q]?).getD undef:=by simp[Act.eval]
 rw[hev]at h3;generalize(a.tmps[q]?).getD undef=p at h3⊢
 cases p with
 |pointer ad =>
  cases ad with
  |none=>simp[Instr.sureAddr]at h3
  |some ad =>
   refine⟨v,ad,rfl,?_,h2⟩;simp only[Instr.sureAddr,Ai,Cd,As]at h3;generalize(loadVar t ad).run P w=res at h3⊢
   cases res with
   |ok v' w'=>simpa[Result.andThen]using h3
   |_=>simp[Result.andThen]at h3
 |_=>simp[Instr.sureAddr]at h3
theorem yt5{t:TypeId}{x:Operand}{k:Nat}{ps:List PV}(ho:o.op=.box t x)(hx:fr.ev x=some (.pv (.agg ps)))(hσ:look hp k=none)(hc:c.σ k=none)(hfr:nmFr k fr=false)(hhp:nmHp k hp=false) :
 Ok P c o fr (look hp) (.ptr k 0) (look ((k,some (.box (ps.map .pv)))::hp)):=by
 intro ρ w a K Q h hK;have hr:=h.ev hx;generalize hv:a.eval x=v at hr
 cases hr with
 |pv _ _ hr =>
  cases hr with
  |agg _ vs u hl hvu hr =>
   have hrun:(execOp a.eval o).run P w=.ok (.value (.pointer (some ⟨w.heap.size,0,none⟩))) (w.alloc (.cells vs t)):=by
    have hn:(newVar t (.agg vs)).run P w=.ok ⟨w.heap.size,0,none⟩ (w.alloc (.cells vs t)):=rfl;simp only[execOp,ho,hv,Instr.box,Ai,hn,As];rfl
   unfold Oper.wp;rw[hrun];refine hK (z15 ρ k (some (w.heap.size,1))) _ _ (h.alloc hσ hc hfr hhp 1 _ _ λkeep keepP=>?_) (.ptr _ _ _ λcs' _=>⟨w.heap.size,1,z0a,rfl⟩);refine .box _ t vs u (z2y w _) (by simp[hl]) (λj x hj=>?_) λj x hj=>?_
   ·rw[Ba]at hj;obtain⟨p,hp,rfl⟩:=A5.1 hj;exact hvu j p hp
   ·rw[Ba]at hj;obtain⟨p,hp,rfl⟩:=A5.1 hj;exact .pv _ _ (keepP _ _ (hr j p hp))
theorem y64{t:TypeId}{x:Operand}{f:Nat}{ps:List PV}{p:PV}{fs:Array Field}{fd:Field}{d:TypeDesc}{σ:Heap'}(ho:o.op=.field t x f)(hx:fr.ev x=some (.pv (.agg ps)))
 (hu:P.underlying t=some (.struct fs)) (hf:fs[f]?=some fd) (hd:P.underlying fd.type=some d) (hrow:d.isRow=false) (hp:ps[fd.offset]?=some p):OkV P c R1 o fr σ (.pv p):=by
 intro ρ w a h;have hr:=h.ev hx;generalize hv:a.eval x=v at hr
 cases hr with
 |pv _ _ hr =>
  cases hr with
  |agg _ vs u hl hvu hr =>
   refine⟨u fd.offset,λw2 _=>?_,.pv _ _ (hr _ _ hp)⟩;simp[execOp,ho,hv,Instr.field,Ai,B6 hu,hf,part,asAgg,zn3 hd,hrow,hvu _ _ hp]
end
section
variable {P:Program} {c:Cx} {R1:Nat->Prop} {o:Oper} {fr:Fr} {hp:Hp} {σ:Heap'} {Q:Exit->Fr->Heap'->Prop}
theorem RepP.keepIt{own:Nat->Prop}{w w':World}{b0:Nat}{p:PV}{v:Value}(h:RepP own w p v)(hs:w.heap.size<=w'.heap.size)(h0:∀off sp,w.cell? ⟨b0,off,sp⟩=none)
 (hk:∀b,b≠b0->w'.heap[b]?=w.heap[b]?):RepP own w' p v:=by
 have key:∀(b off:Nat)(x:Value),w.cell? ⟨b,off,none⟩=some x->w'.cell? ⟨b,off,none⟩=some x:=by
  intro b off x hx
  by_cases e:b=b0
  ·subst e;rw[h0]at hx;cases hx
  ·rw[<- hx];exact Di (a:=⟨b,off,none⟩) (hk b e)
 induction h with
 |val v=>exact .val v
 |seq els a cap b off u ha hb hl hm hc _ ih=>exact .seq els a cap b off u ha (λhne=>⟨(hb hne).1,B8 (hb hne).2 hs⟩) hl hm (λi el hi j c hj=>key _ _ _ (hc i el hi j c hj)) ih
 |agg cs vs u hl hv _ ih=>exact .agg cs vs u hl hv ih
 |ept cs off b o u hb hc _ ih=>exact .ept cs off b o u ⟨hb.1,B8 hb.2 hs⟩ (λj c hj=>key _ _ _ (hc j c hj)) ih
theorem RepI.mapP{F:Nat->Prop}{ρ:Loc}{w w':World}{x:IV}{v:Value}(hk:∀p v,RepP (owned F ρ) w p v->RepP (owned F ρ) w' p v)(h:RepI F ρ σ w x v):RepI F ρ σ w' x v:=by
 induction h with
 |pv p v h=>exact .pv p v (hk _ _ h)
 |ptr k off v h=>exact .ptr k off v h
 |sl k len v h=>exact .sl k len v h
 |rpt k len off v h=>exact .rpt k len off v h
 |sp k n len v h=>exact .sp k n len v h
 |bs k n v h=>exact .bs k n v h
 |mp k v h=>exact .mp k v h
 |tnil k T v h=>exact .tnil k T v h
 |agg cs vs u hl hv _ ih=>exact .agg cs vs u hl hv ih
 |tup cs vs u hl hv _ ih=>exact .tup cs vs u hl hv ih
 |fn f xs ys vs ws u t hl hv _ hl' hv' _ ih ih'=>exact .fn f xs ys vs ws u t hl hv ih hl' hv' ih'
theorem RepO.mapP{F:Nat->Prop}{ρ:Loc}{w w':World}{b cc:Nat}{o:HO}(hb:w'.heap[b]?=w.heap[b]?)(hk:∀p v,RepP (owned F ρ) w p v->RepP (owned F ρ) w' p v)(h:RepO F ρ σ w b cc o):RepO F ρ σ w' b cc o:=by
 cases h with
 |box cs e a u h hl hv hr=>exact .box cs e a u (hb.trans h) hl hv λj x hj=>(hr j x hj).mapP hk
 |row s els a u h hs hl hm hw hv hr=>exact .row s els a u (hb.trans h) hs hl hm hw hv λi el hi j x hj=>hk _ _ (hr i el hi j x hj)
 |map es a t u h hl hv hr=>exact .map es a t u (hb.trans h) hl hv λi k p hi=>hk _ _ (hr i k p hi)
theorem zt7{w:World}{b0:Nat}{s:ByteArray}{k:Nat}(h:w.heap[b0]?=some (.stringIter s k)):∀off sp,w.cell? ⟨b0,off,sp⟩=none:=by
 intro off sp;simp[World.cell?,h]
theorem All.iterSet{ρ:Loc}{w:World}{a:Act}{b0 k k':Nat}{s:ByteArray}(h:All c ρ σ w fr a)(hit:w.heap[b0]?=some (.stringIter s k))(hge:c.w.heap.size<=b0)(hun:∀j cc,ρ j≠some (b0,cc)) :
 All c ρ σ { w with heap:=w.heap.setIfInBounds b0 (.stringIter s k') } fr a:=by
 have hlt:b0<w.heap.size:=(Ca.1 hit).1;have hoth:∀b,b≠b0->(w.heap.setIfInBounds b0 (Obj.stringIter s k'))[b]?=w.heap[b]?:=λb hb=>by simp[C3 hb]
 have hP:∀p v,RepP (owned c.F ρ) w p v->RepP (owned c.F ρ) { w with heap:=w.heap.setIfInBounds b0 (.stringIter s k') } p v:=λp v hp=>hp.keepIt sI0 (zt7 hit) hoth;refine⟨⟨h.rel.inj,h.rel.apart,λb hb=>by simpa using h.rel.old b hb,λj b cc hj=>?_,h.rel.real⟩,λt x hx=>?_,?_,h.df,h.sz,h.kk⟩
 ·obtain⟨o,h1,h2⟩:=h.rel.obj j b cc hj;exact⟨o,h1,h2.mapP (hoth b λe=>hun j cc (e▸hj)) hP⟩
 ·obtain⟨v,hv,hr⟩:=h.fr t x hx;exact⟨v,hv,hr.mapP hP⟩
 ·have t:=h.tr;exact { t with
   size:=by simpa using t.size
   blk:=λb hb hall=>(hoth b oM0).trans (t.blk b hb hall) }
theorem All.rebase{ρ:Loc}{w:World}{a:Act}(h:All c ρ σ w fr a):All ⟨c.F,c.R,ρ,σ,w,c.n⟩ ρ σ w fr a:=⟨h.rel,h.fr,.refl _ _ _ _ _,h.df,h.sz,h.kept⟩
theorem All.unbase{ρ ρ':Loc}{σ':Heap'}{w w':World}{fr':Fr}{a a':Act}(h:All c ρ σ w fr a)(h':All ⟨c.F,c.R,ρ,σ,w,c.n⟩ ρ' σ' w' fr' a')(hc:∀k,σ k=none->c.σ k=none):All c ρ' σ' w' fr' a' :=
 ⟨h'.rel,h'.fr,h.tr.trans h'.tr (λ_ h=>h) (λk h1 _=>hc k h1),h'.df,h'.sz,h.kk⟩
abbrev itv(b0:Nat):IV:=.pv (.val (.pointer (some ⟨b0,0,none⟩)))
theorem ys1(s:ByteArray)(i:Nat):1<=(Utf8.decode s i).2:=by
 unfold Utf8.decode;simp only
 repeat' split
 all_goals simp
def itPos(w:World)(b0:Nat):Nat:=match w.heap[b0]? with
 |some (.stringIter _ k)=>k
 |_=>0
theorem Sub.cons{fr':Fr}{d:Nat}{x:IV}(h:Sub σ fr fr'):Sub σ ((d,x)::fr) ((d,x)::fr'):=by
 intro t y hy;simp only[Fr.get]at hy⊢
 cases hb:Nat.beq d t with
 |true=>rw[hb]at hy;cases hy;exact⟨_,rfl,λ_ _ _ _ h=>h⟩
 |false=>rw[hb]at hy;exact h t y hy
theorem Tr.strRange{id1 i2 bid:Nat}{ops1 ops2:Array Oper}{rest:Code}{m g nx ex:Oper}{d0 d1 e1 e2:Nat}{x0:Operand}{ty:TypeId}{s:ByteArray}
 (h1:ops1.toList=[m,g]) (hmo:m.op=.move x0) (hmd:m.dst=some d0) (hmg:m.guard=none) (hgo:g.op=.range ty (.tmp d0)) (hgd:g.dst=some d1) (hgg:g.guard=none)
 (hx0:fr.ev x0=some (iStr s)) (hty:P.underlying ty=some .string)
 (h2:ops2.toList=[nx,ex]) (hno:nx.op=.next (.tmp d1) true) (hnd:nx.dst=some e1) (hng:nx.guard=none) (heo:ex.op=.extract (.tmp e1) 0) (hed:ex.dst=some e2) (heg:ex.guard=none)
 (hb0:Nat.blt d0 c.n=true) (hb1:Nat.blt d1 c.n=true) (hb2:Nat.blt e1 c.n=true) (hb3:Nat.blt e2 c.n=true)
 (hcσ:∀k,σ k=none->c.σ k=none)
 (I:Nat->Fr->Prop) (h0:∃fr0,Sub σ ((d0,iStr s)::fr) fr0/\I 0 fr0)
 (hdone:∀b0 k fr',s.size<=k->I k fr'->Q .normal ((e2,iBool false)::(e1,.tup [iBool false])::(d1,itv b0)::fr') σ)
 (round:∀(ρ2:Loc)(w2:World)(b0 k:Nat)(fr':Fr),k<s.size->I k fr' ->
  Tr P ⟨c.F,c.R,ρ2,σ,w2,c.n⟩ rest ((e2,iBool true)::(e1,.tup [iBool true,iInt k,.pv (.val (.int .i32 (Utf8.decode s k).1))])::(d1,itv b0)::fr') σ (λe fr1 σ1=>match e with
   |.normal=>σ1=σ /\ ∃fr'',Sub σ fr1 ((d1,itv b0)::fr'')/\I (k+(Utf8.decode s k).2) fr''
   |.exit _=>False
   |e=>Q e fr1 σ1)) :
 Tr P c (.seq (.region id1 ops1 false) (.block bid (.loop (.seq (.region i2 ops2 false) (.seq (.cond (.tmp e2) .skip (.exit bid)) rest))))) fr σ Q:=by
 obtain⟨fr0,hs0,hI0⟩:=h0;intro ρ w a ha;refine wp_seq (G5 ?_);rw[h1];refine Em hmg λK hK=>?_;obtain⟨v1,hr1,hv1⟩:=(z2p (R1:=λ_=>True) hmo hx0) ρ w a ha;unfold Oper.wp;rw[hr1 w (.refl _ _ _ _),D4];refine hK _ _ ?_;clear hK K;have ha2:All c ρ σ w ((d0,iStr s)::fr) (a.put m.dst v1):=by
  have:=ha.put (d:=m.dst) hv1 (by rw[hmd];intro t ht;cases ht;simpa using hb0)
  rwa [hmd]at this⊢
 generalize a.put m.dst v1=a2 at ha2⊢;refine Em hgg λK2 hK2=>?_;have hevs:a2.eval (.tmp d0)=.string s:=z0u ha2 (show Fr.ev ((d0,iStr s)::fr) (.tmp d0)=_ by simp[Fr.ev,Fr.get]);have hrun:(execOp a2.eval g).run P w=.ok (.value (.pointer (some ⟨w.heap.size,0,none⟩))) (w.iter s 0):=by
  simp[execOp,hgo,hevs,Ai,run_range_string w ty s hty]
 unfold Oper.wp;rw[hrun,D4];refine hK2 _ _ ?_;obtain⟨ha3,_⟩:=ha2.push (.stringIter s 0);have hfresh:=ha2.fresh;have ha4:All c ρ σ (w.iter s 0) ((d1,itv w.heap.size)::(d0,iStr s)::fr) (a2.put g.dst (.pointer (some ⟨w.heap.size,0,none⟩))):=by
  have:=ha3.put (d:=g.dst) (z3k (.pointer (some ⟨w.heap.size,0,none⟩))) (by rw[hgd];intro t ht;cases ht;simpa using hb1)
  rwa [hgd]at this⊢
 have hge:c.w.heap.size<=w.heap.size:=ha2.tr.size;generalize hb:w.heap.size=b0 at *
 generalize a2.put g.dst (.pointer (some ⟨b0,0,none⟩))=a4 at ha4⊢;show(Code.block _ _).wp P _ a4 (w.iter s 0);refine wp_block ?_;refine wp_loop (λa' w'=>∃k ρ' fr',All c ρ' σ w' ((d1,itv b0)::fr') a'/\I k fr'/\w'.heap[b0]?=some (.stringIter s k)/\∀j cc,ρ' j≠some (b0,cc)) (λ_ w'=>s.size-itPos w' b0) ⟨0,ρ,fr0,ha4.sub (hs0.cons),hI0,by rw[<- hb];exact World.iter_heap w s 0,λj cc hj=>by first|exact hfresh (.inr ⟨j,cc,hj⟩)|exact hfresh (by rw[hb];exact .inr ⟨j,cc,hj⟩)⟩ ?_;rintro a5 w5 ⟨k,ρ5,fr',ha5,hI,hit,hun⟩;refine wp_seq (G5 ?_);rw[h2];have hevp:a5.eval (.tmp d1)=.pointer (some ⟨b0,0,none⟩):=z0u ha5 (show Fr.ev ((d1,itv b0)::fr') (.tmp d1)=_ by simp[Fr.ev,Fr.get]);have hpos:itPos w5 b0=k:=by simp[itPos,hit]
 have hlt0:b0<w5.heap.size:=(Ca.1 hit).1
 by_cases hk:k<s.size
 ·have hrun5:(execOp a5.eval nx).run P w5=.ok (.value (.tuple #[.bool true,.int .i64 k,.int .i32 (Utf8.decode s k).1])) { w5 with heap:=w5.heap.setIfInBounds b0 (.stringIter s (k+(Utf8.decode s k).2)) }:=by
   simp[execOp,hno,hevp,Instr.next,getObj,setObj,Ai,Sem.run,hit,hk,goInt,Result.andThen]
  refine Em hng λK3 hK3=>?_;unfold Oper.wp;rw[hrun5,D4];refine hK3 _ _ ?_;have ha6:=ha5.iterSet (k':=k+(Utf8.decode s k).2) hit (by rw[<- hb]at hge⊢;exact hge) hun;have htup:RepI c.F ρ5 σ { w5 with heap:=w5.heap.setIfInBounds b0 (.stringIter s (k+(Utf8.decode s k).2)) } (.tup [iBool true,iInt k,.pv (.val (.int .i32 (Utf8.decode s k).1))]) (.tuple #[.bool true,.int .i64 k,.int .i32 (Utf8.decode s k).1]):=y2m (z3k _) (z3k _) (z3k _);have ha7:All c ρ5 σ { w5 with heap:=w5.heap.setIfInBounds b0 (.stringIter s (k+(Utf8.decode s k).2)) } ((e1,.tup [iBool true,iInt k,.pv (.val (.int .i32 (Utf8.decode s k).1))])::(d1,itv b0)::fr') (a5.put nx.dst (.tuple #[.bool true,.int .i64 k,.int .i32 (Utf8.decode s k).1])):=by
   have:=ha6.put (d:=nx.dst) htup (by rw[hnd];intro t ht;cases ht;simpa using hb2)
   rwa [hnd]at this⊢
  generalize a5.put nx.dst (.tuple #[.bool true,.int .i64 k,.int .i32 (Utf8.decode s k).1])=a7 at ha7⊢;generalize hw7:({ w5 with heap:=w5.heap.setIfInBounds b0 (.stringIter s (k+(Utf8.decode s k).2)) }:World)=w7 at ha7⊢;have hit7:w7.heap[b0]?=some (.stringIter s (k+(Utf8.decode s k).2)):=by rw[<- hw7];simp[hlt0]
  refine Em heg λK4 hK4=>?_;obtain⟨v8,hr8,hv8⟩:=(z8s (R1:=λ_=>True) (vs:=[iBool true,iInt k,.pv (.val (.int .i32 (Utf8.decode s k).1))]) (z:=iBool true) heo (show Fr.ev ((e1,_)::_) (.tmp e1)=_ by simp[Fr.ev,Fr.get]) rfl) ρ5 w7 a7 ha7;unfold Oper.wp;rw[hr8 w7 (.refl _ _ _ _),D4];refine hK4 _ _ ?_;have ha8:All c ρ5 σ w7 ((e2,iBool true)::(e1,.tup [iBool true,iInt k,.pv (.val (.int .i32 (Utf8.decode s k).1))])::(d1,itv b0)::fr') (a7.put ex.dst v8):=by
   have:=ha7.put (d:=ex.dst) hv8 (by rw[hed];intro t ht;cases ht;simpa using hb3)
   rwa [hed]at this⊢
  generalize a7.put ex.dst v8=a8 at ha8⊢;show(Code.seq _ _).wp P _ a8 w7;refine wp_seq ?_;refine wp_cond (t:=true) (z0u ha8 (show Fr.ev ((e2,iBool true)::_) (.tmp e2)=_ by simp[Fr.ev,Fr.get])) ?_;rw[if_pos rfl];refine wp_skip ?_;show rest.wp P _ a8 w7;refine Ga (round ρ5 w7 b0 k fr' hk hI ρ5 w7 a8 ha8.rebase) ?_;rintro e a9 w9 ⟨ρ9,σ9,fr9,ha9,hq⟩;have hlt7:b0<w7.heap.size:=(Ca.1 hit7).1
  cases e with
  |normal =>
   obtain⟨rfl,fr2,hsub,hI2⟩:=hq;have hit9:w9.heap[b0]?=some (.stringIter s (k+(Utf8.decode s k).2)):=(ha9.tr.blk b0 hlt7 λj cc hj=>absurd hj (hun j cc)).trans hit7;refine⟨⟨_,ρ9,fr2,(ha8.unbase ha9 hcσ).sub hsub,hI2,hit9,λj cc hj=>(ha9.tr.own j b0 cc hj hlt7).elim (hun j cc) λ⟨k0,c0,g,_⟩=>hun k0 c0 g⟩,?_⟩;have:=ys1 s k;rw[hpos];simp only[itPos,hit9]
   omega
  |exit id=>exact hq.elim
  |_=>exact⟨ρ9,σ9,fr9,ha8.unbase ha9 hcσ,hq⟩
 ·have hrun5:(execOp a5.eval nx).run P w5=.ok (.value (.tuple #[.bool false])) w5:=by
   simp[execOp,hno,hevp,Instr.next,getObj,Ai,Sem.run,hit,hk,Result.andThen]
  refine Em hng λK3 hK3=>?_;unfold Oper.wp;rw[hrun5,D4];refine hK3 _ _ ?_;have htup:RepI c.F ρ5 σ w5 (.tup [iBool false]) (.tuple #[.bool false]):=.tup _ _ (λ_=>.bool false) rfl (λj x hj=>by
   match j,hj with
   |0,_=>rfl
   |j+1,hj=>simp at hj) λj x hj=>by
   match j,hj with
   |0,hj=>cases hj;exact z3k _
   |j+1,hj=>simp at hj
  have ha7:All c ρ5 σ w5 ((e1,.tup [iBool false])::(d1,itv b0)::fr') (a5.put nx.dst (.tuple #[.bool false])):=by
   have:=ha5.put (d:=nx.dst) htup (by rw[hnd];intro t ht;cases ht;simpa using hb2)
   rwa [hnd]at this⊢
  generalize a5.put nx.dst (.tuple #[.bool false])=a7 at ha7⊢;refine Em heg λK4 hK4=>?_;obtain⟨v8,hr8,hv8⟩:=(z8s (R1:=λ_=>True) (vs:=[iBool false]) (z:=iBool false) heo (show Fr.ev ((e1,_)::_) (.tmp e1)=_ by simp[Fr.ev,Fr.get]) rfl) ρ5 w5 a7 ha7;unfold Oper.wp;rw[hr8 w5 (.refl _ _ _ _),D4];refine hK4 _ _ ?_;have ha8:All c ρ5 σ w5 ((e2,iBool false)::(e1,.tup [iBool false])::(d1,itv b0)::fr') (a7.put ex.dst v8):=by
   have:=ha7.put (d:=ex.dst) hv8 (by rw[hed];intro t ht;cases ht;simpa using hb3)
   rwa [hed]at this⊢
  generalize a7.put ex.dst v8=a8 at ha8⊢;show(Code.seq _ _).wp P _ a8 w5;refine wp_seq ?_;refine wp_cond (t:=false) (z0u ha8 (show Fr.ev ((e2,iBool false)::_) (.tmp e2)=_ by simp[Fr.ev,Fr.get])) ?_;rw[if_neg sI0];refine wp_exit ?_;show(if bid=bid then _ else _);rw[if_pos rfl];exact⟨ρ5,σ,_,ha8,hdone b0 k fr' oM0 hI⟩
end
theorem zo9{α:Type}{p:α -> Bool}:∀{l:List α}{k:Nat}{x:α},(l.take k).all p=true->l[k]?=some x->p x=false->(l.takeWhile p).length=k/\l.all p=false
 |[],k,x,_,h,_=>by simp at h
 |a::r,0,x,_,h,hx=>by
  simp only[Cr,Co]at h;subst h
  simp[hx]
 |a::r,k+1,x,h,hg,hx=>by
  simp only[F8,D2,A0]at h;obtain⟨h1,h2⟩:=zo9 h.2 (by simpa using hg) hx;simp[h.1,h1,h2]
def yv2(s:ByteArray):ByteArray:=if s.toList.all isLD then s else s.extract 0 (s.toList.takeWhile isLD).length
theorem runOf_at{s:ByteArray}{k:Nat}{b:UInt8}(h:(s.toList.take k).all isLD=true)(hb:s.toList[k]?=some b)(hn:isLD b=false):yv2 s=s.extract 0 k:=by
 obtain⟨h1,h2⟩:=zo9 h hb hn;simp[yv2,h1,h2]
theorem runOf_eq(s:ByteArray):((yv2 s).toList==s.toList)=s.toList.all isLD:=by
 unfold yv2
 cases h:s.toList.all isLD with
 |true=>simp
 |false =>
  simp only[Ap,By];have hlt:(s.toList.takeWhile isLD).length<s.toList.length:=by
   rcases Dj (s.toList.takeWhile isLD).length s.toList.length with h1|h1
   ·exact h1
   ·have hp:=Ey (l:=s.toList) isLD;have he:=hp.eq_of_length_le h1;have:s.toList.all isLD=true:=by rw[<- he];exact List.all_takeWhile
    rw[h]at this;cases this
  have hne:(s.extract 0 (s.toList.takeWhile isLD).length).toList≠s.toList:=by
   intro he;have:=Af List.length he;rw[y09,Cj,y09]at this;rw[y09]at hlt;omega
  simpa using hne
theorem ys0{s:ByteArray}{k:Nat}(h:k<s.toList.length):((s.toList[k]).toNat<128->Utf8.decode s k=((s.toList[k]).toNat,1))/\(128<=(s.toList[k]).toNat->128<=(Utf8.decode s k).1):=by
 have hk:k<s.size:=by rwa [y09]at h
 have e0:s.get! (k+0)=s.toList[k]:=by
  have h2:=y3i h;rw[getElem?_pos s k hk]at h2;rw[<- Bx h2];show s.get! k=_;simp[ByteArray.get!,getElem!_pos,hk];rfl
 refine⟨λhb=>?_,λhb=>?_⟩
 ·simp only[Utf8.decode,e0,hb,C8]
 ·have hn:¬(s.toList[k]).toNat<128:=by omega
  simp only[Utf8.decode,e0];rw[if_neg (by simpa using hn)]
  repeat' split
  all_goals first
   |(simp[Utf8.runeError];done)
   |(rename_i hc;simp only[ge_iff_le,A0,Bj]at hc;simp only;omega)
def y34(r:Int):Bool:=z4l r||z3y r
theorem y83{r:Int}(h:y34 r=true):r<128:=by
 simp only[y34,z4l,z3y,Br,A0,Bj,Au]at h;omega
theorem y0e{s:ByteArray}{k:Nat}(h:k<s.toList.length):(y34 (Utf8.decode s k).1=true->(Utf8.decode s k).2=1/\isLD s.toList[k]=true)/\(y34 (Utf8.decode s k).1=false->isLD s.toList[k]=false):=by
 obtain⟨h1,h2⟩:=ys0 h
 by_cases hb:(s.toList[k]).toNat<128
 ·rw[h1 hb];exact⟨λh=>⟨rfl,h⟩,λh=>h⟩
 ·have h3:=h2 oM0;refine⟨λhl=>?_,λ_=>?_⟩
  ·have:=y83 hl;omega
  ·cases hd:isLD s.toList[k]with
   |false=>rfl
   |true=>have:=y83 (r:=((s.toList[k]).toNat:Int)) hd;omega
def Cnt(es:List (Value×PV)):Prop:=(∀e∈es,z1w .string e.1=true)/\∀e∈es,∃n,e.2=vInt n
theorem z45{k:Value}{v:PV}:∀{es:List (Value×PV)} {e:Value×PV},e∈mput k v es->e=(k,v)∨e∈es
 |[],e,h=>by simp[mput]at h;exact .inl h
 |(a,p)::r,e,h=>by
  simp only[mput]at h;split at h
  ·rcases Ao.1 h with rfl|h
   ·exact .inl rfl
   ·exact .inr (.tail _ h)
  ·rcases Ao.1 h with rfl|h
   ·exact .inr (.head _)
   ·rcases z45 h with h|h
    ·exact .inl h
    ·exact .inr (.tail _ h)
theorem z7n{k:Value}{p:PV}:∀{es:List (Value×PV)},z1m k es=some p->∃a,(a,p)∈es
 |(a,q)::r,h=>by
  simp only[z1m]at h;split at h
  ·cases h;exact⟨a,.head _⟩
  ·obtain⟨b,hb⟩:=z7n h;exact⟨b,.tail _ hb⟩
theorem Cnt.find{es:List (Value×PV)}(h:Cnt es)(k:Value):∃n,(z1m k es).getD (.val (.int .i64 0))=vInt n:=by
 cases hf:z1m k es with
 |none=>exact⟨0,rfl⟩
 |some p=>obtain⟨a,ha⟩:=z7n hf;obtain⟨n,hn⟩:=h.2 _ ha;exact⟨n,hn⟩
theorem zh5{es:List (Value×PV)}{s:ByteArray}{n:Int}(h:(z1m (.string s) es).getD (.val (.int .i64 0))=vInt n):bump s es=mput (.string s) (vInt (IntKind.i64.wrap (n+1))) es:=by
 unfold bump
 cases hf:z1m (.string s) es with
 |none =>
  rw[hf]at h;simp only[Option.getD_none,vInt,PV.val.injEq,Value.int.injEq,true_and]at h;subst h
  rfl
 |some p =>
  rw[hf]at h;simp only[Cf]at h;subst h;rfl
theorem Cnt.bump{es:List (Value×PV)}(h:Cnt es)(s:ByteArray):Cnt (bump s es):=by
 obtain⟨n,hn⟩:=h.find (.string s);rw[zh5 hn];refine⟨λe he=>?_,λe he=>?_⟩
 ·rcases z45 he with rfl|he
  ·rfl
  ·exact h.1 e he
 ·rcases z45 he with rfl|he
  ·exact⟨_,rfl⟩
  ·exact h.2 e he
theorem Cnt.nil:Cnt []:=⟨λ_ h=>by simp at h,λ_ h=>by simp at h⟩
structure Rl(n:Nat)(st:List Int)(set:List Bool)(seen:List Int):Prop where
 l1:st.length=n
 l2:set.length=n
 s:∀v:Nat,v<n->set.getD v false = !(st.getD v 0==0)
 u:∀v:Nat,v<n->seen.contains (v:Int)=(st.getD v 0==1)
theorem zk9{α:Type}{l:List α}{i j:Nat}{a d:α}:(l.set i a).getD j d=if i=j/\i<l.length then a else l.getD j d:=by
 simp only[Ax,List.getElem?_set]
 by_cases h:i=j
 ·subst h
  by_cases h2:i<l.length
  ·simp[h2]
  ·simp[h2]
 ·simp[h]
theorem use_rl{tys st:List Int}{set:List Bool}{seen:List Int}(h:Rl tys.length st set seen)(v w:Int):za6 tys seen v w=(zt5 tys st v w).1:=by
 unfold za6 zt5 z93
 by_cases h0:0<=v
 ·by_cases h1:v<tys.length
  ·have hv:v=(v.toNat:Int):=by omega
   have hu:=h.u v.toNat oM0;rw[<- hv]at hu;have e1:decide (v<0)=false:=by simpa using h0
   have e2:decide (v≥tys.length)=false:=by simpa using h1
   have e3:decide (0<=v)=true:=by simpa using h0
   have e4:decide (v<tys.length)=true:=by simpa using h1
   simp only[e1,e2,e3,e4,hu,Bv,B0];clear hv e1 e2 e3 e4
   cases hw:(w==0)<;>cases ht:(tys.getD v.toNat 0==w)<;>cases hs:(st.getD v.toNat 0==1)<;>simp_all[bne]
  ·have e2:decide (v≥tys.length)=true:=by simp;omega
   have e4:decide (v<tys.length)=false:=by simp;omega
   simp[e2,e4]
 ·have e1:decide (v<0)=true:=by simp;omega
  have e3:decide (0<=v)=false:=by simp;omega
  simp[e1,e3]
theorem y9z{tys st:List Int}{set:List Bool}{seen:List Int}(h:Rl tys.length st set seen):∀(a b:List Int),z0y tys seen a b=(eqGo (zt5 tys) st a b).1
 |[],_=>by simp[z0y,eqGo]
 |_::_,[]=>by simp[z0y,eqGo]
 |x::a,y::b=>by
  simp only[z0y,eqGo,use_rl h x y];have h2:(zt5 tys st x y).2=st:=rfl
  cases hx:(zt5 tys st x y).1 with
  |true=>simp[h2,y9z h a b]
  |false=>simp
theorem yi9{tys st:List Int}{set:List Bool}{seen:List Int}(h:Rl tys.length st set seen)(a b:List Int):z06 tys seen a b=z0w tys st a b:=by
 unfold z06 z0w eqf
 by_cases hl:(a.length:Int)=b.length
 ·rw[if_pos hl];have:((a.length:Int)==b.length)=true:=by simpa using hl
  rw[this,B0,y9z h]
 ·rw[if_neg hl];have:((a.length:Int)==b.length)=false:=by simpa using hl
  rw[this,Cn]
theorem set1_rl{tys st:List Int}{set:List Bool}{seen:List Int}(h:Rl tys.length st set seen)(v w:Int) :
 z9e tys set v w = !(z5t tys st v w).1/\((z5t tys st v w).1=true->Rl tys.length (z5t tys st v w).2 (set.set v.toNat true) (seen++[v])/\0<=v/\v<tys.length/\seen.contains v=false):=by
 unfold z9e z5t z93
 by_cases h0:0<=v
 ·by_cases h1:v<tys.length
  ·have hv:v=(v.toNat:Int):=by omega
   have hn:v.toNat<tys.length:=by omega
   have hs:=h.s v.toNat hn;have hu:=h.u v.toNat hn;rw[<- hv]at hu;have e1:decide (v<0)=false:=by simpa using h0
   have e2:decide (v≥tys.length)=false:=by simpa using h1
   have e3:decide (0<=v)=true:=by simpa using h0
   have e4:decide (v<tys.length)=true:=by simpa using h1
   simp only[e1,e2,e3,e4,hs,Bv,B0];refine⟨by clear hv e1 e2 e3 e4;cases hw:(w==0)<;>cases ht:(tys.getD v.toNat 0==w)<;>cases hz:(st.getD v.toNat 0==0)<;>simp_all[bne],λhc=>?_⟩;split at hc
   ·rename_i hif;rw[if_pos hif];simp only[A0]at hif;have hz:st.getD v.toNat 0=0:=by simpa using hif.2
    refine⟨⟨by simpa using h.l1,by simpa using h.l2,λj hj=>?_,λj hj=>?_⟩,h0,h1,by rw[hu,hz];rfl⟩
    ·rw[zk9,zk9]
     by_cases e:v.toNat=j
     ·subst e;simp[h.l1,h.l2,hn]
     ·simp only[e,false_and,By];exact h.s j hj
    ·rw[zk9];simp only[Dh,Dd,List.contains_nil,E9]
     by_cases e:v.toNat=j
     ·subst e;have:((v.toNat:Int)==v)=true:=by simpa using hv.symm
      rw[this,Bh,if_pos ⟨rfl,by rw[h.l1];exact hn⟩];rfl
     ·have:((j:Int)==v)=false:=by simp;omega
      simp only[e,false_and,By,this,E9];exact h.u j hj
   ·cases hc
  ·have e2:decide (v≥tys.length)=true:=by simp;omega
   have e4:decide (v<tys.length)=false:=by simp;omega
   simp[e2,e4]
 ·have e1:decide (v<0)=true:=by simp;omega
  have e3:decide (0<=v)=false:=by simp;omega
  simp[e1,e3]
theorem y9o{tys:List Int}:∀(a b st:List Int)(set:List Bool)(seen:List Int),a.length=b.length->Rl tys.length st set seen ->
 (z2j tys set a b).1=(eqGo (z5t tys) st a b).1/\((eqGo (z5t tys) st a b).1=true->Rl tys.length (eqGo (z5t tys) st a b).2 (z2j tys set a b).2 (seen++a)/\∀v∈a,0<=v/\v<tys.length/\seen.contains v=false)
 |[],_,st,set,seen,_,h=>by simp[z2j,eqGo];exact h
 |_::_,[],_,_,_,hl,_=>by simp at hl
 |x::a,y::b,st,set,seen,hl,h=>by
  obtain⟨h1,h2⟩:=set1_rl h x y;simp only[z2j,eqGo,h1]
  cases hx:(z5t tys st x y).1 with
  |false=>simp
  |true =>
   obtain⟨h3,h4,h5,h6⟩:=h2 hx;obtain⟨ih1,ih2⟩:=y9o a b _ _ _ (by simpa using hl) h3;simp only[F5,Ap,By,C8];refine⟨ih1,λhc=>?_⟩;obtain⟨h7,h8⟩:=ih2 hc;refine⟨by simpa using h7,λv hv=>?_⟩;rcases Ao.1 hv with rfl|hv
   ·exact⟨h4,h5,h6⟩
   ·obtain⟨g1,g2,g3⟩:=h8 v hv;refine⟨g1,g2,?_⟩;rw[Dh,C0]at g3;exact g3.1
theorem j3t{tys st:List Int}{set:List Bool}{seen:List Int}(h:Rl tys.length st set seen)(a b:List Int) :
 (z1t tys set a b).1=(z1r tys st a b).1/\((z1r tys st a b).1=true->Rl tys.length (z1r tys st a b).2 (z1t tys set a b).2 (seen++a)/\∀v∈a,0<=v/\v<tys.length/\seen.contains v=false):=by
 unfold z1t z1r eqf
 by_cases hl:(a.length:Int)=b.length
 ·have e:((a.length:Int)==b.length)=true:=by simpa using hl
  rw[if_pos hl,if_pos e];exact y9o a b st set seen oM0 h
 ·have e:¬((a.length:Int)==b.length)=true:=by simpa using hl
  rw[if_neg hl,if_neg e];simp
theorem j0z{n:Nat}:∀(l st:List Int)(set:List Bool)(seen rest:List Int),(∀v∈l,0<=v/\v<n/\rest.contains v=false)->(∀v∈l,st.getD v.toNat 0≠0)->st.length=n->set.length=n ->
 (∀v:Nat,v<n->set.getD v false = !(st.getD v 0==0))->(∀v:Nat,v<n->l.contains (v:Int)=false->rest.contains (v:Int)=(st.getD v 0==1))->Rl n (z3l st l) set rest
 |[],st,set,_,rest,_,_,h1,h2,h3,h4=>⟨h1,h2,h3,λv hv=>h4 v hv rfl⟩
 |x::l,st,set,seen,rest,hin,hnz,h1,h2,h3,h4=>by
  obtain⟨hx0,hx1,hx2⟩:=hin x (.head _);have hxn:x.toNat<n:=by omega
  show Rl n (z3l (st.set x.toNat 2) l) set rest;have hg:∀j,(st.set x.toNat 2).getD j 0=if x.toNat=j then 2 else st.getD j 0:=λj=>by
   rw[zk9];simp[h1,hxn]
  -- hidden values are no more among the seen
  have key:∀v:Nat,v<n->l.contains (v:Int)=false->rest.contains (v:Int)=((st.set x.toNat 2).getD v 0==1):=by
   intro v hv hl;rw[hg]
   by_cases e:x.toNat=v
   ·have hv2:(v:Int)=x:=by omega
    rw[if_pos e,hv2,hx2];rfl
   ·rw[if_neg e];refine h4 v hv ?_;have:((v:Int)==x)=false:=by simp;omega
    rw[Dd,this,hl];rfl
  refine j0z l (st.set x.toNat 2) set seen rest (λv hv=>hin v (.tail _ hv)) (λv hv=>?_) (by simpa using h1) h2 (λv hv=>?_) key
  ·rw[hg];split
   ·decide
   ·exact hnz v (.tail _ hv)
  ·rw[hg,h3 v hv];split
   ·rename_i e;have:=hnz x (.head _);rw[e]at this;have hb:(st.getD v 0==0)=false:=by simpa using this
    rw[hb];rfl
   ·rfl
def PR(n:Nat)(seen outs:List Int)(r:Bool×List Int)(q:Bool×List Bool):Prop :=
 q.1=r.1/\(r.1=true->Rl n r.2 q.2 (seen++outs)/\∀v∈outs,0<=v/\v<n/\seen.contains v=false)
theorem PR.no{n:Nat}{seen outs:List Int}{st:List Int}{set:List Bool}:PR n seen outs (false,st) (false,set):=⟨rfl,λh=>by cases h⟩
theorem zu7{tys st:List Int}{set:List Bool}{seen:List Int}(h:Rl tys.length st set seen){b b':Bool}(hb:b=b')(outs want:List Int):PR tys.length seen outs (andP b st (z1r tys st outs want)) (andS b' set (z1t tys set outs want)):=by
 subst hb
 cases b with
 |false=>exact .no
 |true=>exact j3t h outs want
theorem nil_rl{tys st:List Int}{set:List Bool}{seen:List Int}(h:Rl tys.length st set seen){b b':Bool}(hb:b=b')(outs:List Int):PR tys.length seen outs (andP b st (z1r tys st outs [])) (b'&&(outs.length:Int)==0,set):=by
 subst hb
 cases b with
 |false=>exact .no
 |true =>
  cases outs with
  |nil=>exact⟨rfl,λ_=>⟨by rw[D3];exact h,λv hv=>by simp at hv⟩⟩
  |cons v r =>
   have e:¬(((v::r).length:Int)=(([]:List Int).length:Int)):=by simp;omega
   have e2:(((v::r).length:Int)==0)=false:=by simp;omega
   simp only[andP,C8,z1r,eqf,if_neg e,e2,Cv];exact .no
theorem yk4{n:Nat}{st:List Int}{set:List Bool}{seen:List Int}(h:Rl n st set seen){b b':Bool}(hb:b=b'){outs:List Int}(ho:b=true->outs=[]):PR n seen outs (b,st) (b',set):=by
 subst hb;refine⟨rfl,λhb=>?_⟩;rw[ho hb];exact⟨by simpa using h,λv hv=>by simp at hv⟩
theorem ye3{op:Int}(h:z40 op=true):z38 op=z0q op:=by
 simp only[z40,A0,Bj]at h;have h18:(op==18)=false:=by simp;omega
 have h19:(op==19)=false:=by simp;omega
 have h22:(op==22)=false:=by simp;omega
 simp only[z38,z0q,h18,h19,h22,E9,Ap,By]
theorem ye2{op:Int}(h:z2w op=true):z38 op=z0q op:=by
 simp only[z2w,A0,Bj]at h;have h18:(op==18)=false:=by simp;omega
 have h19:(op==19)=false:=by simp;omega
 simp only[z38,z0q,h18,h19,Bv]
theorem j19(op:Int):(decide (z4j op > 0)&&decide (op<=17))=z40 op:=by
 by_cases h0:op<0
 ·have:z4j op=0:=by simp[z4j,h0]
  have h2:z40 op=false:=by simp[z40];omega
  rw[this,h2];rfl
 ·by_cases h1:op≥29
  ·have:z4j op=0:=by simp[z4j,h1]
   have h2:z40 op=false:=by simp[z40];omega
   rw[this,h2];rfl
  ·rcases j05 (op:=op) oM0 oM0 with rfl|rfl|rfl|rfl|rfl|rfl|rfl|rfl|rfl|rfl|rfl|rfl|rfl|rfl|rfl|rfl|rfl|rfl|rfl|rfl|rfl|rfl|rfl|rfl|rfl|rfl|rfl|rfl|rfl<;>rfl
theorem j3z(u:Un)(f:Fl){st:List Int}{set:List Bool}{seen:List Int}(h:Rl f.types.length st set seen)(x:Nd)(w:Wh) :
 PR f.types.length seen x.outs (if z0v x.kind then(y9q f st x w,st)else z2l u f st x) (z1h u f set x seen w):=by
 have U:=λwant=>(yi9 h x.args want).symm;have hlen:∀b,z0w f.types st x.args []=b->((x.args.length:Int)==0)=b:=λb hb=>by
  rw[<- hb];unfold z0w eqf
  cases x.args with
  |nil=>rfl
  |cons a r =>
   have e:¬(((a::r).length:Int)=(([]:List Int).length:Int)):=by simp;omega
   have e2:(((a::r).length:Int)==0)=false:=by simp;omega
   rw[if_neg e,e2]
 unfold z1h z2l y9q y9t zx4 zc7
 by_cases k1:x.kind=1
 ·simp only[k1,z0v];exact zu7 h (U _) _ _
 by_cases k2:x.kind=2
 ·simp only[k2,z0v];exact zu7 h (by rw[U]) _ _
 by_cases k3:x.kind=3
 ·simp only[k3,z0v]
  cases ho:z2w x.op with
  |false=>exact .no
  |true=>rw[ye2 ho];exact zu7 h (by rw[U]) _ _
 by_cases k4:x.kind=4
 ·simp only[k4,z0v,j19]
  cases ho:z40 x.op with
  |false=>exact .no
  |true=>rw[ye3 ho];exact zu7 h (by rw[U]) _ _
 by_cases k5:x.kind=5
 ·simp only[k5,z0v];exact zu7 h (by rw[U]) _ _
 by_cases k6:x.kind=6
 ·simp only[k6,z0v];exact nil_rl h (by rw[U]) _
 by_cases k7:x.kind=7
 ·simp only[k7,z0v]
  by_cases hp:z05 x.name u.flows 0<0
  ·have e:¬(decide (z05 x.name u.flows 0≥0))=true:=by simp;omega
   simp only[if_pos hp,if_neg e];exact .no
  ·have e:(decide (z05 x.name u.flows 0≥0))=true:=by simp;omega
   simp only[if_neg hp,if_pos e]
   cases u.flows[(z05 x.name u.flows 0).toNat]? with
   |none=>exact .no
   |some g=>exact zu7 h (U _) _ _
 by_cases k8:x.kind=8
 ·simp only[k8,z0v];exact zu7 h (hlen _ rfl).symm _ _
 by_cases k9:x.kind=9
 ·simp only[k9,z0v];exact nil_rl h (U _) _
 have out0:∀c:Bool,((x.outs.length:Int)==0&&c)=true->x.outs=[]:=λc hc=>by
  simp only[A0,Au]at hc;exact At oM0
 by_cases k12:x.kind=12
 ·simp only[k12,z0v];show PR _ _ _ ((x.outs.length:Int)==0&&w.If&&z0w f.types st x.args w.Yield,st) (w.If&&z06 f.types seen x.args w.Yield&&(x.outs.length:Int)==0,set);exact yk4 h (by rw[<- U];cases(w.If)<;>cases((x.outs.length:Int)==0)<;>simp) (λhb=>by rw[Ew]at hb;exact out0 _ hb)
 by_cases k13:x.kind=13
 ·simp only[k13,z0v];show PR _ _ _ ((x.outs.length:Int)==0&&w.Loop&&z0w f.types st x.args w.Next,st) (w.Loop&&z06 f.types seen x.args w.Next&&(x.outs.length:Int)==0,set);exact yk4 h (by rw[<- U];cases(w.Loop)<;>cases((x.outs.length:Int)==0)<;>simp) (λhb=>by rw[Ew]at hb;exact out0 _ hb)
 by_cases k14:x.kind=14
 ·simp only[k14,z0v];show PR _ _ _ ((x.outs.length:Int)==0&&w.Loop&&z0w f.types st x.args w.Left,st) (w.Loop&&z06 f.types seen x.args w.Left&&(x.outs.length:Int)==0,set);exact yk4 h (by rw[<- U];cases(w.Loop)<;>cases((x.outs.length:Int)==0)<;>simp) (λhb=>by rw[Ew]at hb;exact out0 _ hb)
 by_cases k15:x.kind=15
 ·simp only[k15,z0v];show PR _ _ _ ((x.outs.length:Int)==0&&z0w f.types st x.args [f.ty],st) (z06 f.types seen x.args [f.ty]&&(x.outs.length:Int)==0,set);exact yk4 h (by rw[<- U];exact Bool.and_comm _ _) (λhb=>out0 _ hb)
 have e1:(x.kind==1)=false:=by simpa using k1
 have e2:(x.kind==2)=false:=by simpa using k2
 have e3:(x.kind==3)=false:=by simpa using k3
 have e4:(x.kind==4)=false:=by simpa using k4
 have e5:(x.kind==5)=false:=by simpa using k5
 have e6:(x.kind==6)=false:=by simpa using k6
 have e7:(x.kind==7)=false:=by simpa using k7
 have e8:(x.kind==8)=false:=by simpa using k8
 have e9:(x.kind==9)=false:=by simpa using k9
 have e12:(x.kind==12)=false:=by simpa using k12
 have e13:(x.kind==13)=false:=by simpa using k13
 have e14:(x.kind==14)=false:=by simpa using k14
 have e15:(x.kind==15)=false:=by simpa using k15
 have ee:z0v x.kind=false:=by simp[z0v];omega
 simp only[e1,e2,e3,e4,e5,e6,e7,e8,e9,e12,e13,e14,e15,ee,Ap,By,E9];exact .no
theorem y3u:∀(l:List Nd)(st:List Int),z4f st l=z3l st (l.flatMap Nd.outs)
 |[],_=>rfl
 |x::r,st=>by
  have:=y3u r (z3l st x.outs);simp only[z4f,Dt,Es,z3l,Ds]at this⊢;exact this
theorem y80{n:Nat}{st:List Int}{set:List Bool}{all l:List Int}(h:Rl n st set (all++l))(hl:∀v∈l,0<=v/\v<n/\all.contains v=false):Rl n (z3l st l) set all:=by
 refine j0z l st set [] all hl (λv hv=>?_) h.l1 h.l2 h.s (λv hv hc=>?_)
 ·obtain⟨h0,h1,_⟩:=hl v hv;have hu:=h.u v.toNat oM0;have hc:(all++l).contains ((v.toNat:Nat):Int)=true:=by
   rw[show((v.toNat:Nat):Int)=v by omega];simp[hv]
  rw[hc]at hu;have:st.getD v.toNat 0=1:=by simpa using hu.symm
  rw[this];decide
 ·have hu:=h.u v hv;rw[Dh,hc,E9]at hu;exact hu
def LR(u:Un)(f:Fl)(l:List Nd):Prop:=∀(deep:Int)(w:Wh)(st:List Int)(set:List Bool)(seen:List Int),Rl f.types.length st set seen ->
 (z2o u f deep w seen set l).1=(z25 u f deep w st l).1/\((z25 u f deep w st l).1=true->Rl f.types.length (z25 u f deep w st l).2 (z2o u f deep w seen set l).2 seen)
theorem y06{n:Nat}{seen outs:List Int}{r:Bool×List Int}{q:Bool×List Bool}{k:List Int->Bool×List Int}{k':List Bool->Bool×List Bool}(h:q.1=r.1)(hk:r.1=true->PR n seen outs (k r.2) (k' q.2)):PR n seen outs (andQ r k) (andT q k'):=by
 unfold andQ andT;rw[h]
 cases hr:r.1 with
 |false=>exact .no
 |true=>exact hk hr
theorem j4b{f:Fl}{x:Nd}{st:List Int}{set:List Bool}{seen:List Int}(h:Rl f.types.length st set seen):PR f.types.length seen x.outs (z4g f x st) (zg3 f x set):=zu7 h rfl _ _
theorem node_rl(u:Un)(f:Fl)(x:Nd)(ih:∀q∈x.kids,LR u f q)(deep:Int)(w:Wh){st:List Int}{set:List Bool}{seen:List Int}(h:Rl f.types.length st set seen) :
 PR f.types.length seen x.outs (z5y u f deep w st x) (z4y u f deep w seen set x):=by
 cases hb:z1j x with
 |false=>rw[zj7 _ _ _ _ _ hb,zi5 _ _ _ _ _ _ hb];exact .no
 |true =>
  by_cases h10:x.kind=10
  ·obtain⟨a,b,hk⟩:=z3u hb h10;rw[y2b _ _ _ _ _ hb h10 hk,y1g _ _ _ _ _ _ hb h10 hk,yi9 h];split
   ·obtain⟨h1,h2⟩:=ih a (by rw[hk];simp) (deep+1) ⟨true,w.Loop,r8of f.types x.outs,w.Next,w.Left⟩ st set seen h;refine y06 h1 λht=>?_;obtain⟨h3,h4⟩:=ih b (by rw[hk];simp) (deep+1) ⟨true,w.Loop,r8of f.types x.outs,w.Next,w.Left⟩ _ _ seen (h2 ht);exact y06 h3 λht2=>j4b (h4 ht2)
   ·exact .no
  ·by_cases h11:x.kind=11
   ·obtain⟨a,hk⟩:=z2a hb h11;rw[zj8 _ _ _ _ _ hb h11 hk,zi6 _ _ _ _ _ _ hb h11 hk,yi9 h];split
    ·obtain⟨h1,h2⟩:=j3t h x.params (List.replicate x.params.length 0);refine y06 h1 λht=>?_;obtain⟨h3,h4⟩:=h2 ht;obtain⟨h5,h6⟩:=ih a (by rw[hk];simp) (deep+1) ⟨false,true,[],r8of f.types x.params,r8of f.types x.outs⟩ _ _ _ h3;exact y06 h5 λht2=>j4b (y80 (h6 ht2) h4)
    ·exact .no
   ·have e10:(x.kind==10)=false:=by simpa using h10
    have e11:(x.kind==11)=false:=by simpa using h11
    rw[z9h _ _ _ _ _ _ hb e10 e11];have hs:=j3z u f h x w
    cases he:z0v x.kind with
    |true=>rw[zt4 _ _ _ _ _ hb e10 e11 he];rw[if_pos he]at hs;exact hs
    |false=>rw[z9s _ _ _ _ _ hb e10 e11 he];rw[if_neg (by simp[he])]at hs;exact hs
theorem go_rl(u:Un)(f:Fl)(deep:Int)(w:Wh):∀(l:List Nd),(∀x∈l,∀q∈x.kids,LR u f q)->∀(st:List Int)(set:List Bool)(all:List Int),Rl f.types.length st set all ->
 PR f.types.length all (l.flatMap Nd.outs) (shGo u f deep w st l) (r8go u f deep w all set l)
 |[],_,st,set,all,h=>by
  unfold shGo r8go
  exact⟨rfl,λ_=>⟨by simpa using h,λv hv=>by simp at hv⟩⟩
 |x::r,ih,st,set,all,h=>by
  unfold shGo r8go
  by_cases hd:deep > 100
  ·rw[if_pos hd,if_pos hd];exact .no
  ·rw[if_neg hd,if_neg hd];obtain⟨h1,h2⟩:=node_rl u f x (ih x (.head _)) deep w h;refine y06 h1 λht=>?_;obtain⟨h3,h4⟩:=h2 ht
   by_cases hc:(z08 x != r.isEmpty)=true
   ·rw[if_pos hc,if_pos hc];exact .no
   ·rw[if_neg hc,if_neg hc];obtain⟨h5,h6⟩:=go_rl u f deep w r (λy hy=>ih y (.tail _ hy)) _ _ _ h3;refine⟨h5,λht2=>?_⟩;obtain⟨h7,h8⟩:=h6 ht2;refine⟨by simpa using h7,λv hv=>?_⟩;rw[Es,B4]at hv;rcases hv with hv|hv
    ·exact h4 v hv
    ·obtain⟨g1,g2,g3⟩:=h8 v hv;rw[Dh,C0]at g3;exact⟨g1,g2,g3.1⟩
theorem j1a(u:Un)(f:Fl):∀(N:Nat)(l:List Nd),SizeOf.sizeOf l<N->LR u f l
 |0,_,h=>absurd h (Aj _)
 |N+1,l,hN=>by
  intro deep w st set seen h;have ih:∀x∈l,∀q∈x.kids,LR u f q:=λx hx q hq=>j1a u f N q (B8 (z8o hx rfl hq) (Bp hN));obtain⟨h1,h2⟩:=go_rl u f deep w l ih st set seen h;unfold z2o z25 ne andQ
  cases l with
  |nil =>
   simp only[List.isEmpty_nil,C8];unfold shGo
   simp[y9r]
  |cons x r =>
   simp only[List.isEmpty_cons,Ap,By];rw[h1]
   cases hg:(shGo u f deep w st (x::r)).1 with
   |false=>simp[hg]
   |true =>
    obtain⟨h3,h4⟩:=h2 hg;simp only[C8,y9r];refine⟨by simp,λ_=>?_⟩;rw[y3u];exact y80 h3 h4
theorem j3x(u:Un)(f:Fl)(deep:Int)(w:Wh){st:List Int}{set:List Bool}{seen:List Int}(h:Rl f.types.length st set seen)(l:List Nd):(z25 u f deep w st l).1=(z2o u f deep w seen set l).1 :=
 ((j1a u f _ l (Aa _)) deep w st set seen h).1.symm
theorem start_rl{k n:Nat}(h:k<=n):Rl n (zo2 k n) (z6j k n) (iota k):=by
 refine⟨zx3 h,z5f h,λv hv=>?_,λv hv=>?_⟩
 ·simp only[z6j,zo2,Ax]
  by_cases e:v<k
  ·rw[Aq (by simpa using e),Aq (by simpa using e)];simp[Dx,e]
  ·rw[Ay (by simpa using e),Ay (by simpa using e)];simp only[E7,Dx];rw[if_pos oM0,if_pos oM0];rfl
 ·have hc:(iota k).contains (v:Int)=decide (v<k):=by
   simp only[iota]
   by_cases e:v<k
   ·simp[e];exact⟨v,e,rfl⟩
   ·simp[e];intro x hx;omega
  rw[hc];simp only[zo2,Ax]
  by_cases e:v<k
  ·rw[Aq (by simpa using e)];simp[Dx,e]
  ·rw[Ay (by simpa using e)];simp only[E7,Dx];rw[if_pos oM0];simp[e]
theorem yk1:∀l:List Int,l.any (λt=>!isTy t) = !l.all (λt=>t==1||t==2)
 |[]=>rfl
 |t::r=>by rw[List.any_cons,D2,yk1 r,Bool.not_and];rfl
theorem j3v(u:Un)(f:Fl)(h0:0<=f.params)(h1:f.params<=f.types.length):y2a u f=z5m u f:=by
 unfold y2a z5m;rw[j3x u f 1 z47 (start_rl (k:=f.params.toNat) oM0) f.body];have e1:decide (f.params<0)=false:=by simp;omega
 have e2:decide (f.params > f.types.length)=false:=by simp;omega
 have e3:=yk1 f.types;rw[e1,e2,e3]
 cases decide (f.params > 8)<;>cases decide ((f.types.length:Int) > 20000)<;>cases f.types.all (λt=>t==1||t==2)<;>simp
def nmA(l:List Ar):List (List UInt8):=l.map λa=>a.name.toList
def nmF(l:List Fl):List (List UInt8):=l.map λa=>a.name.toList
theorem y07(nm:ByteArray):∀(pre l:List Ar)(i:Int),(nm.toList∈nmA pre->i<=z0h nm (pre++l) i/\z0h nm (pre++l) i<i+pre.length)/\(nm.toList∉nmA pre->z0h nm (pre++l) i=z0h nm l (i+pre.length))
 |[],l,i=>by simp[nmA]
 |a::pre,l,i=>by
  obtain⟨h1,h2⟩:=y07 nm pre l (i+1);rw[Bb,show z0h nm (a::(pre++l)) i=if (a.name.toList==nm.toList)=true then i else z0h nm (pre++l) (i+1)from rfl]
  by_cases e:a.name.toList=nm.toList
  ·have eb:(a.name.toList==nm.toList)=true:=by simpa using e
   rw[if_pos eb];refine⟨λ_=>⟨D1 _,by simp;omega⟩,λh=>absurd (by simp[nmA,e]) h⟩
  ·have eb:¬(a.name.toList==nm.toList)=true:=by simpa using e
   rw[if_neg eb];refine⟨λh=>?_,λh=>?_⟩
   ·have:nm.toList∈nmA pre:=by
     simp only[nmA,B3,Ao]at h;exact h.resolve_left λh=>e h.symm
    have:=h1 this;simp only[A1];omega
   ·have:nm.toList∉nmA pre:=λhm=>h (by simp only[nmA,B3,Ao];exact .inr hm);rw[h2 this]
    congr 1
    simp only[A1];omega
theorem zi2(nm:ByteArray):∀(pre l:List Fl)(i:Int),(nm.toList∈nmF pre->i<=z05 nm (pre++l) i/\z05 nm (pre++l) i<i+pre.length)/\(nm.toList∉nmF pre->z05 nm (pre++l) i=z05 nm l (i+pre.length))
 |[],l,i=>by simp[nmF]
 |a::pre,l,i=>by
  obtain⟨h1,h2⟩:=zi2 nm pre l (i+1);rw[Bb,show z05 nm (a::(pre++l)) i=if (a.name.toList==nm.toList)=true then i else z05 nm (pre++l) (i+1)from rfl]
  by_cases e:a.name.toList=nm.toList
  ·have eb:(a.name.toList==nm.toList)=true:=by simpa using e
   rw[if_pos eb];refine⟨λ_=>⟨D1 _,by simp;omega⟩,λh=>absurd (by simp[nmF,e]) h⟩
  ·have eb:¬(a.name.toList==nm.toList)=true:=by simpa using e
   rw[if_neg eb];refine⟨λh=>?_,λh=>?_⟩
   ·have:nm.toList∈nmF pre:=by
     simp only[nmF,B3,Ao]at h;exact h.resolve_left λh=>e h.symm
    have:=h1 this;simp only[A1];omega
   ·have:nm.toList∉nmF pre:=λhm=>h (by simp only[nmF,B3,Ao];exact .inr hm);rw[h2 this]
    congr 1
    simp only[A1];omega
theorem j1t(nm:ByteArray)(l:List Fl):z05 nm l 0≥0↔nm.toList∈nmF l:=by
 obtain⟨h1,h2⟩:=zi2 nm l [] 0;rw[D3]at h1 h2
 by_cases h:nm.toList∈nmF l
 ·exact⟨λ_=>h,λh=>(h1 h).1⟩
 ·refine⟨λh3=>?_,λh4=>absurd h4 h⟩;rw[h2 h]at h3;simp[z05]at h3
theorem array_at(nm:ByteArray)(pre r:List Ar)(a:Ar)(h:a.name.toList=nm.toList):z0h nm (pre++a::r) 0=pre.length↔nm.toList∉nmA pre:=by
 obtain⟨h1,h2⟩:=y07 nm pre (a::r) 0
 by_cases e:nm.toList∈nmA pre
 ·have:=h1 e;exact⟨λh=>by omega,λh=>absurd e h⟩
 ·refine⟨λ_=>e,λ_=>?_⟩;rw[h2 e];have eb:(a.name.toList==nm.toList)=true:=by simpa using h
  rw[show z0h nm (a::r) (0+pre.length)=if (a.name.toList==nm.toList)=true then(0+pre.length:Int)else z0h nm r (0+pre.length+1)from rfl,if_pos eb];omega
theorem place_at(nm:ByteArray)(pre r:List Fl)(a:Fl)(h:a.name.toList=nm.toList):z05 nm (pre++a::r) 0=pre.length↔nm.toList∉nmF pre:=by
 obtain⟨h1,h2⟩:=zi2 nm pre (a::r) 0
 by_cases e:nm.toList∈nmF pre
 ·have:=h1 e;exact⟨λh=>by omega,λh=>absurd e h⟩
 ·refine⟨λ_=>e,λ_=>?_⟩;rw[h2 e];have eb:(a.name.toList==nm.toList)=true:=by simpa using h
  rw[show z05 nm (a::r) (0+pre.length)=if (a.name.toList==nm.toList)=true then(0+pre.length:Int)else z05 nm r (0+pre.length+1)from rfl,if_pos eb];omega
theorem gA_iff(u:Un):∀(pre l:List Ar),u.arrays=pre++l->(r8gA u l pre.length=true↔(∀a∈l,zy2 a=true/\a.name.toList∉nmF u.flows/\a.name.toList∉nmA pre)/\(nmA l).Nodup)
 |pre,[],_=>by simp[r8gA,nmA]
 |pre,a::r,hu=>by
  have ih:=gA_iff u (pre++[a]) r (by simp[hu]);have hlen:(((pre++[a]).length:Nat):Int)=(pre.length:Int)+1:=by simp
  rw[hlen]at ih;rw[r8gA,A0,ih];have ha:gArr u a pre.length=true↔zy2 a=true/\a.name.toList∉nmA pre/\a.name.toList∉nmF u.flows:=by
   have h1:=array_at a.name pre r a rfl;have h2:=j1t a.name u.flows;rw[<- hu]at h1;unfold gArr zy2;simp only[A0,Bc,Ci,Au,h1,h2];constructor
   ·rintro⟨⟨⟨⟨a1,a2⟩,a3⟩,a4⟩,a5⟩;exact⟨⟨⟨a1,a2⟩,a3⟩,a4,a5⟩
   ·rintro⟨⟨⟨a1,a2⟩,a3⟩,a4,a5⟩;exact⟨⟨⟨⟨a1,a2⟩,a3⟩,a4⟩,a5⟩
  rw[ha];constructor
  ·rintro⟨⟨b1,b2,b3⟩,b4,b5⟩;refine⟨λx hx=>?_,?_⟩
   ·rcases Ao.1 hx with rfl|hx
    ·exact⟨b1,b3,b2⟩
    ·obtain⟨c1,c2,c3⟩:=b4 x hx;exact⟨c1,c2,λh=>c3 (by simp only[nmA,Cg,B4];exact .inl h)⟩
   ·refine Dv.2 ⟨λh=>?_,b5⟩;obtain⟨x,hx,e⟩:=Cb.1 h;exact(b4 x hx).2.2 (by simp only[nmA,Cg,B4,B3,Cs,Ak];exact .inr e)
  ·rintro⟨b1,b2⟩;have b3:=Dv.1 b2;obtain⟨c1,c2,c3⟩:=b1 a (.head _);refine⟨⟨c1,c3,c2⟩,λx hx=>?_,b3.2⟩;obtain⟨d1,d2,d3⟩:=b1 x (.tail _ hx);refine⟨d1,d2,λh=>?_⟩;simp only[nmA,Cg,B4,B3,Cs,Ak]at h;rcases h with h|h
   ·exact d3 h
   ·exact b3.1 (Cb.2 ⟨x,hx,h⟩)
theorem gF_iff(u:Un):∀(pre l:List Fl),u.flows=pre++l->(r8gF u l pre.length=true↔(∀a∈l,zo3 a=true/\a.name.toList∉nmF pre)/\(nmF l).Nodup)
 |pre,[],_=>by simp[r8gF,nmF]
 |pre,a::r,hu=>by
  have ih:=gF_iff u (pre++[a]) r (by simp[hu]);have hlen:(((pre++[a]).length:Nat):Int)=(pre.length:Int)+1:=by simp
  rw[hlen]at ih;rw[r8gF,A0,ih];have ha:gFlw u a pre.length=true↔zo3 a=true/\a.name.toList∉nmF pre:=by
   have h1:=place_at a.name pre r a rfl;rw[<- hu]at h1;unfold gFlw zo3 isTy;simp only[A0,Bc,Ci,Au,h1];constructor
   ·rintro⟨⟨⟨⟨a1,a2⟩,a3⟩,a4⟩,a5⟩;exact⟨⟨⟨⟨a1,a3⟩,a4⟩,a5⟩,a2⟩
   ·rintro⟨⟨⟨⟨a1,a3⟩,a4⟩,a5⟩,a2⟩;exact⟨⟨⟨⟨a1,a2⟩,a3⟩,a4⟩,a5⟩
  rw[ha];constructor
  ·rintro⟨⟨b1,b2⟩,b4,b5⟩;refine⟨λx hx=>?_,?_⟩
   ·rcases Ao.1 hx with rfl|hx
    ·exact⟨b1,b2⟩
    ·obtain⟨c1,c3⟩:=b4 x hx;exact⟨c1,λh=>c3 (by simp only[nmF,Cg,B4];exact .inl h)⟩
   ·refine Dv.2 ⟨λh=>?_,b5⟩;obtain⟨x,hx,e⟩:=Cb.1 h;exact(b4 x hx).2 (by simp only[nmF,Cg,B4,B3,Cs,Ak];exact .inr e)
  ·rintro⟨b1,b2⟩;have b3:=Dv.1 b2;obtain⟨c1,c3⟩:=b1 a (.head _);refine⟨⟨c1,c3⟩,λx hx=>?_,b3.2⟩;obtain⟨d1,d3⟩:=b1 x (.tail _ hx);refine⟨d1,λh=>?_⟩;simp only[nmF,Cg,B4,B3,Cs,Ak]at h;rcases h with h|h
   ·exact d3 h
   ·exact b3.1 (Cb.2 ⟨x,hx,h⟩)
def z2q(es:List (Value×PV)):List (List UInt8):=es.map λe=>match e.1 with
 |.string s=>s.toList
 |_=>[]
theorem y10(s:ByteArray)(v:PV):∀(es:List (Value×PV)),Cnt es->(s.toList∈z2q es->z2q (mput (.string s) v es)=z2q es)/\(s.toList∉z2q es->z2q (mput (.string s) v es)=z2q es++[s.toList])
 |[],_=>by simp[z2q,mput]
 |(a,p)::r,h=>by
  have ha:=h.1 (a,p) (.head _);have hr:Cnt r:=⟨λe he=>h.1 e (.tail _ he),λe he=>h.2 e (.tail _ he)⟩;obtain⟨h1,h2⟩:=y10 s v r hr
  cases a with
  |string t =>
   simp only[mput]
   by_cases e:s.toList=t.toList
   ·have eb:keyB (.string s) (.string t)=true:=by simpa[keyB]using e
    rw[if_pos eb];exact⟨λ_=>by simp[z2q,e],λh=>absurd (by simp[z2q,e]) h⟩
   ·have eb:¬keyB (.string s) (.string t)=true:=by simpa[keyB]using e
    rw[if_neg eb];refine⟨λh=>?_,λh=>?_⟩
    ·have:s.toList∈z2q r:=by
      simp only[z2q,B3,Ao]at h;exact h.resolve_left e
     have h3:=h1 this;simp only[z2q,B3]at h3⊢;rw[h3]
    ·have:s.toList∉z2q r:=λhm=>h (by simp only[z2q,B3,Ao];exact .inr hm);have h3:=h2 this;simp only[z2q,B3,Bb]at h3⊢
     rw[h3]
  |_=>simp[z1w]at ha
theorem yb4(s:ByteArray){es:List (Value×PV)}(h:Cnt es):(s.toList∈z2q es->z2q (bump s es)=z2q es)/\(s.toList∉z2q es->z2q (bump s es)=z2q es++[s.toList]):=by
 obtain⟨n,hn⟩:=h.find (.string s);rw[zh5 hn];exact y10 s _ es h
def y0d(es:List (Value×PV))(l:List ByteArray):List (Value×PV):=l.foldl (λe s=>bump s e) es
def nmS(l:List ByteArray):List (List UInt8):=l.map ByteArray.toList
theorem y3n:∀(l:List ByteArray) (es:List (Value×PV)),Cnt es->(z2q (y0d es l)).length<=(z2q es).length+l.length /\
 ((z2q (y0d es l)).length=(z2q es).length+l.length↔(∀s∈l,s.toList∉z2q es)/\(nmS l).Nodup)
 |[],es,_=>by simp[y0d,nmS]
 |s::r,es,h=>by
  obtain⟨ih1,ih2⟩:=y3n r (bump s es) (h.bump s);obtain⟨h1,h2⟩:=yb4 s h;show(z2q (y0d (bump s es) r)).length<=_/\((z2q (y0d (bump s es) r)).length=_↔_)
  by_cases e:s.toList∈z2q es
  ·rw[h1 e]at ih1;refine⟨by simp only[A1];omega,λhl=>by simp only[A1]at hl;omega,λhb=>absurd e (hb.1 s (.head _))⟩
  ·have hk:=h2 e;rw[hk]at ih1 ih2;simp only[B5,A1,A6]at ih1 ih2⊢;refine⟨by omega,?_⟩;rw[show(z2q es).length+(r.length+1)=(z2q es).length+(0+1)+r.length by omega,ih2];constructor
   ·rintro⟨b1,b2⟩;refine⟨λx hx=>?_,Dv.2 ⟨λhm=>?_,b2⟩⟩
    ·rcases Ao.1 hx with rfl|hx
     ·exact e
     ·exact λhm=>b1 x hx (B4.2 (.inl hm))
    ·obtain⟨x,hx,he⟩:=Cb.1 hm;exact b1 x hx (by rw[he];simp)
   ·rintro⟨b1,b2⟩;have b3:=Dv.1 b2;refine⟨λx hx hm=>?_,b3.2⟩;rcases B4.1 hm with hm|hm
    ·exact b1 x (.tail _ hx) hm
    ·exact b3.1 (Cb.2 ⟨x,hx,by simpa using hm⟩)
theorem j0g(u:Un):((y3m (y0c [] u.arrays) u.flows).length:Int)=u.arrays.length+u.flows.length↔(nmA u.arrays++nmF u.flows).Nodup:=by
 have e:y3m (y0c [] u.arrays) u.flows=y0d [] (u.arrays.map Ar.name++u.flows.map Fl.name):=by
  simp only[y3m,y0c,y0d,Ds,List.foldl_map]
 have hn:nmS (u.arrays.map Ar.name++u.flows.map Fl.name)=nmA u.arrays++nmF u.flows:=by
  simp only[nmS,nmA,nmF,Cg,El];rfl
 obtain⟨_,h2⟩:=y3n (u.arrays.map Ar.name++u.flows.map Fl.name) [] .nil;rw[e];simp only[z2q,Ac,B5,A6,Bt]at h2;rw[<- hn];constructor
 ·intro h;exact(h2.1 oM0).2
 ·intro h;have:=h2.2 ⟨λs _=>by simp,h⟩;omega
theorem j3w(u:Un):z92 u=z1f u:=by
 have hA:=gA_iff u [] u.arrays rfl;have hF:=gF_iff u [] u.flows rfl;simp only[A6]at hA hF;rw[Cl];unfold z92 z1f;simp only[A0,Be,Au,j0g];rw[show((0:Nat):Int)=0 from rfl]at hA hF;rw[hA,hF,Fk];constructor
 ·rintro⟨⟨⟨a1,a2⟩,a3,a4,a5⟩,a6⟩;exact⟨⟨⟨λa ha=>⟨a1 a ha,λhm=>a5 _ (Cb.2 ⟨a,ha,rfl⟩) _ hm rfl,by simp[nmA]⟩,a3⟩,λf hf=>⟨a2 f hf,by simp[nmF]⟩,a4⟩,a6⟩
 ·rintro⟨⟨⟨a1,a3⟩,a2,a4⟩,a6⟩;refine⟨⟨⟨λa ha=>(a1 a ha).1,λf hf=>(a2 f hf).1⟩,a3,a4,λx hx y hy e=>?_⟩,a6⟩;obtain⟨a,ha,rfl⟩:=Cb.1 hx;exact(a1 a ha).2.1 (e▸hy)
theorem y52(u:Un):∀(l:List Fl)(i:Int),(∀f∈l,0<=f.params/\f.params<=f.types.length)->z9u u l i=z5n u l i
 |[],_,_=>rfl
 |f::r,i,h=>by
  obtain⟨h1,h2⟩:=h f (.head _);simp only[z9u,z5n,j3v u f h1 h2,y52 u r (i+1) (λf hf=>h f (.tail _ hf))]
theorem zt3(u:Un):z59 u=z17 u:=by
 unfold z59 z17;rw[j3w]
 cases h:z1f u with
 |false=>rfl
 |true=>simp only[C8];exact y52 u _ _ (z6t h)
section
variable {P:Program} {c:Cx} {R1:Nat->Prop} {o:Oper} {fr:Fr} {hp:Hp} {σ:Heap'} {Q:Exit->Fr->Heap'->Prop}
theorem yt6{t e:TypeId}{x:Operand}(ho:o.op=.call { callee:=.builtin .cap,args:=#[x],argTypes:=#[t] })(hx:fr.ev x=some (.pv (.val (.slice none 0 0))))(hu:P.underlying t=some (.slice e)):OkV P c R1 o fr σ (iInt 0):=by
 intro ρ w a h;refine⟨.int .i64 0,λw2 _=>?_,z3k _⟩;simp[execOp,ho,z0u h hx,resolve,Ai,invoke,builtin,Builtin.cap_,B6 hu,goInt]
theorem All.freezeCell{ρ:Loc}{w:World}{a:Act}{k k2 j n:Nat}{s:RT}{els:List (List PV)}{cs:List IV}(h:All c ρ (look hp) w fr a)(hk:look hp k=some (.row s els))(hn:els.length=n)(hk2:look hp k2=some (.box cs))(hj:cs[j]?=some (.sl k n))(hne:k≠k2) :
 All c (z15 ρ k none) (look ((k2,some (.box (cs.set j (.pv (.seq els)))))::(k,none)::hp)) w fr a:=by
 have h':=h.drop (k:=k);have hown:∀b,owned c.F (z15 ρ k none) b->owned c.F ρ b:=λb hb=>by
  rcases hb with hb|⟨i,cc,hi⟩
  ·exact .inl hb
  ·by_cases e:i=k
   ·subst e;rw[z0a]at hi;cases hi
   ·rw[z2t (C3 e)]at hi;exact .inr ⟨i,cc,hi⟩
 have hlk:∀i,i≠k2->look ((k2,some (.box (cs.set j (.pv (.seq els)))))::(k,none)::hp) i=look ((k,none)::hp) i:=λi hi=>z1k (C3 hi);have hlk2:look ((k2,some (.box (cs.set j (.pv (.seq els)))))::(k,none)::hp) k2=some (.box (cs.set j (.pv (.seq els)))):=z1e;have hk2':look ((k,none)::hp) k2=some (.box cs):=yd1 hne hk2;have hnew:∀v,RepI c.F ρ (look hp) w (.sl k n) v->RepP (owned c.F (z15 ρ k none)) w (.seq els) v:=by
  intro v hv
  cases hv with
  |sl _ _ _ hv =>
   obtain⟨_,h2⟩:=hv s els hk;rcases h2 hn with⟨b,cc,hρ,rfl⟩|⟨_,hz,rfl⟩
   ·obtain⟨o1,h3,h4⟩:=h.rel.obj k b cc hρ;rw[hk]at h3;cases h3
    cases h4 with
    |row _ _ r u h3 hs hl hm hwe hcells hu =>
     rw[<- hn];refine .seq els _ cc b 0 u (λ_=>rfl) (λ_=>⟨λho=>?_,h.rel.lt hρ⟩) oM0 hm (λi el hi q x hq=>?_) λi el hi q x hq=>(hu i el hi q x hq).own hown
     ·rcases ho with ho|⟨i,cc',hi⟩
      ·exact h.rel.apart _ _ _ hρ ho
      ·by_cases e:i=k
       ·subst e;rw[z0a]at hi;cases hi
       ·rw[z2t (C3 e)]at hi;exact e (h.rel.inj _ _ _ _ _ hi hρ)
     ·rw[z4v h3,Bt,hwe el (Ag hi)];exact hcells i el hi q x hq
   ·have hnil:els=[]:=At oM0;subst hnil;exact .seq [] none 0 0 0 (λ_ _=>undef) sI0 sI0 sI0 (by simp[maxLen]) sI0 sI0
 have hconv:∀x v,RepI c.F (z15 ρ k none) (look ((k,none)::hp)) w x v->RepI c.F (z15 ρ k none) (look ((k2,some (.box (cs.set j (.pv (.seq els)))))::(k,none)::hp)) w x v:=by
  intro x v hx
  induction hx with
  |pv p v hp=>exact .pv p v hp
  |ptr i off v hi =>
   refine .ptr i off v λcs' h2=>?_
   by_cases e:i=k2
   ·subst e;exact hi _ hk2'
   ·rw[hlk i e]at h2;exact hi _ h2
  |sl i len v hi =>
   refine .sl i len v λs' els' h2=>?_
   by_cases e:i=k2
   ·subst e;rw[hlk2]at h2;cases h2
   ·rw[hlk i e]at h2;exact hi _ _ h2
  |sp i n len v hi =>
   refine .sp i n len v λs' els' h2=>?_
   by_cases e:i=k2
   ·subst e;rw[hlk2]at h2;cases h2
   ·rw[hlk i e]at h2;exact hi _ _ h2
  |rpt i len off v hi =>
   refine .rpt i len off v λs' els' h2=>?_
   by_cases e:i=k2
   ·subst e;rw[hlk2]at h2;cases h2
   ·rw[hlk i e]at h2;exact hi _ _ h2
  |bs i n v hi =>
   refine .bs i n v λcs' h2=>?_
   by_cases e:i=k2
   ·subst e;exact hi _ hk2'
   ·rw[hlk i e]at h2;exact hi _ h2
  |mp i v hi =>
   refine .mp i v λes h2=>?_
   by_cases e:i=k2
   ·subst e;rw[hlk2]at h2;cases h2
   ·rw[hlk i e]at h2;exact hi _ h2
  |tnil i T v hi =>
   refine .tnil i T v λcs' h2=>?_
   by_cases e:i=k2
   ·subst e;exact hi _ hk2'
   ·rw[hlk i e]at h2;exact hi _ h2
  |agg cs vs u hl hv _ ih=>exact .agg cs vs u hl hv ih
  |tup cs vs u hl hv _ ih=>exact .tup cs vs u hl hv ih
  |fn f xs ys vs ws u t hl hv _ hl' hv' _ ih ih'=>exact .fn f xs ys vs ws u t hl hv ih hl' hv' ih'
 refine⟨⟨h'.rel.inj,h'.rel.apart,h'.rel.old,λi b cc hi=>?_,λi o h1 h2=>?_⟩,λt x hx=>?_,?_,h'.df,h'.sz,h.kk⟩
 ·obtain⟨o1,h1,h2⟩:=h'.rel.obj i b cc hi
  by_cases e:i=k2
  ·subst e;rw[hk2']at h1;cases h1
   refine⟨_,hlk2,?_⟩;have hρi:ρ i=some (b,cc):=by rwa [z2t hne]at hi
   obtain⟨o3,h3,h4⟩:=h.rel.obj i b cc hρi;rw[hk2]at h3;cases h3
   cases h2 with
   |box _ e' r u h5 hl hv hr =>
    cases h4 with
    |box _ e2 r2 u2 h6 hl2 hv2 hr2 =>
     rw[h5]at h6;cases h6
     refine .box _ e' r u h5 (by simpa using hl) (λq x hq=>?_) λq x hq=>?_
     ·by_cases eq:q=j
      ·subst eq;exact hv q _ hj
      ·rw[Bk (C3 eq)]at hq;exact hv q x hq
     ·by_cases eq:q=j
      ·subst eq;have hlt:q<cs.length:=(A7.1 hj).1;rw[Bl hlt]at hq;cases hq
       have e3:u q=u2 q:=by
        have a1:=hv q _ hj;have a2:=hv2 q _ hj;rw[a1]at a2;exact Bx a2
       rw[e3];exact .pv _ _ (hnew _ (hr2 q _ hj))
      ·rw[Bk (C3 eq)]at hq;exact hconv _ _ (hr q x hq)
  ·refine⟨o1,(hlk i e).trans h1,?_⟩
   cases h2 with
   |box cs' e' r u h hl hv hr=>exact .box cs' e' r u h hl hv λq x hq=>hconv _ _ (hr q x hq)
   |row s' els' r u h hs hl hm hw hv hr=>exact .row s' els' r u h hs hl hm hw hv hr
   |map es r t u h hl hv hr=>exact .map es r t u h hl hv hr
 ·by_cases e:i=k2
  ·subst e;rw[z2t hne]at h2;obtain⟨s',h3⟩:=h.rel.real i _ hk2 h2
   cases h3
  ·rw[hlk i e]at h1;exact h'.rel.real i o h1 h2
 ·obtain⟨v,hv,hr⟩:=h'.fr t x hx;exact⟨v,hv,hconv _ _ hr⟩
 ·have t:=h'.tr;refine⟨t.os,t.tape,t.output,t.size,t.blk,t.own,λi a1 a2 e1 e2=>?_,λi a1 a2 e1 e2=>?_,λi s1 s2 a1 a2 e1 e2 hl=>?_,λi s1 s2 a1 a2 e1 e2=>?_,λi a2 e2=>?_,λi a2 e2=>?_,λi s1 a2 e2=>?_⟩
  all_goals by_cases e:i=k2
  ·subst e;exact t.box i _ _ e1 hk2'
  ·rw[hlk i e]at e2;exact t.box i _ _ e1 e2
  ·subst e;rw[hlk2]at e2;cases e2
  ·rw[hlk i e]at e2;exact t.map i _ _ e1 e2
  ·subst e;rw[hlk2]at e2;cases e2
  ·rw[hlk i e]at e2;exact t.row i _ _ _ _ e1 e2 hl
  ·subst e;rw[hlk2]at e2;cases e2
  ·rw[hlk i e]at e2;exact t.grow i _ _ _ _ e1 e2
  ·subst e;exact t.kindB i _ hk2'
  ·rw[hlk i e]at e2;exact t.kindB i _ e2
  ·subst e;rw[hlk2]at e2;cases e2
  ·rw[hlk i e]at e2;exact t.kindM i _ e2
  ·subst e;rw[hlk2]at e2;cases e2
  ·rw[hlk i e]at e2;exact t.kindR i _ _ e2
theorem Tr.freezeCell{x:Code}{k k2 j n:Nat}{s:RT}{els:List (List PV)}{cs:List IV}(hk:look hp k=some (.row s els))(hn:els.length=n)(hk2:look hp k2=some (.box cs))(hj:cs[j]?=some (.sl k n))(hne:k≠k2)
 (h:Tr P c x fr (look ((k2,some (.box (cs.set j (.pv (.seq els)))))::(k,none)::hp)) Q):Tr P c x fr (look hp) Q:=λ_ w a ha=>h _ w a (ha.freezeCell hk hn hk2 hj hne)
theorem SC.sameR{f:FuncId}{args:List IV}{pre post:List (Nat×HO)}{R R':Nat->Prop}{r:IV}(h:SC P f args pre R r post)(hR:∀k,look (up pre) k≠none->R' k->R k):SC P f args pre R' r post:=by
 intro F ρ w vs hkept hrel hargs;refine(h F ρ w vs hkept hrel hargs).mono ?_;rintro e w' ⟨ρ',v,he,hv,hrel',t⟩;refine⟨ρ',v,he,hv,hrel',{ t with blk:=λb hb hall=>t.blk b hb λk cc hk=>hR k ?_ (hall k cc hk),own:=λk b cc hk hb=>(t.own k b cc hk hb).elim .inl λ⟨k0,c0,g,gn⟩=>.inr ⟨k0,c0,g,λr=>gn (hR k0 (by obtain⟨o,ho,_⟩:=hrel.obj _ _ _ g;rw[ho];simp) r)⟩ }⟩;obtain⟨o,ho,_⟩:=hrel.obj k b cc hk;rw[ho];simp
theorem Tr.growCell{x:Code}{k k2 j:Nat}{cs:List IV}(s:RT)(hk2:look hp k2=some (.box cs))(hj:cs[j]?=some (.pv (.val (.slice none 0 0))))(hσ:look hp k=none)(hc:c.σ k=none)(hfr:nmFr k fr=false)(hhp:nmHp k hp=false)
 (h:Tr P c x fr (look ((k2,some (.box (cs.set j (.sl k 0))))::(k,some (.row s []))::hp)) Q):Tr P c x fr (look hp) Q:=by
 intro ρ w a ha;obtain⟨hk,h'⟩:=ha.ghost hσ hc hfr hhp s;refine h ρ w a ?_;have hne:k≠k2:=λe=>by subst e;rw[hσ]at hk2;cases hk2
 have hk2':look ((k,some (.row s []))::hp) k2=some (.box cs):=yd1 hne hk2;have hlk:∀i,i≠k2->look ((k2,some (.box (cs.set j (.sl k 0))))::(k,some (.row s []))::hp) i=look ((k,some (.row s []))::hp) i:=λi hi=>z1k (C3 hi);have hlk2:look ((k2,some (.box (cs.set j (.sl k 0))))::(k,some (.row s []))::hp) k2=some (.box (cs.set j (.sl k 0))):=z1e;have hconv:∀x v,RepI c.F ρ (look ((k,some (.row s []))::hp)) w x v->RepI c.F ρ (look ((k2,some (.box (cs.set j (.sl k 0))))::(k,some (.row s []))::hp)) w x v:=by
  intro x v hx
  induction hx with
  |pv p v hp=>exact .pv p v hp
  |ptr i off v hi =>
   refine .ptr i off v λcs' h2=>?_
   by_cases e:i=k2
   ·subst e;exact hi _ hk2'
   ·rw[hlk i e]at h2;exact hi _ h2
  |sl i len v hi =>
   refine .sl i len v λs' els' h2=>?_
   by_cases e:i=k2
   ·subst e;rw[hlk2]at h2;cases h2
   ·rw[hlk i e]at h2;exact hi _ _ h2
  |sp i n len v hi =>
   refine .sp i n len v λs' els' h2=>?_
   by_cases e:i=k2
   ·subst e;rw[hlk2]at h2;cases h2
   ·rw[hlk i e]at h2;exact hi _ _ h2
  |rpt i len off v hi =>
   refine .rpt i len off v λs' els' h2=>?_
   by_cases e:i=k2
   ·subst e;rw[hlk2]at h2;cases h2
   ·rw[hlk i e]at h2;exact hi _ _ h2
  |bs i n v hi =>
   refine .bs i n v λcs' h2=>?_
   by_cases e:i=k2
   ·subst e;exact hi _ hk2'
   ·rw[hlk i e]at h2;exact hi _ h2
  |mp i v hi =>
   refine .mp i v λes h2=>?_
   by_cases e:i=k2
   ·subst e;rw[hlk2]at h2;cases h2
   ·rw[hlk i e]at h2;exact hi _ h2
  |tnil i T v hi =>
   refine .tnil i T v λcs' h2=>?_
   by_cases e:i=k2
   ·subst e;exact hi _ hk2'
   ·rw[hlk i e]at h2;exact hi _ h2
  |agg cs vs u hl hv _ ih=>exact .agg cs vs u hl hv ih
  |tup cs vs u hl hv _ ih=>exact .tup cs vs u hl hv ih
  |fn f xs ys vs ws u t hl hv _ hl' hv' _ ih ih'=>exact .fn f xs ys vs ws u t hl hv ih hl' hv' ih'
 refine⟨⟨h'.rel.inj,h'.rel.apart,h'.rel.old,λi b cc hi=>?_,λi o h1 h2=>?_⟩,λt x hx=>?_,?_,h'.df,h'.sz,h'.kk⟩
 ·obtain⟨o1,h1,h2⟩:=h'.rel.obj i b cc hi
  by_cases e:i=k2
  ·subst e;rw[hk2']at h1;cases h1
   refine⟨_,hlk2,?_⟩
   cases h2 with
   |box _ e' r u h5 hl hv hr =>
    refine .box _ e' r u h5 (by simpa using hl) (λq x hq=>?_) λq x hq=>?_
    ·by_cases eq:q=j
     ·subst eq;exact hv q _ hj
     ·rw[Bk (C3 eq)]at hq;exact hv q x hq
    ·by_cases eq:q=j
     ·subst eq;have hlt:q<cs.length:=(A7.1 hj).1;rw[Bl hlt]at hq;cases hq
      have hnil:=(hr q _ hj).val;rw[hnil];refine .sl _ _ _ λs1 els1 h1=>?_;rw[hlk _ hne,z1e]at h1
      cases h1
      exact⟨Ad _,λ_=>.inr ⟨hk,rfl,rfl⟩⟩
     ·rw[Bk (C3 eq)]at hq;exact hconv _ _ (hr q x hq)
  ·refine⟨o1,(hlk i e).trans h1,?_⟩
   cases h2 with
   |box cs' e' r u h hl hv hr=>exact .box cs' e' r u h hl hv λq x hq=>hconv _ _ (hr q x hq)
   |row s' els' r u h hs hl hm hw hv hr=>exact .row s' els' r u h hs hl hm hw hv hr
   |map es r t u h hl hv hr=>exact .map es r t u h hl hv hr
 ·by_cases e:i=k2
  ·subst e;obtain⟨s',h3⟩:=h'.rel.real i _ hk2' h2
   cases h3
  ·rw[hlk i e]at h1;exact h'.rel.real i o h1 h2
 ·obtain⟨v,hv,hr⟩:=h'.fr t x hx;exact⟨v,hv,hconv _ _ hr⟩
 ·have t:=h'.tr;refine⟨t.os,t.tape,t.output,t.size,t.blk,t.own,λi a1 a2 e1 e2=>?_,λi a1 a2 e1 e2=>?_,λi s1 s2 a1 a2 e1 e2 hl=>?_,λi s1 s2 a1 a2 e1 e2=>?_,λi a2 e2=>?_,λi a2 e2=>?_,λi s1 a2 e2=>?_⟩
  all_goals by_cases e:i=k2
  ·subst e;exact t.box i _ _ e1 hk2'
  ·rw[hlk i e]at e2;exact t.box i _ _ e1 e2
  ·subst e;rw[hlk2]at e2;cases e2
  ·rw[hlk i e]at e2;exact t.map i _ _ e1 e2
  ·subst e;rw[hlk2]at e2;cases e2
  ·rw[hlk i e]at e2;exact t.row i _ _ _ _ e1 e2 hl
  ·subst e;rw[hlk2]at e2;cases e2
  ·rw[hlk i e]at e2;exact t.grow i _ _ _ _ e1 e2
  ·subst e;exact t.kindB i _ hk2'
  ·rw[hlk i e]at e2;exact t.kindB i _ e2
  ·subst e;rw[hlk2]at e2;cases e2
  ·rw[hlk i e]at e2;exact t.kindM i _ e2
  ·subst e;rw[hlk2]at e2;cases e2
  ·rw[hlk i e]at e2;exact t.kindR i _ _ e2
theorem yq7{F:Nat->Prop}{ρ:Loc}{w:World}{x x' y:IV}{v:Value}(hx:∀v,RepI F ρ σ w x v->RepI F ρ σ w x' v)(h:RepI F ρ σ w (.tup [x,y]) v):RepI F ρ σ w (.tup [x',y]) v:=by
 cases h with
 |tup _ vs u hl hv hr =>
  refine .tup _ vs u hl (λj z hj=>?_) λj z hj=>?_
  ·match j,hj with
   |0,_=>exact hv 0 x rfl
   |1,hj=>exact hv 1 y rfl
   |j+2,hj=>simp at hj
  ·match j,hj with
   |0,hj=>cases hj;exact hx _ (hr 0 x rfl)
   |1,hj=>cases hj;exact hr 1 y rfl
   |j+2,hj=>simp at hj
end
def z16(x:Nd):Bool:=x.kind==1||x.kind==2||x.kind==3||(x.kind==4&&x.op != 4&&x.op != 5)
def vKey(v:Int):Value:=.int .i64 v
def vsOf(l:List Int):List (Value×PV):=l.foldl (λe v=>mput (vKey v) (.agg []) e) []
def VSet(es:List (Value×PV)):Prop:=(∀e∈es,z1w (.int .i64) e.1=true)/\∀e∈es,e.2=.agg []
theorem VSet.nil:VSet []:=⟨λ_ h=>by simp at h,λ_ h=>by simp at h⟩
theorem VSet.put{es:List (Value×PV)}(h:VSet es)(v:Int):VSet (mput (vKey v) (.agg []) es):=by
 refine⟨λe he=>?_,λe he=>?_⟩
 ·rcases z45 he with rfl|he
  ·rfl
  ·exact h.1 e he
 ·rcases z45 he with rfl|he
  ·rfl
  ·exact h.2 e he
theorem j54(l:List Int)(v:Int):mput (vKey v) (.agg []) (vsOf l)=vsOf (l++[v]):=by simp[vsOf]
theorem VSet.of(l:List Int):VSet (vsOf l):=by
 have key:∀(l:List Int) (es:List (Value×PV)),VSet es->VSet (l.foldl (λe v=>mput (vKey v) (.agg []) e) es):=by
  intro l
  induction l with
  |nil=>exact λ_ h=>h
  |cons v r ih=>exact λes h=>ih _ (h.put v)
 exact key l [] .nil
theorem y8c(k k':Int)(p:PV):∀(es:List (Value×PV)),VSet es->z1m (vKey k) (mput (vKey k') p es)=if k=k' then some p else z1m (vKey k) es
 |[],_=>by
  simp only[mput,z1m]
  by_cases e:k=k'
  ·simp[e,vKey,keyB]
  ·simp[e,vKey,keyB]
 |(a,q)::r,h=>by
  have ha:=h.1 (a,q) (.head _);have hr:VSet r:=⟨λe he=>h.1 e (.tail _ he),λe he=>h.2 e (.tail _ he)⟩;have ih:=y8c k k' p r hr
  cases a with
  |int kk z =>
   simp only[mput]
   by_cases e1:k'=z
   ·have b1:keyB (vKey k') (.int kk z)=true:=by simp[vKey,keyB,e1]
    rw[if_pos b1];simp only[z1m]
    by_cases e:k=k'
    ·simp[e,vKey,keyB]
    ·have b2:¬keyB (vKey k) (vKey k')=true:=by simp[vKey,keyB,e]
     have b3:¬keyB (vKey k) (.int kk z)=true:=by simp[vKey,keyB];omega
     rw[if_neg b2,if_neg e,if_neg b3]
   ·have b1:¬keyB (vKey k') (.int kk z)=true:=by simp[vKey,keyB,e1]
    rw[if_neg b1];simp only[z1m,ih]
    by_cases e:k=z
    ·have b3:keyB (vKey k) (.int kk z)=true:=by simp[vKey,keyB,e]
     rw[if_pos b3,if_neg oM0,if_pos b3]
    ·have b3:¬keyB (vKey k) (.int kk z)=true:=by simp[vKey,keyB,e]
     rw[if_neg b3,if_neg b3]
  |_=>simp[z1w]at ha
theorem vsOf_has(l:List Int)(v:Int):(z1m (vKey v) (vsOf l)).isSome=l.contains v:=by
 have key:∀(l:List Int) (es:List (Value×PV)),VSet es->(z1m (vKey v) (l.foldl (λe v=>mput (vKey v) (.agg []) e) es)).isSome=((z1m (vKey v) es).isSome||l.contains v):=by
  intro l
  induction l with
  |nil=>intro es _;simp
  |cons a r ih =>
   intro es h;rw[Dt,ih _ (h.put a),y8c _ _ _ _ h,Dd]
   by_cases e:v=a
   ·simp[e]
   ·have eb:(v==a)=false:=by simpa using e
    rw[if_neg e,eb,Bv]
 have:=key l [] .nil;simpa[vsOf,z1m]using this
theorem unit_sub{F:Nat->Prop}{ρ:Loc}{σ:Heap'}{w:World}{v:Value}{k:Value}{es:List (Value×PV)}(h:VSet es)(hr:RepI F ρ σ w (.pv ((z1m k es).getD (.val (.agg #[])))) v):RepI F ρ σ w (.pv (.agg [])) v:=by
 cases hf:z1m k es with
 |none =>
  rw[hf]at hr;obtain rfl:=hr.val
  exact .pv _ _ (.agg [] #[] (λ_=>undef) rfl (λj x hj=>by simp at hj) λj x hj=>by simp at hj)
 |some p =>
  obtain⟨a,ha⟩:=z7n hf;have:=h.2 _ ha;simp only at this;subst this;rw[hf]at hr;exact hr
theorem z98(l:List Nd)(x:Nd):(l++[x]).map Nd.enc=l.map Nd.enc++[[vInt x.kind,vInt x.op,vInt x.n,vStr x.name,ints x.args,ints x.outs,ints x.params,kids x.kids]]:=by
 rw[Cg,B3,Cs,Nd.enc_eq,Nd.cells_eta]
mutual
def hOkN:Nd->Bool
 |.mk kind op n name args outs params ks=>(!z16 (.mk kind op n name args outs params ks) || !outs.isEmpty)&&(kind != 11 || !ks.isEmpty)&&hOkK ks
def hOkL:List Nd->Bool
 |[]=>true
 |x::r=>hOkN x&&hOkL r
def hOkK:List (List Nd)->Bool
 |[]=>true
 |l::r=>hOkL l&&hOkK r
end
theorem hOkN_eq(x:Nd):hOkN x=((!z16 x || !x.outs.isEmpty)&&(x.kind != 11 || !x.kids.isEmpty)&&hOkK x.kids):=by cases x;simp[hOkN,Nd.kind,Nd.outs,Nd.kids]
theorem yl2:∀ks:List (List Nd),ks.length<=kdW ks
 |[]=>by simp
 |l::r=>by have:=yl2 r;simp only[kdW,A1];omega
def wAdd:List Int->List Int->List Int
 |s,[]=>s
 |s,v::r=>wAdd (if s.contains v then s else s++[v]) r
def z14:List Int->List Int->List Int->List Int
 |s,a::l,t::to=>z14 (if s.contains t then wAdd s [a]else s) l to
 |s,_,_=>s
structure Hd where
 yield:List Int
 next:List Int
 left:List Int
abbrev hdv(h:Hd):PV:=.agg [ints h.yield,ints h.next,ints h.left]
mutual
def zd6(h:Hd)(s:List Int):Nd->List Int
 |.mk kind op n name args outs params ks =>
  if kind==12 then z14 s args h.yield
  else if kind==13 then z14 s args h.next
  else if kind==14 then z14 s args h.left
  else if kind==10 then z9v ⟨outs,h.next,h.left⟩ (wAdd s args) ks
  else if kind==11 then z9v ⟨[],params,outs⟩ (z14 s args params) ks
  else if !z16 (.mk kind op n name args outs params ks)||s.contains (outs.headD 0)then wAdd s args else s
def z4k(h:Hd)(s:List Int):List Nd->List Int
 |[]=>s
 |x::r=>z4k h (zd6 h s x) r
def z9v(h:Hd)(s:List Int):List (List Nd)->List Int
 |[]=>s
 |l::r=>z9v h (z4k h s l) r
end
theorem y7c(h:Hd)(s:List Int)(x:Nd):zd6 h s x =
 if x.kind==12 then z14 s x.args h.yield
 else if x.kind==13 then z14 s x.args h.next
 else if x.kind==14 then z14 s x.args h.left
 else if x.kind==10 then z9v ⟨x.outs,h.next,h.left⟩ (wAdd s x.args) x.kids
 else if x.kind==11 then z9v ⟨[],x.params,x.outs⟩ (z14 s x.args x.params) x.kids
 else if !z16 x||s.contains (x.outs.headD 0)then wAdd s x.args else s:=by
 cases x;simp[zd6,Nd.kind,Nd.args,Nd.outs,Nd.params,Nd.kids]
def z0j(s:List Int):List Int->List Int->List Int
 |a::l,t::to=>if s.contains t then a::z0j s l to else z0j s l to
 |_,_=>[]
mutual
def z68(s:List Int)(h:Hd):Nd->List Nd
 |.mk kind op n name args outs params ks =>
  if kind==12 then[.mk kind op n name (z0j s args h.yield) outs params ks]
  else if kind==13 then[.mk kind op n name (z0j s args h.next) outs params ks]
  else if kind==14 then[.mk kind op n name (z0j s args h.left) outs params ks]
  else if kind==10 then[.mk kind op n name args (z0j s outs outs) params (z5x s ⟨outs,h.next,h.left⟩ ks)]
  else if kind==11 then[.mk kind op n name (z0j s args params) (z0j s outs outs) (z0j s params params) (z5x s ⟨[],params,outs⟩ ks)]
  else if z16 (.mk kind op n name args outs params ks) && !s.contains (outs.headD 0)then[]else[.mk kind op n name args outs params ks]
def z1o(s:List Int)(h:Hd):List Nd->List Nd
 |[]=>[]
 |x::r=>z68 s h x++z1o s h r
def z5x(s:List Int)(h:Hd):List (List Nd)->List (List Nd)
 |[]=>[]
 |l::r=>z1o s h l::z5x s h r
end
theorem zn7(s:List Int)(h:Hd)(x:Nd):z68 s h x =
 if x.kind==12 then[.mk x.kind x.op x.n x.name (z0j s x.args h.yield) x.outs x.params x.kids]
 else if x.kind==13 then[.mk x.kind x.op x.n x.name (z0j s x.args h.next) x.outs x.params x.kids]
 else if x.kind==14 then[.mk x.kind x.op x.n x.name (z0j s x.args h.left) x.outs x.params x.kids]
 else if x.kind==10 then[.mk x.kind x.op x.n x.name x.args (z0j s x.outs x.outs) x.params (z5x s ⟨x.outs,h.next,h.left⟩ x.kids)]
 else if x.kind==11 then[.mk x.kind x.op x.n x.name (z0j s x.args x.params) (z0j s x.outs x.outs) (z0j s x.params x.params) (z5x s ⟨[],x.params,x.outs⟩ x.kids)]
 else if z16 x && !s.contains (x.outs.headD 0)then[]else[x]:=by
 cases x;simp[z68,Nd.kind,Nd.op,Nd.n,Nd.name,Nd.args,Nd.outs,Nd.params,Nd.kids]
mutual
def wOkN(h:Hd):Nd->Bool
 |.mk kind op n name args outs params ks =>
  if kind==12 then decide (h.yield.length<=args.length)
  else if kind==13 then decide (h.next.length<=args.length)
  else if kind==14 then decide (h.left.length<=args.length)
  else if kind==10 then ks.length==2&&wOkK ⟨outs,h.next,h.left⟩ ks
  else if kind==11 then decide (params.length<=args.length)&&(ks.length==1&&wOkK ⟨[],params,outs⟩ ks)
  else !z16 (.mk kind op n name args outs params ks) || !outs.isEmpty
def wOkL(h:Hd):List Nd->Bool
 |[]=>true
 |x::r=>wOkN h x&&wOkL h r
def wOkK(h:Hd):List (List Nd)->Bool
 |[]=>true
 |l::r=>wOkL h l&&wOkK h r
end
theorem j57(h:Hd)(x:Nd):wOkN h x =
 if x.kind==12 then decide (h.yield.length<=x.args.length)
 else if x.kind==13 then decide (h.next.length<=x.args.length)
 else if x.kind==14 then decide (h.left.length<=x.args.length)
 else if x.kind==10 then x.kids.length==2&&wOkK ⟨x.outs,h.next,h.left⟩ x.kids
 else if x.kind==11 then decide (x.params.length<=x.args.length)&&(x.kids.length==1&&wOkK ⟨[],x.params,x.outs⟩ x.kids)
 else !z16 x || !x.outs.isEmpty:=by
 cases x;simp only[wOkN,Nd.kind,Nd.args,Nd.outs,Nd.params,Nd.kids];rfl
theorem y7d:∀{h:Hd}{l:List Nd}{x:Nd},wOkL h l=true->x∈l->wOkN h x=true
 |h,y::r,x,hh,hx=>by
  simp only[wOkL,A0]at hh;rcases Ao.1 hx with rfl|hx
  ·exact hh.1
  ·exact y7d hh.2 hx
theorem z9w:∀{h:Hd} {l:List (List Nd)} {x:List Nd},wOkK h l=true->x∈l->wOkL h x=true
 |h,y::r,x,hh,hx=>by
  simp only[wOkK,A0]at hh;rcases Ao.1 hx with rfl|hx
  ·exact hh.1
  ·exact z9w hh.2 hx
def Pre(s s':List Int):Prop:=∃q,s'=s++q
theorem Pre.refl(s:List Int):Pre s s:=⟨[],by simp⟩
theorem Pre.trans{a b c:List Int}(h:Pre a b)(h':Pre b c):Pre a c:=by
 obtain⟨q,rfl⟩:=h;obtain⟨r,rfl⟩:=h';exact⟨q++r,by rw[C2]⟩
theorem Pre.len{a b:List Int}(h:Pre a b):a.length<=b.length:=by obtain⟨q,rfl⟩:=h;simp
theorem Pre.eq{a b:List Int}(h:Pre a b)(hl:b.length<=a.length):b=a:=by
 obtain⟨q,rfl⟩:=h;have:q=[]:=At (by simp at hl;omega);simp[this]
theorem Pre.sub{a b:List Int}(h:Pre a b):∀v∈a,v∈b:=by
 obtain⟨q,rfl⟩:=h;exact λv hv=>B4.2 (.inl hv)
theorem Pre.two{a b c:List Int}(h:Pre a b)(h':Pre b c)(e:c=a):b=a/\c=b:=by
 have h1:=h.len;have h2:=h'.len;have e1:b=a:=h.eq (by rw[<- e];exact h2);exact⟨e1,e.trans e1.symm⟩
theorem z4u:∀(l s:List Int),Pre s (wAdd s l)
 |[],s=>.refl s
 |v::r,s=>by
  unfold wAdd;split
  ·exact z4u r s
  ·exact Pre.trans ⟨[v],rfl⟩ (z4u r _)
theorem z2v:∀(l to s:List Int),Pre s (z14 s l to)
 |[],_,s=>by simp[z14];exact .refl s
 |_::_,[],s=>by simp[z14];exact .refl s
 |a::l,t::to,s=>by
  unfold z14;split
  ·exact(z4u [a] s).trans (z2v l to _)
  ·exact z2v l to s
mutual
theorem zp6:∀(x:Nd)(h:Hd)(s:List Int),Pre s (zd6 h s x)
 |.mk kind op n name args outs params ks,h,s=>by
  unfold zd6
  repeat' split
  ·exact z2v ..
  ·exact z2v ..
  ·exact z2v ..
  ·exact(z4u ..).trans (z5v ks _ _)
  ·exact(z2v ..).trans (z5v ks _ _)
  ·exact z4u ..
  ·exact .refl s
theorem z3h:∀(l:List Nd)(h:Hd)(s:List Int),Pre s (z4k h s l)
 |[],h,s=>by unfold z4k;exact .refl s
 |x::r,h,s=>by unfold z4k;exact(zp6 x h s).trans (z3h r h _)
theorem z5v:∀(ks:List (List Nd)) (h:Hd) (s:List Int),Pre s (z9v h s ks)
 |[],h,s=>by unfold z9v;exact .refl s
 |l::r,h,s=>by unfold z9v;exact(z3h l h s).trans (z5v r h _)
end
mutual
def agN:Nd->List Int
 |.mk _ _ _ _ args _ _ ks=>args++agK ks
def agL:List Nd->List Int
 |[]=>[]
 |x::r=>agN x++agL r
def agK:List (List Nd)->List Int
 |[]=>[]
 |l::r=>agL l++agK r
end
def WIn(A s:List Int):Prop:=s.Nodup/\∀v∈s,v∈A
theorem y2s{A:List Int}:∀(l s:List Int),WIn A s->(∀v∈l,v∈A)->WIn A (wAdd s l)
 |[],s,h,_=>h
 |v::r,s,h,hl=>by
  unfold wAdd;split
  ·exact y2s r s h λv hv=>hl v (.tail _ hv)
  ·rename_i hc;refine y2s r _ ⟨?_,λw hw=>?_⟩ λv hv=>hl v (.tail _ hv)
   ·rw[Fk];refine⟨h.1,by simp,λa ha b hb e=>?_⟩;obtain rfl:=Ak.1 hb;subst e;exact hc (List.contains_iff_mem.2 ha)
   ·rcases B4.1 hw with hw|hw
    ·exact h.2 w hw
    ·obtain rfl:=Ak.1 hw;exact hl _ (.head _)
theorem z7e{A:List Int}:∀(l to s:List Int),WIn A s->(∀v∈l,v∈A)->WIn A (z14 s l to)
 |[],_,s,h,_=>by simpa[z14]using h
 |_::_,[],s,h,_=>by simpa[z14]using h
 |a::l,t::to,s,h,hl=>by
  unfold z14;split
  ·exact z7e l to _ (y2s [a] s h λv hv=>by obtain rfl:=Ak.1 hv;exact hl _ (.head _)) λv hv=>hl v (.tail _ hv)
  ·exact z7e l to s h λv hv=>hl v (.tail _ hv)
mutual
theorem wNode_in{A:List Int}:∀(x:Nd)(h:Hd)(s:List Int),WIn A s->(∀v∈agN x,v∈A)->WIn A (zd6 h s x)
 |.mk kind op n name args outs params ks,h,s,hs,hA=>by
  have h1:∀v∈args,v∈A:=λv hv=>hA v (by simp[agN,hv]);have h2:∀v∈agK ks,v∈A:=λv hv=>hA v (by simp[agN,hv]);unfold zd6
  repeat' split
  ·exact z7e _ _ _ hs h1
  ·exact z7e _ _ _ hs h1
  ·exact z7e _ _ _ hs h1
  ·exact y7a ks _ _ (y2s _ _ hs h1) h2
  ·exact y7a ks _ _ (z7e _ _ _ hs h1) h2
  ·exact y2s _ _ hs h1
  ·exact hs
theorem y7b{A:List Int}:∀(l:List Nd)(h:Hd)(s:List Int),WIn A s->(∀v∈agL l,v∈A)->WIn A (z4k h s l)
 |[],h,s,hs,_=>by unfold z4k;exact hs
 |x::r,h,s,hs,hA=>by
  unfold z4k;exact y7b r h _ (wNode_in x h s hs λv hv=>hA v (by simp[agL,hv])) λv hv=>hA v (by simp[agL,hv])
theorem y7a{A:List Int}:∀(ks:List (List Nd)) (h:Hd) (s:List Int),WIn A s->(∀v∈agK ks,v∈A)->WIn A (z9v h s ks)
 |[],h,s,hs,_=>by unfold z9v;exact hs
 |l::r,h,s,hs,hA=>by
  unfold z9v;exact y7a r h _ (y7b l h s hs λv hv=>hA v (by simp[agK,hv])) λv hv=>hA v (by simp[agK,hv])
end
theorem y8e:∀(s A:List Int),s.Nodup->(∀v∈s,v∈A)->s.length<=A.length
 |[],_,_,_=>Ad _
 |v::r,A,hn,hs=>by
  have hv:=hs v (.head _);have hn2:=Dv.1 hn;have ih:=y8e r (A.erase v) hn2.2 λw hw=>by
   have hne:w≠v:=λe=>hn2.1 (e▸hw);exact(List.mem_erase_of_ne hne).2 (hs w (.tail _ hw))
  rw[List.length_erase_of_mem hv]at ih;have:=List.length_pos_of_mem hv;simp only[A1];omega
theorem WIn.len{A s:List Int}(h:WIn A s):s.length<=A.length:=y8e s A h.1 h.2
def hd0:Hd:=⟨[],[],[]⟩
def zg4(l:List Nd)(s:List Int):List Int:=z4k hd0 s l
def z5u(l:List Nd):Nat->List Int
 |0=>[]
 |n+1=>zg4 l (z5u l n)
def wSet(l:List Nd):List Int:=z5u l (agL l).length
theorem y03(l:List Nd):∀n,WIn (agL l) (z5u l n)
 |0=>⟨by simp[z5u],by simp[z5u]⟩
 |n+1=>y7b l hd0 _ (y03 l n) λ_ h=>h
theorem zp8(l:List Nd)(s:List Int):Pre s (zg4 l s):=z3h l hd0 s
theorem zu4{l:List Nd}{n:Nat}(h:zg4 l (z5u l n)=z5u l n):∀k,z5u l (n+k)=z5u l n
 |0=>rfl
 |k+1=>by
  show zg4 l (z5u l (n+k))=_;rw[zu4 h k,h]
theorem yz5{l:List Nd}{n:Nat}(hn:n<=(z5u l n).length)(h:zg4 l (z5u l n)=z5u l n):z5u l n=wSet l:=by
 have hl:=(y03 l n).len;have:=zu4 h ((agL l).length-n);unfold wSet;rw[<- this]
 congr 1
 omega
theorem y57{l:List Nd}:∀n,(∃k,k<=n/\zg4 l (z5u l k)=z5u l k)∨n<=(z5u l n).length
 |0=>.inr (Ad _)
 |n+1=>by
  rcases y57 (l:=l) n with⟨k,hk,h⟩|h
  ·exact .inl ⟨k,by omega,h⟩
  ·have hp:=zp8 l (z5u l n)
   by_cases e:(zg4 l (z5u l n)).length<=(z5u l n).length
   ·exact .inl ⟨n,by omega,hp.eq e⟩
   ·refine .inr ?_;show n+1<=(zg4 l (z5u l n)).length;omega
theorem yr3(l:List Nd):zg4 l (wSet l)=wSet l:=by
 rcases y57 (l:=l) (agL l).length with⟨k,hk,h⟩|h
 ·have e:z5u l (agL l).length=z5u l k:=by
   have:=zu4 h ((agL l).length-k)
   rwa [show k+((agL l).length-k)=(agL l).length by omega]at this
  unfold wSet;rw[e,h]
 ·have h2:=(y03 l ((agL l).length+1)).len;exact(zp8 l (wSet l)).eq (B9 h2 h)
def wB(l:List Nd):List Nd:=z1o (wSet l) hd0 l
theorem y2u(s:List Int):∀l to,(z0j s l to).length<=to.length
 |[],_=>by simp[z0j]
 |_::_,[]=>by simp[z0j]
 |a::l,t::to=>by
  have ih:=y2u s l to;unfold z0j;split<;>simp only[A1]<;>omega
theorem j2m(s:List Int)(h:Hd)(x:Nd):(z68 s h x).length<=1:=by
 rw[zn7]
 repeat' split
 all_goals simp
theorem zn6(s:List Int)(h:Hd):∀l,(z1o s h l).length<=l.length
 |[]=>by simp[z1o]
 |x::r=>by
  have h1:=j2m s h x;have h2:=zn6 s h r;simp only[z1o,B5,A1];omega
def inR(n:Nat)(ds:List Int):Prop:=∀v∈ds,0<=v/\v<n
def Frs(set:List Bool)(ds:List Int):Prop:=ds.Nodup/\∀v∈ds,set.getD v.toNat false=false
def z31(set:List Bool)(ds:List Int):List Bool:=ds.foldl (λs v=>s.set v.toNat true) set
theorem z4c:∀(ds:List Int)(set:List Bool),(z31 set ds).length=set.length
 |[],_=>rfl
 |v::r,set=>by have:=z4c r (set.set v.toNat true);simpa[z31]using this
theorem zc2(set:List Bool)(a b:List Int):z31 set (a++b)=z31 (z31 set a) b:=by simp[z31]
theorem y0z{n:Nat}:∀(ds:List Int)(set:List Bool),set.length=n->inR n ds->∀v:Int,0<=v->v<n->(z31 set ds).getD v.toNat false=(ds.contains v||set.getD v.toNat false)
 |[],set,_,_,v,_,_=>by simp[z31]
 |d::r,set,hn,hr,v,h0,h1=>by
  have ih:=y0z r (set.set d.toNat true) (by simpa using hn) (λv hv=>hr v (.tail _ hv)) v h0 h1;obtain⟨d0,d1⟩:=hr d (.head _);show(z31 (set.set d.toNat true) r).getD v.toNat false=_;rw[ih,zk9,Dd]
  by_cases e:v=d
  ·subst e;rw[if_pos ⟨rfl,by omega⟩];simp
  ·have e2:¬(d.toNat=v.toNat/\d.toNat<set.length):=by omega
   have e3:(v==d)=false:=by simpa using e
   rw[if_neg e2,e3,Bv]
theorem y0k{n:Nat}{set:List Bool}{a b:List Int}(hn:set.length=n)(ha:inR n a)(hb:inR n b):Frs set (a++b)↔Frs set a/\Frs (z31 set a) b:=by
 unfold Frs;rw[Fk];constructor
 ·rintro⟨⟨h1,h2,h3⟩,h4⟩;refine⟨⟨h1,λv hv=>h4 v (by simp[hv])⟩,h2,λv hv=>?_⟩;rw[y0z a set hn ha v (hb v hv).1 (hb v hv).2,h4 v (by simp[hv])];have:a.contains v=false:=by
   rw[<- Fp,List.contains_iff_mem];exact λhm=>h3 v hm v hv rfl
  rw[this];rfl
 ·rintro⟨⟨h1,h2⟩,h3,h4⟩;have hkey:∀v∈b,a.contains v=false/\set.getD v.toNat false=false:=λv hv=>by
   have:=h4 v hv;rw[y0z a set hn ha v (hb v hv).1 (hb v hv).2,C0]at this;exact this
  refine⟨⟨h1,h3,λx hx y hy e=>?_⟩,λv hv=>?_⟩
  ·subst e;have:=(hkey x hy).1;rw[<- Fp,List.contains_iff_mem]at this;exact this hx
  ·rcases B4.1 hv with hv|hv
   ·exact h2 v hv
   ·exact(hkey v hv).2
def z7a(tys:List Int):List Int->List Int->Bool
 |[],[]=>true
 |v::r,w::ws=>z93 tys v w&&z7a tys r ws
 |_,_=>false
theorem z1b{tys:List Int}:∀{l want:List Int},z7a tys l want=true->inR tys.length l
 |[],[],_=>λv hv=>by simp at hv
 |[],_::_,h=>by simp[z7a]at h
 |_::_,[],h=>by simp[z7a]at h
 |x::r,w::ws,h=>by
  simp only[z7a,A0,z93,Bj]at h;intro v hv;rcases Ao.1 hv with rfl|hv
  ·exact⟨h.1.1.1,h.1.1.2⟩
  ·exact z1b h.2 v hv
theorem zd4{tys:List Int}:∀{l want:List Int},z7a tys l want=true->l.length=want.length
 |[],[],_=>rfl
 |[],_::_,h=>by simp[z7a]at h
 |_::_,[],h=>by simp[z7a]at h
 |x::r,w::ws,h=>by
  simp only[z7a,A0]at h;simp[zd4 h.2]
theorem j04(tys:List Int)(set:List Bool)(v w:Int):z9e tys set v w=false↔z93 tys v w=true/\set.getD v.toNat false=false:=by
 unfold z9e z93;simp only[C0,Ci,A0,Bj,Br];constructor
 ·rintro⟨⟨⟨h1,h2⟩,h3⟩,h4⟩;refine⟨⟨⟨by omega,by omega⟩,?_⟩,h3⟩
  cases hw:(w==0)with
  |true=>exact .inl rfl
  |false=>exact .inr (by simpa[bne,hw]using h4)
 ·rintro⟨⟨⟨h1,h2⟩,h4⟩,h3⟩;refine⟨⟨⟨by omega,by omega⟩,h3⟩,?_⟩;rcases h4 with h4|h4
  ·simp[bne,h4]
  ·rw[show(tys.getD v.toNat 0 != w)=false from by rw[bne,h4];rfl,Cv]
theorem y50(tys:List Int):∀(l want:List Int)(set:List Bool),l.length=want.length->set.length=tys.length ->
 ((z2j tys set l want).1=true↔z7a tys l want=true/\Frs set l)/\((z2j tys set l want).1=true->(z2j tys set l want).2=z31 set l)
 |[],[],set,_,_=>by simp[z2j,z7a,Frs,z31]
 |[],_::_,_,h,_=>by simp at h
 |_::_,[],_,h,_=>by simp at h
 |x::r,w::ws,set,hl,hn=>by
  obtain⟨ih1,ih2⟩:=y50 tys r ws (set.set x.toNat true) (by simpa using hl) (by simpa using hn);simp only[z2j]
  cases hb:z9e tys set x w with
  |true =>
   simp only[C8,Ap,false_iff,not_and,false_implies,and_true];intro h1 h2;simp only[z7a,A0]at h1;have:=(j04 tys set x w).2 ⟨h1.1,h2.2 x (.head _)⟩
   rw[hb]at this;cases this
  |false =>
   obtain⟨b1,b2⟩:=(j04 tys set x w).1 hb;simp only[Ap,By];refine⟨?_,λh=>ih2 h⟩;rw[ih1];simp only[z7a,b1,B0];refine E8 λhv=>?_;have hx:inR tys.length [x]:=λv hv=>by
    obtain rfl:=Ak.1 hv;simp only[z93,A0,Bj]at b1;exact⟨b1.1.1,b1.1.2⟩
   have:=y0k (a:=[x]) (b:=r) hn hx (z1b hv);rw[show x::r=[x]++r from rfl,this];exact⟨λh=>⟨⟨by simp,λv hv=>by obtain rfl:=Ak.1 hv;exact b2⟩,h⟩,λh=>h.2⟩
theorem y71(tys:List Int)(set:List Bool)(l want:List Int)(hn:set.length=tys.length) :
 ((z1t tys set l want).1=true↔z7a tys l want=true/\Frs set l)/\((z1t tys set l want).1=true->(z1t tys set l want).2=z31 set l):=by
 unfold z1t
 by_cases hl:l.length=want.length
 ·have e:((l.length:Int)==want.length)=true:=by simp;omega
  rw[if_pos e];exact y50 tys l want set hl hn
 ·have e:¬((l.length:Int)==want.length)=true:=by simp;omega
  rw[if_neg e];refine⟨⟨λh=>(by cases h),λh=>absurd (zd4 h.1) hl⟩,λh=>by cases h⟩
structure SForm where
 b:Bool
 want:Option (List Int)
def SForm.run(s:SForm)(tys:List Int)(outs:List Int)(set:List Bool):Bool×List Bool:=match s.want with
 |some wt=>andS s.b set (z1t tys set outs wt)
 |none=>(s.b&&(outs.length:Int)==0,set)
def SForm.ok(s:SForm)(tys:List Int)(outs:List Int):Bool:=match s.want with
 |some wt=>s.b&&z7a tys outs wt
 |none=>s.b&&(outs.length:Int)==0
def z5r(u:Un)(f:Fl)(x:Nd)(seen:List Int)(w:Wh):SForm :=
 if x.kind==1 then⟨z06 f.types seen x.args [],some [1]⟩
 else if x.kind==2 then⟨(x.n==0||x.n==1)&&z06 f.types seen x.args [],some [2]⟩
 else if x.kind==3 then⟨z2w x.op&&z06 f.types seen x.args [(z0q x.op).1],some [(z0q x.op).2]⟩
 else if x.kind==4 then⟨z40 x.op&&z06 f.types seen x.args [(z0q x.op).1,(z0q x.op).1]&&f.types.getD (x.args.getD 0 0).toNat 0==f.types.getD (x.args.getD 1 0).toNat 0,some [(z0q x.op).2]⟩
 else if x.kind==5 then⟨decide (z0h x.name u.arrays 0≥0)&&z06 f.types seen x.args [1],some [1]⟩
 else if x.kind==6 then⟨decide (z0h x.name u.arrays 0≥0)&&z06 f.types seen x.args [1,1],none⟩
 else if x.kind==7 then(if decide (z05 x.name u.flows 0≥0)=true then match u.flows[(z05 x.name u.flows 0).toNat]? with
  |some g=>⟨z06 f.types seen x.args (g.types.take g.params.toNat),some [g.ty]⟩
  |none=>⟨false,none⟩
  else⟨false,none⟩)
 else if x.kind==8 then⟨(x.args.length:Int)==0,some [1]⟩
 else if x.kind==9 then⟨z06 f.types seen x.args [1],none⟩
 else if x.kind==12 then⟨w.If&&z06 f.types seen x.args w.Yield,none⟩
 else if x.kind==13 then⟨w.Loop&&z06 f.types seen x.args w.Next,none⟩
 else if x.kind==14 then⟨w.Loop&&z06 f.types seen x.args w.Left,none⟩
 else if x.kind==15 then⟨z06 f.types seen x.args [f.ty],none⟩
 else⟨false,none⟩
theorem yh9(u:Un)(f:Fl)(set:List Bool)(x:Nd)(seen:List Int)(w:Wh):z1h u f set x seen w=(z5r u f x seen w).run f.types x.outs set:=by
 unfold z1h z5r zc7
 by_cases k1:(x.kind==1)=true
 ·rw[if_pos k1,if_pos k1];rfl
 rw[if_neg k1,if_neg k1]
 by_cases k2:(x.kind==2)=true
 ·rw[if_pos k2,if_pos k2];rfl
 rw[if_neg k2,if_neg k2]
 by_cases k3:(x.kind==3)=true
 ·rw[if_pos k3,if_pos k3];rfl
 rw[if_neg k3,if_neg k3]
 by_cases k4:(x.kind==4)=true
 ·rw[if_pos k4,if_pos k4];rfl
 rw[if_neg k4,if_neg k4]
 by_cases k5:(x.kind==5)=true
 ·rw[if_pos k5,if_pos k5];rfl
 rw[if_neg k5,if_neg k5]
 by_cases k6:(x.kind==6)=true
 ·rw[if_pos k6,if_pos k6];rfl
 rw[if_neg k6,if_neg k6]
 by_cases k7:(x.kind==7)=true
 ·rw[if_pos k7,if_pos k7]
  by_cases hp:decide (z05 x.name u.flows 0≥0)=true
  ·rw[if_pos hp,if_pos hp]
   cases u.flows[(z05 x.name u.flows 0).toNat]? with
   |none=>rfl
   |some g=>rfl
  ·rw[if_neg hp,if_neg hp];rfl
 rw[if_neg k7,if_neg k7]
 by_cases k8:(x.kind==8)=true
 ·rw[if_pos k8,if_pos k8];rfl
 rw[if_neg k8,if_neg k8]
 by_cases k9:(x.kind==9)=true
 ·rw[if_pos k9,if_pos k9];rfl
 rw[if_neg k9,if_neg k9]
 by_cases k12:(x.kind==12)=true
 ·rw[if_pos k12,if_pos k12];rfl
 rw[if_neg k12,if_neg k12]
 by_cases k13:(x.kind==13)=true
 ·rw[if_pos k13,if_pos k13];rfl
 rw[if_neg k13,if_neg k13]
 by_cases k14:(x.kind==14)=true
 ·rw[if_pos k14,if_pos k14];rfl
 rw[if_neg k14,if_neg k14]
 by_cases k15:(x.kind==15)=true
 ·rw[if_pos k15,if_pos k15];rfl
 rw[if_neg k15,if_neg k15];rfl
theorem run_iff{tys outs:List Int}{set:List Bool}(s:SForm)(hn:set.length=tys.length):((s.run tys outs set).1=true↔s.ok tys outs=true/\Frs set outs)/\((s.run tys outs set).1=true->(s.run tys outs set).2=z31 set outs):=by
 obtain⟨b,want⟩:=s
 cases want with
 |some wt =>
  obtain⟨h1,h2⟩:=y71 tys set outs wt hn;simp only[SForm.run,SForm.ok,andS]
  cases b with
  |false=>simp
  |true=>simp only[C8,B0];exact⟨h1,h2⟩
 |none =>
  simp only[SForm.run,SForm.ok];constructor
  ·constructor
   ·intro h;refine⟨h,?_⟩;simp only[A0,Au]at h;have:outs=[]:=At oM0;subst this;exact⟨by simp,λv hv=>by simp at hv⟩
   ·exact λh=>h.1
  ·intro h;simp only[A0,Au]at h;have:outs=[]:=At oM0;subst this;rfl
theorem ok_in{tys outs:List Int}{s:SForm}(h:s.ok tys outs=true):inR tys.length outs:=by
 obtain⟨b,want⟩:=s
 cases want with
 |some wt=>simp only[SForm.ok,A0]at h;exact z1b h.2
 |none =>
  simp only[SForm.ok,A0,Au]at h;have:outs=[]:=At oM0;subst this;exact λv hv=>by simp at hv
mutual
def dN:Nd->List Int
 |.mk _ _ _ _ _ outs params ks=>params++(dK ks++outs)
def dL:List Nd->List Int
 |[]=>[]
 |x::r=>dN x++dL r
def dK:List (List Nd)->List Int
 |[]=>[]
 |l::r=>dL l++dK r
end
theorem dN_eq(x:Nd):dN x=x.params++(dK x.kids++x.outs):=by cases x;simp[dN,Nd.params,Nd.kids,Nd.outs]
def zer(l:List Int):List Int:=List.replicate l.length 0
def w1(w:Wh)(f:Fl)(x:Nd):Wh:=⟨true,w.Loop,r8of f.types x.outs,w.Next,w.Left⟩
def w2(f:Fl)(x:Nd):Wh:=⟨false,true,[],r8of f.types x.params,r8of f.types x.outs⟩
def y66(x:Nd):Bool:=(x.outs.length:Int)==0 || !z08 x
mutual
def z82(u:Un)(f:Fl)(deep:Int)(w:Wh)(seen:List Int):Nd->Bool
 |.mk kind op n name args outs params kids =>
  z1j (.mk kind op n name args outs params kids) &&
  (if kind==10 then
   match kids with
   |a::b::_=>z06 f.types seen args [2]&&(!a.isEmpty&&vGo u f (deep+1) (w1 w f (.mk kind op n name args outs params kids)) seen a)&&(!b.isEmpty&&vGo u f (deep+1) (w1 w f (.mk kind op n name args outs params kids)) seen b) &&
    y66 (.mk kind op n name args outs params kids)&&z7a f.types outs (zer outs)
   |_=>false
  else if kind==11 then
   match kids with
   |a::_=>z06 f.types seen args (r8of f.types params)&&z7a f.types params (zer params)&&(!a.isEmpty&&vGo u f (deep+1) (w2 f (.mk kind op n name args outs params kids)) (seen++params) a) &&
    y66 (.mk kind op n name args outs params kids)&&z7a f.types outs (zer outs)
   |_=>false
  else(z5r u f (.mk kind op n name args outs params kids) seen w).ok f.types outs)
def vGo(u:Un)(f:Fl)(deep:Int)(w:Wh)(all:List Int):List Nd->Bool
 |[]=>true
 |x::r=>!decide (deep > 100)&&z82 u f deep w all x&&(z08 x==r.isEmpty)&&vGo u f deep w (all++x.outs) r
end
def z42(u:Un)(f:Fl)(deep:Int)(w:Wh)(all:List Int)(l:List Nd):Bool:=!l.isEmpty&&vGo u f deep w all l
theorem z79(u:Un)(f:Fl)(deep:Int)(w:Wh)(seen:List Int){x:Nd}{a b:List Nd}(h:z1j x=true)(hk:x.kind=10)(hx:x.kids=[a,b]) :
 z82 u f deep w seen x=(z06 f.types seen x.args [2]&&z42 u f (deep+1) (w1 w f x) seen a&&z42 u f (deep+1) (w1 w f x) seen b&&y66 x&&z7a f.types x.outs (zer x.outs)):=by
 cases x
 simp only[Nd.kind,Nd.kids]at hk hx;subst hk hx;unfold z82;simp only[h,B0,Nd.args,Nd.outs];rfl
theorem z4t(u:Un)(f:Fl)(deep:Int)(w:Wh)(seen:List Int){x:Nd}{a:List Nd}(h:z1j x=true)(hk:x.kind=11)(hx:x.kids=[a]) :
 z82 u f deep w seen x=(z06 f.types seen x.args (r8of f.types x.params)&&z7a f.types x.params (zer x.params)&&z42 u f (deep+1) (w2 f x) (seen++x.params) a&&y66 x&&z7a f.types x.outs (zer x.outs)):=by
 cases x
 simp only[Nd.kind,Nd.kids]at hk hx;subst hk hx;unfold z82;simp only[h,B0,Nd.args,Nd.outs,Nd.params];rfl
theorem z1x(u:Un)(f:Fl)(deep:Int)(w:Wh)(seen:List Int){x:Nd}(h:z1j x=true)(h1:(x.kind==10)=false)(h2:(x.kind==11)=false) :
 z82 u f deep w seen x=(z5r u f x seen w).ok f.types x.outs:=by
 cases x
 simp only[Nd.kind]at h1 h2;unfold z82;simp only[h,B0,Nd.outs,h1,h2,Ap,By]
theorem z4s(u:Un)(f:Fl)(deep:Int)(w:Wh)(seen:List Int){x:Nd}(h:z82 u f deep w seen x=true):z1j x=true:=by
 cases x
 unfold z82 at h;simp only[A0]at h;exact h.1
theorem y0a{x:Nd}(h:z1j x=true)(hk:(x.kind==11)=false):x.params=[]:=by
 simp only[z1j,A0,hk,Bv,Au]at h;exact At oM0
theorem zq3{x:Nd}(h:z1j x=true)(h1:(x.kind==10)=false)(h2:(x.kind==11)=false):x.kids=[]:=by
 have:=zi3 h;simp only[r8kn,h1,h2,Ap,By]at this;exact At oM0
theorem y7o{x:Nd}(h:z1j x=true)(h1:(x.kind==10)=false)(h2:(x.kind==11)=false):dN x=x.outs:=by
 rw[dN_eq,y0a h h2,zq3 h h1 h2];rfl
theorem dN_if{x:Nd}{a b:List Nd}(h:z1j x=true)(hk:x.kind=10)(hx:x.kids=[a,b]):dN x=dL a++(dL b++x.outs):=by
 rw[dN_eq,y0a h (by rw[hk];rfl),hx];simp[dK]
theorem j0h{x:Nd}{a:List Nd}(hx:x.kids=[a]):dN x=x.params++(dL a++x.outs):=by
 rw[dN_eq,hx];simp[dK]
theorem zr1{n:Nat}{a b:List Int}:inR n (a++b)↔inR n a/\inR n b :=
 ⟨λh=>⟨λv hv=>h v (by simp[hv]),λv hv=>h v (by simp[hv])⟩,λh v hv=>(B4.1 hv).elim (h.1 v) (h.2 v)⟩
theorem zy8{n:Nat}{set:List Bool}{a b d:List Int}(hn:set.length=n)(ha:inR n a)(hb:inR n b)(hd:inR n d):Frs set (a++(b++d))↔Frs set a/\Frs (z31 set a) b/\Frs (z31 (z31 set a) b) d:=by
 rw[y0k hn ha (zr1.2 ⟨hb,hd⟩),y0k ((z4c a set).trans hn) hb hd]
def RG(u:Un)(f:Fl)(l:List Nd):Prop:=∀(deep:Int)(w:Wh)(all:List Int),vGo u f deep w all l=true->inR f.types.length (dL l)
theorem yd4(u:Un)(f:Fl)(x:Nd)(ih:∀q∈x.kids,RG u f q)(deep:Int)(w:Wh)(seen:List Int)(h:z82 u f deep w seen x=true):inR f.types.length (dN x):=by
 have hb:=z4s u f deep w seen h
 by_cases h10:x.kind=10
 ·obtain⟨a,b,hk⟩:=z3u hb h10;rw[z79 u f deep w seen hb h10 hk]at h;simp only[A0,z42]at h;rw[dN_if hb h10 hk];exact zr1.2 ⟨ih a (by rw[hk];simp) _ _ _ h.1.1.1.2.2,zr1.2 ⟨ih b (by rw[hk];simp) _ _ _ h.1.1.2.2,z1b h.2⟩⟩
 ·by_cases h11:x.kind=11
  ·obtain⟨a,hk⟩:=z2a hb h11;rw[z4t u f deep w seen hb h11 hk]at h;simp only[A0,z42]at h;rw[j0h hk];exact zr1.2 ⟨z1b h.1.1.1.2,zr1.2 ⟨ih a (by rw[hk];simp) _ _ _ h.1.1.2.2,z1b h.2⟩⟩
  ·have e10:(x.kind==10)=false:=by simpa using h10
   have e11:(x.kind==11)=false:=by simpa using h11
   rw[z1x u f deep w seen hb e10 e11]at h;rw[y7o hb e10 e11];exact ok_in h
theorem go_in(u:Un)(f:Fl):∀(l:List Nd),(∀x∈l,∀q∈x.kids,RG u f q)->RG u f l
 |[],_=>λ_ _ _ _ v hv=>by simp[dL]at hv
 |x::r,ih=>λdeep w all h=>by
  simp only[vGo,A0]at h;exact zr1.2 ⟨yd4 u f x (ih x (.head _)) _ _ _ h.1.1.2,go_in u f r (λy hy=>ih y (.tail _ hy)) _ _ _ h.2⟩
theorem rg_all(u:Un)(f:Fl):∀(N:Nat)(l:List Nd),SizeOf.sizeOf l<N->RG u f l
 |0,_,h=>absurd h (Aj _)
 |N+1,l,hN=>go_in u f l λx hx q hq=>rg_all u f N q (B8 (z8o hx rfl hq) (Bp hN))
theorem rg(u:Un)(f:Fl)(l:List Nd):RG u f l:=rg_all u f _ l (Aa _)
def CH(u:Un)(f:Fl)(l:List Nd):Prop:=∀(deep:Int)(w:Wh)(seen:List Int)(set:List Bool),set.length=f.types.length ->
 ((z2o u f deep w seen set l).1=true↔z42 u f deep w seen l=true/\Frs set (dL l))/\((z2o u f deep w seen set l).1=true->(z2o u f deep w seen set l).2=z31 set (dL l))
theorem z52{q:Bool×List Bool}{k:List Bool->Bool×List Bool}:((andT q k).1=true↔q.1=true/\(k q.2).1=true)/\((andT q k).1=true->(andT q k).2=(k q.2).2):=by
 unfold andT
 cases q.1 with
 |false=>simp
 |true=>simp
theorem j0j(f:Fl)(x:Nd)(set:List Bool)(hn:set.length=f.types.length):((zg3 f x set).1=true↔(y66 x=true/\z7a f.types x.outs (zer x.outs)=true)/\Frs set x.outs)/\((zg3 f x set).1=true->(zg3 f x set).2=z31 set x.outs):=by
 obtain⟨h1,h2⟩:=y71 f.types set x.outs (zer x.outs) hn;unfold zg3 andS;show((if y66 x=true then _ else _:Bool×List Bool).1=true↔_)/\_
 by_cases ho:y66 x=true
 ·simp only[ho,C8,true_and];exact⟨h1,λh=>by
   have ho2:((x.outs.length:Int)==0 || !z08 x)=true:=ho;rw[if_pos ho2]at h⊢;exact h2 h⟩
 ·have ho2:¬((x.outs.length:Int)==0 || !z08 x)=true:=ho;rw[if_neg ho,if_neg ho2];simp[ho]
theorem node_iff(u:Un)(f:Fl)(x:Nd)(ih:∀q∈x.kids,CH u f q)(deep:Int)(w:Wh)(seen:List Int)(set:List Bool)(hn:set.length=f.types.length) :
 ((z4y u f deep w seen set x).1=true↔z82 u f deep w seen x=true/\Frs set (dN x))/\((z4y u f deep w seen set x).1=true->(z4y u f deep w seen set x).2=z31 set (dN x)):=by
 cases hb:z1j x with
 |false =>
  rw[zi5 _ _ _ _ _ _ hb];refine⟨⟨λh=>(by cases h),λh=>?_⟩,λh=>by cases h⟩;have:=z4s u f deep w seen h.1
  rw[hb]at this;cases this
 |true =>
  by_cases h10:x.kind=10
  ·obtain⟨a,b,hk⟩:=z3u hb h10;rw[y1g _ _ _ _ _ _ hb h10 hk,z79 u f deep w seen hb h10 hk,dN_if hb h10 hk,show(⟨true,w.Loop,r8of f.types x.outs,w.Next,w.Left⟩:Wh)=w1 w f x from rfl]
   by_cases ht:z06 f.types seen x.args [2]=true
   ·rw[if_pos ht];obtain⟨a1,a2⟩:=ih a (by rw[hk];simp) (deep+1) (w1 w f x) seen set hn;have hna:(z31 set (dL a)).length=f.types.length:=(z4c _ _).trans hn;obtain⟨b1,b2⟩:=ih b (by rw[hk];simp) (deep+1) (w1 w f x) seen (z31 set (dL a)) hna;have hnb:(z31 (z31 set (dL a)) (dL b)).length=f.types.length:=(z4c _ _).trans hna;obtain⟨e1,e2⟩:=j0j f x (z31 (z31 set (dL a)) (dL b)) hnb;have key:(andT (z2o u f (deep+1) (w1 w f x) seen set a) (λs1=>andT (z2o u f (deep+1) (w1 w f x) seen s1 b) λs2=>zg3 f x s2)).1=true ↔
     (z2o u f (deep+1) (w1 w f x) seen set a).1=true/\(z2o u f (deep+1) (w1 w f x) seen (z31 set (dL a)) b).1=true/\(zg3 f x (z31 (z31 set (dL a)) (dL b))).1=true:=by
     rw[z52.1];refine E8 λh=>?_;rw[a2 h,z52.1];exact E8 λh2=>by rw[b2 h2]
    refine⟨?_,λh=>?_⟩
    ·rw[key,a1,b1,e1];simp only[ht,B0,A0];constructor
     ·rintro⟨⟨c1,c2⟩,⟨c3,c4⟩,⟨c5,c6⟩,c7⟩;have ra:=rg u f a _ _ _ (by simp only[z42,A0]at c1;exact c1.2);have rb:=rg u f b _ _ _ (by simp only[z42,A0]at c3;exact c3.2);exact⟨⟨⟨⟨c1,c3⟩,c5⟩,c6⟩,(zy8 hn ra rb (z1b c6)).2 ⟨c2,c4,c7⟩⟩
     ·rintro⟨⟨⟨⟨c1,c3⟩,c5⟩,c6⟩,c7⟩;have ra:=rg u f a _ _ _ (by simp only[z42,A0]at c1;exact c1.2);have rb:=rg u f b _ _ _ (by simp only[z42,A0]at c3;exact c3.2);obtain⟨d1,d2,d3⟩:=(zy8 hn ra rb (z1b c6)).1 c7;exact⟨⟨c1,d1⟩,⟨c3,d2⟩,⟨c5,c6⟩,d3⟩
    ·obtain⟨k1,k2,k3⟩:=key.1 h;have h':=(z52.1.1 h).2;rw[z52.2 h,a2 k1];rw[a2 k1]at h';rw[z52.2 h',b2 k2,e2 k3,zc2,zc2]
   ·rw[if_neg ht];refine⟨⟨λh=>(by cases h),λh=>?_⟩,λh=>by cases h⟩;simp only[A0]at h;exact absurd h.1.1.1.1.1 ht
  ·by_cases h11:x.kind=11
   ·obtain⟨a,hk⟩:=z2a hb h11;rw[zi6 _ _ _ _ _ _ hb h11 hk,z4t u f deep w seen hb h11 hk,j0h hk,show(⟨false,true,[],r8of f.types x.params,r8of f.types x.outs⟩:Wh)=w2 f x from rfl,show List.replicate x.params.length 0=zer x.params from rfl]
    by_cases ht:z06 f.types seen x.args (r8of f.types x.params)=true
    ·rw[if_pos ht];obtain⟨a1,a2⟩:=y71 f.types set x.params (zer x.params) hn;have hna:(z31 set x.params).length=f.types.length:=(z4c _ _).trans hn;obtain⟨b1,b2⟩:=ih a (by rw[hk];simp) (deep+1) (w2 f x) (seen++x.params) (z31 set x.params) hna;have hnb:(z31 (z31 set x.params) (dL a)).length=f.types.length:=(z4c _ _).trans hna;obtain⟨e1,e2⟩:=j0j f x (z31 (z31 set x.params) (dL a)) hnb;have key:(andT (z1t f.types set x.params (zer x.params)) (λs1=>andT (z2o u f (deep+1) (w2 f x) (seen++x.params) s1 a) λs2=>zg3 f x s2)).1=true ↔
      (z1t f.types set x.params (zer x.params)).1=true/\(z2o u f (deep+1) (w2 f x) (seen++x.params) (z31 set x.params) a).1=true/\(zg3 f x (z31 (z31 set x.params) (dL a))).1=true:=by
      rw[z52.1];refine E8 λh=>?_;rw[a2 h,z52.1];exact E8 λh2=>by rw[b2 h2]
     refine⟨?_,λh=>?_⟩
     ·rw[key,a1,b1,e1];simp only[ht,B0,A0];constructor
      ·rintro⟨⟨c1,c2⟩,⟨c3,c4⟩,⟨c5,c6⟩,c7⟩;have rb:=rg u f a _ _ _ (by simp only[z42,A0]at c3;exact c3.2);exact⟨⟨⟨⟨c1,c3⟩,c5⟩,c6⟩,(zy8 hn (z1b c1) rb (z1b c6)).2 ⟨c2,c4,c7⟩⟩
      ·rintro⟨⟨⟨⟨c1,c3⟩,c5⟩,c6⟩,c7⟩;have rb:=rg u f a _ _ _ (by simp only[z42,A0]at c3;exact c3.2);obtain⟨d1,d2,d3⟩:=(zy8 hn (z1b c1) rb (z1b c6)).1 c7;exact⟨⟨c1,d1⟩,⟨c3,d2⟩,⟨c5,c6⟩,d3⟩
     ·obtain⟨k1,k2,k3⟩:=key.1 h;have h':=(z52.1.1 h).2;rw[z52.2 h,a2 k1];rw[a2 k1]at h';rw[z52.2 h',b2 k2,e2 k3,zc2,zc2]
    ·rw[if_neg ht];refine⟨⟨λh=>(by cases h),λh=>?_⟩,λh=>by cases h⟩;simp only[A0]at h;exact absurd h.1.1.1.1.1 ht
   ·have e10:(x.kind==10)=false:=by simpa using h10
    have e11:(x.kind==11)=false:=by simpa using h11
    rw[z9h _ _ _ _ _ _ hb e10 e11,z1x u f deep w seen hb e10 e11,y7o hb e10 e11,yh9];exact run_iff _ hn
theorem go_iff(u:Un)(f:Fl)(deep:Int)(w:Wh):∀(l:List Nd),(∀x∈l,∀q∈x.kids,CH u f q)->∀(all:List Int)(set:List Bool),set.length=f.types.length ->
 ((r8go u f deep w all set l).1=true↔vGo u f deep w all l=true/\Frs set (dL l))/\((r8go u f deep w all set l).1=true->(r8go u f deep w all set l).2=z31 set (dL l))
 |[],_,all,set,_=>by simp[r8go,vGo,dL,Frs,z31]
 |x::r,ih,all,set,hn=>by
  obtain⟨n1,n2⟩:=node_iff u f x (ih x (.head _)) deep w all set hn;have hm:(z31 set (dN x)).length=f.types.length:=(z4c _ _).trans hn;obtain⟨r1,r2⟩:=go_iff u f deep w r (λy hy=>ih y (.tail _ hy)) (all++x.outs) (z31 set (dN x)) hm;unfold r8go vGo
  by_cases hd:deep > 100
  ·rw[if_pos hd];simp[hd]
  ·rw[if_neg hd];have hdb:(!decide (deep > 100))=true:=by simpa using hd
   by_cases hc:(z08 x != r.isEmpty)=true
   ·have hcb:(z08 x==r.isEmpty)=false:=by
     cases hcc:(z08 x==r.isEmpty)with
     |false=>rfl
     |true=>simp[bne,hcc]at hc
    simp only[if_pos hc,hcb,Cv,Cn,Ap,false_and,iff_false,Fp];have:(andT (z4y u f deep w all set x) λs1=>(false,s1)).1=false:=by
     unfold andT;split<;>rfl
    exact⟨this,λh=>by rw[this]at h;cases h⟩
   ·have hcb:(z08 x==r.isEmpty)=true:=by
     cases hcc:(z08 x==r.isEmpty)with
     |true=>rfl
     |false=>simp[bne,hcc]at hc
    simp only[if_neg hc,hcb,hdb,B0,Ck,A0];have key:(andT (z4y u f deep w all set x) λs1=>r8go u f deep w (all++x.outs) s1 r).1=true↔(z4y u f deep w all set x).1=true/\(r8go u f deep w (all++x.outs) (z31 set (dN x)) r).1=true:=by
     rw[z52.1];exact E8 λh=>by rw[n2 h]
    refine⟨?_,λh=>?_⟩
    ·rw[key,n1,r1];constructor
     ·rintro⟨⟨c1,c2⟩,c3,c4⟩;exact⟨⟨c1,c3⟩,(y0k hn (yd4 u f x (λq _=>rg u f q) _ _ _ c1) (rg u f r _ _ _ c3)).2 ⟨c2,c4⟩⟩
     ·rintro⟨⟨c1,c3⟩,c4⟩;obtain⟨d1,d2⟩:=(y0k hn (yd4 u f x (λq _=>rg u f q) _ _ _ c1) (rg u f r _ _ _ c3)).1 c4;exact⟨⟨c1,d1⟩,c3,d2⟩
    ·obtain⟨k1,k2⟩:=key.1 h;rw[z52.2 h,n2 k1,r2 k2];show _=z31 set (dN x++dL r);rw[zc2]
theorem ch_all(u:Un)(f:Fl):∀(N:Nat)(l:List Nd),SizeOf.sizeOf l<N->CH u f l
 |0,_,h=>absurd h (Aj _)
 |N+1,l,hN=>by
  intro deep w seen set hn;obtain⟨h1,h2⟩:=go_iff u f deep w l (λx hx q hq=>ch_all u f N q (B8 (z8o hx rfl hq) (Bp hN))) seen set hn;unfold z2o ne z42
  cases l with
  |nil=>simp
  |cons x r=>simpa using⟨h1,h2⟩
theorem zs0(u:Un)(f:Fl)(l:List Nd)(deep:Int)(w:Wh)(seen:List Int)(set:List Bool)(hn:set.length=f.types.length):(z2o u f deep w seen set l).1=true↔z42 u f deep w seen l=true/\Frs set (dL l) :=
 (ch_all u f _ l (Aa _) deep w seen set hn).1
theorem y2n{tys s s':List Int}:∀{l want:List Int},(∀v∈l,s.contains v=true->s'.contains v=true)->z0y tys s l want=true->z0y tys s' l want=true
 |[],_,_,_=>by simp[z0y]
 |_::_,[],_,_=>by simp[z0y]
 |x::r,w::ws,hs,h=>by
  simp only[z0y,A0]at h⊢;refine⟨?_,y2n (λv hv=>hs v (.tail _ hv)) h.2⟩;have h1:=h.1;unfold za6 at h1⊢
  cases hc:s.contains x with
  |false=>rw[hc]at h1;simp at h1
  |true=>rw[hs x (.head _) hc];rw[hc]at h1;exact h1
theorem y2p{tys s s' l want:List Int}(hs:∀v∈l,s.contains v=true->s'.contains v=true)(h:z06 tys s l want=true):z06 tys s' l want=true:=by
 unfold z06 at h⊢;simp only[A0]at h⊢;exact⟨h.1,y2n hs h.2⟩
theorem z9b{x:Nd}(h:z16 x=true):(x.kind=1∨x.kind=2∨x.kind=3∨x.kind=4):=by
 simp only[z16,Br,A0,Au]at h;rcases h with((h|h)|h)|h
 ·exact .inl h
 ·exact .inr (.inl h)
 ·exact .inr (.inr (.inl h))
 ·exact .inr (.inr (.inr h.1.1))
theorem z7h{x:Nd}(h:z16 x=true):(x.kind==10)=false/\(x.kind==11)=false/\z08 x=false/\z3f x=false:=by
 have hk:=z9b h;have h10:(x.kind==10)=false:=by simp;omega
 have h11:(x.kind==11)=false:=by simp;omega
 have h14:(x.kind==14)=false:=by simp;omega
 refine⟨h10,h11,?_,?_⟩
 ·simp only[z08,h10,h11,Cn,Ap,By,z0v];simp;omega
 ·rw[z4d,h10,h14];rfl
theorem zj6{u:Un}{f:Fl}{x:Nd}{s s':List Int}{w w':Wh}{outs:List Int}(hm:z16 x=true)(hs:∀v∈x.args,s.contains v=true->s'.contains v=true)(h:(z5r u f x s w).ok f.types outs=true) :
 (z5r u f x s' w').ok f.types outs=true/\outs.length=1:=by
 have M:∀want,z06 f.types s x.args want=true->z06 f.types s' x.args want=true:=λwant=>y2p hs;have F:∀(b b':Bool)(t:Int),(b=true->b'=true)->SForm.ok ⟨b,some [t]⟩ f.types outs=true->SForm.ok ⟨b',some [t]⟩ f.types outs=true/\outs.length=1:=λb b' t hb h=>by
  simp only[SForm.ok,A0]at h⊢;exact⟨⟨hb h.1,h.2⟩,zd4 h.2⟩
 unfold z5r at h⊢
 by_cases k1:(x.kind==1)=true
 ·rw[if_pos k1]at h⊢;exact F _ _ _ (λhb=>M _ hb) h
 rw[if_neg k1]at h⊢
 by_cases k2:(x.kind==2)=true
 ·rw[if_pos k2]at h⊢;exact F _ _ _ (λhb=>by simp only[A0]at hb⊢;exact⟨hb.1,M _ hb.2⟩) h
 rw[if_neg k2]at h⊢
 by_cases k3:(x.kind==3)=true
 ·rw[if_pos k3]at h⊢;exact F _ _ _ (λhb=>by simp only[A0]at hb⊢;exact⟨hb.1,M _ hb.2⟩) h
 rw[if_neg k3]at h⊢
 by_cases k4:(x.kind==4)=true
 ·rw[if_pos k4]at h⊢;exact F _ _ _ (λhb=>by simp only[A0]at hb⊢;exact⟨⟨hb.1.1,M _ hb.1.2⟩,hb.2⟩) h
 rw[if_neg k4]at h⊢;have hk:=z9b hm;simp only[Au]at k1 k2 k3 k4;omega
theorem dL_app:∀(a b:List Nd),dL (a++b)=dL a++dL b
 |[],_=>rfl
 |x::r,b=>by simp only[Bb,dL,dL_app r b,C2]
theorem y3x:∀(a b:List Nd),z0i (a++b)=(z0i a||z0i b)
 |[],b=>by simp[z0i]
 |x::r,b=>by simp only[Bb,z0i,y3x r b,Bool.or_assoc]
theorem y33{l:List Int}(h:l.length=1)(v:Int)(hv:l.contains v=true):v=l.headD 0:=by
 match l,h with
 |[a],_=>simpa using hv
theorem yb3{kind op n:Int}{name:ByteArray}{args outs params:List Int}{ks ks':List (List Nd)}(h:ks'.length=ks.length):z1j (.mk kind op n name args outs params ks')=z1j (.mk kind op n name args outs params ks):=by
 unfold z1j r8op r8num yn2 r8kn;simp only[Nd.kind,Nd.op,Nd.n,Nd.name,Nd.kids,Nd.params];rw[h];rfl
theorem y7v(u:Un):∀(l:List Fl)(i:Int),(z5n u l i).1=0↔∀f∈l,z5m u f=true
 |[],_=>by simp[z5n]
 |f::r,i=>by
  unfold z5n
  cases h:z5m u f with
  |false=>simp[h]
  |true=>simp[h,y7v u r (i+1)]
theorem y3p(u:Un):∀(l:List Fl)(i:Int),(∀f∈l,z5m u f=true)->z5n u l i=(0,0)
 |[],_,_=>rfl
 |f::r,i,h=>by
  unfold z5n;rw[if_pos (h f (.head _))];exact y3p u r (i+1) λg hg=>h g (.tail _ hg)
theorem zb1(u:Un):(z17 u).1=0↔z1f u=true/\∀f∈u.flows,z5m u f=true:=by
 unfold z17
 cases h:z1f u with
 |false=>simp
 |true=>simp[y7v]
mutual
theorem y8f(u:Un)(f:Fl):∀(x:Nd)(deep:Int)(w:Wh)(s:List Int),z82 u f deep w s x=true->hOkN x=true
 |.mk kind op n name args outs params ks,deep,w,s,h=>by
  have hb:=z4s u f deep w s h;simp only[hOkN,A0];refine⟨⟨?_,?_⟩,?_⟩
  ·cases hm:z16 (.mk kind op n name args outs params ks)with
   |false=>rfl
   |true =>
    obtain⟨e10,e11,_,_⟩:=z7h hm;rw[z1x u f deep w s hb e10 e11]at h;obtain⟨_,hl⟩:=zj6 (s':=s) (w':=w) hm (λ_ _ h=>h) h;simp only[Nd.outs]at hl
    cases outs with
    |nil=>simp at hl
    |cons _ _=>rfl
  ·cases hk:(kind==11)with
   |false=>simp[bne,hk]
   |true =>
    obtain⟨a,ha⟩:=z2a hb (show kind=11 by simpa using hk);simp only[Nd.kids]at ha;simp[ha]
  ·by_cases h10:kind=10
   ·obtain⟨a,b,hk⟩:=z3u hb h10;rw[z79 u f deep w s hb h10 hk]at h;simp only[A0,z42]at h;simp only[Nd.kids]at hk
    match ks,hk with
    |[a',b'],hk =>
     cases hk
     simp only[hOkK,A0,Ck];exact⟨zm4 u f a _ _ _ h.1.1.1.2.2,zm4 u f b _ _ _ h.1.1.2.2⟩
   ·by_cases h11:kind=11
    ·obtain⟨a,hk⟩:=z2a hb h11;rw[z4t u f deep w s hb h11 hk]at h;simp only[A0,z42]at h;simp only[Nd.kids]at hk
     match ks,hk with
     |[a'],hk =>
      cases hk
      simp only[hOkK,Ck];exact zm4 u f a _ _ _ h.1.1.2.2
    ·have hk0:=zq3 hb (show(kind==10)=false by simpa using h10) (show(kind==11)=false by simpa using h11);simp only[Nd.kids]at hk0;rw[hk0];rfl
theorem zm4(u:Un)(f:Fl):∀(l:List Nd)(deep:Int)(w:Wh)(s:List Int),vGo u f deep w s l=true->hOkL l=true
 |[],_,_,_,_=>rfl
 |x::r,deep,w,s,h=>by
  simp only[vGo,A0]at h;simp only[hOkL,A0];exact⟨y8f u f x _ _ _ h.1.1.2,zm4 u f r _ _ _ h.2⟩
end
theorem yj8:∀(a b:List Nd),wtL (a++b)=wtL a+wtL b
 |[],b=>by simp[wtL]
 |x::r,b=>by simp only[Bb,wtL,yj8 r b];omega
theorem z6b:∀{l to s:List Int},z14 s l to=s->∀v∈z0j s l to,v∈s
 |[],_,s,_=>by simp[z0j]
 |_::_,[],s,_=>by simp[z0j]
 |a::l,t::to,s,h=>by
  unfold z14 at h;unfold z0j;split at h
  ·rename_i hc;rw[if_pos hc];obtain⟨e1,e2⟩:=Pre.two (z4u [a] s) (z2v l to _) h;rw[e1]at h;intro v hv;rcases Ao.1 hv with rfl|hv
   ·rw[<- e1];unfold wAdd wAdd;split
    ·rename_i hc2;exact List.contains_iff_mem.1 hc2
    ·exact B4.2 (.inr (.head _))
   ·exact z6b h v hv
  ·rename_i hc;rw[if_neg hc];exact z6b h
theorem zp5:∀{l s:List Int},wAdd s l=s->∀v∈l,v∈s
 |[],_,_=>by simp
 |v::r,s,h=>by
  unfold wAdd at h;split at h
  ·rename_i hc;intro w hw;rcases Ao.1 hw with rfl|hw
   ·exact List.contains_iff_mem.1 hc
   ·exact zp5 h w hw
  ·obtain⟨e1,_⟩:=Pre.two (⟨[v],rfl⟩:Pre s (s++[v])) (z4u r _) h;have:=Af List.length e1;simp at this
theorem zl7{s:List Int}:∀{l:List Int}{v:Int},v∈l->v∈s->v∈z0j s l l
 |a::l,v,h,hs=>by
  unfold z0j;rcases Ao.1 h with rfl|h
  ·rw[if_pos (List.contains_iff_mem.2 hs)];exact .head _
  ·split
   ·exact .tail _ (zl7 h hs)
   ·exact zl7 h hs
theorem ze0{s:List Int}:∀(l:List Int),List.Sublist (z0j s l l) l
 |[]=>by simp[z0j]
 |a::l=>by
  unfold z0j;split
  ·exact(ze0 l).cons_cons a
  ·exact(ze0 l).cons a
theorem y0t{s:List Int}:∀{l to:List Int},l.length=to.length->(z0j s l to).length=(z0j s to to).length
 |[],[],_=>rfl
 |a::l,t::to,h=>by
  have ih:=y0t (s:=s) (l:=l) (to:=to) (by simpa using h);unfold z0j;split
  ·simp[ih]
  ·exact ih
 |[],_::_,h=>by simp at h
 |_::_,[],h=>by simp at h
def KeepS(s all all':List Int):Prop:=∀v,v∈s->all.contains v=true->all'.contains v=true
theorem KeepS.app{s a b c d:List Int}(h:KeepS s a b)(h2:∀v∈c,v∈s->v∈d):KeepS s (a++c) (b++d):=λv hv hc=>by
 rw[Dh,Br]at hc⊢;rcases hc with hc|hc
 ·exact .inl (h v hv hc)
 ·exact .inr (List.contains_iff_mem.2 (h2 v (List.contains_iff_mem.1 hc) hv))
theorem zx6{tys all all' s:List Int}(hs:KeepS s all all'):∀{l to:List Int},(∀v∈z0j s l to,v∈s)->l.length=to.length->z0y tys all l (to.map λv=>tys.getD v.toNat 0)=true ->
 z0y tys all' (z0j s l to) ((z0j s to to).map λv=>tys.getD v.toNat 0)=true
 |[],[],_,_,_=>by simp[z0j,z0y]
 |a::l,t::to,hk,hl,h=>by
  simp only[B3,z0y,A0]at h;have hk2:∀v∈z0j s l to,v∈s:=λv hv=>hk v (by unfold z0j;split<;>simp[hv]);have ih:=zx6 hs hk2 (by simpa using hl) h.2;unfold z0j
  by_cases hc:s.contains t=true
  ·rw[if_pos hc,if_pos hc];simp only[B3,z0y,A0];refine⟨?_,ih⟩;have ha:a∈s:=hk a (by unfold z0j;rw[if_pos hc];exact .head _);have h1:=h.1;unfold za6 at h1⊢
   cases hac:all.contains a with
   |false=>rw[hac]at h1;simp at h1
   |true=>rw[hs a ha hac];rw[hac]at h1;exact h1
  ·rw[if_neg hc,if_neg hc]
   exact ih
 |[],_::_,_,h,_=>by simp at h
 |_::_,[],_,h,_=>by simp at h
theorem inr_all{tys l:List Int}(h:inR tys.length l):l.all (zi4 tys)=true:=by
 rw[Be];intro v hv;simp only[zi4,A0,Bj];exact h v hv
theorem ye8{tys l:List Int}(h:inR tys.length l):r8of tys l=l.map λv=>tys.getD v.toNat 0:=by unfold r8of;rw[if_pos (inr_all h)]
theorem zz0{n:Nat}{s l:List Int}(h:inR n l):inR n (z0j s l l):=λv hv=>h v ((ze0 l).subset hv)
theorem y56{tys all all' s l to:List Int}(hs:KeepS s all all')(hk:∀v∈z0j s l to,v∈s)(hr:inR tys.length to)(h:z06 tys all l (r8of tys to)=true) :
 z06 tys all' (z0j s l to) (r8of tys (z0j s to to))=true:=by
 rw[ye8 hr]at h;rw[ye8 (zz0 hr)];unfold z06 at h⊢;simp only[A0,Ac,Au]at h⊢;have hl:l.length=to.length:=by omega
 exact⟨by rw[y0t hl],zx6 hs hk hl h.2⟩
theorem y2o{tys all l to:List Int}(hr:inR tys.length to)(h:z06 tys all l (r8of tys to)=true):l.length=to.length:=by
 rw[ye8 hr]at h;unfold z06 at h;simp only[A0,Ac,Au]at h;omega
theorem j4j{tys all all' s l want:List Int}(hs:KeepS s all all')(hl:∀v∈l,v∈s)(h:z06 tys all l want=true):z06 tys all' l want=true:=y2p (λv hv=>hs v (hl v hv)) h
theorem y04{tys:List Int}:∀{l:List Int},inR tys.length l->z7a tys l (zer l)=true
 |[],_=>rfl
 |v::r,h=>by
  have h1:=h v (.head _);have ih:=y04 (tys:=tys) (l:=r) λw hw=>h w (.tail _ hw);simp only[zer,A1,Ek,z7a,A0,z93,Bj,Br];exact⟨⟨h1,.inl rfl⟩,ih⟩
theorem j3u{u:Un}{f:Fl}{x:Nd}{s s':List Int}{w w':Wh}{outs:List Int}(h12:(x.kind==12)=false)(h13:(x.kind==13)=false)(h14:(x.kind==14)=false)(hs:∀v∈x.args,s.contains v=true->s'.contains v=true)(h:(z5r u f x s w).ok f.types outs=true):(z5r u f x s' w').ok f.types outs=true:=by
 have M:∀want,z06 f.types s x.args want=true->z06 f.types s' x.args want=true:=λwant=>y2p hs;have F:∀(b b':Bool) (want:Option (List Int)),(b=true->b'=true)->SForm.ok ⟨b,want⟩ f.types outs=true->SForm.ok ⟨b',want⟩ f.types outs=true:=λb b' want hb h=>by
  cases want<;>simp only[SForm.ok,A0]at h⊢<;>exact⟨hb h.1,h.2⟩
 unfold z5r at h⊢;simp only[h12,h13,h14,Ap,By]at h⊢
 by_cases k1:(x.kind==1)=true
 ·rw[if_pos k1]at h⊢;exact F _ _ _ (λhb=>M _ hb) h
 rw[if_neg k1]at h⊢
 by_cases k2:(x.kind==2)=true
 ·rw[if_pos k2]at h⊢;exact F _ _ _ (λhb=>by simp only[A0]at hb⊢;exact⟨hb.1,M _ hb.2⟩) h
 rw[if_neg k2]at h⊢
 by_cases k3:(x.kind==3)=true
 ·rw[if_pos k3]at h⊢;exact F _ _ _ (λhb=>by simp only[A0]at hb⊢;exact⟨hb.1,M _ hb.2⟩) h
 rw[if_neg k3]at h⊢
 by_cases k4:(x.kind==4)=true
 ·rw[if_pos k4]at h⊢;exact F _ _ _ (λhb=>by simp only[A0]at hb⊢;exact⟨⟨hb.1.1,M _ hb.1.2⟩,hb.2⟩) h
 rw[if_neg k4]at h⊢
 by_cases k5:(x.kind==5)=true
 ·rw[if_pos k5]at h⊢;exact F _ _ _ (λhb=>by simp only[A0]at hb⊢;exact⟨hb.1,M _ hb.2⟩) h
 rw[if_neg k5]at h⊢
 by_cases k6:(x.kind==6)=true
 ·rw[if_pos k6]at h⊢;exact F _ _ _ (λhb=>by simp only[A0]at hb⊢;exact⟨hb.1,M _ hb.2⟩) h
 rw[if_neg k6]at h⊢
 by_cases k7:(x.kind==7)=true
 ·rw[if_pos k7]at h⊢
  by_cases hp:decide (z05 x.name u.flows 0≥0)=true
  ·rw[if_pos hp]at h⊢
   cases hg:u.flows[(z05 x.name u.flows 0).toNat]? with
   |none=>rw[hg]at h;exact h
   |some g=>rw[hg]at h;exact F _ _ _ (λhb=>M _ hb) h
  ·rw[if_neg hp]at h⊢;exact h
 rw[if_neg k7]at h⊢
 by_cases k8:(x.kind==8)=true
 ·rw[if_pos k8]at h⊢;exact h
 rw[if_neg k8]at h⊢
 by_cases k9:(x.kind==9)=true
 ·rw[if_pos k9]at h⊢;exact F _ _ _ (λhb=>M _ hb) h
 rw[if_neg k9]at h⊢
 by_cases k15:(x.kind==15)=true
 ·rw[if_pos k15]at h⊢;exact F _ _ _ (λhb=>M _ hb) h
 rw[if_neg k15]at h⊢;exact h
mutual
theorem y92(s:List Int):∀(x:Nd)(h:Hd),z0i (z68 s h x)=z3f x
 |.mk kind op n name args outs params ks,h=>by
  have hk:=λh'=>zw6 s ks h';unfold z68
  repeat' split
  all_goals first
  |(simp only[z0i,z3f,hk,E9];done)
  |(rename_i hm;simp only[A0]at hm;rw[(z7h hm.1).2.2.2];rfl)
theorem zd3(s:List Int):∀(l:List Nd)(h:Hd),z0i (z1o s h l)=z0i l
 |[],h=>by simp[z1o]
 |x::r,h=>by simp only[z1o,y3x,y92 s x h,zd3 s r h,z0i]
theorem zw6(s:List Int):∀(ks:List (List Nd)) (h:Hd),z34 (z5x s h ks)=z34 ks
 |[],h=>by simp[z5x]
 |l::r,h=>by simp only[z5x,z34,zd3 s l h,zw6 s r h]
end
theorem j2n(s:List Int)(h:Hd)(x:Nd)(hm:z16 x=false):∃y,z68 s h x=[y]/\y.kind=x.kind:=by
 rw[zn7]
 repeat' split
 all_goals first
 |exact⟨_,rfl,rfl⟩
 |(rename_i hh;rw[hm]at hh;simp at hh)
theorem z91{u:Un}{f:Fl}{deep:Int}{w:Wh}(s:List Int)(h:Hd):∀{l:List Nd}{all:List Int},vGo u f deep w all l=true->l≠[]->z1o s h l≠[]/\z2i (z1o s h l)=z2i l
 |[x],all,hv,_=>by
  simp only[vGo,A0]at hv;have hc:z08 x=true:=by simpa using hv.1.2
  have hm:z16 x=false:=by
   cases hh:z16 x with
   |false=>rfl
   |true=>rw[(z7h hh).2.2.1]at hc;cases hc
  obtain⟨y,e,hk⟩:=j2n s h x hm
  simp[z1o,e,z2i,hk]
 |x::z::r,all,hv,_=>by
  have hv2:=hv;unfold vGo at hv2;simp only[A0]at hv2;obtain⟨i1,i2⟩:=z91 s h (l:=z::r) hv2.2 sI0;have e:z1o s h (x::z::r)=z68 s h x++z1o s h (z::r):=by rw[z1o]
  have h1:(z1o s h (x::z::r)).getLast? = (z1o s h (z::r)).getLast?:=by
   rw[e,List.getLast?_append]
   cases hl:(z1o s h (z::r)).getLast? with
   |none=>exact absurd (List.getLast?_eq_none_iff.1 hl) i1
   |some q=>rfl
  refine⟨by rw[e];simp[i1],?_⟩;unfold z2i at i2⊢;rw[h1,i2];simp[En]
def whOf(f:Fl)(i l:Bool)(h:Hd):Wh:=⟨i,l,r8of f.types h.yield,r8of f.types h.next,r8of f.types h.left⟩
def hKept(s:List Int)(h:Hd):Hd:=⟨z0j s h.yield h.yield,z0j s h.next h.next,z0j s h.left h.left⟩
def HdIn(f:Fl)(h:Hd):Prop:=inR f.types.length h.yield/\inR f.types.length h.next/\inR f.types.length h.left
theorem w1_of(f:Fl)(x:Nd)(i l:Bool)(h:Hd):w1 (whOf f i l h) f x=whOf f true l ⟨x.outs,h.next,h.left⟩:=rfl
theorem w2_of(f:Fl)(x:Nd):w2 f x=whOf f false true ⟨[],x.params,x.outs⟩:=rfl
def SP(u:Un)(f:Fl)(s:List Int)(l:List Nd):Prop:=∀(deep:Int)(i lp:Bool)(h:Hd)(all all':List Int),HdIn f h->KeepS s all all'->z4k h s l=s->vGo u f deep (whOf f i lp h) all l=true->vGo u f deep (whOf f i lp (hKept s h)) all' (z1o s h l)=true
theorem SP.list{u:Un}{f:Fl}{s:List Int}{l:List Nd}(hh:SP u f s l){deep:Int}{i lp:Bool}{h:Hd}{all all':List Int}(hi:HdIn f h)(hs:KeepS s all all')(hw:z4k h s l=s)(hv:z42 u f deep (whOf f i lp h) all l=true):z42 u f deep (whOf f i lp (hKept s h)) all' (z1o s h l)=true:=by
 simp only[z42,A0]at hv⊢;refine⟨?_,hh deep i lp h all all' hi hs hw hv.2⟩;have hne:l≠[]:=by intro e;subst e;simp at hv
 obtain⟨h1,_⟩:=z91 s h hv.2 hne
 cases hq:z1o s h l with
 |nil=>exact absurd hq h1
 |cons _ _=>rfl
theorem yf0{u:Un}{f:Fl}{x:Nd}{s:List Int}{w:Wh}(h:x.kind=12):z5r u f x s w=⟨w.If&&z06 f.types s x.args w.Yield,none⟩:=by unfold z5r;simp[h]
theorem yf1{u:Un}{f:Fl}{x:Nd}{s:List Int}{w:Wh}(h:x.kind=13):z5r u f x s w=⟨w.Loop&&z06 f.types s x.args w.Next,none⟩:=by unfold z5r;simp[h]
theorem yf2{u:Un}{f:Fl}{x:Nd}{s:List Int}{w:Wh}(h:x.kind=14):z5r u f x s w=⟨w.Loop&&z06 f.types s x.args w.Left,none⟩:=by unfold z5r;simp[h]
def NodeS(u:Un)(f:Fl)(s:List Int)(h:Hd)(deep:Int)(w':Wh)(all':List Int)(x:Nd):Prop :=
 (z68 s h x=[]/\z08 x=false/\∀v∈x.outs,¬v∈s) ∨
 ∃y,z68 s h x=[y]/\z82 u f deep w' all' y=true/\z08 y=z08 x/\∀v∈x.outs,v∈s->v∈y.outs
theorem y60{u:Un}{f:Fl}{s:List Int}{deep:Int}{w w':Wh}{all all':List Int}{x:Nd}(to:List Int)(hto:inR f.types.length to)(hs:KeepS s all all')(hw:z14 s x.args to=s)(hb:z1j x=true)(h10:(x.kind==10)=false)(h11:(x.kind==11)=false)
 (b:Bool) (hf:z5r u f x all w=⟨b&&z06 f.types all x.args (r8of f.types to),none⟩)
 (hf':z5r u f (.mk x.kind x.op x.n x.name (z0j s x.args to) x.outs x.params x.kids) all' w'=⟨b&&z06 f.types all' (z0j s x.args to) (r8of f.types (z0j s to to)),none⟩)
 (hv:z82 u f deep w all x=true):z82 u f deep w' all' (.mk x.kind x.op x.n x.name (z0j s x.args to) x.outs x.params x.kids)=true:=by
 have hb2:z1j (.mk x.kind x.op x.n x.name (z0j s x.args to) x.outs x.params x.kids)=true:=by cases x;exact hb
 rw[z1x u f deep w all hb h10 h11,hf]at hv;rw[z1x u f deep w' all' hb2 h10 h11,hf'];simp only[SForm.ok,A0]at hv⊢;exact⟨⟨hv.1.1,y56 hs (z6b hw) hto hv.1.2⟩,hv.2⟩
theorem node_s(u:Un)(f:Fl)(s:List Int)(x:Nd)(ih:∀q∈x.kids,SP u f s q)(deep:Int)(i lp:Bool)(h:Hd)(all all':List Int)(hi:HdIn f h)(hs:KeepS s all all')(hw:zd6 h s x=s)(hv:z82 u f deep (whOf f i lp h) all x=true) :
 NodeS u f s h deep (whOf f i lp (hKept s h)) all' x:=by
 have hb:=z4s u f deep _ all hv;rw[y7c]at hw;unfold NodeS;rw[zn7]
 by_cases h12:x.kind=12
 ·have e:(x.kind==12)=true:=by simp[h12]
  rw[if_pos e]at hw⊢;refine .inr ⟨_,rfl,y60 h.yield hi.1 hs hw hb (by simp[h12]) (by simp[h12]) i (yf0 h12) (yf0 h12) hv,by cases x;rfl,λv hv _=>hv⟩
 rw[if_neg (by simpa using h12)]at hw⊢
 by_cases h13:x.kind=13
 ·have e:(x.kind==13)=true:=by simp[h13]
  rw[if_pos e]at hw⊢;refine .inr ⟨_,rfl,y60 h.next hi.2.1 hs hw hb (by simp[h13]) (by simp[h13]) lp (yf1 h13) (yf1 h13) hv,by cases x;rfl,λv hv _=>hv⟩
 rw[if_neg (by simpa using h13)]at hw⊢
 by_cases h14:x.kind=14
 ·have e:(x.kind==14)=true:=by simp[h14]
  rw[if_pos e]at hw⊢;refine .inr ⟨_,rfl,y60 h.left hi.2.2 hs hw hb (by simp[h14]) (by simp[h14]) lp (yf2 h14) (yf2 h14) hv,by cases x;rfl,λv hv _=>hv⟩
 rw[if_neg (by simpa using h14)]at hw⊢
 by_cases h10:x.kind=10
 ·have e:(x.kind==10)=true:=by simp[h10]
  rw[if_pos e]at hw⊢;obtain⟨a,b,hk⟩:=z3u hb h10;obtain⟨e1,e2⟩:=Pre.two (z4u x.args s) (z5v x.kids _ _) hw;rw[e1,hk]at hw;simp only[z9v]at hw;obtain⟨e3,e4⟩:=Pre.two (z3h a _ s) (z3h b _ _) hw;rw[e3]at hw;rw[z79 u f deep _ all hb h10 hk,w1_of]at hv;simp only[A0]at hv;have hin:HdIn f ⟨x.outs,h.next,h.left⟩:=⟨z1b hv.2,hi.2⟩;have ha:=(ih a (by rw[hk];simp)).list hin hs e3 hv.1.1.1.2;have hbb:=(ih b (by rw[hk];simp)).list hin hs hw hv.1.1.2;have hva:=hv.1.1.1.2;have hvb:=hv.1.1.2;simp only[z42,A0]at hva hvb;have hla:=(z91 s ⟨x.outs,h.next,h.left⟩ hva.2 (by intro e;simp[e]at hva)).2;have hlb:=(z91 s ⟨x.outs,h.next,h.left⟩ hvb.2 (by intro e;simp[e]at hvb)).2
  cases x with
  |mk kind op n name args outs params ks =>
   simp only[Nd.kind,Nd.kids,Nd.outs,Nd.args,Nd.params,Nd.op,Nd.n,Nd.name]at *
   subst h10 hk;have hc:z08 (.mk 10 op n name args (z0j s outs outs) params (z5x s ⟨outs,h.next,h.left⟩ [a,b]))=z08 (.mk 10 op n name args outs params [a,b]):=by
    simp[z08,z5x,Nd.kind,Nd.kids,kid0,kid1,hla,hlb]
   refine .inr ⟨_,rfl,?_,hc,λv hv hvs=>zl7 hv hvs⟩;have hb2:z1j (.mk 10 op n name args (z0j s outs outs) params (z5x s ⟨outs,h.next,h.left⟩ [a,b]))=true:=(yb3 (ks:=[a,b]) rfl).trans hb;rw[z79 u f deep _ all' hb2 rfl rfl,w1_of];simp only[A0];refine⟨⟨⟨⟨j4j hs (zp5 e1) hv.1.1.1.1,ha⟩,hbb⟩,?_⟩,y04 (zz0 (z1b hv.2))⟩;have ho:=hv.1.2;unfold y66 at ho⊢;rw[hc];simp only[Nd.outs,Br,Au]at ho⊢;refine ho.imp_left λe=>?_;have:=y2u s outs outs;omega
 rw[if_neg (by simpa using h10)]at hw⊢
 by_cases h11:x.kind=11
 ·have e:(x.kind==11)=true:=by simp[h11]
  rw[if_pos e]at hw⊢;obtain⟨a,hk⟩:=z2a hb h11;obtain⟨e1,e2⟩:=Pre.two (z2v x.args x.params s) (z5v x.kids _ _) hw;rw[e1,hk]at hw;simp only[z9v]at hw;rw[z4t u f deep _ all hb h11 hk,w2_of]at hv;simp only[A0]at hv;have hp:inR f.types.length x.params:=z1b hv.1.1.1.2;have hin:HdIn f ⟨[],x.params,x.outs⟩:=⟨λv hv=>by simp at hv,hp,z1b hv.2⟩;have hs2:KeepS s (all++x.params) (all'++z0j s x.params x.params):=hs.app λv hv hvs=>zl7 hv hvs;have ha:=(ih a (by rw[hk];simp)).list hin hs2 hw hv.1.1.2;have hl:=zd3 s a ⟨[],x.params,x.outs⟩
  cases x with
  |mk kind op n name args outs params ks =>
   simp only[Nd.kind,Nd.kids,Nd.outs,Nd.args,Nd.params,Nd.op,Nd.n,Nd.name]at *
   subst h11 hk;have hc:z08 (.mk 11 op n name (z0j s args params) (z0j s outs outs) (z0j s params params) (z5x s ⟨[],params,outs⟩ [a]))=z08 (.mk 11 op n name args outs params [a]):=by
    simp[z08,z5x,Nd.kind,Nd.kids,kid0,hl]
   refine .inr ⟨_,rfl,?_,hc,λv hv hvs=>zl7 hv hvs⟩;have hb2:z1j (.mk 11 op n name (z0j s args params) (z0j s outs outs) (z0j s params params) (z5x s ⟨[],params,outs⟩ [a]))=true:=(show _=z1j (.mk 11 op n name args outs params [a])from rfl).trans hb;rw[z4t u f deep _ all' hb2 rfl rfl,w2_of];simp only[A0];refine⟨⟨⟨⟨y56 hs (z6b e1) hp hv.1.1.1.1,y04 (zz0 hp)⟩,ha⟩,?_⟩,y04 (zz0 (z1b hv.2))⟩;have ho:=hv.1.2;unfold y66 at ho⊢;rw[hc];simp only[Nd.outs,Br,Au]at ho⊢;refine ho.imp_left λe=>?_;have:=y2u s outs outs;omega
 rw[if_neg (by simpa using h11)]at hw⊢;have e10:(x.kind==10)=false:=by simpa using h10
 have e11:(x.kind==11)=false:=by simpa using h11
 rw[z1x u f deep _ all hb e10 e11]at hv
 by_cases hd:(z16 x && !s.contains (x.outs.headD 0))=true
 ·rw[if_pos hd];simp only[A0,Bc]at hd;obtain⟨_,hol⟩:=zj6 (s':=all) (w':=whOf f i lp h) hd.1 (λ_ _ h=>h) hv;refine .inl ⟨rfl,(z7h hd.1).2.2.1,λv hv hvs=>?_⟩;have:=y33 hol v (List.contains_iff_mem.2 hv);rw[<- this,List.contains_iff_mem.2 hvs]at hd
  cases hd.2
 ·rw[if_neg hd];have hc:(!z16 x||s.contains (x.outs.headD 0))=true:=by
   cases h1:z16 x<;>cases h2:s.contains (x.outs.headD 0)<;>simp_all
  rw[if_pos hc]at hw;refine .inr ⟨x,rfl,?_,rfl,λv hv _=>hv⟩;rw[z1x u f deep _ all' hb e10 e11];exact j3u (by simpa using h12) (by simpa using h13) (by simpa using h14) (λv hv=>hs v (zp5 hw v hv)) hv
theorem go_s(u:Un)(f:Fl)(s:List Int):∀(l:List Nd),(∀x∈l,∀q∈x.kids,SP u f s q)->SP u f s l
 |[],_=>λ_ _ _ _ _ _ _ _ _ _=>by simp[z1o,vGo]
 |x::r,ih=>λdeep i lp h all all' hi hs hw hv=>by
  have hv0:=hv;simp only[vGo,A0]at hv;obtain⟨⟨⟨hd,hx⟩,hc⟩,hr⟩:=hv;unfold z4k at hw;obtain⟨e1,e2⟩:=Pre.two (zp6 x h s) (z3h r h _) hw;rw[e1]at hw;rw[show z1o s h (x::r)=z68 s h x++z1o s h r by rw[z1o]];rcases node_s u f s x (ih x (.head _)) deep i lp h all all' hi hs e1 hx with⟨h1,h2,h3⟩|⟨y,h1,h2,h3,h4⟩
  ·rw[h1,Dn];refine go_s u f s r (λz hz=>ih z (.tail _ hz)) deep i lp h _ all' hi (λv hv hc=>?_) hw hr;rw[Dh,Br]at hc;rcases hc with hc|hc
   ·exact hs v hv hc
   ·exact absurd hv (h3 v (List.contains_iff_mem.1 hc))
  ·rw[h1,List.singleton_append];simp only[vGo,A0];refine⟨⟨⟨hd,h2⟩,?_⟩,go_s u f s r (λz hz=>ih z (.tail _ hz)) deep i lp h _ _ hi (hs.app h4) hw hr⟩;rw[h3];have he:(z1o s h r).isEmpty=r.isEmpty:=by
    cases r with
    |nil=>simp[z1o]
    |cons z r' =>
     obtain⟨g1,_⟩:=z91 s h hr sI0
     cases hq:z1o s h (z::r')with
     |nil=>exact absurd hq g1
     |cons _ _=>rfl
   rw[he];exact hc
theorem sp_all(u:Un)(f:Fl)(s:List Int):∀(N:Nat)(l:List Nd),SizeOf.sizeOf l<N->SP u f s l
 |0,_,h=>absurd h (Aj _)
 |N+1,l,hN=>go_s u f s l λx hx q hq=>sp_all u f s N q (B8 (z8o hx rfl hq) (Bp hN))
theorem yz1(u:Un)(f:Fl){all:List Int}{l:List Nd}(h:z42 u f 1 z47 all l=true):z42 u f 1 z47 all (z1o (wSet l) hd0 l)=true :=
 (sp_all u f (wSet l) _ l (Aa _)).list (i:=false) (lp:=false) (h:=hd0) ⟨λv hv=>by simp[hd0]at hv,λv hv=>by simp[hd0]at hv,λv hv=>by simp[hd0]at hv⟩ (λv _ hc=>hc) (yr3 l) h
mutual
theorem j2o(s:List Int):∀(x:Nd)(h:Hd),List.Sublist (dL (z68 s h x)) (dN x)
 |.mk kind op n name args outs params ks,h=>by
  have hk:=λh'=>y91 s ks h';unfold z68
  repeat' split
  ·simp[dL,dN]
  ·simp[dL,dN]
  ·simp[dL,dN]
  ·simp only[dL,dN,D3];exact(List.Sublist.refl _).append ((hk _).append (ze0 _))
  ·simp only[dL,dN,D3];exact(ze0 _).append ((hk _).append (ze0 _))
  ·simp[dL]
  ·simp[dL,dN]
theorem y1x(s:List Int):∀(l:List Nd)(h:Hd),List.Sublist (dL (z1o s h l)) (dL l)
 |[],h=>by simp[z1o]
 |x::r,h=>by
  simp only[z1o,dL_app,dL];exact(j2o s x h).append (y1x s r h)
theorem y91(s:List Int):∀(ks:List (List Nd)) (h:Hd),List.Sublist (dK (z5x s h ks)) (dK ks)
 |[],h=>by simp[z5x]
 |l::r,h=>by
  simp only[z5x,dK];exact(y1x s l h).append (y91 s r h)
end
theorem Frs.sub{set:List Bool}{a b:List Int}(h:Frs set a)(hp:List.Sublist b a):Frs set b:=⟨h.1.sublist hp,λv hv=>h.2 v (hp.subset hv)⟩
section
def z5c(B:List Nd->List Nd)(f:Fl):Fl:=⟨f.name,f.ty,f.params,f.types,B f.body⟩
def z3s(B:List Nd->List Nd)(u:Un):Un:=⟨u.arrays,u.flows.map (z5c B)⟩
def z8w(B:List Nd->List Nd)(u:Un):Un×Int:=if (z59 u).1==0 then(z3s B u,0)else(⟨[],[]⟩,1)
section
variable (B:List Nd->List Nd)
theorem zr8(name:ByteArray):∀(l:List Fl)(i:Int),z05 name (l.map (z5c B)) i=z05 name l i
 |[],_=>rfl
 |f::r,i=>by
  have ih:=zr8 name r (i+1);unfold z05;rw[B3];simp only[ih];rfl
theorem sForm_m(u:Un)(f:Fl)(x:Nd)(s:List Int)(w:Wh):z5r (z3s B u) (z5c B f) x s w=z5r u f x s w:=by
 unfold z5r;simp only[z3s,z5c,zr8,Ba]
 cases u.flows[(z05 x.name u.flows 0).toNat]? with
 |none=>rfl
 |some g=>rfl
mutual
theorem vNode_m(u:Un)(f:Fl):∀(x:Nd)(deep:Int)(w:Wh)(s:List Int),z82 (z3s B u) (z5c B f) deep w s x=z82 u f deep w s x
 |.mk kind op n name args outs params ks,deep,w,s=>by
  unfold z82;rw[sForm_m]
  match ks with
  |[]=>rfl
  |[a] =>
   have h1:=yz0 u f a (deep+1) (w2 f (.mk kind op n name args outs params [a])) (s++params);simp only[show w2 (z5c B f) (.mk kind op n name args outs params [a])=w2 f (.mk kind op n name args outs params [a])from rfl,h1]
   rfl
  |a::b::r =>
   have h1:=yz0 u f a (deep+1) (w2 f (.mk kind op n name args outs params (a::b::r))) (s++params);have h2:=yz0 u f a (deep+1) (w1 w f (.mk kind op n name args outs params (a::b::r))) s;have h3:=yz0 u f b (deep+1) (w1 w f (.mk kind op n name args outs params (a::b::r))) s;simp only[show w2 (z5c B f) (.mk kind op n name args outs params (a::b::r))=w2 f (.mk kind op n name args outs params (a::b::r))from rfl,show w1 w (z5c B f) (.mk kind op n name args outs params (a::b::r))=w1 w f (.mk kind op n name args outs params (a::b::r))from rfl,h1,h2,h3];rfl
theorem yz0(u:Un)(f:Fl):∀(l:List Nd)(deep:Int)(w:Wh)(s:List Int),vGo (z3s B u) (z5c B f) deep w s l=vGo u f deep w s l
 |[],_,_,_=>by simp[vGo]
 |x::r,deep,w,s=>by
  unfold vGo;rw[vNode_m u f x,yz0 u f r]
end
def zu5(u:Un)(f:Fl)(l:List Nd):Prop:=z42 u f 1 z47 (iota f.params.toNat) l=true/\Frs (z6j f.params.toNat f.types.length) (dL l)
theorem y0h{u:Un}{f:Fl}(h:z5m u f=true):f.params.toNat<=f.types.length:=by
 unfold z5m at h;simp only[A0]at h;have a1:=h.1.1.1.1.1;have a2:=h.1.1.1.2;simp only[Bc,Ci]at a1 a2;omega
theorem y7u{u:Un}{f:Fl}(h:z5m u f=true):zu5 u f f.body:=by
 have hn:(z6j f.params.toNat f.types.length).length=f.types.length:=z5f (y0h h);unfold z5m at h;simp only[A0]at h;have h2:=h.2;rw[zs0 u f f.body 1 z47 _ _ hn]at h2;exact h2
theorem flow_m{u:Un}{f:Fl}(h:z5m u f=true)(hB:zu5 u f f.body->zu5 u f (B f.body)):z5m (z3s B u) (z5c B f)=true:=by
 have hb:=hB (y7u h);have hn:(z6j f.params.toNat f.types.length).length=f.types.length:=z5f (y0h h);unfold z5m at h⊢;simp only[A0]at h⊢;refine⟨h.1,?_⟩;show(z2o (z3s B u) (z5c B f) 1 z47 (iota f.params.toNat) (z6j f.params.toNat f.types.length) (B f.body)).1=true;rw[zs0 (z3s B u) (z5c B f) (B f.body) 1 z47 _ _ hn];have hv:=hb.1;simp only[z42,A0]at hv⊢;exact⟨⟨hv.1,by rw[yz0];exact hv.2⟩,hb.2⟩
theorem gA_m(u:Un):∀(l:List Ar)(i:Int),r8gA (z3s B u) l i=r8gA u l i
 |[],_=>rfl
 |a::r,i=>by
  have h1:gArr (z3s B u) a i=gArr u a i:=by simp only[gArr,z3s,zr8]
  simp only[r8gA,gA_m u r,h1]
theorem gF_m(u:Un):∀(l:List Fl)(i:Int),r8gF (z3s B u) (l.map (z5c B)) i=r8gF u l i
 |[],_=>rfl
 |a::r,i=>by
  have h1:gFlw (z3s B u) (z5c B a) i=gFlw u a i:=by
   simp only[gFlw,z3s,zr8];rfl
  simp only[B3,r8gF,gF_m u r,h1]
theorem y3t(l:List Fl)(k:Nat):((l.map (z5c B)).getD k y7t).ty=(l.getD k y7t).ty/\((l.map (z5c B)).getD k y7t).params=(l.getD k y7t).params:=by
 simp only[Ax,Ba]
 cases l[k]? with
 |none=>exact⟨rfl,rfl⟩
 |some g=>exact⟨rfl,rfl⟩
theorem j0u(u:Un):z1f (z3s B u)=z1f u:=by
 unfold z1f;rw[show(z3s B u).arrays=u.arrays from rfl,show(z3s B u).flows=u.flows.map (z5c B)from rfl,gA_m,gF_m];unfold za3;rw[show(z3s B u).flows=u.flows.map (z5c B)from rfl,zr8,(y3t B _ _).1,(y3t B _ _).2]
theorem check_m{u:Un}(h:(z17 u).1=0)(hB:∀f∈u.flows,zu5 u f f.body->zu5 u f (B f.body)):z17 (z3s B u)=(0,0):=by
 obtain⟨h1,h2⟩:=(zb1 u).1 h;unfold z17;rw[j0u,h1,if_pos rfl];refine y3p (z3s B u) _ 0 λg hg=>?_;obtain⟨f,hf,rfl⟩:=Cb.1 hg;exact flow_m B (h2 f hf) (hB f hf)
theorem y7k{u:Un}(h:(z17 u).1=0):∀f∈u.flows,zu5 u f f.body:=λf hf=>y7u (((zb1 u).1 h).2 f hf)
theorem wtF_m(hw:∀l,z0x (B l)<=z0x l):∀l:List Fl,wtF (l.map (z5c B))<=wtF l
 |[]=>Ae _
 |f::r=>by
  have h1:=hw f.body;have h2:=wtF_m hw r;simp only[B3,wtF,z5c]at h2⊢;omega
theorem yr4(hw:∀l,z0x (B l)<=z0x l)(u:Un):z0g (z3s B u)<=z0g u:=by
 have:=wtF_m B hw u.flows;unfold z0g;rw[show(z3s B u).flows=u.flows.map (z5c B)from rfl,Ac,show(z3s B u).arrays=u.arrays from rfl];omega
theorem y49{u:Un}(h:(z17 u).1≠0):z8w B u=(⟨[],[]⟩,1):=by
 have:((z59 u).1==0)=false:=by rw[zt3];simpa using h
 simp[z8w,this]
theorem z66{u:Un}(h:(z17 u).1=0):z8w B u=(z3s B u,0):=by
 have:((z59 u).1==0)=true:=by rw[zt3];simpa using h
 simp[z8w,this]
theorem y68(hw:∀l,z0x (B l)<=z0x l)(u:Un):z0g (z8w B u).1<=z0g u:=by
 unfold z8w;split
 ·exact yr4 B hw u
 ·simp[z0g,wtA,wtF]
end
end
theorem j07{u:Un}{f:Fl}(h:zu5 u f f.body):zu5 u f (wB f.body):=⟨yz1 u f h.1,h.2.sub (y1x _ _ _)⟩
theorem y3j{u:Un}(h:(z17 u).1=0):z17 (z3s wB u)=(0,0):=check_m wB h λ_ _=>j07
mutual
theorem yz6(u:Un)(f:Fl):∀(x:Nd)(deep:Int)(i lp:Bool)(h:Hd)(all:List Int),HdIn f h->z82 u f deep (whOf f i lp h) all x=true->wOkN h x=true
 |.mk kind op n name args outs params ks,deep,i,lp,h,all,hi,hv=>by
  have hb:=z4s u f deep _ all hv;unfold wOkN;have END:∀(to:List Int)(b:Bool),inR f.types.length to->z5r u f (.mk kind op n name args outs params ks) all (whOf f i lp h)=⟨b&&z06 f.types all args (r8of f.types to),none⟩->(kind==10)=false->(kind==11)=false->decide (to.length<=args.length)=true:=λto b hto hf h10 h11=>by
   rw[z1x u f deep _ all hb h10 h11,hf]at hv;simp only[SForm.ok,A0]at hv;have:=y2o hto hv.1.2;simp;omega
  by_cases h12:kind=12
  ·rw[if_pos (by simp[h12])];exact END h.yield i hi.1 (yf0 h12) (by simp[h12]) (by simp[h12])
  rw[if_neg (by simpa using h12)]
  by_cases h13:kind=13
  ·rw[if_pos (by simp[h13])];exact END h.next lp hi.2.1 (yf1 h13) (by simp[h13]) (by simp[h13])
  rw[if_neg (by simpa using h13)]
  by_cases h14:kind=14
  ·rw[if_pos (by simp[h14])];exact END h.left lp hi.2.2 (yf2 h14) (by simp[h14]) (by simp[h14])
  rw[if_neg (by simpa using h14)]
  by_cases h10:kind=10
  ·rw[if_pos (by simp[h10])];obtain⟨a,b,hk⟩:=z3u hb h10;rw[z79 u f deep _ all hb h10 hk,w1_of]at hv;simp only[A0,z42]at hv;have hin:HdIn f ⟨outs,h.next,h.left⟩:=⟨z1b hv.2,hi.2⟩;simp only[Nd.kids]at hk
   match ks,hk with
   |[a',b'],hk =>
    cases hk
    simp only[wOkK,A0,Ck];exact⟨rfl,z94 u f a _ _ _ _ _ hin hv.1.1.1.2.2,z94 u f b _ _ _ _ _ hin hv.1.1.2.2⟩
  rw[if_neg (by simpa using h10)]
  by_cases h11:kind=11
  ·rw[if_pos (by simp[h11])];obtain⟨a,hk⟩:=z2a hb h11;rw[z4t u f deep _ all hb h11 hk,w2_of]at hv;simp only[A0,z42]at hv;have hp:inR f.types.length params:=z1b hv.1.1.1.2;have hin:HdIn f ⟨[],params,outs⟩:=⟨λv hv=>by simp at hv,hp,z1b hv.2⟩;have hl:=y2o hp hv.1.1.1.1;simp only[Nd.kids]at hk
   match ks,hk with
   |[a'],hk =>
    cases hk
    simp only[wOkK,A0,Ck];exact⟨by simp only[Nd.args]at hl;simp;omega,rfl,z94 u f a _ _ _ _ _ hin hv.1.1.2.2⟩
  rw[if_neg (by simpa using h11)];have hh:=y8f u f _ deep _ all hv;rw[hOkN_eq]at hh;simp only[A0]at hh;exact hh.1.1
theorem z94(u:Un)(f:Fl):∀(l:List Nd)(deep:Int)(i lp:Bool)(h:Hd)(all:List Int),HdIn f h->vGo u f deep (whOf f i lp h) all l=true->wOkL h l=true
 |[],_,_,_,_,_,_,_=>rfl
 |x::r,deep,i,lp,h,all,hi,hv=>by
  simp only[vGo,A0]at hv;simp only[wOkL,A0];exact⟨yz6 u f x deep i lp h all hi hv.1.1.2,z94 u f r deep i lp h _ hi hv.2⟩
end
theorem hd0_in(f:Fl):HdIn f hd0:=⟨λv hv=>by simp[hd0]at hv,λv hv=>by simp[hd0]at hv,λv hv=>by simp[hd0]at hv⟩
theorem y31{u:Un}(h:(z59 u).1=0):∀f∈u.flows,wOkL hd0 f.body=true:=by
 rw[zt3]at h;intro f hf;have hb:=(y7k h f hf).1;simp only[z42,A0]at hb;exact z94 u f f.body 1 false false hd0 _ (hd0_in f) hb.2
theorem zl5(s:List Int):∀l to,(z0j s l to).length<=l.length
 |[],_=>by simp[z0j]
 |_::_,[]=>by simp[z0j]
 |a::l,t::to=>by
  have ih:=zl5 s l to;unfold z0j;split<;>simp only[A1]<;>omega
mutual
theorem wt_sNode(s:List Int):∀(x:Nd)(h:Hd),wtL (z68 s h x)<=wtN x
 |.mk kind op n name args outs params ks,h=>by
  have hk:=λh'=>yr5 s ks h';have k1:=λto=>zl5 s args to;have k2:=zl5 s outs outs;have k3:=zl5 s params params;unfold z68
  repeat' split
  ·have:=k1 h.yield;simp only[wtL,wtN];omega
  ·have:=k1 h.next;simp only[wtL,wtN];omega
  ·have:=k1 h.left;simp only[wtL,wtN];omega
  ·have:=hk ⟨outs,h.next,h.left⟩;simp only[wtL,wtN];omega
  ·have:=hk ⟨[],params,outs⟩;have:=k1 params;simp only[wtL,wtN];omega
  ·simp[wtL]
  ·simp[wtL,wtN]
theorem y7g(s:List Int):∀(l:List Nd)(h:Hd),wtL (z1o s h l)<=wtL l
 |[],h=>by simp[z1o]
 |x::r,h=>by
  have h1:=wt_sNode s x h;have h2:=y7g s r h;simp only[z1o,yj8,wtL];omega
theorem yr5(s:List Int):∀(ks:List (List Nd)) (h:Hd),wtK (z5x s h ks)<=wtK ks
 |[],h=>by simp[z5x]
 |l::r,h=>by
  have h1:=y7g s l h;have h2:=yr5 s r h;have h3:=zn6 s h l;simp only[z5x,wtK];omega
end
theorem y44(l:List Nd):z0x (wB l)<=z0x l:=by
 have h1:=y7g (wSet l) l hd0;have h2:=zn6 (wSet l) hd0 l;unfold z0x wB;omega
mutual
def uN(v:Int):Nd->Bool
 |.mk _ _ _ _ args _ _ ks=>args.contains v||uK v ks
def uL(v:Int):List Nd->Bool
 |[]=>false
 |x::r=>uN v x||uL v r
def uK(v:Int):List (List Nd)->Bool
 |[]=>false
 |l::r=>uL v l||uK v r
end
theorem uN_eq(v:Int)(x:Nd):uN v x=(x.args.contains v||uK v x.kids):=by cases x;simp[uN,Nd.args,Nd.kids]
theorem j4k(v:Int):∀a b:List Nd,uL v (a++b)=(uL v a||uL v b)
 |[],b=>by simp[uL]
 |x::r,b=>by simp only[Bb,uL,j4k v r b,Bool.or_assoc]
def y2t(x:Nd):Bool:=decide (x.kind<=3)||(x.kind==4&&x.op != 4&&x.op != 5)
mutual
def wdN(all:List Nd):Nd->Bool
 |.mk kind op n name args outs params ks=>!(y2t (.mk kind op n name args outs params ks)&&((outs.length:Int) != 1 || !uL (outs.getD 0 0) all))&&wdK all ks
def wdL(all:List Nd):List Nd->Bool
 |[]=>true
 |x::r=>wdN all x&&wdL all r
def wdK(all:List Nd):List (List Nd)->Bool
 |[]=>true
 |l::r=>wdL all l&&wdK all r
end
theorem wdN_eq(all:List Nd)(x:Nd):wdN all x=(!(y2t x&&((x.outs.length:Int) != 1 || !uL (x.outs.getD 0 0) all))&&wdK all x.kids):=by cases x;simp only[wdN,Nd.kids,Nd.outs]
theorem j5c(all:List Nd):∀a b:List Nd,wdL all (a++b)=(wdL all a&&wdL all b)
 |[],b=>by simp[wdL]
 |x::r,b=>by simp only[Bb,wdL,j5c all r b,Ew]
def y58(u:Un):Bool:=u.flows.all λf=>wdL f.body f.body
theorem zp4{U:Int->Prop}:∀{l s:List Int},(∀v∈s,U v)->(∀v∈l,U v)->∀v∈wAdd s l,U v
 |[],_,h,_=>h
 |a::r,s,h,hl=>by
  unfold wAdd;split
  ·exact zp4 h λv hv=>hl v (.tail _ hv)
  ·refine zp4 (λv hv=>?_) λv hv=>hl v (.tail _ hv);rcases B4.1 hv with hv|hv
   ·exact h v hv
   ·obtain rfl:=Ak.1 hv;exact hl _ (.head _)
theorem z6a{U:Int->Prop}{S:List Int}:∀{l to s:List Int},(∀v∈s,U v)->(∀v∈z0j S l to,U v)->(∀v∈z14 s l to,v∈S)->∀v∈z14 s l to,U v
 |[],_,s,h,_,_=>by simpa[z14]using h
 |_::_,[],s,h,_,_=>by simpa[z14]using h
 |a::l,t::to,s,h,hk,hS=>by
  unfold z14 at hS⊢;unfold z0j at hk;split at hS
  ·rename_i hc;rw[if_pos hc];have ht:S.contains t=true:=List.contains_iff_mem.2 (hS t ((z2v l to _).sub t ((z4u [a] s).sub t (List.contains_iff_mem.1 hc))));rw[if_pos ht]at hk;exact z6a (zp4 h λv hv=>by obtain rfl:=Ak.1 hv;exact hk _ (.head _)) (λv hv=>hk v (.tail _ hv)) hS
  ·rename_i hc;rw[if_neg hc];exact z6a h (λv hv=>hk v (by split<;>simp[hv])) hS
theorem zu2{v:Int}{kind op n:Int}{name:ByteArray}{args outs params:List Int}{ks:List (List Nd)}(h:v∈args):uL v [.mk kind op n name args outs params ks]=true:=by
 simp[uL,uN,h]
theorem j4l{v:Int}{kind op n:Int}{name:ByteArray}{args outs params:List Int}{ks:List (List Nd)}(h:uK v ks=true):uL v [.mk kind op n name args outs params ks]=true:=by
 simp[uL,uN,h]
mutual
theorem j56{U:Int->Prop}{S:List Int}:∀(x:Nd)(h:Hd)(s:List Int),(∀v∈s,U v)->(∀v,uL v (z68 S h x)=true->U v)->(∀v∈zd6 h s x,v∈S)->∀v∈zd6 h s x,U v
 |.mk kind op n name args outs params ks,h,s,hs,hu,hS=>by
  unfold z68 at hu;unfold zd6 at hS⊢;split at hS
  ·rename_i e;rw[if_pos e]at hu⊢;exact z6a hs (λv hv=>hu v (zu2 hv)) hS
  rename_i e12;rw[if_neg e12]at hu⊢;split at hS
  ·rename_i e;rw[if_pos e]at hu⊢;exact z6a hs (λv hv=>hu v (zu2 hv)) hS
  rename_i e13;rw[if_neg e13]at hu⊢;split at hS
  ·rename_i e;rw[if_pos e]at hu⊢;exact z6a hs (λv hv=>hu v (zu2 hv)) hS
  rename_i e14;rw[if_neg e14]at hu⊢;split at hS
  ·rename_i e;rw[if_pos e]at hu⊢;exact y2v ks _ _ (zp4 hs λv hv=>hu v (zu2 hv)) (λv hv=>hu v (j4l hv)) hS
  rename_i e10;rw[if_neg e10]at hu⊢;split at hS
  ·rename_i e;rw[if_pos e]at hu⊢;exact y2v ks _ _ (z6a hs (λv hv=>hu v (zu2 hv)) λv hv=>hS v ((z5v ks _ _).sub v hv)) (λv hv=>hu v (j4l hv)) hS
  rename_i e11;rw[if_neg e11]at hu⊢;split at hS
  ·rename_i e;rw[if_pos e];have hn:¬(z16 (.mk kind op n name args outs params ks) && !S.contains (outs.headD 0))=true:=by
    intro hh;simp only[A0,Bc]at hh;rw[hh.1,F5,Bv]at e;have:=hS _ ((z4u args s).sub _ (List.contains_iff_mem.1 e));rw[List.contains_iff_mem.2 this]at hh
    cases hh.2
   rw[if_neg hn]at hu;exact zp4 hs λv hv=>hu v (zu2 hv)
  ·rename_i e;rw[if_neg e];exact hs
theorem y2w{U:Int->Prop}{S:List Int}:∀(l:List Nd)(h:Hd)(s:List Int),(∀v∈s,U v)->(∀v,uL v (z1o S h l)=true->U v)->(∀v∈z4k h s l,v∈S)->∀v∈z4k h s l,U v
 |[],h,s,hs,_,_=>by unfold z4k;exact hs
 |x::r,h,s,hs,hu,hS=>by
  unfold z4k at hS⊢;unfold z1o at hu;exact y2w r h _ (j56 x h s hs (λv hv=>hu v (by rw[j4k,hv,B7])) λv hv=>hS v ((z3h r h _).sub v hv)) (λv hv=>hu v (by rw[j4k,hv,Bh])) hS
theorem y2v{U:Int->Prop}{S:List Int}:∀(ks:List (List Nd)) (h:Hd) (s:List Int),(∀v∈s,U v)->(∀v,uK v (z5x S h ks)=true->U v)->(∀v∈z9v h s ks,v∈S)->∀v∈z9v h s ks,U v
 |[],h,s,hs,_,_=>by unfold z9v;exact hs
 |l::r,h,s,hs,hu,hS=>by
  unfold z9v at hS⊢;unfold z5x at hu;exact y2v r h _ (y2w l h s hs (λv hv=>hu v (by simp[uK,hv])) λv hv=>hS v ((z5v r h _).sub v hv)) (λv hv=>hu v (by simp[uK,hv])) hS
end
theorem ya5(l:List Nd)(n:Nat):∀k,Pre (z5u l n) (z5u l (n+k))
 |0=>.refl _
 |k+1=>(ya5 l n k).trans (zp8 l _)
theorem j58(l:List Nd):∀v∈wSet l,uL v (wB l)=true:=by
 have key:∀n,n<=(agL l).length->∀v∈z5u l n,uL v (wB l)=true:=by
  intro n
  induction n with
  |zero=>intro _ v hv;simp[z5u]at hv
  |succ n ih =>
   intro hn;refine y2w (S:=wSet l) l hd0 _ (ih oM0) (λv hv=>hv) λv hv=>?_;have:=ya5 l (n+1) ((agL l).length-(n+1));rw[show n+1+((agL l).length-(n+1))=(agL l).length by omega]at this;exact this.sub v hv
 exact key _ (Ae _)
theorem idle_hm{u:Un}{f:Fl}{x:Nd}{s:List Int}{w:Wh}{outs:List Int}(h:(z5r u f x s w).ok f.types outs=true)(hi:y2t x=true):z16 x=true:=by
 cases hm:z16 x with
 |true=>rfl
 |false =>
  exfalso;simp only[y2t,Br,A0,Bj,Au]at hi;have h1:x.kind≠1:=λe=>by simp[z16,e]at hm
  have h2:x.kind≠2:=λe=>by simp[z16,e]at hm
  have h3:x.kind≠3:=λe=>by simp[z16,e]at hm
  have h4:x.kind<=0:=by
   rcases hi with hi|⟨⟨h4,h5⟩,h6⟩
   ·rcases Int.lt_or_le 0 x.kind with h|h
    ·exact absurd hi oM0
    ·exact h
   ·simp[z16,h4,h5,h6]at hm
  have hf:z5r u f x s w=⟨false,none⟩:=by
   unfold z5r
   repeat (rw[if_neg (by simp;omega)])
  rw[hf]at h;simp[SForm.ok]at h
mutual
theorem wd_node(u:Un)(f:Fl){A:List Nd}{s:List Int}(hA:∀v∈s,uL v A=true):∀(x:Nd)(deep:Int)(w:Wh)(all:List Int)(h:Hd),z82 u f deep w all x=true->wdL A (z68 s h x)=true
 |.mk kind op n name args outs params ks,deep,w,all,h,hv=>by
  have hb:=z4s u f deep _ all hv;have NI:∀a b c d,kind > 4->y2t (.mk kind op n name a b c d)=false:=λa b c d hk=>by
   show(decide (kind<=3)||(kind==4&&op != 4&&op != 5))=false;have h1:decide (kind<=3)=false:=by simp;omega
   have h2:(kind==4)=false:=by simp;omega
   rw[h1,h2];rfl
  have KS:(kind==10)=false->(kind==11)=false->ks=[]:=λh1 h2=>zq3 hb h1 h2;have K0:∀a b c d,kind > 4->wdK A d=true->wdL A [.mk kind op n name a b c d]=true:=λa b c d hk hd=>by
   simp only[wdL,wdN,NI a b c d hk,hd,Cn,E4,Ck]
  unfold z68
  by_cases h12:kind=12
  ·rw[if_pos (by simp[h12])];exact K0 _ _ _ _ oM0 (by rw[KS (by simp[h12]) (by simp[h12])];rfl)
  rw[if_neg (by simpa using h12)]
  by_cases h13:kind=13
  ·rw[if_pos (by simp[h13])];exact K0 _ _ _ _ oM0 (by rw[KS (by simp[h13]) (by simp[h13])];rfl)
  rw[if_neg (by simpa using h13)]
  by_cases h14:kind=14
  ·rw[if_pos (by simp[h14])];exact K0 _ _ _ _ oM0 (by rw[KS (by simp[h14]) (by simp[h14])];rfl)
  rw[if_neg (by simpa using h14)]
  by_cases h10:kind=10
  ·rw[if_pos (by simp[h10])];obtain⟨a,b,hk⟩:=z3u hb h10;rw[z79 u f deep _ all hb h10 hk]at hv;simp only[A0,z42]at hv;simp only[Nd.kids]at hk
   match ks,hk with
   |[a',b'],hk =>
    cases hk
    refine K0 _ _ _ _ oM0 ?_;simp only[z5x,wdK,A0,Ck];exact⟨y30 u f hA a _ _ _ _ hv.1.1.1.2.2,y30 u f hA b _ _ _ _ hv.1.1.2.2⟩
  rw[if_neg (by simpa using h10)]
  by_cases h11:kind=11
  ·rw[if_pos (by simp[h11])];obtain⟨a,hk⟩:=z2a hb h11;rw[z4t u f deep _ all hb h11 hk]at hv;simp only[A0,z42]at hv;simp only[Nd.kids]at hk
   match ks,hk with
   |[a'],hk =>
    cases hk
    refine K0 _ _ _ _ oM0 ?_;simp only[z5x,wdK,Ck];exact y30 u f hA a _ _ _ _ hv.1.1.2.2
  rw[if_neg (by simpa using h11)];have e10:(kind==10)=false:=by simpa using h10
  have e11:(kind==11)=false:=by simpa using h11
  have hk0:=KS e10 e11;rw[z1x u f deep _ all hb e10 e11]at hv;split
  ·rfl
  ·rename_i hn;subst hk0;simp only[wdL,wdN,wdK,Ck,Bc]
   cases hi:y2t (.mk kind op n name args outs params [])with
   |false=>rfl
   |true =>
    have hm:=idle_hm hv hi;obtain⟨_,hol⟩:=zj6 (s':=all) (w':=w) hm (λ_ _ h=>h) hv;simp only[Nd.outs]at hol;have hc:s.contains (outs.headD 0)=true:=by
     cases hc:s.contains (outs.headD 0)with
     |true=>rfl
     |false=>exact absurd (by rw[hm,hc];rfl) hn
    have hu:=hA _ (List.contains_iff_mem.1 hc);have he:outs.getD 0 0=outs.headD 0:=by cases outs<;>rfl
    rw[he,hu,hol];rfl
theorem y30(u:Un)(f:Fl){A:List Nd}{s:List Int}(hA:∀v∈s,uL v A=true):∀(l:List Nd)(deep:Int)(w:Wh)(all:List Int)(h:Hd),vGo u f deep w all l=true->wdL A (z1o s h l)=true
 |[],_,_,_,_,_=>by simp[z1o,wdL]
 |x::r,deep,w,all,h,hv=>by
  simp only[vGo,A0]at hv;rw[z1o,j5c,wd_node u f hA x _ _ _ h hv.1.1.2,y30 u f hA r _ _ _ h hv.2];rfl
end
theorem y4i(u:Un):y58 (z8w wB u).1=true:=by
 by_cases h:(z17 u).1=0
 ·rw[z66 wB h];unfold y58;rw[Be];intro g hg;obtain⟨f,hf,rfl⟩:=Cb.1 (show g∈u.flows.map (z5c wB)from hg);have hb:=(y7k h f hf).1;simp only[z42,A0]at hb;exact y30 u f (j58 f.body) f.body 1 _ _ hd0 hb.2
 ·rw[y49 wB h];rfl
def w64(n:Int):Int:=IntKind.i64.wrap n
def andI(a b:Int):Int:=IntKind.i64.wrap (BitVec.ofInt IntKind.i64.bits a &&& BitVec.ofInt IntKind.i64.bits b).toNat
def orI(a b:Int):Int:=IntKind.i64.wrap (BitVec.ofInt IntKind.i64.bits a ||| BitVec.ofInt IntKind.i64.bits b).toNat
def xorI(a b:Int):Int:=IntKind.i64.wrap (BitVec.ofInt IntKind.i64.bits a ^^^ BitVec.ofInt IntKind.i64.bits b).toNat
def y8a(b:Bool):Int:=if b then 1 else 0
def mOne(op a:Int):Int :=
 if op==20 then w64 (0-a)else if op==21 then w64 (-1-a)else if op==22 then y8a (a==0)
 else if op==26 then andI a 255 else if op==27 then andI a 65535 else if op==28 then andI a 4294967295
 else if op==23 then w64 (xorI (andI a 255) 128-128)else if op==24 then w64 (xorI (andI a 65535) 32768-32768)
 else if op==25 then w64 (xorI (andI a 4294967295) 2147483648-2147483648)else 0
def mTwo(op a b:Int):Int×Bool :=
 if op==1 then(w64 (a+b),true)else if op==2 then(w64 (a-b),true)else if op==3 then(w64 (a*b),true)
 else if op==4||op==5 then(if b==0 then(0,false)else if op==4 then(w64 (a.tdiv b),true)else(a.tmod b,true))
 else if op==6 then(andI a b,true)else if op==7 then(orI a b,true)else if op==8 then(xorI a b,true)
 else if op==9 then(w64 (a*2 ^ min (andI b 63).toNat IntKind.i64.bits),true)else if op==10 then(a.fdiv (2 ^ min (andI b 63).toNat IntKind.i64.bits),true)
 else if op==11 then(w64 ((IntKind.u64.wrap a).fdiv (2 ^ min (andI b 63).toNat IntKind.u64.bits)),true)
 else if op==12 then(y8a (decide (a<b)),true)else if op==13 then(y8a (decide (a<=b)),true)else if op==14 then(y8a (decide (a > b)),true)
 else if op==15 then(y8a (decide (a≥b)),true)else if op==16 then(y8a (a==b),true)else if op==17 then(y8a (a != b),true)else(0,false)
theorem and63(b:Int):0<=andI b 63:=by
 unfold andI;have h:(BitVec.ofInt IntKind.i64.bits b &&& BitVec.ofInt IntKind.i64.bits 63).toNat<=63:=by
  rw[BitVec.toNat_and];have:(BitVec.ofInt IntKind.i64.bits 63).toNat=63:=by decide
  rw[this];exact Nat.and_le_right
 rw[Cw _ oM0];omega
structure Rs where
 ins:List Int
 ar:List (List Int)
 st:Int
 code:Int
 out:List Int
 cost:Int
 fuel:Int
 spent:Bool
def z11(s:Rs):Bool:=s.spent||s.st != 0
def z9d(s:Rs):Bool×Rs:=if z11 s then(false,s)else if s.fuel<1 then(false,{ s with spent:=true })else(true,{ s with fuel:=w64 (s.fuel-1) })
def getV(v:List Int)(i:Int):Option Int:=if 0<=i then v[i.toNat]? else none
def setV(v:List Int)(i x:Int):Option (List Int):=if 0<=i/\i.toNat<v.length then some (v.set i.toNat x)else none
def mOf(v:List Int):List Int->Option (List Int)
 |[]=>some []
 |i::r=>(getV v i).bind λx=>(mOf v r).map λy=>x::y
def mSet(v:List Int):List Int->List Int->Option (List Int)
 |[],_=>some v
 |_::_,[]=>none
 |i::r,x::n=>(setV v i x).bind λv'=>mSet v' r n
def zb7(s:Rs)(k n:Int):Option (Bool×Rs) :=
 if n<0 then some (false,{ s with st:=3 })
 else if 0<=k then(s.ar[k.toNat]?).bind λrow=>if n≥row.length then some (false,{ s with st:=3 })else some (true,s)else none
abbrev Rend:=Int×List Int
abbrev Rres:=Rend×List Int×Rs
def z5k(rec:List Nd->List Int->Rs->Option Rres)(recLoop:Nd->List Int->List Int->Rs->Option Rres)(recSum:Nd->List Int->Rs->Option (Int×Rs))(x:Nd)(a v:List Int)(s:Rs):Option Rres :=
 if x.kind==1||x.kind==2 then(x.outs[0]?).bind λo=>(setV v o x.n).map λv'=>((0,[]),v',s)
 else if x.kind==12||x.kind==13||x.kind==14||x.kind==15 then some ((x.kind,a),v,s)
 else if x.kind==10 then(a[0]?).bind λa0=>(x.kids[if a0 != 0 then 0 else 1]?).bind λq=>(rec q v s).bind λr =>
  if !z11 r.2.2&&r.1.1==12 then(mSet r.2.1 x.outs r.1.2).map λv'=>((0,[]),v',r.2.2)else some r
 else if x.kind==11 then recLoop x v a s
 else(recSum x a s).bind λr=>if !z11 r.2&&decide (0<x.outs.length)then(x.outs[0]?).bind λo=>(setV v o r.1).map λv'=>((0,[]),v',r.2)else some ((0,[]),v,r.2)
mutual
def z1v(u:Un):Nat->List Nd->List Int->Rs->Option Rres
 |0,_,_,_=>none
 |_+1,[],v,s=>some ((0,[]),v,s)
 |d+1,x::l,v,s =>
  match z9d s with
  |(false,s)=>some ((0,[]),v,s)
  |(true,s)=>(mOf v x.args).bind λa=>(z5k (z1v u d) (z3j u d) (mSum u d) x a v s).bind λr =>
   if z11 r.2.2||r.1.1 != 0 then some r else z1v u d l r.2.1 r.2.2
def z3j(u:Un):Nat->Nd->List Int->List Int->Rs->Option Rres
 |0,_,_,_,_=>none
 |d+1,x,v,a,s=>(mSet v x.params a).bind λv=>(x.kids[0]?).bind λq=>(z1v u d q v s).bind λr =>
  if z11 r.2.2||r.1.1==15 then some r
  else if r.1.1==14 then(mSet r.2.1 x.outs r.1.2).map λv=>((0,[]),v,r.2.2)
  else z3j u d x r.2.1 r.1.2 r.2.2
def mSum(u:Un):Nat->Nd->List Int->Rs->Option (Int×Rs)
 |0,_,_,_=>none
 |d+1,x,a,s0 =>
  let s:={ s0 with cost:=w64 (s0.cost+1) }
  let k:=z0h x.name u.arrays 0
  if x.kind==3 then(a[0]?).map λa0=>(mOne x.op a0,s)
  else if x.kind==4 then(a[0]?).bind λa0=>(a[1]?).map λa1=>((mTwo x.op a0 a1).1,if (mTwo x.op a0 a1).2 then s else { s with st:=2 })
  else if x.kind==5 then(a[0]?).bind λa0=>(zb7 s k a0).bind λr=>if r.1 then(s.ar[k.toNat]?).bind λrow=>(row[a0.toNat]?).map λy=>(y,s)else some (0,r.2)
  else if x.kind==6 then(a[0]?).bind λa0=>(zb7 s k a0).bind λr=>if r.1 then(a[1]?).bind λa1=>(s.ar[k.toNat]?).map λrow=>(0,{ s with ar:=s.ar.set k.toNat (row.set a0.toNat a1) })else some (0,r.2)
  else if x.kind==7 then z3z u d (z05 x.name u.flows 0) a s
  else if x.kind==9 then(a[0]?).bind λa0=>if s.out.length<1073741824 then some (0,{ s with out:=s.out++[a0] })else none
  else if x.kind==8 then(match s.ins with|[]=>some (0,{ s with st:=4 })|y::r=>some (y,{ s with ins:=r }))
  else some (0,s)
def z3z(u:Un):Nat->Int->List Int->Rs->Option (Int×Rs)
 |0,_,_,_=>none
 |d+1,k,a,s=>if 0<=k then(u.flows[k.toNat]?).bind λf=>if a.length<=f.types.length/\f.types.length<=1073741824 then
  (z1v u d f.body (a++List.replicate (f.types.length-a.length) 0) s).bind λr=>if z11 r.2.2 then some (0,r.2.2)else some (r.1.2.headD 0,r.2.2)else none else none
end
theorem tZ210:((Tryz.prog.info? 210).bind (·.zero))=some (.agg #[]):=by kernel_rfl
theorem ent120:z6g Tryz.prog 120:=⟨Tryz.f120,Tryz.func120,by kernel_rfl,by kernel_rfl⟩
theorem ent121:z6g Tryz.prog 121:=⟨Tryz.f121,Tryz.func121,by kernel_rfl,by kernel_rfl⟩
theorem ent122:z6g Tryz.prog 122:=⟨Tryz.f122,Tryz.func122,by kernel_rfl,by kernel_rfl⟩
theorem ent170:z6g Tryz.prog 170:=⟨Tryz.f170,Tryz.func170,by kernel_rfl,by kernel_rfl⟩
def rowI(l:List Int):HO:=.row ⟨3,1⟩ (l.map eInt)
def endv(e:Rend):PV:=.agg [vInt e.1,ints e.2]
theorem j3s{v v':List Int}{x y:Int}(h:setV v x y=some v'):0<=x/\x.toNat<(v.map eInt).length/\v'=v.set x.toNat y:=by
 unfold setV at h;split at h
 ·rename_i hx;exact⟨hx.1,by simpa using hx.2,by cases h;rfl⟩
 ·cases h
theorem y0y{v v':List Int}{x:Int}{r n:List Int}(h:mSet v (x::r) n=some v'):∃y n' v1,n=y::n'/\setV v x y=some v1/\mSet v1 r n'=some v':=by
 cases n with
 |nil=>cases h
 |cons y n' =>
  simp only[mSet,Am]at h;obtain⟨v1,h1,h2⟩:=h;exact⟨y,n',v1,rfl,h1,h2⟩
section
def z5w(s:Rs):Rs:={ s with cost:=w64 (s.cost+1) }
theorem zz8{v v':List Int}{x y:Int}(h:setV v x y=some v'):v'.length=v.length:=by
 rw[(j3s h).2.2,Du]
theorem z3q:∀{l n v v':List Int},mSet v l n=some v'->v'.length=v.length
 |[],_,_,_,h=>by cases h;rfl
 |_::_,_,_,_,h=>by
  obtain⟨y,n',v1,rfl,h1,h2⟩:=y0y h;rw[z3q h2,zz8 h1]
theorem y8b{rec:List Nd->List Int->Rs->Option Rres}{recLoop:Nd->List Int->List Int->Rs->Option Rres}{recSum:Nd->List Int->Rs->Option (Int×Rs)}{x:Nd}{a v:List Int}{s:Rs}{r:Rres}
 (hr:∀q v s r,rec q v s=some r->r.2.1.length=v.length) (hl:∀x v a s r,recLoop x v a s=some r->r.2.1.length=v.length) (h:z5k rec recLoop recSum x a v s=some r):r.2.1.length=v.length:=by
 unfold z5k at h;split at h
 ·simp only[Am,A5]at h;obtain⟨o,_,v',h1,rfl⟩:=h;exact zz8 h1
 split at h
 ·cases h;rfl
 split at h
 ·simp only[Am]at h;obtain⟨a0,_,q,_,r1,h1,h2⟩:=h;have h3:=hr _ _ _ _ h1;split at h2
  ·simp only[A5]at h2;obtain⟨v',h4,rfl⟩:=h2;exact(z3q h4).trans h3
  ·cases h2;exact h3
 split at h
 ·exact hl _ _ _ _ _ h
 ·simp only[Am]at h;obtain⟨r1,h1,h2⟩:=h;split at h2
  ·simp only[Am,A5]at h2;obtain⟨o,_,v',h4,rfl⟩:=h2;exact zz8 h4
  ·cases h2;rfl
theorem zi1(u:Un):∀d,(∀l v s r,z1v u d l v s=some r->r.2.1.length=v.length)/\∀x v a s r,z3j u d x v a s=some r->r.2.1.length=v.length
 |0=>⟨λ_ _ _ _ h=>by simp[z1v]at h,λ_ _ _ _ _ h=>by simp[z3j]at h⟩
 |d+1=>by
  obtain⟨i1,i2⟩:=zi1 u d;refine⟨λl v s r h=>?_,λx v a s r h=>?_⟩
  ·cases l with
   |nil=>simp only[z1v]at h;cases h;rfl
   |cons x l =>
    rw[z1v]at h;split at h
    ·cases h;rfl
    ·simp only[Am]at h;obtain⟨a,_,r1,h1,h2⟩:=h;have h3:=y8b i1 i2 h1;split at h2
     ·cases h2;exact h3
     ·exact(i1 _ _ _ _ h2).trans h3
  ·rw[z3j]at h;simp only[Am]at h;obtain⟨v1,hv1,q,_,r1,h1,h2⟩:=h;have h3:=(i1 _ _ _ _ h1).trans (z3q hv1);split at h2
   ·cases h2;exact h3
   split at h2
   ·simp only[A5]at h2;obtain⟨v',h4,rfl⟩:=h2;exact(z3q h4).trans h3
   ·exact(i2 _ _ _ _ _ h2).trans h3
theorem z6k{u:Un}{d:Nat}{l:List Nd}{v:List Int}{s:Rs}{r:Rres}(h:z1v u d l v s=some r):r.2.1.length=v.length:=(zi1 u d).1 _ _ _ _ h
theorem z4m{u:Un}{d:Nat}{x:Nd}{v a:List Int}{s:Rs}{r:Rres}(h:z3j u d x v a s=some r):∃d1 v2 q r1,d=d1+1/\mSet v x.params a=some v2/\x.kids[0]?=some q/\z1v u d1 q v2 s=some r1 /\
 (if z11 r1.2.2||r1.1.1==15 then some r1 else if r1.1.1==14 then(mSet r1.2.1 x.outs r1.1.2).map λv=>((0,[]),v,r1.2.2)else z3j u d1 x r1.2.1 r1.1.2 r1.2.2)=some r:=by
 cases d with
 |zero=>simp[z3j]at h
 |succ d =>
  rw[z3j]at h;simp only[Am]at h;obtain⟨v2,h1,q,h2,r1,h3,h4⟩:=h;exact⟨d,v2,q,r1,rfl,h1,h2,h3,h4⟩
theorem z7c{u:Un}{d:Nat}{x:Nd}{l:List Nd}{v:List Int}{s s2:Rs}{r:Rres}(hs2:(z9d s).2=s2)(h:z1v u d (x::l) v s=some r):∃d1,d=d1+1/\(((z9d s).1=false/\r=((0,[]),v,s2)) ∨
 ((z9d s).1=true/\∃a r1,mOf v x.args=some a/\z5k (z1v u d1) (z3j u d1) (mSum u d1) x a v s2=some r1/\(if z11 r1.2.2||r1.1.1 != 0 then some r1 else z1v u d1 l r1.2.1 r1.2.2)=some r)):=by
 cases d with
 |zero=>simp[z1v]at h
 |succ d =>
  refine⟨d,rfl,?_⟩;subst hs2;rw[z1v]at h;split at h
  ·rename_i s' e;cases h;exact .inl ⟨by rw[e],by rw[e]⟩
  ·rename_i s' e;simp only[Am]at h;obtain⟨a,h1,r1,h2,h3⟩:=h;exact .inr ⟨by rw[e],a,r1,h1,by rw[e];exact h2,h3⟩
section
variable {rec:List Nd->List Int->Rs->Option Rres} {recLoop:Nd->List Int->List Int->Rs->Option Rres} {recSum:Nd->List Int->Rs->Option (Int×Rs)} {x:Nd} {a v:List Int} {s:Rs} {r:Rres}
theorem z6l(h:z5k rec recLoop recSum x a v s=some r)(hk:(x.kind==1||x.kind==2)=true):∃o v2,x.outs[0]?=some o/\setV v o x.n=some v2/\r=((0,[]),v2,s):=by
 unfold z5k at h;rw[if_pos hk]at h;simp only[Am,A5]at h;obtain⟨o,h1,v2,h2,rfl⟩:=h;exact⟨o,v2,h1,h2,rfl⟩
theorem z3d(h:z5k rec recLoop recSum x a v s=some r)(hk:(x.kind==12||x.kind==13||x.kind==14||x.kind==15)=true):r=((x.kind,a),v,s):=by
 unfold z5k at h;rw[if_neg (by simp only[Br,Au]at hk⊢;omega),if_pos hk]at h
 cases h;rfl
theorem ze2(h:z5k rec recLoop recSum x a v s=some r)(hk:(x.kind==10)=true):∃a0 q r1,a[0]?=some a0/\x.kids[if a0 != 0 then 0 else 1]?=some q/\rec q v s=some r1 /\
 (if !z11 r1.2.2&&r1.1.1==12 then(mSet r1.2.1 x.outs r1.1.2).map λv'=>((0,[]),v',r1.2.2)else some r1)=some r:=by
 unfold z5k at h;rw[if_neg (by simp only[Br,Au]at hk⊢;omega),if_neg (by simp only[Br,Au]at hk⊢;omega),if_pos hk]at h;simp only[Am]at h;obtain⟨a0,h1,q,h2,r1,h3,h4⟩:=h;exact⟨a0,q,r1,h1,h2,h3,h4⟩
theorem z61(h:z5k rec recLoop recSum x a v s=some r)(hk:(x.kind==11)=true):recLoop x v a s=some r:=by
 unfold z5k at h;rw[if_neg (by simp only[Br,Au]at hk⊢;omega),if_neg (by simp only[Br,Au]at hk⊢;omega),if_neg (by simp only[Au]at hk⊢;omega),if_pos hk]at h;exact h
theorem z7j(h:z5k rec recLoop recSum x a v s=some r)(h1:(x.kind==1||x.kind==2)=false)(h2:(x.kind==12||x.kind==13||x.kind==14||x.kind==15)=false)(h3:(x.kind==10)=false)(h4:(x.kind==11)=false):∃r1,recSum x a s=some r1 /\
 (if !z11 r1.2&&decide (0<x.outs.length)then(x.outs[0]?).bind λo=>(setV v o r1.1).map λv'=>((0,[]),v',r1.2)else some ((0,[]),v,r1.2))=some r:=by
 unfold z5k at h;rw[h1,h2,h3,h4]at h;simp only[Ap,By,Am]at h;exact h
end
theorem z60{u:Un}{d:Nat}{k:Int}{a:List Int}{s:Rs}{r:Int×Rs}(h:z3z u d k a s=some r):∃d1 f r1,d=d1+1/\0<=k/\u.flows[k.toNat]?=some f/\a.length<=f.types.length/\f.types.length<=1073741824 /\
 z1v u d1 f.body (a++List.replicate (f.types.length-a.length) 0) s=some r1/\r=(if z11 r1.2.2 then 0 else r1.1.2.headD 0,r1.2.2):=by
 cases d with
 |zero=>simp[z3z]at h
 |succ d =>
  rw[z3z]at h;split at h
  ·rename_i hk;simp only[Am]at h;obtain⟨f,hf,h⟩:=h;split at h
   ·rename_i hl;simp only[Am]at h;obtain⟨r1,h1,h2⟩:=h;refine⟨d,f,r1,rfl,hk,hf,hl.1,hl.2,h1,?_⟩;split at h2<;>cases h2<;>simp_all
   ·cases h
  ·cases h
variable {u:Un} {d:Nat} {x:Nd} {a:List Int} {s:Rs} {r:Int×Rs}
theorem z86(h:mSum u d x a s=some r):∃d',d=d'+1:=by
 cases d with
 |zero=>simp[mSum]at h
 |succ d=>exact⟨d,rfl⟩
theorem ze3(h:mSum u (d+1) x a s=some r)(hk:(x.kind==3)=true):∃a0,a[0]?=some a0/\r=(mOne x.op a0,z5w s):=by
 simp only[mSum,hk,C8,A5]at h;obtain⟨a0,h1,rfl⟩:=h;exact⟨a0,h1,rfl⟩
theorem ze4(h:mSum u (d+1) x a s=some r)(hk:(x.kind==4)=true):∃a0 a1,a[0]?=some a0/\a[1]?=some a1/\r=((mTwo x.op a0 a1).1,if (mTwo x.op a0 a1).2 then z5w s else { z5w s with st:=2 }):=by
 have h3:(x.kind==3)=false:=by have:=eq_of_beq hk;rw[this];rfl
 simp only[mSum,h3,hk,C8,Ap,By,A5,Am]at h;obtain⟨a0,h1,a1,h2,rfl⟩:=h;exact⟨a0,a1,h1,h2,rfl⟩
theorem zb9(h:mSum u (d+1) x a s=some r)(hk:(x.kind==7)=true):z3z u d (z05 x.name u.flows 0) a (z5w s)=some r:=by
 have e:=eq_of_beq hk;simp only[mSum,e]at h;exact h
theorem z8q(h:mSum u (d+1) x a s=some r)(hk:(x.kind==9)=true):∃a0,a[0]?=some a0/\s.out.length<1073741824/\r=(0,{ z5w s with out:=s.out++[a0] }):=by
 have e:=eq_of_beq hk;simp only[mSum,e]at h;simp only[show((9:Int)==3)=false from rfl,show((9:Int)==4)=false from rfl,show((9:Int)==5)=false from rfl,show((9:Int)==6)=false from rfl,show((9:Int)==7)=false from rfl,show((9:Int)==9)=true from rfl,C8,Ap,By,Am]at h;obtain⟨a0,h1,h2⟩:=h;split at h2
 ·rename_i h3;cases h2;exact⟨a0,h1,h3,rfl⟩
 ·cases h2
theorem zc1(h:mSum u (d+1) x a s=some r)(hk:(x.kind==8)=true):(s.ins=[]/\r=(0,{ z5w s with st:=4 }))∨∃y q,s.ins=y::q/\r=(y,{ z5w s with ins:=q }):=by
 have e:=eq_of_beq hk;simp only[mSum,e]at h;simp only[show((8:Int)==3)=false from rfl,show((8:Int)==4)=false from rfl,show((8:Int)==5)=false from rfl,show((8:Int)==6)=false from rfl,show((8:Int)==7)=false from rfl,show((8:Int)==9)=false from rfl,show((8:Int)==8)=true from rfl,C8,Ap,By]at h;split at h
 ·rename_i h1;cases h;exact .inl ⟨h1,rfl⟩
 ·rename_i y q h1;cases h;exact .inr ⟨y,q,h1,rfl⟩
theorem zc0(h:mSum u (d+1) x a s=some r)(h3:(x.kind==3)=false)(h4:(x.kind==4)=false)(h5:(x.kind==5)=false)(h6:(x.kind==6)=false)(h7:(x.kind==7)=false)(h9:(x.kind==9)=false)(h8:(x.kind==8)=false):r=(0,z5w s):=by
 simp only[mSum,h3,h4,h5,h6,h7,h8,h9,Ap,By]at h
 cases h;rfl
end
def arI:List (List Int)->IV
 |[]=>.pv (.val (.slice none 0 0))
 |[_]=>.bs 1003 1
 |_::_::_=>.bs 1013 2
def arH:List (List Int)->List (Nat×HO)
 |[]=>[]
 |[r]=>[(1003,.box [.sl 1004 (r.map eInt).length]),(1004,rowI r)]
 |r::r2::_=>[(1013,.box [.sl 1004 (r.map eInt).length,.sl 1014 (r2.map eInt).length]),(1004,rowI r),(1014,rowI r2)]
def rBox(u:Un)(s:Rs):HO:=.box [.pv (arrs u.arrays),.pv (flws u.flows),.pv (ints s.ins),arI s.ar,iInt s.st,iInt s.code,.sl 1002 (s.out.map eInt).length,iInt s.cost,iInt s.fuel,iBool s.spent]
def rH(u:Un)(s:Rs):List (Nat×HO):=(1001,rBox u s)::(1002,rowI s.out)::arH s.ar
def rHV(u:Un)(s:Rs)(v:List Int):List (Nat×HO):=(1001,rBox u s)::(1002,rowI s.out)::(510,rowI v)::arH s.ar
theorem z3w:PSub (.agg [vInt 0,.val (.slice none 0 0)]) (endv (0,[])):=PSub.agg (ps:=[vInt 0,.val (.slice none 0 0)]) (qs:=[vInt 0,.seq []]) (And.intro (PSub.refl _) (And.intro PSub.nil trivial))
theorem z8n{v v':List Int}{o x:Int}(h:setV v o x=some v'):0<=o/\o.toNat<v.length/\v'=v.set o.toNat x:=by
 unfold setV at h;split at h
 ·rename_i h1;cases h;exact⟨h1.1,h1.2,rfl⟩
 ·cases h
theorem y41{u:Un}{d:Nat}{v:List Int}{s:Rs}{r:Rres}(h:z1v u d [] v s=some r):r=((0,[]),v,s):=by
 cases d with
 |zero=>simp[z1v]at h
 |succ d=>simp only[z1v]at h;cases h;rfl
theorem y40{s s':Rs}{k n:Int}(h:zb7 s k n=some (true,s')):s'=s/\0<=n/\0<=k/\∃row,s.ar[k.toNat]?=some row/\n<row.length:=by
 unfold zb7 at h;split at h
 ·cases h
 ·split at h
  ·obtain⟨row,h1,h2⟩:=Am.1 h;split at h2
   ·cases h2
   ·cases h2
    exact⟨rfl,by omega,by omega,row,h1,by omega⟩
  ·cases h
theorem zm0{s:Rs}{k n:Int}{q:Bool×Rs}(h:zb7 s k n=some q):q.2.ar.length=s.ar.length:=by
 unfold zb7 at h;split at h
 ·cases h;rfl
 ·split at h
  ·obtain⟨row,h1,h2⟩:=Am.1 h;split at h2<;>cases h2<;>rfl
  ·cases h
theorem two_ar{s:Rs}{k:Int}{row:List Int}(h1:s.ar.length<=2)(hk:0<=k)(h:s.ar[k.toNat]?=some row):(k=((0:Nat):Int)/\s.ar=[row])∨(k=((0:Nat):Int)/\∃r2,s.ar=[row,r2])∨(k=((1:Nat):Int)/\∃r1,s.ar=[r1,row]):=by
 have h2:=(A7.1 h).1
 match hs:s.ar,h,h1,h2 with
 |[],h,_,_=>cases h
 |[r],h,_,h2 =>
  have h3:k.toNat=0:=by simp at h2;omega
  rw[h3]at h;cases h
  exact .inl ⟨by omega,rfl⟩
 |[r,r2],h,_,h2 =>
  simp at h2;rcases(show k.toNat=0∨k.toNat=1 by omega)with h3|h3
  ·rw[h3]at h;cases h
   exact .inr (.inl ⟨by omega,r2,rfl⟩)
  ·rw[h3]at h;cases h
   exact .inr (.inr ⟨by omega,r,rfl⟩)
 |_::_::_::_,_,h1,_=>simp at h1
theorem z8p{u:Un}{d:Nat}{x:Nd}{a:List Int}{s:Rs}{r:Int×Rs}(h:mSum u (d+1) x a s=some r)(hk:x.kind=5):∃a0 b s',a[0]?=some a0/\zb7 (z5w s) (z0h x.name u.arrays 0) a0=some (b,s') /\
 ((b=false/\r=(0,s'))∨(b=true/\∃row y,(z5w s).ar[(z0h x.name u.arrays 0).toNat]?=some row/\row[a0.toNat]?=some y/\r=(y,z5w s))):=by
 simp only[mSum,hk,show((5:Int)==3)=false from rfl,show((5:Int)==4)=false from rfl,show((5:Int)==5)=true from rfl,C8,Ap,By,Am]at h;obtain⟨a0,h1,⟨b,s'⟩,h2,h5⟩:=h;refine⟨a0,b,s',h1,h2,?_⟩
 cases b with
 |false=>exact .inl ⟨rfl,by simpa using h5.symm⟩
 |true =>
  simp only[C8,Am,A5]at h5;obtain⟨row,h6,y,h7,h8⟩:=h5;exact .inr ⟨rfl,row,y,h6,h7,h8.symm⟩
theorem z7l{u:Un}{d:Nat}{x:Nd}{a:List Int}{s:Rs}{r:Int×Rs}(h:mSum u (d+1) x a s=some r)(hk:x.kind=6):∃a0 b s',a[0]?=some a0/\zb7 (z5w s) (z0h x.name u.arrays 0) a0=some (b,s') /\
 ((b=false/\r=(0,s'))∨(b=true/\∃row y,(z5w s).ar[(z0h x.name u.arrays 0).toNat]?=some row/\a[1]?=some y/\r=(0,{ z5w s with ar:=(z5w s).ar.set (z0h x.name u.arrays 0).toNat (row.set a0.toNat y) }))):=by
 simp only[mSum,hk,show((6:Int)==3)=false from rfl,show((6:Int)==4)=false from rfl,show((6:Int)==5)=false from rfl,show((6:Int)==6)=true from rfl,C8,Ap,By,Am]at h;obtain⟨a0,h1,⟨b,s'⟩,h2,h5⟩:=h;refine⟨a0,b,s',h1,h2,?_⟩
 cases b with
 |false=>exact .inl ⟨rfl,by simpa using h5.symm⟩
 |true =>
  simp only[C8,Am,A5]at h5;obtain⟨y,h6,row,h7,h8⟩:=h5;exact .inr ⟨rfl,row,y,h7,h6,h8.symm⟩
def Oks(B:Int)(s:Rs):Prop:=0<=s.fuel/\0<=s.cost/\s.cost+s.fuel<=B
def Live(s:Rs):Prop:=s.spent=false/\s.st=0
def dec(s:Rs):Rs:={ s with fuel:=s.fuel-1 }
def gone(s:Rs):Rs:={ s with spent:=true }
def bmp(s:Rs):Rs:={ s with cost:=s.cost+1 }
theorem j55{n:Int}(h:0<=n)(h2:n<=4611686018427387904):w64 n=n:=Cw n oM0
theorem z87{s:Rs}:z11 s=false↔Live s:=by
 unfold z11 Live;simp
theorem z0t{s:Rs}(h:Live s):z11 s=false:=z87.2 h
theorem zu6{s:Rs}{B:Int}(hB:B<=4611686018427387903)(ho:Oks B s):z5w s=bmp s:=by
 obtain⟨h1,h2,h3⟩:=ho;unfold z5w bmp;rw[j55 oM0 oM0]
theorem y53{s:Rs}{B:Int}(hB:B<=4611686018427387903)(ho:Oks B s)(hl:Live s):(s.fuel<1/\z9d s=(false,gone s))∨(1<=s.fuel/\z9d s=(true,dec s)):=by
 obtain⟨h1,h2,h3⟩:=ho;unfold z9d;rw[z0t hl];simp only[Ap,By]
 by_cases h:s.fuel<1
 ·rw[if_pos h];exact .inl ⟨h,rfl⟩
 ·rw[if_neg h,j55 oM0 oM0];exact .inr ⟨by omega,rfl⟩
theorem yk7{u:Un}{d:Nat}{x:Nd}{l:List Nd}{a:List Int}{s:Rs}{r:Rres}{B:Int}(hB:B<=4611686018427387903)(h:z1v u d (x::l) a s=some r)(ho:Oks B s)(hl:Live s) :
 ∃d1,d=d1+1/\((s.fuel<1/\r=((0,[]),a,gone s))∨(1<=s.fuel/\∃p r1,mOf a x.args=some p/\z5k (z1v u d1) (z3j u d1) (mSum u d1) x p a (dec s)=some r1/\(if z11 r1.2.2||r1.1.1 != 0 then some r1 else z1v u d1 l r1.2.1 r1.2.2)=some r)):=by
 obtain⟨d1,rfl,h2⟩:=z7c rfl h;refine⟨d1,rfl,?_⟩;rcases y53 hB ho hl with⟨h3,h4⟩|⟨h3,h4⟩
 ·rw[h4]at h2;rcases h2 with⟨_,h2⟩|⟨h2,_⟩
  ·exact .inl ⟨h3,h2⟩
  ·cases h2
 ·rw[h4]at h2;rcases h2 with⟨h2,_⟩|⟨_,h2⟩
  ·cases h2
  ·exact .inr ⟨h3,h2⟩
def hc(x:Nd):Nat:=if x.kind=3∨x.kind=4 then 1 else 0
def ys7(x:Nd)(p:List Int):Option Int :=
 if x.kind=1∨x.kind=2 then some x.n
 else if x.kind=3 then(p[0]?).map λa=>mOne x.op a
 else(p[0]?).bind λa=>(p[1]?).map λb=>(mTwo x.op a b).1
def HL(x:Nd):Prop:=z16 x=true/\(x.kind=4->z40 x.op=true)/\x.outs≠[]
def hRun(x:Nd)(a a2:List Int):Prop:=∃p y o,mOf a x.args=some p/\ys7 x p=some y/\x.outs[0]?=some o/\setV a o y=some a2
theorem two_ok{op a b:Int}(h:z40 op=true)(h4:op≠4)(h5:op≠5):(mTwo op a b).2=true:=by
 simp only[z40,A0,Bj]at h;have:op=1∨op=2∨op=3∨op=6∨op=7∨op=8∨op=9∨op=10∨op=11∨op=12∨op=13∨op=14∨op=15∨op=16∨op=17:=by omega
 rcases this with rfl|rfl|rfl|rfl|rfl|rfl|rfl|rfl|rfl|rfl|rfl|rfl|rfl|rfl|rfl<;>rfl
def hSt(x:Nd)(s:Rs):Rs:={ s with cost:=s.cost+hc x }
theorem hc_01(x:Nd):hc x=0∨hc x=1:=by unfold hc;split<;>simp
theorem hSt0{x:Nd}{s:Rs}(h:hc x=0):hSt x s=s:=by unfold hSt;rw[h];simp
theorem ys8{u:Un}{d:Nat}{x:Nd}{p a:List Int}{s:Rs}{r:Rres}{B:Int}(hB:B<=4611686018427387903)(ho:Oks B s)(hl:Live s)(hx:HL x)(h:z5k (z1v u d) (z3j u d) (mSum u d) x p a s=some r) :
 ∃y o a2,ys7 x p=some y/\x.outs[0]?=some o/\setV a o y=some a2/\r=((0,[]),a2,hSt x s):=by
 obtain⟨h1,h2,h3⟩:=hx;obtain⟨n10,n11,_,_⟩:=z7h h1;have hk:=z9b h1;rcases hk with hk|hk|hk|hk
 ·obtain⟨o,v2,g1,g2,rfl⟩:=z6l h (by rw[hk];rfl);exact⟨x.n,o,v2,by simp[ys7,hk],g1,g2,by rw[hSt0];simp[hc,hk]⟩
 ·obtain⟨o,v2,g1,g2,rfl⟩:=z6l h (by rw[hk];rfl);exact⟨x.n,o,v2,by simp[ys7,hk],g1,g2,by rw[hSt0];simp[hc,hk]⟩
 ·obtain⟨r1,g1,g2⟩:=z7j h (by rw[hk];rfl) (by rw[hk];rfl) n10 n11;obtain⟨d',rfl⟩:=z86 g1;obtain⟨a0,g3,rfl⟩:=ze3 g1 (by rw[hk];rfl);rw[zu6 hB ho]at g2;have hov:z11 (bmp s)=false:=z0t hl;rw[hov]at g2;have hlen:0<x.outs.length:=Cz.2 h3;simp only[E4,B0,C9 hlen,C8,Am,A5]at g2;obtain⟨o,g4,v2,g5,rfl⟩:=g2;exact⟨_,o,v2,by simp[ys7,hk,g3],g4,g5,by simp[hSt,hc,hk,bmp]⟩
 ·have h4:=h2 hk;have hop:x.op≠4/\x.op≠5:=by
   simp only[z16,hk]at h1;simpa using h1
  obtain⟨r1,g1,g2⟩:=z7j h (by rw[hk];rfl) (by rw[hk];rfl) n10 n11;obtain⟨d',rfl⟩:=z86 g1;obtain⟨a0,a1,g3,g3',rfl⟩:=ze4 g1 (by rw[hk];rfl);rw[two_ok h4 hop.1 hop.2,if_pos rfl,zu6 hB ho]at g2;have hov:z11 (bmp s)=false:=z0t hl;rw[hov]at g2;have hlen:0<x.outs.length:=Cz.2 h3;simp only[E4,B0,C9 hlen,C8,Am,A5]at g2;obtain⟨o,g4,v2,g5,rfl⟩:=g2;exact⟨_,o,v2,by simp[ys7,hk,g3,g3'],g4,g5,by simp[hSt,hc,hk,bmp]⟩
structure Ext(B:Int)(s t:Rs):Prop where
 ok:Oks B t
 out:s.out <+: t.out
 ar:t.ar.length=s.ar.length
 fuel:t.fuel<=s.fuel
theorem Ext.rfl{B:Int}{s:Rs}(h:Oks B s):Ext B s s:=⟨h,Ce _,Eq.refl _,D1 _⟩
theorem Ext.trans{B:Int}{s t w:Rs}(h:Ext B s t)(h2:Ext B t w):Ext B s w:=⟨h2.ok,h.out.trans h2.out,h2.ar.trans h.ar,Int.le_trans h2.fuel h.fuel⟩
theorem y0w{s:Rs}{k n:Int}{q:Bool×Rs}(h:zb7 s k n=some q):(q=(false,{ s with st:=3 }))∨q=(true,s):=by
 unfold zb7 at h;split at h
 ·cases h;exact .inl (Eq.refl _)
 ·split at h
  ·obtain⟨row,h1,h2⟩:=Am.1 h;split at h2
   ·cases h2;exact .inl (Eq.refl _)
   ·cases h2;exact .inr (Eq.refl _)
  ·cases h
theorem sum_ext{u:Un}{d:Nat}{x:Nd}{p:List Int}{s:Rs}{r:Int×Rs}{B:Int}(hB:B<=4611686018427387903)(ho:Oks B s)(ho1:s.cost+s.fuel+1<=B)
 (hC:∀d' k a r,d=d'+1->z3z u d' k a (bmp s)=some r->Ext B (bmp s) r.2) (h:mSum u d x p s=some r):Ext B s r.2:=by
 obtain⟨d',rfl⟩:=z86 h;have hb:Oks B (bmp s):=⟨ho.1,by have:=ho.2.1;show 0<=s.cost+1;omega,by show s.cost+1+s.fuel<=B;omega⟩;have e:=zu6 hB ho;have E0:Ext B s (bmp s):=⟨hb,Ce _,Eq.refl _,D1 _⟩;have ne:∀{i:Int},x.kind≠i->(x.kind==i)=false:=λh=>A9.2 h
 by_cases k3:x.kind=3
 ·obtain⟨a0,_,rfl⟩:=ze3 h (Au.2 k3);rw[e];exact E0
 by_cases k4:x.kind=4
 ·obtain⟨a0,a1,_,_,rfl⟩:=ze4 h (Au.2 k4);rw[e];split
  ·exact E0
  ·exact⟨hb,Ce _,Eq.refl _,D1 _⟩
 by_cases k5:x.kind=5
 ·obtain⟨a0,b,s',_,h2,h3⟩:=z8p h k5;rw[e]at h2 h3;rcases h3 with⟨rfl,rfl⟩|⟨rfl,row,y,_,_,rfl⟩
  ·rcases y0w h2 with h4|h4
   ·obtain⟨_,rfl⟩:=G7 h4;exact⟨hb,Ce _,Eq.refl _,D1 _⟩
   ·cases(G7 h4).1
  ·exact E0
 by_cases k6:x.kind=6
 ·obtain⟨a0,b,s',_,h2,h3⟩:=z7l h k6;rw[e]at h2 h3;rcases h3 with⟨rfl,rfl⟩|⟨rfl,row,y,_,_,rfl⟩
  ·rcases y0w h2 with h4|h4
   ·obtain⟨_,rfl⟩:=G7 h4;exact⟨hb,Ce _,Eq.refl _,D1 _⟩
   ·cases(G7 h4).1
  ·exact⟨hb,Ce _,by simp[bmp],D1 _⟩
 by_cases k7:x.kind=7
 ·have h2:=zb9 h (Au.2 k7);rw[e]at h2;exact E0.trans (hC _ _ _ _ (Eq.refl _) h2)
 by_cases k9:x.kind=9
 ·obtain⟨a0,_,_,rfl⟩:=z8q h (Au.2 k9);rw[e];exact⟨hb,List.prefix_append _ _,Eq.refl _,D1 _⟩
 by_cases k8:x.kind=8
 ·rcases zc1 h (Au.2 k8)with⟨_,rfl⟩|⟨y,q,_,rfl⟩<;>rw[e]<;>exact⟨hb,Ce _,Eq.refl _,D1 _⟩
 ·obtain rfl:=zc0 h (ne k3) (ne k4) (ne k5) (ne k6) (ne k7) (ne k9) (ne k8);rw[e];exact E0
theorem z4x{s:Rs}{B:Int}(ho:Oks B s)(h:1<=s.fuel):Oks B (dec s)/\(dec s).cost+(dec s).fuel+1<=B:=by
 obtain⟨h1,h2,h3⟩:=ho;refine⟨⟨?_,h2,?_⟩,?_⟩
 ·show 0<=s.fuel-1;omega
 ·show s.cost+(s.fuel-1)<=B;omega
 ·show s.cost+(s.fuel-1)+1<=B;omega
theorem j1q{u:Un}{d:Nat}{l:List Nd}{a:List Int}{s:Rs}{r:Rres}(h:z1v u d l a s=some r)(ho:z11 s=true):r=((0,[]),a,s):=by
 cases l with
 |nil=>exact y41 h
 |cons x l =>
  obtain⟨d1,rfl,h2⟩:=z7c rfl h;have:z9d s=(false,s):=by unfold z9d;rw[ho];rfl
  rw[this]at h2;rcases h2 with⟨_,h2⟩|⟨h2,_⟩
  ·exact h2
  ·cases h2
theorem y5i(u:Un){B:Int}(hB:B<=4611686018427387903):∀d,
 (∀l a s r,z1v u d l a s=some r->Oks B s->Ext B s r.2.2)/\(∀x p a s r,z3j u d x p a s=some r->Oks B s->Ext B s r.2.2) /\
 (∀k p s r,z3z u d k p s=some r->Oks B s->Ext B s r.2)/\∀x p s r,mSum u d x p s=some r->Oks B s->s.cost+s.fuel+1<=B->Ext B s r.2
 |0=>⟨λ_ _ _ _ h=>by simp[z1v]at h,λ_ _ _ _ _ h=>by simp[z3j]at h,λ_ _ _ _ h=>by simp[z3z]at h,λ_ _ _ _ h=>by simp[mSum]at h⟩
 |d+1=>by
  obtain⟨i1,i2,i3,i4⟩:=y5i u hB d;refine⟨λl a s r h ho=>?_,λx p a s r h ho=>?_,λk p s r h ho=>?_,λx p s r h ho ho1=>?_⟩
  ·cases l with
   |nil=>rw[y41 h];exact Ext.rfl ho
   |cons x l =>
    cases hov:z11 s with
    |true=>rw[j1q h hov];exact Ext.rfl ho
    |false =>
     obtain⟨d1,e,h2⟩:=yk7 hB h ho (z87.1 hov);obtain rfl:d1=d:=by omega
     rcases h2 with⟨_,rfl⟩|⟨hf,p,r1,_,h3,h4⟩
     ·exact⟨ho,Ce _,rfl,D1 _⟩
     ·obtain⟨o1,o2⟩:=z4x ho hf;have E0:Ext B s (dec s):=⟨o1,Ce _,rfl,by show s.fuel-1<=s.fuel;omega⟩;have E1:Ext B (dec s) r1.2.2:=by
       unfold z5k at h3;split at h3
       ·simp only[Am,A5]at h3;obtain⟨o,_,v',_,rfl⟩:=h3;exact Ext.rfl o1
       split at h3
       ·cases h3;exact Ext.rfl o1
       split at h3
       ·simp only[Am]at h3;obtain⟨a0,_,q,_,r2,h5,h6⟩:=h3;have h7:=i1 _ _ _ _ h5 o1;split at h6
        ·simp only[A5]at h6;obtain⟨v',_,rfl⟩:=h6;exact h7
        ·cases h6;exact h7
       split at h3
       ·exact i2 _ _ _ _ _ h3 o1
       ·simp only[Am]at h3;obtain⟨r2,h5,h6⟩:=h3;have h7:=i4 _ _ _ _ h5 o1 o2;split at h6
        ·simp only[Am,A5]at h6;obtain⟨o,_,v',_,rfl⟩:=h6;exact h7
        ·cases h6;exact h7
      split at h4
      ·cases h4;exact E0.trans E1
      ·exact(E0.trans E1).trans (i1 _ _ _ _ h4 E1.ok)
  ·obtain⟨d1,v2,q,r1,e,_,_,h3,h4⟩:=z4m h;obtain rfl:d1=d:=by omega
   have E1:=i1 _ _ _ _ h3 ho;split at h4
   ·cases h4;exact E1
   split at h4
   ·simp only[A5]at h4;obtain⟨v',_,rfl⟩:=h4;exact E1
   ·exact E1.trans (i2 _ _ _ _ _ h4 E1.ok)
  ·obtain⟨d1,f,r1,e,_,_,_,_,h3,rfl⟩:=z60 h;obtain rfl:d1=d:=by omega
   exact i1 _ _ _ _ h3 ho
  ·refine sum_ext hB ho ho1 (λd' k a r e h2=>?_) h;obtain rfl:d'=d:=by omega
   have hb:Oks B (bmp s):=⟨ho.1,by have:=ho.2.1;show 0<=s.cost+1;omega,by show s.cost+1+s.fuel<=B;omega⟩;exact i3 _ _ _ _ h2 hb
theorem z84{u:Un}{d:Nat}{l:List Nd}{a:List Int}{s:Rs}{r:Rres}{B:Int}(hB:B<=4611686018427387903)(h:z1v u d l a s=some r)(ho:Oks B s):Ext B s r.2.2:=(y5i u hB d).1 _ _ _ _ h ho
theorem zk4{u:Un}{d:Nat}{x:Nd}{p a:List Int}{s:Rs}{r:Rres}{B:Int}(hB:B<=4611686018427387903)(h:z3j u d x p a s=some r)(ho:Oks B s):Ext B s r.2.2:=(y5i u hB d).2.1 _ _ _ _ _ h ho
theorem yb8{u:Un}{d:Nat}{x:Nd}{p:List Int}{s:Rs}{r:Int×Rs}{B:Int}(hB:B<=4611686018427387903)(h:mSum u d x p s=some r)(ho:Oks B s)(ho1:s.cost+s.fuel+1<=B):Ext B s r.2:=(y5i u hB d).2.2.2 _ _ _ _ h ho ho1
section
structure KF where
 k:Int
 outs:List Int
 rest:List Nd
mutual
def nsz:Nd->Nat
 |.mk _ _ _ _ _ _ _ ks=>1+kdz ks
def lsz:List Nd->Nat
 |[]=>0
 |x::r=>nsz x+lsz r
def kdz:List (List Nd)->Nat
 |[]=>0
 |l::r=>lsz l+kdz r
end
theorem y45(x:Nd):nsz x=1+kdz x.kids:=by cases x;simp[nsz,Nd.kids]
def ksz:List KF->Nat
 |[]=>0
 |f::K=>lsz f.rest+ksz K
abbrev VR:=List Int->List Int->Prop
abbrev ER:=Int->List Int->List Int->List Int->List Int->Prop
def setO(outs a:List Int)(y:Int)(a2:List Int):Prop:=match outs with
 |[]=>a2=a
 |o::_=>setV a o y=some a2
inductive LRel:Nat->Nat->VR->List Nd->List KF->List Nd->ER->Prop
 |dead {I l K l' E}:(∀a b,¬I a b)->LRel 0 0 I l K l' E
 |weak {k c I I' l K l' E}:(∀a b,I a b->I' a b)->LRel k c I' l K l' E->LRel k c I l K l' E
 |both {k c I J x x' l K l' E}:HL x->HL x'->hc x'<=hc x->(∀a b a2 b2,I a b->hRun x a a2->hRun x' b b2->J a2 b2)->LRel k c J l K l' E->LRel k c I (x::l) K (x'::l') E
 |skip {k c I J x l K l' E}:HL x->(∀a b a2,I a b->hRun x a a2->J a2 b)->LRel k c J l K l' E->LRel k c I (x::l) K l' E
 |paid {k c I J x l K l' E}:HL x->(∀a b a2,I a b->hRun x a a2->J a2 b)->l≠[]->LRel k c J l K l' E->LRel (k+1) (c+hc x) I (x::l) K l' E
 |add {k c I J x' l K l' E}:HL x'->l≠[]->(∀a b b2,I a b->hRun x' b b2->J a b2)->LRel (k+1) (c+hc x') J l K l' E->LRel k c I l K (x'::l') E
 |eff {I J x x' l K l' E}:(x.kind≠1/\x.kind≠2/\x.kind≠10/\x.kind≠11/\x.kind≠12/\x.kind≠13/\x.kind≠14/\x.kind≠15)->x'.kind=x.kind->x'.op=x.op->x'.name=x.name->x'.outs.length=x.outs.length ->
  (∀a b p p',I a b->mOf a x.args=some p->mOf b x'.args=some p'->p'=p)->(∀a b a2 b2 y,I a b->setO x.outs a y a2->setO x'.outs b y b2->J a2 b2)->LRel 0 0 J l K l' E->LRel 0 0 I (x::l) K (x'::l') E
 |ite {I J E2 x x' q0 q1 q0' q1' l K l' E}:x.kind=10->x'.kind=10->x.kids=[q0,q1]->x'.kids=[q0',q1']->(∀a b p p',I a b->mOf a x.args=some p->mOf b x'.args=some p'->p'[0]?=p[0]?) ->
  LRel 0 0 I q0 [] q0' E2->LRel 0 0 I q1 [] q1' E2 ->
  (∀n p p' a b,E2 n p p' a b->(n=12/\∀a2 b2,mSet a x.outs p=some a2->mSet b x'.outs p'=some b2->J a2 b2)∨(n≠12/\n≠0/\(K=[]∨n=15)/\E n p p' a b)) ->
  LRel 0 0 J l K l' E->LRel 0 0 I (x::l) K (x'::l') E
 |loop {k c I I2 J E2 x x' q q' l K l' E}:x.kind=11->x'.kind=11->x.kids=[q]->x'.kids=[q'] ->
  (∀a b p p' a2 b2,I a b->mOf a x.args=some p->mOf b x'.args=some p'->mSet a x.params p=some a2->mSet b x'.params p'=some b2->I2 a2 b2) ->
  LRel k c I2 q [] q' E2 ->
  (∀n p p' a b,E2 n p p' a b->(n=15/\E 15 p p' a b)∨(n=14/\∀a2 b2,mSet a x.outs p=some a2->mSet b x'.outs p'=some b2->J a2 b2)∨(n=13/\∀a2 b2,mSet a x.params p=some a2->mSet b x'.params p'=some b2->I2 a2 b2)) ->
  LRel 0 0 J l K l' E->LRel k c I (x::l) K (x'::l') E
 |ender {I x x' l K l' E}:12<=x.kind->x.kind<=15->x'.kind=x.kind->(K=[]∨x.kind=15)->(∀a b p p',I a b->mOf a x.args=some p->mOf b x'.args=some p'->E x.kind p p' a b)->LRel 0 0 I (x::l) K (x'::l') E
 |once {k c I J x q l K l' E}:x.kind=11->x.kids=[q]->(∀a b p a2,I a b->mOf a x.args=some p->mSet a x.params p=some a2->J a2 b)->LRel k c J q (⟨14,x.outs,l⟩::K) l' E->LRel k c I (x::l) K l' E
 |leave {k c I J y l f K l' E}:y.kind=f.k->f.k=12∨f.k=14->(∀a b p a2,I a b->mOf a y.args=some p->mSet a f.outs p=some a2->J a2 b)->LRel k c J f.rest K l' E->LRel k c I (y::l) (f::K) l' E
 |fork {k c I x q0 q1 l K l' E}:x.kind=10->x.kids=[q0,q1]->LRel k c I q0 (⟨12,x.outs,l⟩::K) l' E->LRel k c I q1 (⟨12,x.outs,l⟩::K) l' E->LRel k c I (x::l) K l' E
theorem LRel.nil{k c:Nat}{I:VR}{l:List Nd}{K:List KF}{l':List Nd}{E:ER}(h:LRel k c I l K l' E):l=[]->k=0:=by
 induction h with
 |dead _=>exact λ_=>rfl
 |weak _ _ ih=>exact ih
 |add _ h1 _ _ _=>exact λe=>absurd e h1
 |_=>intro e;cases e
def KFin(u:Un)(D:Nat):List KF->Rres->Rres->Prop
 |[],r1,r=>r=r1
 |f::K,r1,r=>if r1.1.1=15 then r=r1 else if r1.1.1=f.k then ∃a2 d r2,d<=D/\mSet r1.2.1 f.outs r1.1.2=some a2/\z1v u d f.rest a2 r1.2.2=some r2/\(if z11 r2.2.2=true then r=r2 else KFin u D K r2 r)else r1.2.2.out <+: r.2.2.out
def KRun(u:Un)(D:Nat)(l:List Nd)(K:List KF)(a:List Int)(s:Rs)(r:Rres):Prop:=∃d r1,d<=D/\z1v u d l a s=some r1/\(if z11 r1.2.2=true then r=r1 else KFin u D K r1 r)
def KNext(u:Un)(D:Nat)(l:List Nd)(K:List KF)(r1 r:Rres):Prop:=(z11 r1.2.2=true/\r=r1)∨(Live r1.2.2/\r1.1.1≠0/\KFin u D K r1 r)∨(Live r1.2.2/\r1.1.1=0/\KRun u D l K r1.2.1 r1.2.2 r)
section
variable {u:Un} {D:Nat} {l:List Nd} {K:List KF} {a:List Int} {s:Rs} {r:Rres} {B:Int}
theorem KFin.out(hB:B<=4611686018427387903):∀{K:List KF}{r1 r:Rres},KFin u D K r1 r->Oks B r1.2.2->r1.2.2.out <+: r.2.2.out
 |[],r1,r,h,ho=>by obtain rfl:r=r1:=h;exact Ce _
 |f::K,r1,r,h,ho=>by
  unfold KFin at h;split at h
  ·subst h;exact Ce _
  split at h
  ·obtain⟨a2,d,r2,_,_,h2,h3⟩:=h;have e:=z84 hB h2 ho;split at h3
   ·subst h3;exact e.out
   ·exact e.out.trans (KFin.out hB h3 e.ok)
  ·exact h
theorem KRun.out(hB:B<=4611686018427387903)(h:KRun u D l K a s r)(ho:Oks B s):s.out <+: r.2.2.out:=by
 obtain⟨d,r1,_,h1,h2⟩:=h;have e:=z84 hB h1 ho;split at h2
 ·subst h2;exact e.out
 ·exact e.out.trans (KFin.out hB h2 e.ok)
theorem KNext.out{r1:Rres}(hB:B<=4611686018427387903)(h:KNext u D l K r1 r)(ho:Oks B r1.2.2):r1.2.2.out <+: r.2.2.out:=by
 rcases h with⟨_,rfl⟩|⟨_,_,h⟩|⟨_,_,h⟩
 ·exact Ce _
 ·exact KFin.out hB h ho
 ·exact h.out hB ho
theorem zx8{x:Nd}(hB:B<=4611686018427387903)(h:KRun u D (x::l) K a s r)(ho:Oks B s)(hl:Live s) :
 (s.fuel<1/\r=((0,[]),a,gone s))∨(1<=s.fuel/\∃d1 p r1,d1<D/\mOf a x.args=some p/\z5k (z1v u d1) (z3j u d1) (mSum u d1) x p a (dec s)=some r1/\KNext u D l K r1 r):=by
 obtain⟨d,r0,hd,h1,h2⟩:=h;obtain⟨d1,rfl,h3⟩:=yk7 hB h1 ho hl;rcases h3 with⟨h3,rfl⟩|⟨h3,p,r1,h4,h5,h6⟩
 ·rw[if_pos (by simp[z11,gone])]at h2;exact .inl ⟨h3,h2⟩
 ·refine .inr ⟨h3,d1,p,r1,hd,h4,h5,?_⟩
  cases hov:z11 r1.2.2 with
  |true =>
   rw[hov]at h6
   cases h6
   rw[if_pos hov]at h2
   exact .inl ⟨hov,h2⟩
  |false =>
   rw[hov]at h6
   by_cases hk:r1.1.1=0
   ·rw[hk]at h6;exact .inr (.inr ⟨z87.1 hov,hk,d1,r0,by omega,h6,h2⟩)
   ·have:(false||r1.1.1 != 0)=true:=by simpa using hk
    rw[if_pos this]at h6
    cases h6
    rw[if_neg (by rw[hov];decide)]at h2;exact .inr (.inl ⟨z87.1 hov,hk,h2⟩)
theorem z74(hl:Live s):Live (dec s):=hl
theorem y5u{x:Nd}(hl:Live s):Live (hSt x s):=hl
theorem zv4{x:Nd}(ho:Oks B s)(h:1<=s.fuel):Oks B (hSt x (dec s)):=by
 obtain⟨h1,h2,h3⟩:=ho;have:=hc_01 x;refine⟨?_,?_,?_⟩
 ·show 0<=s.fuel-1;omega
 ·show 0<=s.cost+(hc x:Int);omega
 ·show s.cost+(hc x:Int)+(s.fuel-1)<=B;omega
theorem y81{x:Nd}(hB:B<=4611686018427387903)(hx:HL x)(h:KRun u D (x::l) K a s r)(ho:Oks B s)(hl:Live s) :
 (s.fuel<1/\r=((0,[]),a,gone s))∨(1<=s.fuel/\∃a2,hRun x a a2/\KRun u D l K a2 (hSt x (dec s)) r):=by
 rcases zx8 hB h ho hl with h1|⟨h1,d1,p,r1,_,h2,h3,h4⟩
 ·exact .inl h1
 ·obtain⟨y,o,a2,g1,g2,g3,rfl⟩:=ys8 hB (z4x ho h1).1 (z74 hl) hx h3;refine .inr ⟨h1,a2,⟨p,y,o,h2,g1,g2,g3⟩,?_⟩;rcases h4 with⟨h5,_⟩|⟨_,h5,_⟩|⟨_,_,h5⟩
  ·have:z11 (hSt x (dec s))=false:=z0t hl;rw[show(((0,[]),a2,hSt x (dec s)):Rres).2.2=hSt x (dec s)from rfl,this]at h5
   cases h5
  ·exact absurd rfl h5
  ·exact h5
theorem y8q{x:Nd}{q:List Nd}(hB:B<=4611686018427387903)(hx:x.kind=11)(hq:x.kids=[q])(h:KRun u D (x::l) K a s r)(ho:Oks B s)(hl:Live s) :
 (s.fuel<1/\r=((0,[]),a,gone s))∨(1<=s.fuel/\∃p a2,mOf a x.args=some p/\mSet a x.params p=some a2/\KRun u D q (⟨14,x.outs,l⟩::K) a2 (dec s) r):=by
 rcases zx8 hB h ho hl with h1|⟨h1,d1,p,r1,hd,h2,h3,h4⟩
 ·exact .inl h1
 ·have h5:=z61 h3 (by rw[hx];rfl);have ho1:=(z4x ho h1).1;obtain⟨d2,v2,q2,r2,rfl,g1,g2,g3,g4⟩:=z4m h5;rw[hq]at g2;obtain rfl:q=q2:=by simpa using g2
  refine .inr ⟨h1,p,v2,h2,g1,d2,r2,by omega,g3,?_⟩;have e:=z84 hB g3 ho1
  cases hov:z11 r2.2.2 with
  |true =>
   rw[hov]at g4
   cases g4
   rw[if_pos rfl];rcases h4 with⟨_,h4⟩|⟨h4,_⟩|⟨h4,_⟩
   ·exact h4
   ·rw[z0t h4]at hov;cases hov
   ·rw[z0t h4]at hov;cases hov
  |false =>
   rw[hov]at g4;rw[if_neg dC0];unfold KFin
   by_cases k15:r2.1.1=15
   ·rw[k15]at g4
    cases g4
    rw[if_pos k15];rcases h4 with⟨h4,_⟩|⟨_,_,h4⟩|⟨_,h4,_⟩
    ·rw[hov]at h4;cases h4
    ·cases K with
     |nil=>exact h4
     |cons f K=>unfold KFin at h4;rw[if_pos k15]at h4;exact h4
    ·rw[k15]at h4;exact absurd h4 dC0
   ·rw[if_neg k15];have n15:(false||r2.1.1==15)=false:=by simpa using k15
    rw[n15,if_neg dC0]at g4
    by_cases k14:r2.1.1=14
    ·rw[if_pos k14];rw[if_pos (by rw[k14];rfl)]at g4;obtain⟨v3,g5,rfl⟩:=A5.1 g4;rcases h4 with⟨h4,_⟩|⟨_,h4,_⟩|⟨_,_,d3,r3,h6,h7,h8⟩
     ·rw[show(((0,[]),v3,r2.2.2):Rres).2.2=r2.2.2 from rfl,hov]at h4;cases h4
     ·exact absurd rfl h4
     ·exact⟨v3,d3,r3,h6,g5,h7,h8⟩
    ·rw[if_neg k14];rw[if_neg (by simpa using k14)]at g4;have e2:=zk4 hB g4 e.ok;exact e2.out.trans (h4.out hB e2.ok)
theorem ys3{x:Nd}{d:Nat}{p:List Int}{r1:Rres}(h1:12<=x.kind)(h2:x.kind<=15)(h:z5k (z1v u d) (z3j u d) (mSum u d) x p a s=some r1):r1=((x.kind,p),a,s) :=
 z3d h (by rcases(show x.kind=12∨x.kind=13∨x.kind=14∨x.kind=15 by omega)with e|e|e|e<;>rw[e]<;>rfl)
theorem zq8{x:Nd}(hB:B<=4611686018427387903)(h1:12<=x.kind)(h2:x.kind<=15)(h:KRun u D (x::l) K a s r)(ho:Oks B s)(hl:Live s) :
 (s.fuel<1/\r=((0,[]),a,gone s))∨(1<=s.fuel/\∃p,mOf a x.args=some p/\KFin u D K ((x.kind,p),a,dec s) r):=by
 rcases zx8 hB h ho hl with h3|⟨h3,d1,p,r1,hd,h4,h5,h6⟩
 ·exact .inl h3
 ·obtain rfl:=ys3 h1 h2 h5;refine .inr ⟨h3,p,h4,?_⟩;rcases h6 with⟨h6,_⟩|⟨_,_,h6⟩|⟨_,h6,_⟩
  ·have:z11 (dec s)=false:=z0t hl;rw[show((x.kind,p),a,dec s).2.2=dec s from rfl,this]at h6
   cases h6
  ·exact h6
  ·exact absurd h6 (by show x.kind≠0;omega)
theorem y3w{y:Nd}{f:KF}(hB:B<=4611686018427387903)(hy:y.kind=f.k)(hf:f.k=12∨f.k=14)(h:KRun u D (y::l) (f::K) a s r)(ho:Oks B s)(hl:Live s) :
 (s.fuel<1/\r=((0,[]),a,gone s))∨(1<=s.fuel/\∃p a2,mOf a y.args=some p/\mSet a f.outs p=some a2/\KRun u D f.rest K a2 (dec s) r):=by
 rcases zq8 hB oM0 oM0 h ho hl with h3|⟨h3,p,h4,h5⟩
 ·exact .inl h3
 ·unfold KFin at h5;rw[show(((y.kind,p),a,dec s):Rres).1.1=f.k from hy,if_neg oM0,if_pos rfl]at h5;obtain⟨a2,d,r2,g1,g2,g3,g4⟩:=h5;exact .inr ⟨h3,p,a2,h4,g2,d,r2,g1,g3,g4⟩
theorem y7w{x:Nd}{q0 q1:List Nd}(hB:B<=4611686018427387903)(hx:x.kind=10)(hq:x.kids=[q0,q1])(h:KRun u D (x::l) K a s r)(ho:Oks B s)(hl:Live s) :
 (s.fuel<1/\r=((0,[]),a,gone s))∨(1<=s.fuel/\∃q,(q=q0∨q=q1)/\KRun u D q (⟨12,x.outs,l⟩::K) a (dec s) r):=by
 rcases zx8 hB h ho hl with h1|⟨h1,d1,p,r1,hd,h2,h3,h4⟩
 ·exact .inl h1
 ·have ho1:=(z4x ho h1).1;obtain⟨a0,q,r2,_,g2,g3,g4⟩:=ze2 h3 (by rw[hx];rfl);refine .inr ⟨h1,q,?_,d1,r2,by omega,g3,?_⟩
  ·rw[hq]at g2
   by_cases e:(a0 != 0)=true
   ·rw[if_pos e]at g2;exact .inl (by simpa using g2.symm)
   ·rw[if_neg e]at g2;exact .inr (by simpa using g2.symm)
  have e:=z84 hB g3 ho1
  cases hov:z11 r2.2.2 with
  |true =>
   rw[hov]at g4
   cases g4
   rw[if_pos rfl];rcases h4 with⟨_,h4⟩|⟨h4,_⟩|⟨h4,_⟩
   ·exact h4
   ·rw[z0t h4]at hov;cases hov
   ·rw[z0t h4]at hov;cases hov
  |false =>
   rw[hov]at g4;rw[if_neg dC0];unfold KFin
   by_cases k15:r2.1.1=15
   ·rw[k15]at g4
    cases g4
    rw[if_pos k15];rcases h4 with⟨h4,_⟩|⟨_,_,h4⟩|⟨_,h4,_⟩
    ·rw[hov]at h4;cases h4
    ·cases K with
     |nil=>exact h4
     |cons f K=>unfold KFin at h4;rw[if_pos k15]at h4;exact h4
    ·rw[k15]at h4;exact absurd h4 dC0
   ·rw[if_neg k15]
    by_cases k12:r2.1.1=12
    ·rw[if_pos k12];rw[k12]at g4;obtain⟨v3,g5,rfl⟩:=A5.1 g4;rcases h4 with⟨h4,_⟩|⟨_,h4,_⟩|⟨_,_,d3,r3,h6,h7,h8⟩
     ·rw[show(((0,[]),v3,r2.2.2):Rres).2.2=r2.2.2 from rfl,hov]at h4;cases h4
     ·exact absurd rfl h4
     ·exact⟨v3,d3,r3,h6,g5,h7,h8⟩
    ·rw[if_neg k12];have n12:(!false&&r2.1.1==12)=false:=by simpa using k12
     rw[n12,if_neg dC0]at g4
     cases g4
     exact h4.out hB e.ok
end
end
end Go.Proofs.YtdhllinkobindaaGreatDoor
