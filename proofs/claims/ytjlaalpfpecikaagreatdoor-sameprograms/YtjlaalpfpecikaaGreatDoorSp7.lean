/- PART 7 of 9 of a proof: see the last part. -/
import Derived.Test.YtjlaalpfpecikaaGreatDoorSp6
set_option maxRecDepth 20000
set_option maxHeartbeats 8000000
set_option linter.unusedSimpArgs false
set_option linter.unusedVariables false
set_option linter.unusedSectionVars false
namespace Go.Proofs.YtjlaalpfpecikaaGreatDoor
open Go
theorem flow_leW{u:Un}{f:Fl}(hf:f∈u.flows):lsW f.body<=z0j u:=by
 have h1:=yj7 hf;have h2:=y88 f.body;unfold z0j z0z at *
 omega
theorem y9u(u:Un)(l:List Fl)(i:Nat){f:Fl}(h:l.drop i=f::l.drop (i+1)):za6 u (l.drop i) i=if y29 u f then za6 u (l.drop (i+1)) ((i+1:Nat):Int)else(80,(i:Int)):=by
 rw[h,za6];rfl
theorem y4o(u:Un)(hW:z0j u<=34359738368):SC Tryz.prog 19 [.pv u.enc] [] (λ_=>False) (.tup [iInt (z4v u).1,iInt (z4v u).2]) []:=by
 refine SC.anyR (K0 tb { pb:=[101,105] } [] Tryz.func19 rfl rfl ?_);have hH:=j48 u hW;have hw2:u.flows.length<=z0j u:=by unfold z0j;omega
 unfold z4v
 cases hh:z9g u
 ·rw[hh]at hH;exact⟨[],hH,sR,Gf,rfl,sI,Gf⟩
 rw[hh]at hH;have hg:=y71 hh;rw[A5 rfl];refine⟨[],hH,sR,Gf,rfl,Nat,λi=>[(12,iInt ((i:Nat):Int))],λ_=>[],λi=>u.flows.length-i,λi=>i<=u.flows.length/\za6 u u.flows 0=za6 u (u.flows.drop i) i,[],0,⟨Aj _,rfl⟩,Gg,Gf,?_⟩;rintro i ⟨i1,i2⟩;refine z00 (λhc=>?_) λhc=>?_
 ·have hlt:i<u.flows.length:=z12 (f:=Fl.enc) rfl hc;obtain⟨x,x1,x2,x3,x4⟩:=z0u hlt;have hF:=j46 u x hg (hg x x4) (Bm (flow_leW x4) hW);rw[y9u u u.flows i x3]at i2;generalize y29 u x=b at hF i2
  cases b
  ·rw[A1 dC0]at i2;rw[i2];exact⟨z02 (f:=Fl.enc) x1,rfl,[],hF,sR,Gf,rfl,sI,Gf⟩
  ·rw[A5 rfl]at i2;exact⟨z02 (f:=Fl.enc) x1,rfl,[],hF,sR,Gf,rfl,z01 rfl oM0,i+1,z05 hlt,⟨hlt,i2⟩,Gg,Gf,rfl,rfl,rfl,rfl⟩
 ·have hge:u.flows.length<=i:=z13 (f:=Fl.enc) rfl hc;rw[i2,Ae hge];exact⟨sI,Gf⟩
set_option maxRecDepth 100000 in
set_option maxHeartbeats 4000000 in
theorem y7h(b:Nat)(r:Array MapEntry)(ck:Nat)(w:World)(hb:w.heap[b]?=some (.map r ck)) :
 Calls Tryz.prog 91 #[.map (some b)] w λe w'=>e=.returned (.map (some w.heap.size))/\w'=w.alloc (.map r ck):=by
 have hq:=λw=>run_eql_map_nil_sl (P:=Tryz.prog) w 70 _ _ (some b) Tryz.underlying70
 go_enter Tryz.func91,Tryz.ntmps91
 go_wp2
 rw[run_callFunc_extern Tryz.func142 kR0 kR0 kR0 (e:=Extern.MapsClone.clone) kR0,run_maps_clone_sl w 70 hb];simp only[Result.andThen];rw[Cs]
 go_wp2
 rw[run_typeAssert_map_sl _ 70 20 _ _ _ Tryz.underlying70];simp only[Result.andThen];rw[Cs]
 go_wp2
 go_ret
 exact⟨rfl,rfl⟩
set_option maxRecDepth 100000 in
set_option maxHeartbeats 4000000 in
theorem y7i(b:Nat)(r:Array MapEntry)(ck:Nat)(w:World)(hb:w.heap[b]?=some (.map r ck)) :
 Calls Tryz.prog 90 #[.map (some b)] w λe w'=>e=.returned (.map (some w.heap.size))/\w'=w.alloc (.map r ck):=by
 have hq:=λw=>run_eql_map_nil_sl (P:=Tryz.prog) w 69 _ _ (some b) Tryz.underlying69
 go_enter Tryz.func90,Tryz.ntmps90
 go_wp2
 rw[run_callFunc_extern Tryz.func142 kR0 kR0 kR0 (e:=Extern.MapsClone.clone) kR0,run_maps_clone_sl w 69 hb];simp only[Result.andThen];rw[Cs]
 go_wp2
 rw[run_typeAssert_map_sl _ 69 20 _ _ _ Tryz.underlying69];simp only[Result.andThen];rw[Cs]
 go_wp2
 go_ret
 exact⟨rfl,rfl⟩
theorem key5E:∃f0 f1 f2 f3 f4,K5 Tryz.prog 171 f0 f1 f2 f3 f4:=⟨_,_,_,_,_,⟨Tryz.underlying171,by kernel_rfl,Tryz.underlying3,Tryz.underlying3,Tryz.underlying3,Tryz.underlying3,Tryz.underlying3,by decide,by decide,by decide,by decide,by decide,rfl,rfl,rfl,rfl,rfl⟩⟩
mutual
def kdN:Nd->Bool
 |.mk kind _ _ _ _ _ _ ks=>decide (1<=kind)&&kdK ks
def kdL:List Nd->Bool
 |[]=>true
 |x::r=>kdN x&&kdL r
def kdK:List (List Nd)->Bool
 |[]=>true
 |l::r=>kdL l&&kdK r
end
theorem kdN_eq(x:Nd):kdN x=(decide (1<=x.kind)&&kdK x.kids):=by cases x;simp only[kdN];rfl
theorem yw8{u:Un}{f:Fl}{x:Nd}{s:List Int}{w:Wh}{tys outs:List Int}(h:(z8u u f x s w).ok tys outs=true):1<=x.kind:=by
 rcases Int.lt_or_le x.kind 1 with hk|hk
 ·exfalso;have e:∀n:Int,1<=n->(x.kind==n)=false:=λn hn=>by simp only[Aa];omega
  unfold z8u at h;simp only[e 1 oM0,e 2 oM0,e 3 oM0,e 4 oM0,e 5 oM0,e 6 oM0,e 7 oM0,e 8 oM0,e 9 oM0,e 12 oM0,e 13 oM0,e 14 oM0,e 15 oM0,As,Bv]at h;simp[SForm.ok]at h
 ·exact hk
mutual
theorem j1s(u:Un)(f:Fl):∀(x:Nd)(deep:Int)(w:Wh)(s:List Int),z85 u f deep w s x=true->kdN x=true
 |.mk kind op n name args outs params ks,deep,w,s,h=>by
  have hb:=z2s u f deep w s h;simp only[kdN,A0,Ba]
  by_cases h10:kind=10
  ·refine⟨by omega,?_⟩;obtain⟨a,b,hk⟩:=z3h hb h10;rw[z6l u f deep w s hb h10 hk]at h;simp only[A0,z4p]at h;simp only[Nd.kids]at hk
   match ks,hk with
   |[a',b'],hk =>
    cases hk
    simp only[kdK,A0,Cd];exact⟨zc6 u f a _ _ _ h.1.1.1.2.2,zc6 u f b _ _ _ h.1.1.2.2⟩
  ·by_cases h11:kind=11
   ·refine⟨by omega,?_⟩;obtain⟨a,hk⟩:=z25 hb h11;rw[z4q u f deep w s hb h11 hk]at h;simp only[A0,z4p]at h;simp only[Nd.kids]at hk
    match ks,hk with
    |[a'],hk =>
     cases hk
     simp only[kdK,Cd];exact zc6 u f a _ _ _ h.1.1.2.2
   ·have e10:(kind==10)=false:=by simpa using h10
    have e11:(kind==11)=false:=by simpa using h11
    have hk0:=z66 hb e10 e11;simp only[Nd.kids]at hk0;rw[z1e u f deep w s hb e10 e11]at h;exact⟨yw8 h,by rw[hk0];rfl⟩
theorem zc6(u:Un)(f:Fl):∀(l:List Nd)(deep:Int)(w:Wh)(s:List Int),vGo u f deep w s l=true->kdL l=true
 |[],_,_,_,_=>rfl
 |x::r,deep,w,s,h=>by
  simp only[vGo,A0]at h;simp only[kdL,A0];exact⟨j1s u f x _ _ _ h.1.1.2,zc6 u f r _ _ _ h.2⟩
end
theorem kd_valid{u:Un}(h:(z4v u).1=0):∀f∈u.flows,kdL f.body=true:=by
 rw[z9f]at h;intro f hf;have hF:=((z6m u).1 h).2 f hf;unfold z5i at hF;simp only[A0]at hF;obtain⟨h1,h2⟩:=hF;have hp:f.params.toNat<=f.types.length:=by
  have a1:=h1.1.1.1.1;have a2:=h1.1.1.2;simp only[Bi,Cg]at a1 a2;omega
 have hn:(z5f f.params.toNat f.types.length).length=f.types.length:=z4h hp;rw[zf0 u f f.body 1 z3z _ _ hn]at h2;have hv:=h2.1;simp only[z4p,A0]at hv;exact zc6 u f f.body _ _ _ hv.2
def z6e(a b:Nd):Bool:=a.kind==b.kind&&a.op==b.op&&a.n==b.n&&decide (a.kind<=4)&&a.args==b.args
mutual
def onN(pre:List Nd):Nd->Bool
 |.mk kind op n name args outs params ks=>!(pre.any λy=>z6e y (.mk kind op n name args outs params ks))&&onK ks
def onL(pre:List Nd):List Nd->Bool
 |[]=>true
 |x::r=>onN pre x&&onL (pre++[x]) r
def onK:List (List Nd)->Bool
 |[]=>true
 |l::r=>onL [] l&&onK r
end
theorem j2i(pre:List Nd)(x:Nd):onN pre x=(!(pre.any λy=>z6e y x)&&onK x.kids):=by cases x;simp only[onN,Nd.kids]
def y4c(u:Un):Bool:=u.flows.all λf=>onL [] f.body
theorem y7e{y x:Nd}(h:z6e y x=true):y.kind=x.kind/\y.kind<=4/\z3t y=z3t x:=by
 simp only[z6e,A0,At,Ba]at h;obtain⟨⟨⟨⟨h1,h2⟩,h3⟩,h4⟩,h5⟩:=h;refine⟨h1,h4,?_⟩;unfold z3t;rw[h1,h2,h3,h5]
theorem pre_no{pre:List Nd}{x:Nd}(h:∀y∈pre,z6e y x=false):(pre.any λy=>z6e y x)=false:=by
 rw[List.any_eq_false];exact λy hy=>by rw[h y hy];simp
def Known(tb:Tb)(pre:List Nd):Prop:=∀y∈pre,stK y.kind=true->aGet (z3t y) tb.seen≠none
mutual
theorem on_node:∀(x:Nd)(tb:Tb)(to:TT)(pre:List Nd),Known tb pre->kdN x=true->onL pre (z0r tb to x).1=true/\Known (z0r tb to x).2.1 (pre++(z0r tb to x).1)
 |.mk kind op n name args outs params ks,tb,to,pre,hk,hd=>by
  rw[kdN_eq]at hd;simp only[A0,Ba,Nd.kids]at hd;have hks:=j2j ks tb to hd.2;unfold z0r
  by_cases hK:stK kind=true
  ·rw[A5 hK];dsimp only;unfold z76
   cases hp:z4w tb.nums (.mk kind op n name (args.map (z10 to)) outs params (z0n tb to ks).1)with
   |some y=>exact⟨by simp[onL],by simpa using hk⟩
   |none =>
    dsimp only
    cases hs:aGet (z3t (.mk kind op n name (args.map (z10 to)) outs params (z0n tb to ks).1)) tb.seen with
    |some y=>exact⟨by simp[onL],by simpa using hk⟩
    |none =>
     refine⟨?_,λy hy hyk=>?_⟩
     ·simp only[C6,onL,Cd];rw[j2i];have:=pre_no (pre:=pre) (x:=.mk kind op n name (args.map (z10 to)) outs params (z0n tb to ks).1) λy hy=>by
       cases ha:z6e y (.mk kind op n name (args.map (z10 to)) outs params (z0n tb to ks).1)with
       |false=>rfl
       |true =>
        obtain⟨e1,e2,e3⟩:=y7e ha;exact A9 (e3▸hs) (hk y hy (by rw[e1];exact hK))
      rw[this,Dn,B6];exact hks
     ·simp only[C6]at hy;rw[z3x]
      by_cases e:z3t y=z3t (.mk kind op n name (args.map (z10 to)) outs params (z0n tb to ks).1)
      ·rw[A5 e];simp
      ·rw[A1 e];rcases B3.1 hy with hy|hy
       ·exact hk y hy hyk
       ·obtain rfl:=Al.1 hy;exact A9 rfl e
  ·rw[A1 hK];refine⟨?_,λy hy hyk=>?_⟩
   ·simp only[onL,Cd];rw[j2i];have:=pre_no (pre:=pre) (x:=.mk kind op n name (args.map (z10 to)) outs params (z0n tb to ks).1) λy hy=>by
     cases ha:z6e y (.mk kind op n name (args.map (z10 to)) outs params (z0n tb to ks).1)with
     |false=>rfl
     |true =>
      obtain⟨e1,e2,_⟩:=y7e ha;have h1:1<=kind:=hd.1;have e1':y.kind=kind:=e1;exfalso;apply hK;simp only[stK,Bb,At];omega
    rw[this,Dn,B6];exact hks
   ·rcases B3.1 hy with hy|hy
    ·exact hk y hy hyk
    ·obtain rfl:=Al.1 hy;exact A9 hyk hK
theorem ye7:∀(l:List Nd)(tb:Tb)(to:TT)(pre:List Nd),Known tb pre->kdL l=true->onL pre (z0f tb to l).1=true
 |[],_,_,_,_,_=>by simp[z0f,onL]
 |x::r,tb,to,pre,hk,hd=>by
  simp only[kdL,A0]at hd;obtain⟨h1,h2⟩:=on_node x tb to pre hk hd.1;have h3:=ye7 r (z0r tb to x).2.1 (z0r tb to x).2.2 _ h2 hd.2;simp only[z0f];have hl:=y4z tb to x
  match hn:(z0r tb to x).1,hl with
  |[],_=>rw[hn]at h3;simpa using h3
  |[y],_ =>
   rw[hn]at h1 h3;simp only[onL,Cd]at h1;simp only[List.singleton_append,onL,h1,B6];exact h3
theorem j2j:∀(ks:List (List Nd)) (tb:Tb) (to:TT),kdK ks=true->onK (z0n tb to ks).1=true
 |[],_,_,_=>by simp[z0n,onK]
 |l::r,tb,to,hd=>by
  simp only[kdK,A0]at hd;simp only[z0n,onK,A0];exact⟨ye7 l tb to [] (λy hy=>by simp at hy) hd.1,j2j r tb _ hd.2⟩
end
theorem y49(u:Un):y4c (z99 stB u).1=true:=by
 by_cases h:(z17 u).1=0
 ·rw[z6a stB h];unfold y4c;rw[Bj];intro g hg;obtain⟨f,hf,rfl⟩:=Bz.1 (show g∈u.flows.map (z5n stB)from hg);exact ye7 f.body _ _ [] (λy hy=>by simp at hy) (kd_valid (by rw[z9f];exact h) f hf)
 ·rw[y3z stB h];rfl
def inEs(l:TT):List (Value×PV):=l.map λe=>(vKey e.1,vInt e.2)
def tH(tb:Tb)(to:TT):List (Nat×HO):=[(3001,.map (kyEs tb.seen)),(3002,.map (inEs tb.nums)),(3003,.map (inEs to))]
abbrev tV:IV:=.agg [.mp 3001,.mp 3002,.mp 3003]
theorem z3q(l:TT):∀e∈inEs l,z1y (.int .i64) e.1=true:=λe he=>by
 obtain⟨x,_,rfl⟩:=Bz.1 he;rfl
theorem j1u(a b:Int):keyB (vKey a) (vKey b)=decide (a=b):=by
 show(a==b)=_
 by_cases h:a=b<;>simp[h]
theorem y80(v:Int):∀l:TT,z1z (vKey v) (inEs l)=(aGet v l).map vInt
 |[]=>rfl
 |(a,b)::r=>by
  have ih:=y80 v r;unfold inEs at ih⊢;simp only[B7,z1z,aGet,j1u,Ba]
  by_cases h:v=a
  ·rw[A5 h,A5 h];rfl
  ·rw[A1 h,A1 h];exact ih
theorem zy9(k v:Int):∀l:TT,mput (vKey k) (vInt v) (inEs l)=inEs (aPut k v l)
 |[]=>rfl
 |(a,b)::r=>by
  have ih:=zy9 k v r;unfold inEs at ih⊢;simp only[B7,mput,aPut,j1u,Ba]
  by_cases h:k=a
  ·rw[A5 h,A5 h];rfl
  ·rw[A1 h,A1 h,ih];rfl
theorem y0r(v:Int)(l:TT):((z1z (vKey v) (inEs l)).getD (.val (.int .i64 0)),(z1z (vKey v) (inEs l)).isSome)=(vInt ((aGet v l).getD 0),(aGet v l).isSome):=by
 rw[y80]
 cases aGet v l<;>rfl
theorem j02{to:TT}{v:Int}(h:(aGet v to).isSome=true):(aGet v to).getD 0=z10 to v:=by
 unfold z10
 cases hg:aGet v to with
 |none=>rw[hg]at h;cases h
 |some y=>rfl
theorem j01{to:TT}{v:Int}(h:(aGet v to).isSome=false):z10 to v=v:=by
 unfold z10
 cases hg:aGet v to with
 |none=>rfl
 |some y=>rw[hg]at h;cases h
theorem yr5{nums:TT}{v:Int}{q:Int->Bool}:y31 nums v q=((aGet v nums).isSome&&q ((aGet v nums).getD 0)):=by
 unfold y31
 cases aGet v nums<;>rfl
theorem j21:∀l:List Nd,l.length<=lsW l
 |[]=>by simp
 |x::r=>by
  have h1:=j21 r;have h2:1<=ndW x:=by cases x;simp only[ndW];omega
  simp only[lsW,A3];omega
theorem args_ne{l m:List Int}(h:¬(l.length:Int)=m.length):(l==m)=false:=by
 cases hb:(l==m)with
 |false=>rfl
 |true=>exact A9 (by rw[Av hb]) h
theorem yo3{o:Oper}{fr:Fr}{hp:Hp}{Rl:List Nat}{x y:Operand}{k:Nat}{l:List (Ky×Int)}{q:Ky}{n:Int}{b:Bool}(hq:((aGet q l).getD 0,(aGet q l).isSome)=(n,b))(ho:o.op=.lookup 69 x y true)(hx:fr.ev x=some (.mp k))(hy:fr.ev y=some (.pv (kyP q)))(hk:look hp k=some (.map (kyEs l))):OkF Tryz.prog Rl o fr hp ⟨.tup [iInt n,iBool b],[],[k],[]⟩:=by
 have hops:o.op.operands.toList=[x,y]:=by rw[ho];rfl
 obtain⟨f0,f1,f2,f3,f4,K⟩:=key5E;refine .pure λc R1 fr2 hp2 hg hh hR=>?_;have h:=ye4 (c:=c) (R1:=R1) K ho (hg.ev hx (by rw[hops];simp)) (hg.ev hy (by rw[hops];simp)) (hh.at hk (.head _)) Tryz.underlying69 tZ3 (hR _ (.head _));obtain⟨h1,h2⟩:=Ei hq;rw[h1,h2]at h;exact h
theorem okf_setK{o:Oper}{fr:Fr}{hp:Hp}{Rl:List Nat}{x y z:Operand}{k:Nat}{l:List (Ky×Int)}{q:Ky}{v:Int}(hnew:aGet q l=none)(ho:o.op=.mapUpdate 69 x y z)(hx:fr.ev x=some (.mp k))(hy:fr.ev y=some (.pv (kyP q)))(hz:fr.ev z=some (iInt v))(hk:look hp k=some (.map (kyEs l)))(hR:nIn k Rl=false):OkF Tryz.prog Rl o fr hp ⟨.pv (.val undef),[(k,some (.map (kyEs (aPut q v l))))],[k],[]⟩:=by
 have hops:o.op.operands.toList=[x,y,z]:=by rw[ho];rfl
 obtain⟨f0,f1,f2,f3,f4,K⟩:=key5E;exact λc fr2 hp2 hc _ hg hh _=>y62 K ho (hg.ev hx (by rw[hops];simp)) (hg.ev hy (by rw[hops];simp)) (hg.ev hz (by rw[hops];simp)) (hh.at hk (.head _)) (notR hc hR) Tryz.underlying69 hnew
theorem y4q(op:Int):SC Tryz.prog 144 [iInt op] [] (λk=>k∈[]) (iBool (z8v op)) []:=by
 refine K0 tb {} [] Tryz.func144 rfl rfl ?_;rcases(show op=1∨op=3∨op=6∨op=7∨op=8∨op=16∨op=17∨(op≠1/\op≠3/\op≠6/\op≠7/\op≠8/\op≠16/\op≠17) by omega)with rfl|rfl|rfl|rfl|rfl|rfl|rfl|⟨k1,k2,k3,k4,k5,k6,k7⟩
 iterate 7 exact⟨sI,Gf⟩
 have no:∀{i:Int},op≠i->(op==i)=true->False:=λh e=>h (Av e);exact z00 (λh=>(no k1 h).elim) λ_=>z00 (λh=>(no k2 h).elim) λ_=>z00 (λh=>(no k3 h).elim) λ_=>z00 (λh=>(no k4 h).elim) λ_=>z00 (λh=>(no k5 h).elim) λ_=>z00 (λh=>(no k6 h).elim) λ_=>z00 (λh=>(no k7 h).elim) λ_=>⟨sE (Ah iBool (by simp[z8v,k1,k2,k3,k4,k5,k6,k7])),Gf⟩
theorem y4p(op n:Int):SC Tryz.prog 143 [iInt op,iInt n] [] (λk=>k∈[]) (iBool (z71 op n)) []:=by
 refine K0 tb {} [] Tryz.func143 rfl rfl ?_;rcases(show op=1∨op=2∨op=7∨op=8∨op=9∨op=10∨op=11∨op=3∨op=4∨op=6∨(op≠1/\op≠2/\op≠7/\op≠8/\op≠9/\op≠10/\op≠11/\op≠3/\op≠4/\op≠6) by omega)with rfl|rfl|rfl|rfl|rfl|rfl|rfl|rfl|rfl|rfl|⟨k1,k2,k3,k4,k5,k6,k7,k8,k9,k10⟩
 iterate 10 exact⟨sI,Gf⟩
 have no:∀{i:Int},op≠i->(op==i)=true->False:=λh e=>h (Av e);exact z00 (λh=>(no k1 h).elim) λ_=>z00 (λh=>(no k2 h).elim) λ_=>z00 (λh=>(no k3 h).elim) λ_=>z00 (λh=>(no k4 h).elim) λ_=>z00 (λh=>(no k5 h).elim) λ_=>z00 (λh=>(no k6 h).elim) λ_=>z00 (λh=>(no k7 h).elim) λ_=>z00 (λh=>(no k8 h).elim) λ_=>z00 (λh=>(no k9 h).elim) λ_=>z00 (λh=>(no k10 h).elim) λ_=>⟨sE (Ah iBool (by simp[z71,k1,k2,k3,k4,k5,k6,k7,k8,k9,k10])),Gf⟩
theorem sc_stKey(x:Nd)(h3:x.kind=3->0<x.args.length)(h4:x.kind=4->1<x.args.length):SC Tryz.prog 93 [.pv (ndv x)] [] (λk=>k∈[]) (.pv (kyP (z3t x))) []:=by
 refine K0 tb { pb:=[101] } [] Tryz.func93 rfl rfl ?_;obtain⟨kind,op,n,name,args,outs,params,kids⟩:=x;simp only[Nd.kind,Nd.args]at h3 h4;rcases(show kind=3∨kind=4∨(kind≠3/\kind≠4) by omega)with rfl|rfl|⟨k1,k2⟩
 ·match args,h3 rfl with
  |a::r,_=>exact⟨(show((a::r).map eInt)[0]?=some [vInt a]from rfl),rfl,sI,Gf⟩
 ·match args,h4 rfl with
  |[_],h=>exact A9 h sI0
  |a::b::r,_ =>
   have hT:=y4q op;have hk:z3t (.mk 4 op n name (a::b::r) outs params kids)=if z8v op&&decide (a > b)then⟨4,op,n,b,a⟩else⟨4,op,n,a,b⟩:=rfl
   rw[hk];generalize z8v op=c at hT
   cases c
   ·exact⟨(show((a::b::r).map eInt)[0]?=some [vInt a]from rfl),rfl,(show((a::b::r).map eInt)[1]?=some [vInt b]from rfl),rfl,[],hT,sR,Gf,rfl,sI,Gf⟩
   ·exact⟨(show((a::b::r).map eInt)[0]?=some [vInt a]from rfl),rfl,(show((a::b::r).map eInt)[1]?=some [vInt b]from rfl),rfl,[],hT,sR,Gf,rfl,z00 (λh=>⟨sE (by rw[show decide (a > b)=true from h];rfl),Gf⟩) λh=>⟨sE (by rw[show decide (a > b)=false from h];rfl),Gf⟩⟩
 ·have no:∀{i:Int},kind≠i->(kind==i)=true->False:=λh e=>h (Av e);exact z00 (λh=>(no k1 h).elim) λ_=>z00 (λh=>(no k2 h).elim) λ_=>⟨sE (by simp[z3t,Nd.kind,Nd.op,Nd.n,k1,k2,kyP];rfl),Gf⟩
theorem j4i(l:List Int)(tb0:Tb)(to:TT)(hb:l.length<=34359738368):SC Tryz.prog 49 [tV,.pv (ints l)] (tH tb0 to) (λk=>k∈[3001,3002,3003]) (.pv (ints (l.map (z10 to)))) (tH tb0 to):=by
 refine K0 tb { gh:=[(1,[.grow 4 104 3 1]),(9,[.fz 4 104])] } [3001,3002,3003] Tryz.func49 rfl rfl ?_;refine⟨Nat×List Int,λq=>[(11,iInt ((q.1:Nat):Int)),(4,.sl 104 (q.2.map eInt).length)],λq=>[(104,.row ⟨3,1⟩ (q.2.map eInt))],λq=>l.length-q.1,λq=>q.1<=l.length/\q.2.length<=q.1/\q.2++(l.drop q.1).map (z10 to)=l.map (z10 to),[],(0,[]),⟨Aj _,Ag _,rfl⟩,Gi,Gg,?_⟩;rintro⟨k,acc⟩ ⟨k1,k2,k3⟩;dsimp only at k1 k2 k3;refine z00 (λhc=>?_) λhc=>?_
 ·have hlt:k<l.length:=z12 (f:=eInt) rfl hc;obtain⟨x,x1,x2,x3,x4⟩:=z0u hlt;rw[x3,B7]at k3;have hg:=y0r x to
  cases hs:(aGet x to).isSome
  ·rw[hs]at hg;rw[j01 hs]at k3;exact⟨z02 (f:=eInt) x1,rfl,VAsk.mk (p:=vInt ((aGet x to).getD 0)) (b:=false) rfl (z3q _) hg ⟨rfl,z3u rfl,by simp;omega,z01 rfl oM0,(k+1,acc++[x]),z05 hlt,⟨hlt,by rw[B8];exact Nat.succ_le_succ k2,by rw[Ci];exact k3⟩,⟨rfl,slq sI0,Gf⟩,⟨rwq (by simp[eInt]),Gf⟩,rfl,rfl,rfl,rfl⟩⟩
  ·rw[hs,j02 hs]at hg;exact⟨z02 (f:=eInt) x1,rfl,VAsk.mk (p:=vInt (z10 to x)) (b:=true) rfl (z3q _) hg ⟨rfl,z3u rfl,by simp;omega,z01 rfl oM0,(k+1,acc++[z10 to x]),z05 hlt,⟨hlt,by rw[B8];exact Nat.succ_le_succ k2,by rw[Ci];exact k3⟩,⟨rfl,slq sI0,Gf⟩,⟨rwq (by simp[eInt]),Gf⟩,rfl,rfl,rfl,rfl⟩⟩
 ·have hge:l.length<=k:=z13 (f:=eInt) rfl hc;rw[Ae hge,Cv,Cy]at k3;exact⟨rfl,sE (by rw[<- k3];rfl),rfl,rfl,rfl,Gf⟩
theorem yy7(x:Nd)(tb0:Tb)(to:TT)(h4:x.kind=4->1<x.args.length):SC Tryz.prog 92 [tV,.pv (ndv x)] (tH tb0 to) (λk=>k∈[3001,3002,3003]) (.tup [iInt ((z4w tb0.nums x).getD 0),iBool (z4w tb0.nums x).isSome]) (tH tb0 to):=by
 refine K0 tb { pb:=[103],jn:=[6] } [3001,3002,3003] Tryz.func92 rfl rfl ?_;obtain⟨kind,op,n,name,args,outs,params,kids⟩:=x;simp only[Nd.kind,Nd.args]at h4;refine z00 (λh=>?_) λh=>?_
 ·have h:(kind != 4)=true:=h;have e:z4w tb0.nums (.mk kind op n name args outs params kids)=none:=by unfold z4w;rw[A5 (show((Nd.mk kind op n name args outs params kids).kind != 4)=true from h)]
  rw[e];exact⟨sI,rfl,rfl,rfl,Gf⟩
 ·have h:(kind != 4)=false:=h;obtain rfl:kind=4:=by simpa using h
  match args,h4 rfl with
  |[_],h=>exact A9 h sI0
  |a::b::r,_ =>
   have e:z4w tb0.nums (.mk 4 op n name (a::b::r) outs params kids)=if y31 tb0.nums b (z71 op)then some a else if y31 tb0.nums a (λm=>z8v op&&z71 op m)then some b else none:=rfl
   rw[e,yr5,yr5];have ga:=y0r a tb0.nums;have gb:=y0r b tb0.nums;have i0:((a::b::r).map eInt)[0]?=some [vInt a]:=rfl;have i1:((a::b::r).map eInt)[1]?=some [vInt b]:=rfl;generalize(aGet a tb0.nums).getD 0=va at ga;generalize(aGet b tb0.nums).getD 0=vb at gb;generalize(aGet a tb0.nums).isSome=sa at ga;generalize(aGet b tb0.nums).isSome=sb at gb;have hRb:=y4p op vb;have hRa:=y4p op va;have hT:=y4q op;generalize z71 op vb=rb at hRb;generalize z71 op va=ra at hRa;generalize z8v op=ta at hT;refine⟨Unit,λ_=>[],λ_=>[],λ_=>(sb&&rb)=false,[],?_,?_⟩
   ·cases sb
    ·exact⟨i1,rfl,VAsk.mk (p:=vInt vb) (b:=false) rfl (z3q _) gb ⟨(),rfl,Gf,Gf,rfl,rfl,rfl,rfl⟩⟩
    ·cases rb
     ·exact⟨i1,rfl,VAsk.mk (p:=vInt vb) (b:=true) rfl (z3q _) gb ⟨[],hRb,sR,Gf,rfl,(),rfl,Gf,Gf,rfl,rfl,rfl,rfl⟩⟩
     ·exact⟨i1,rfl,VAsk.mk (p:=vInt vb) (b:=true) rfl (z3q _) gb ⟨[],hRb,sR,Gf,rfl,i0,rfl,sI,rfl,rfl,rfl,Gf⟩⟩
   ·intro _ hI;rw[hI]
    cases sa
    ·exact⟨i0,rfl,VAsk.mk (p:=vInt va) (b:=false) rfl (z3q _) ga ⟨sI,rfl,rfl,rfl,Gf⟩⟩
    ·cases ta
     ·exact⟨i0,rfl,VAsk.mk (p:=vInt va) (b:=true) rfl (z3q _) ga ⟨[],hT,sR,Gf,rfl,sI,rfl,rfl,rfl,Gf⟩⟩
     ·cases ra
      ·exact⟨i0,rfl,VAsk.mk (p:=vInt va) (b:=true) rfl (z3q _) ga ⟨[],hT,sR,Gf,rfl,[],hRa,sR,Gf,rfl,sI,rfl,rfl,rfl,Gf⟩⟩
      ·exact⟨i0,rfl,VAsk.mk (p:=vInt va) (b:=true) rfl (z3q _) ga ⟨[],hT,sR,Gf,rfl,[],hRa,sR,Gf,rfl,i1,rfl,sI,rfl,rfl,rfl,Gf⟩⟩
theorem j4h(x:Nd)(tb0:Tb)(to:TT)(ho:x.outs≠[])(h3:x.kind=3->0<x.args.length)(h4:x.kind=4->1<x.args.length):SC Tryz.prog 51 [tV,.pv (ndv x)] (tH tb0 to) (λk=>k∈[]) (iBool (z76 tb0 to x).1) (tH (z76 tb0 to x).2.1 (z76 tb0 to x).2.2):=by
 refine K0 tb { pb:=[103],an:=[7003,11004] } [] Tryz.func51 rfl rfl ?_;have hP:=yy7 x tb0 to h4;have hK:=sc_stKey x h3 h4
 have e:z76 tb0 to x=(match z4w tb0.nums x with
  |some y=>(false,tb0,aPut (x.outs.headD 0) y to)
  |none=>match aGet (z3t x) tb0.seen with
   |some y=>(false,tb0,aPut (x.outs.headD 0) y to)
   |none=>(true,⟨aPut (z3t x) (x.outs.headD 0) tb0.seen,if x.kind==1 then aPut (x.outs.headD 0) x.n tb0.nums else tb0.nums⟩,to)):=rfl
 rw[e];clear e;generalize z4w tb0.nums x=pl at hP;generalize z3t x=ky at hK;obtain⟨kind,op,n,name,args,outs,params,kids⟩:=x;obtain⟨o0,ors,rfl⟩:=Cf (show outs≠[]from ho);have i0:((o0::ors).map eInt)[0]?=some [vInt o0]:=rfl
 cases pl with
 |some y =>
  exact⟨i0,rfl,[3001,3002,3003],hP,sR,Gm,rfl,rfl,z3q _,sI,rfl,rfl,mpq (zy9 _ _ _),Gf⟩
 |none =>
  cases hq:aGet ky tb0.seen with
  |some y =>
   exact⟨i0,rfl,[3001,3002,3003],hP,sR,Gm,rfl,[],hK,sR,Gf,rfl,yo3 (n:=y) (b:=true) (by rw[hq];rfl) rfl rfl rfl rfl,rfl,z3q _,sI,rfl,rfl,mpq (zy9 _ _ _),Gf⟩
  |none =>
   refine⟨i0,rfl,[3001,3002,3003],hP,sR,Gm,rfl,[],hK,sR,Gf,rfl,yo3 (n:=0) (b:=false) (by rw[hq];rfl) rfl rfl rfl rfl,okf_setK hq rfl rfl rfl rfl rfl rfl,z00 (λh=>?_) λh=>?_⟩
   ·have h:(kind==1)=true:=h;refine⟨rfl,z3q _,sI,rfl,mpq ?_,rfl,Gf⟩;show mput _ _ _=inEs (if (kind==1)=true then _ else _);rw[A5 h];exact zy9 _ _ _
   ·have h:(kind==1)=false:=h;refine⟨sI,rfl,mpq ?_,rfl,Gf⟩;show inEs tb0.nums=inEs (if (kind==1)=true then _ else _);rw[A1 (by rw[h];decide)]
theorem sc_stKid(tb0:Tb)(to:TT):SC Tryz.prog 50 [tV] (tH tb0 to) (λk=>k∈[3001,3002,3003]) (.agg [.mp 3101,.mp 3102,.mp 3003]) ([(3101,.map (kyEs tb0.seen)),(3102,.map (inEs tb0.nums))]++tH tb0 to):=by
 refine K0 tb {} [3001,3002,3003] Tryz.func50 rfl rfl ?_;have hC1:SC Tryz.prog 90 [.mp 3001] [(3001,.map (kyEs tb0.seen))] (λk=>k∈[3001]) (.mp 3101) [(3101,.map (kyEs tb0.seen)),(3001,.map (kyEs tb0.seen))]:=L0 (((SC.clone (es:=kyEs tb0.seen) y7i).sw 1 3001).sw 8 3101) λk _ hk=>by rw[Al.1 hk];exact D6
 have hC2:SC Tryz.prog 91 [.mp 3002] [(3002,.map (inEs tb0.nums))] (λk=>k∈[3002]) (.mp 3102) [(3102,.map (inEs tb0.nums)),(3002,.map (inEs tb0.nums))]:=L0 (((SC.clone (es:=inEs tb0.nums) y7h).sw 1 3002).sw 8 3102) λk _ hk=>by rw[Al.1 hk];exact D6
 exact⟨[3001],hC1,sR,⟨rfl,rfl,by simp,Gf⟩,rfl,[3002],hC2,sR,⟨rfl,rfl,by simp,Gf⟩,rfl,sI,rfl,rfl,rfl,rfl,rfl,Gf⟩
theorem zo1:∀(N:Nat)(l:List Nd)(tb0:Tb)(to:TT),zu1 l=true->lsW l<=34359738368->SizeOf.sizeOf l<N->SC Tryz.prog 26 [tV,.pv (z2h l)] (tH tb0 to) (λk=>k∈[]) (.pv (z2h (z0f tb0 to l).1)) (tH (z0f tb0 to l).2.1 (z0f tb0 to l).2.2)
 |0,_,_,_,_,_,h=>A9 h (An _)
 |N+1,l,tb0,to,hok,hb,hN=>by
  refine K0 tb { gh:=[(1,[.grow 4 104 47 8]),(6,[.grow 7 107 48 1]),(11,[.fz 7 107]),(20,[.fz 4 104])] } [] Tryz.func26 rfl rfl ?_;have hle:=j21 l;have hlen:=zf6 l tb0 to;generalize hR:z0f tb0 to l=R at hlen;refine⟨Nat×List Nd×Tb×TT,λq=>[(12,iInt ((q.1:Nat):Int)),(4,.sl 104 q.2.1.length)],λq=>[(104,.row ⟨47,8⟩ (q.2.1.map Nd.enc)),(3001,.map (kyEs q.2.2.1.seen)),(3002,.map (inEs q.2.2.1.nums)),(3003,.map (inEs q.2.2.2))],λq=>l.length-q.1,λq=>q.1<=l.length/\(q.2.1++(z0f q.2.2.1 q.2.2.2 (l.drop q.1)).1,(z0f q.2.2.1 q.2.2.2 (l.drop q.1)).2)=R,[],(0,[],tb0,to),⟨Aj _,hR⟩,Gi,Gk,?_⟩;clear hR;rintro⟨k,out,t,o⟩ ⟨k1,k2⟩;dsimp only at k1 k2;refine z00 (λhc=>?_) λhc=>?_
  ·have hlt:k<l.length:=z12 (f:=Nd.enc) rfl hc;obtain⟨x,x1,x2,x3,x4⟩:=z0u hlt;have hWx:=zb5 x;have hWl:=y11 x4;have hkl:=ym2 x.kids;have hxok:=y9w hok x4;rw[zf7]at hxok;simp only[A0,Bb,Bi,bne_iff_ne,ne_eq,Ba]at hxok;rw[x3,z0f]at k2;have hO:(out.map Nd.enc).length=out.length:=Ab _;refine⟨z0a x1,rfl,[3001,3002,3003],j4i x.args t o oM0,sR,Gm,rfl,Nat×List (List Nd)×TT,λq=>[(24,iInt ((q.1:Nat):Int)),(7,.sl 107 q.2.1.length)],λq=>[(107,.row ⟨48,1⟩ (q.2.1.map eKid)),(3003,.map (inEs q.2.2))],λq=>x.kids.length-q.1,λq=>q.1<=x.kids.length/\q.2.1.length=q.1/\(q.2.1++(z0n t q.2.2 (x.kids.drop q.1)).1,(z0n t q.2.2 (x.kids.drop q.1)).2)=z0n t o x.kids,[],(0,[],o),⟨Aj _,rfl,rfl⟩,Gi,Gi,?_⟩;rintro⟨j,acc,o2⟩ ⟨j1,j2,j3⟩;dsimp only at j1 j2 j3;refine z00 (λhc2=>?_) λhc2=>?_
   ·have hlt2:j<x.kids.length:=z12 (f:=eKid) rfl hc2;obtain⟨q,q1,q2,q3,q4⟩:=z0u hlt2;have hqW:=z9o q4;have hQ:=((zo1 N q t o2 (y9v hxok.2 q4) oM0 (Bg (zc7 x4 rfl q4) (C7 hN))).sw 3001 3101).sw 3002 3102;have hQ:SC Tryz.prog 26 [.agg [.mp 3101,.mp 3102,.mp 3003],.pv (z2h q)] [(3101,.map (kyEs t.seen)),(3102,.map (inEs t.nums)),(3003,.map (inEs o2))] (λk=>k∈[]) (.pv (z2h (z0f t o2 q).1)) [(3101,.map (kyEs (z0f t o2 q).2.1.seen)),(3102,.map (inEs (z0f t o2 q).2.1.nums)),(3003,.map (inEs (z0f t o2 q).2.2))]:=L0 hQ λk _ h=>by cases h
    rw[q3,z0n]at j3;have hA:(acc.map eKid).length=acc.length:=Ab _;exact⟨z02 (f:=eKid) q1,rfl,[3001,3002,3003],sc_stKid t o2,sR,Gm,rfl,[],hQ,sR,Gj,rfl,hA,z3u rfl,by simp;omega,z01 rfl oM0,(j+1,acc++[(z0f t o2 q).1],(z0f t o2 q).2.2),z05 hlt2,⟨hlt2,by simp[j2],by rw[Ci];exact j3⟩,⟨rfl,slq sI0,Gf⟩,⟨rwq (by simp[eKid]),rfl,Gf⟩,rfl,rfl,rfl,rfl⟩
   have hge2:x.kids.length<=j:=z13 (f:=eKid) rfl hc2;rw[Ae hge2,z0n,Cy]at j3;have hA:(acc.map eKid).length=acc.length:=Ab _;have hkl2:acc.length<=x.kids.length:=by omega
   refine⟨hA,?_⟩;rw[z9i,<- j3]at k2;have hnew:z19 t o x=.mk x.kind x.op x.n x.name (x.args.map (z10 o)) x.outs x.params acc:=by unfold z19;rw[<- j3]
   rw[hnew]at k2;have ha3:x.kind=3->0<(x.args.map (z10 o)).length:=λe=>by rw[Ab];rcases hxok.1.1.2 with h|h<;>omega
   have ha4:x.kind=4->1<(x.args.map (z10 o)).length:=λe=>by rw[Ab];rcases hxok.1.2 with h|h<;>omega
   have hlen2:=Ah (λr:List Nd×Tb×TT=>r.1.length) k2;dsimp only at hlen2;simp only[B8]at hlen2;obtain⟨kind,op,n,name,args,outs,params,ks⟩:=x;simp only[Nd.kind,Nd.op,Nd.n,Nd.name,Nd.args,Nd.outs,Nd.params,Nd.kids]at k2 ha3 ha4 hlen2 hxok hWx
   by_cases hk:stK kind=true
   ·have ho:outs≠[]:=by
     rcases hxok.1.1.1 with h|h
     ·rw[hk]at h;cases h
     ·intro e;rw[e]at h;cases h
    have hP:=j4h (.mk kind op n name (args.map (z10 o)) outs params acc) t o2 ho ha3 ha4;simp only[hk,C6]at k2 hlen2;rcases hE:z76 t o2 (.mk kind op n name (args.map (z10 o)) outs params acc)with⟨b,t2,o3⟩;rw[hE]at hP;simp only[hE]at k2 hlen2;have hkk:kind=1∨kind=2∨kind=3∨kind=4:=by simpa[stK,or_assoc]using hk
    cases b
    ·simp only[As,Bv,Dq]at k2;rcases hkk with rfl|rfl|rfl|rfl <;>
     exact⟨[],hP,sR,Gj,rfl,z01 rfl oM0,(k+1,out,t2,o3),z05 hlt,⟨hlt,k2⟩,Gi,Gk,rfl,rfl,rfl,rfl⟩
    ·simp only[C6]at k2 hlen2;simp only[A3,A6]at hlen2;rw[<- Ci]at k2;rcases hkk with rfl|rfl|rfl|rfl <;>
     exact⟨[],hP,sR,Gj,rfl,hO,z3u rfl,by simp;omega,z01 rfl oM0,(k+1,out++[_],t2,o3),z05 hlt,⟨hlt,k2⟩,⟨rfl,slq sI0,Gf⟩,⟨rwq (by rw[yl0];rfl),rfl,rfl,rfl,Gf⟩,rfl,rfl,rfl,rfl⟩
   ·simp only[show stK kind=false by simpa using hk,As,Bv]at k2 hlen2;simp only[A3,A6]at hlen2;rw[<- Ci]at k2;have hkk:kind≠1/\kind≠2/\kind≠3/\kind≠4:=by simpa[stK,and_assoc]using hk
    obtain⟨n1,n2,n3,n4⟩:=hkk;have no:∀{i:Int},kind≠i->(kind==i)=true->False:=λh e=>h (Av e);exact z00 (λh=>(no n1 h).elim) λ_=>z00 (λh=>(no n2 h).elim) λ_=>z00 (λh=>(no n3 h).elim) λ_=>z00 (λh=>(no n4 h).elim) λ_=>⟨hO,z3u rfl,by simp;omega,z01 rfl oM0,(k+1,out++[_],t,o2),z05 hlt,⟨hlt,k2⟩,⟨rfl,slq sI0,Gf⟩,⟨rwq (by rw[yl0];rfl),rfl,rfl,rfl,Gf⟩,rfl,rfl,rfl,rfl⟩
  ·have hge:l.length<=k:=z13 (f:=Nd.enc) rfl hc;rw[Ae hge,z0f,Cy]at k2;subst k2;exact⟨Ab _,sI,rfl,rfl,rfl,Gf⟩
theorem j4g(l:List Nd)(tb0:Tb)(to:TT)(hok:zu1 l=true)(hb:lsW l<=34359738368):SC Tryz.prog 26 [tV,.pv (z2h l)] (tH tb0 to) (λk=>k∈[]) (.pv (z2h (z0f tb0 to l).1)) (tH (z0f tb0 to l).2.1 (z0f tb0 to l).2.2):=zo1 _ l tb0 to hok hb (Ac _)
theorem yf5(u:Un)(hW:z0j u<=34000000000)(hok:(z4v u).1=0->∀f∈u.flows,zu1 f.body=true):SC Tryz.prog 10 [.pv u.enc] [] (λk=>k∈[]) (.tup [.pv (z99 stB u).1.enc,iInt (z99 stB u).2]) []:=by
 have hK:=y4o u (Bm hW dC0);have hw2:u.flows.length<=z0j u:=by unfold z0j;omega
 have hres:z99 stB u=if (z4v u).1=0 then(z3r stB u,0)else(⟨[],[]⟩,1):=by unfold z99;by_cases h:(z4v u).1=0<;>simp[h]
 rw[hres];clear hres;generalize z4v u=c at hK hok⊢;obtain⟨c1,c2⟩:=c;dsimp only at hK hok⊢
 by_cases h:c1=0
 case neg =>
  rw[A1 h];refine K0 tb { pb:=[101] } [] Tryz.func10 rfl rfl ?_;exact⟨[],hK,sR,Gf,rfl,z00 (λ_=>⟨sT2 (sP (z0g _)),Gf⟩) λh2=>A9 h2 (by simp[h])⟩
 rw[A5 h];subst h;refine K0 tb { pb:=[101],ids:=[(27,3001),(28,3002),(29,3003)],gh:=[(5,[.growC 106 1 9 59 5]),(11,[.fzC 106 1 9])] } [] Tryz.func10 rfl rfl ?_;refine⟨[],hK,sR,Gf,rfl,?_⟩;refine⟨Nat,λi=>[(23,iInt ((i:Nat):Int))],λi=>[(106,.box [.pv (arrs u.arrays),.sl 9 i]),(9,.row ⟨59,5⟩ ((u.flows.take i).map λf=>(z5n stB f).enc))],λi=>u.flows.length-i,λi=>i<=u.flows.length,[],0,Aj _,Gg,Gi,?_⟩;intro i hi;have hl:((u.flows.take i).map λf=>(z5n stB f).enc).length=i:=by rw[Ab,Db];omega
 refine z00 (λhc=>?_) λhc=>?_
 ·have hlt:i<u.flows.length:=z12 (f:=Fl.enc) rfl hc;obtain⟨x,x1,x2,x3,x4⟩:=z0u hlt;have hx:=ze6 x4;have hL:=j4g x.body ⟨[],[]⟩ [] (hok rfl x x4) oM0;exact⟨z02 (f:=Fl.enc) x1,rfl,[],hL,sR,Gj,rfl,hl,z3u rfl,by simp;omega,by simp;omega,z01 rfl oM0,i+1,z05 hlt,hlt,Gg,⟨boq rfl,rwq (by rw[x2];simp[z5n,stB,Fl.enc]),Gf⟩,rfl,rfl,rfl,rfl⟩
 ·have hge:u.flows.length<=i:=z13 (f:=Fl.enc) rfl hc;rw[Az hge];have he:(z3r stB u).enc=.agg [arrs u.arrays,.seq (u.flows.map λf=>(z5n stB f).enc)]:=by simp[z3r,Un.enc,flws]
  rw[he];rw[Az hge]at hl;exact⟨hl,sI,Gf⟩
def run0(ins:List Int)(fuel:Int):Rs:={ ins:=ins,ar:=[],st:=0,code:=0,out:=[],cost:=0,fuel:=if fuel<0 then 0 else fuel,spent:=false }
def mEnd(r:Int×Rs):Rs:=if z16 r.2 then r.2 else { r.2 with st:=1,code:=r.1 }
def runv(s:Rs):PV:=.agg [vInt s.st,vInt s.code,ints s.out,vInt s.cost,vInt s.fuel]
theorem sr_run0(fs:List Fl)(hW:z0j ⟨[],fs⟩<=34000000000)(hz:(z17 ⟨[],fs⟩).1=0)(ins:List Int)(fuel:Int)(d:Nat)(r:Int×Rs)(h:z4j ⟨[],fs⟩ d (z06 z0x fs 0) [] { run0 ins fuel with ar:=[] }=some r):SC Tryz.prog 16 [.pv (Un.enc ⟨[],fs⟩),.pv (ints ins),iInt fuel] [] (λ_=>False) (.pv (runv (mEnd r))) []:=by
 refine SC.anyR (K0 tb { gh:=[(5,[.growC 1001 6 1002 3 1]),(12,[.fzC 1001 6 1002])],ids:=[(26,1001),(45,1004),(47,1003)] } [] Tryz.func16 rfl rfl ?_);have hub:∀f∈fs,lsW f.body<=34359738368:=λf hf=>Bm (ze6 (u:=⟨[],fs⟩) hf) (Bm hW oM0);have hcall:=(zt8 ⟨[],fs⟩ hub (d+1)).1 d (Ac d) _ _ _ _ h sI0;have hal:=j0l h;have hC:=zt0 ⟨[],fs⟩ hW;rw[hz]at hC;have hP:=z4n ⟨[],fs⟩ z0x;obtain⟨n,ins',ar',st',code',out',cost',fuel',spent'⟩:=r;obtain rfl:ar'=[]:=Ay hal;have hO:=z5c ⟨[],fs⟩ ⟨ins',[],st',code',out',cost',fuel',spent'⟩;obtain⟨ov,hov⟩:∃b,z16 ⟨ins',[],st',code',out',cost',fuel',spent'⟩=b:=⟨_,rfl⟩;rw[hov]at hO;have hend:mEnd (n,⟨ins',[],st',code',out',cost',fuel',spent'⟩)=if ov then(⟨ins',[],st',code',out',cost',fuel',spent'⟩:Rs)else⟨ins',[],1,n,out',cost',fuel',spent'⟩:=by unfold mEnd;rw[hov]
 rw[hend];clear hend;refine⟨[],hC,sR,Gf,rfl,Unit,λ_=>[(10,iInt 0)],λ_=>[],λ_=>0,λ_=>True,[],(),Gf,Gg,Gf,λ_ _=>⟨[],hP,sR,Gf,rfl,[],hcall,H0 (H0 (I0 sN sR)),Gi,rfl,[],hO,sR,Gi,rfl,?_⟩⟩
 cases ov with
 |true=>exact⟨rfl,sI,Gf⟩
 |false=>exact⟨rfl,sI,Gf⟩
theorem sr_run2(fs:List Fl)(A B:Ar)(hW:z0j ⟨[A,B],fs⟩<=34000000000)(hz:(z17 ⟨[A,B],fs⟩).1=0)(ins:List Int)(fuel:Int)(d:Nat)(r:Int×Rs)(h:z4j ⟨[A,B],fs⟩ d (z06 z0x fs 0) [] { run0 ins fuel with ar:=[List.replicate A.size.toNat 0,List.replicate B.size.toNat 0] }=some r)(hsz:0<=A.size/\A.size<=1000)(hszB:0<=B.size/\B.size<=1000):SC Tryz.prog 16 [.pv (Un.enc ⟨[A,B],fs⟩),.pv (ints ins),iInt fuel] [] (λ_=>False) (.pv (runv (mEnd r))) []:=by
 refine SC.anyR (K0 tb { gh:=[(5,[.growC 1001 6 1002 3 1]),(12,[.fzC 1001 6 1002])],ids:=[(26,1001),(45,1004),(47,1003)] } [] Tryz.func16 rfl rfl ?_);have hub:∀f∈fs,lsW f.body<=34359738368:=λf hf=>Bm (ze6 (u:=⟨[A,B],fs⟩) hf) (Bm hW oM0);have hcall:=(zt8 ⟨[A,B],fs⟩ hub (d+1)).1 d (Ac d) _ _ _ _ h sI0;have hal:=j0l h;have hC:=zt0 ⟨[A,B],fs⟩ hW;rw[hz]at hC;have hP:=z4n ⟨[A,B],fs⟩ z0x;obtain⟨n,ins',ar',st',code',out',cost',fuel',spent'⟩:=r;obtain⟨q2,q3,rfl⟩:=zr1 (l:=ar') hal;have hO:=z5c ⟨[A,B],fs⟩ ⟨ins',[q2,q3],st',code',out',cost',fuel',spent'⟩;obtain⟨ov,hov⟩:∃b,z16 ⟨ins',[q2,q3],st',code',out',cost',fuel',spent'⟩=b:=⟨_,rfl⟩;rw[hov]at hO;have hend:mEnd (n,⟨ins',[q2,q3],st',code',out',cost',fuel',spent'⟩)=if ov then(⟨ins',[q2,q3],st',code',out',cost',fuel',spent'⟩:Rs)else⟨ins',[q2,q3],1,n,out',cost',fuel',spent'⟩:=by unfold mEnd;rw[hov]
 rw[hend];clear hend;have hTl:((A.size:Int))=(A.size.toNat:Nat):=by omega
 have hTB:((B.size:Int))=(B.size.toNat:Nat):=by omega
 refine⟨[],hC,sR,Gf,rfl,Nat,λb=>[(10,iInt (b:Nat))],λb=>match b with|0=>[(1001,rBox ⟨[A,B],fs⟩ { run0 ins fuel with ar:=[] })]|1=>[(1001,rBox ⟨[A,B],fs⟩ { run0 ins fuel with ar:=[List.replicate A.size.toNat 0] }),(1003,.box [.sl 1004 ((List.replicate A.size.toNat (0:Int)).map eInt).length]),(1004,rowI (List.replicate A.size.toNat 0))]|_=>[(1001,rBox ⟨[A,B],fs⟩ { run0 ins fuel with ar:=[List.replicate A.size.toNat 0,List.replicate B.size.toNat 0] }),(1013,.box [.sl 1004 ((List.replicate A.size.toNat (0:Int)).map eInt).length,.sl 1014 ((List.replicate B.size.toNat (0:Int)).map eInt).length]),(1004,rowI (List.replicate A.size.toNat 0)),(1014,rowI (List.replicate B.size.toNat 0))],λb=>2-b,λb=>b<=2,[],0,Aj _,Gg,Gg,λb hb=>?_⟩
 match b,hb with
 |0,_ =>
  exact⟨at0 (a:=Ar.enc A),rfl,rfl,hTl,by omega,by simp,rfl,Bx,by decide,z01 (m:=0) (n:=1) rfl dC0,1,by decide,by decide,Gg,⟨rfl,boq (show[IV.sl 1004 A.size.toNat]=_ by simp),rwq (by simp[eInt];exact .inr rfl),Gf⟩,rfl,rfl,rfl,rfl⟩
 |1,_ =>
  exact⟨(show([A,B].map Ar.enc)[1]?=some (Ar.enc B)from rfl),rfl,rfl,hTB,by omega,by simp,by simp,rfl,rfl,Bx,Bx,by decide,z01 (m:=1) (n:=1) rfl dC0,2,by decide,by decide,Gg,⟨rfl,boq (show[IV.sl 1004 ((List.replicate A.size.toNat (0:Int)).map eInt).length,IV.sl 1014 B.size.toNat]=_ by simp),rfl,rwq (by simp[eInt];exact .inr rfl),Gf⟩,rfl,rfl,rfl,rfl⟩
 |2,_ =>
  refine⟨[],hP,sR,Gf,rfl,[],hcall,H0 (H0 (I0 sN sR)),Gl,rfl,[],hO,sR,Gl,rfl,?_⟩
  cases ov with
  |true=>exact⟨rfl,sI,Gf⟩
  |false=>exact⟨rfl,sI,Gf⟩
mutual
theorem nsz_W:∀x:Nd,nsz x<=ndW x
 |.mk _ _ _ _ _ _ _ ks=>by have:=kdz_W ks;simp only[nsz,ndW];omega
theorem lsz_W:∀l:List Nd,lsz l<=lsW l
 |[]=>Ag _
 |x::r=>by have:=nsz_W x;have:=lsz_W r;simp only[lsz,lsW];omega
theorem kdz_W:∀ks:List (List Nd),kdz ks<=kdW ks
 |[]=>Ag _
 |l::r=>by have:=lsz_W l;have:=kdz_W r;simp only[kdz,kdW];omega
end
def szK:List Nd->Nat
 |[]=>0
 |x::r=>kdz x.kids+szK r
theorem yi3:∀a b:List Nd,szK (a++b)=szK a+szK b
 |[],b=>by simp[szK]
 |x::r,b=>by simp only[Be,szK,yi3 r b];omega
theorem yd1:∀a b:List (List Nd),kdz (a++b)=kdz a+kdz b
 |[],b=>by simp[kdz]
 |x::r,b=>by simp only[Be,kdz,yd1 r b];omega
theorem j22:∀l:List Nd,lsz l=l.length+szK l
 |[]=>rfl
 |x::r=>by simp only[lsz,szK,A3,y3w,j22 r];omega
theorem j4e:∀(N:Nat)(l:List Nd),SizeOf.sizeOf l<N->lsW l<=34359738368->SC Tryz.prog 55 [.pv (z2h l)] [] (λk=>k∈[]) (iInt (lsz l)) []
 |0,_,h,_=>A9 h (An _)
 |N+1,l,hN,hb=>by
  refine K0 tb {} [] Tryz.func55 rfl rfl ?_;have hl:=j22 l;have hw:=lsz_W l;refine⟨Nat,λi=>[(4,iInt i),(3,iInt ((l.length+szK (l.take i):Nat)))],λ_=>[],λi=>l.length-i,λi=>i<=l.length,[],0,Aj _,⟨rfl,ivq (by simp[szK]),Gf⟩,Gf,?_⟩;intro i hi;refine z00 (λhc=>?_) λhc=>?_
  ·have hlt:=z12 (f:=Nd.enc) rfl hc;obtain⟨x,hx,ht,hd,hm⟩:=z0u hlt;have happ:szK l=szK (l.take i)+(kdz x.kids+szK (l.drop (i+1))):=by
    conv=>lhs;rw[<- Dc i l,hd]
    rw[yi3];rfl
   have hone:szK (l.take (i+1))=szK (l.take i)+kdz x.kids:=by rw[ht,yi3];simp[szK]
   have hxw:=(@y3q l).2 x hm;have hxe:=zb5 x;refine⟨Nat,λj=>[(5,iInt j),(3,iInt ((l.length+szK (l.take i)+kdz (x.kids.take j):Nat)))],λ_=>[],λj=>x.kids.length-j,λj=>j<=x.kids.length,[],0,Aj _,⟨rfl,ivq (by simp[kdz]),Gf⟩,Gf,?_⟩;intro j hj;refine⟨z0a hx,rfl,z00 (λhc2=>?_) λhc2=>?_⟩
   ·have hlt2:=z12 (f:=eKid) rfl hc2;obtain⟨q,hq,ht2,hd2,hm2⟩:=z0u hlt2;have happ2:kdz x.kids=kdz (x.kids.take j)+(lsz q+kdz (x.kids.drop (j+1))):=by
     conv=>lhs;rw[<- Dc j x.kids,hd2]
     rw[yd1];rfl
    have hone2:kdz (x.kids.take (j+1))=kdz (x.kids.take j)+lsz q:=by rw[ht2,yd1];simp[kdz]
    have hqw:=z9o hm2;have hkl:=ym2 x.kids;exact⟨z0a hx,rfl,z02 (f:=eKid) hq,rfl,[],j4e N q (Bg (zc7 hm rfl hm2) (C7 hN)) oM0,sR,Gf,rfl,z01 rfl oM0,z01 rfl oM0,j+1,z05 hlt2,hlt2,⟨rfl,ivq (by rw[hone2];omega),Gf⟩,Gf,rfl,rfl,rfl,rfl⟩
   ·have hge:=z13 (f:=eKid) rfl hc2;exact⟨z01 rfl oM0,i+1,z05 hlt,hlt,⟨rfl,ivq (by rw[hone,Az hge];omega),Gf⟩,Gf,rfl,rfl,rfl,rfl⟩
  ·exact⟨sE (by rw[Az (z13 (f:=Nd.enc) rfl hc),hl]),Gf⟩
def uSz:List Fl->Nat
 |[]=>0
 |f::r=>lsz f.body+uSz r
theorem yj0:∀a b:List Fl,uSz (a++b)=uSz a+uSz b
 |[],b=>by simp[uSz]
 |x::r,b=>by simp only[Be,uSz,yj0 r b];omega
theorem uSz_W:∀l:List Fl,uSz l<=wtF l
 |[]=>Ag _
 |f::r=>by have:=uSz_W r;have:=lsz_W f.body;have:=y88 f.body;simp only[uSz,wtF,z0z];omega
theorem sc_nodes(u:Un)(hW:z0j u<=34000000000):SC Tryz.prog 29 [.pv u.enc] [] (λk=>k∈[]) (iInt (uSz u.flows)) []:=by
 refine K0 tb {} [] Tryz.func29 rfl rfl ?_;have hw:=uSz_W u.flows;have hw2:wtF u.flows<=z0j u:=by unfold z0j;omega
 have hw3:u.flows.length<=z0j u:=by unfold z0j;omega
 refine⟨Nat,λi=>[(4,iInt i),(3,iInt (uSz (u.flows.take i)))],λ_=>[],λi=>u.flows.length-i,λi=>i<=u.flows.length,[],0,Aj _,Gi,Gf,?_⟩;intro i hi;refine z00 (λhc=>?_) λhc=>?_
 ·have hlt:=z12 (f:=Fl.enc) rfl hc;obtain⟨f,hf,ht,hd,hm⟩:=z0u hlt;have happ:uSz u.flows=uSz (u.flows.take i)+(lsz f.body+uSz (u.flows.drop (i+1))):=by
   conv=>lhs;rw[<- Dc i u.flows,hd]
   rw[yj0];rfl
  have hone:uSz (u.flows.take (i+1))=uSz (u.flows.take i)+lsz f.body:=by rw[ht,yj0];simp[uSz]
  exact⟨z02 (f:=Fl.enc) hf,rfl,[],j4e _ f.body (Ac _) (Bm (ze6 hm) (Bm hW oM0)),sR,Gf,rfl,z01 rfl oM0,z01 rfl oM0,i+1,z05 hlt,hlt,⟨rfl,ivq (by rw[hone];omega),Gf⟩,Gf,rfl,rfl,rfl,rfl⟩
 ·exact⟨sE (by rw[Az (z13 (f:=Fl.enc) rfl hc)]),Gf⟩
theorem sc_ins(l:List Int):SC Tryz.prog 13 [.pv (ints l)] [] (λk=>k∈[]) (.pv (ints (l.take 10))) []:=by
 refine K0 tb {} [] Tryz.func13 rfl rfl ?_;refine z00 (λh=>?_) λh=>?_
 ·have h2:(10:Int)<l.length:=by simpa using h
  exact⟨10,rfl,by omega,by simp;omega,zl7,sE (by simp[ints]),Gf⟩
 ·have h2:(l.length:Int)<=10:=by simpa using h
  have:l.length<=10:=by omega
  exact⟨sE (by rw[Az this]),Gf⟩
theorem y4n(l:List Int):SC Tryz.prog 53 [.pv (ints l),.pv (ints l)] [] (λk=>k∈[]) (iBool true) []:=by
 refine K0 tb { gh:=[(1,[.len 0])] } [] Tryz.func53 rfl rfl ?_;intro hl;simp only[Ab]at hl;refine z00 (λh1=>A9 h1 sI0) λ_=>?_;refine⟨Nat,λk=>[(5,iInt k)],λ_=>[],λk=>l.length-k,λk=>k<=l.length,[],0,Aj _,Gg,Gf,?_⟩;intro k hk;refine z00 (λhc=>?_) λhc=>?_
 ·have hlt:=z12 (f:=eInt) rfl hc;obtain⟨x,hx,ht,hd,_⟩:=z0u hlt;exact⟨z02 (f:=eInt) hx,rfl,z02 (f:=eInt) hx,rfl,z00 (λh2=>A9 h2 sI0) λ_=>⟨z01 rfl oM0,k+1,z05 hlt,hlt,Gg,Gf,rfl,rfl,rfl,rfl⟩⟩
 ·exact⟨sI,Gf⟩
theorem sc_alike(a b:Rs)(h1:b.st=a.st)(h2:b.code=a.code)(h3:b.out=a.out):SC Tryz.prog 54 [.pv (runv a),.pv (runv b)] [] (λk=>k∈[]) (iBool true) []:=by
 refine K0 tb {} [] Tryz.func54 rfl rfl ?_;have hS:=y4n a.out;obtain⟨ins,ar,st,code,out,cost,fuel,spent⟩:=a;obtain⟨ins',ar',st',code',out',cost',fuel',spent'⟩:=b;obtain rfl:st'=st:=h1;obtain rfl:code'=code:=h2;obtain rfl:out'=out:=h3;refine z00 (λ_=>?_) λh=>A9 h sI0;refine z00 (λ_=>?_) λh=>A9 h sI0;exact⟨[],hS,sR,Gf,rfl,sI,Gf⟩
def Fol(a b:Rs):Prop:=(a.st=0/\a.out <+: b.out)∨(a.st≠0/\b.st=a.st/\b.code=a.code/\b.out=a.out)
theorem y4e(a b:Rs)(h:Fol a b)(hb:b.out.length<=1073741824):SC Tryz.prog 28 [.pv (runv a),.pv (runv b)] [] (λk=>k∈[]) (iBool true) []:=by
 refine K0 tb {} [] Tryz.func28 rfl rfl ?_;rcases h with⟨h1,h2⟩|⟨h1,h2,h3,h4⟩
 ·have hS:=y4n a.out;obtain⟨ins,ar,st,code,out,cost,fuel,spent⟩:=a;obtain⟨ins',ar',st',code',out',cost',fuel',spent'⟩:=b;obtain rfl:st=0:=h1;obtain⟨t,rfl⟩:∃t,out++t=out':=h2;refine z00 (λ_=>?_) λh=>A9 h (by simp;omega);exact⟨out.length,by simp,by omega,by simp,zl7,[],hS,H0 (I0 (sE (by simp[ints])) sR),Gf,rfl,sI,Gf⟩
 ·have hA:=sc_alike a b h2 h3 h4;obtain⟨ins,ar,st,code,out,cost,fuel,spent⟩:=a;refine z00 (λh=>A9 (by simpa using h) h1) λ_=>?_;exact⟨[],hA,sR,Gf,rfl,sI,Gf⟩
def runA(u:Un)(ins:List Int)(fuel:Int):Rs:={ run0 ins fuel with ar:=u.arrays.map λa=>List.replicate a.size.toNat 0 }
theorem y6g(u:Un)(ins:List Int){fuel:Int}(h0:0<=fuel){B M:Int}(hB:fuel<=B)(hM:fuel<=M):Inv u.arrays.length B M (runA u ins fuel):=by
 have e:(runA u ins fuel).fuel=fuel:=by show(if fuel<0 then 0 else fuel)=fuel;rw[A1 oM0]
 refine⟨⟨by rw[e];exact h0,Dd _,by rw[e];show(0:Int)+fuel<=B;omega⟩,by rw[e];show((0:Nat):Int)+fuel<=M;omega,by simp[runA]⟩
theorem main_ok{u:Un}(h:(z17 u).1=0):0<=z06 z0x u.flows 0/\∃g,u.flows[(z06 z0x u.flows 0).toNat]?=some g/\g.params=0:=by
 obtain⟨h1,_⟩:=(z6m u).1 h;unfold z1i at h1;simp only[A0]at h1;have h2:=h1.2;unfold zb6 at h2;simp only[A0,Ba,At]at h2;obtain⟨⟨h3,h4⟩,h5⟩:=h2;obtain⟨j,hj,hjl⟩:=zs0 z0x u.flows 0 oM0 h3;refine⟨h3,_,Ad oM0,?_⟩;rw[Ax,Ad oM0]at h5;exact h5
theorem y6h{u:Un}(hz:(z17 u).1=0)(ins:List Int){fuel:Int}(h0:0<=fuel){B M:Int}(hB:B<=4611686018427387903)(hM:M<=1073741824)(hfB:fuel<=B)(hfM:fuel<=M) :
 ∃d r,z4j u d (z06 z0x u.flows 0) [] (runA u ins fuel)=some r/\Inv u.arrays.length B M r.2:=by
 obtain⟨m1,g,m2,m3⟩:=main_ok hz;have hi:=y6g u ins h0 hfB hfM;have e:(runA u ins fuel).fuel=fuel:=by show(if fuel<0 then 0 else fuel)=fuel;rw[A1 oM0]
 obtain⟨r,h1,h2⟩:=(j5e hB hM rfl (vf_of hz) (3*fuel.toNat+2)).2.2.1 _ [] _ m1 ⟨g,m2,by rw[m3];rfl⟩ hi (by rw[e];omega);exact⟨_,r,h1,h2⟩
structure URel(u v:Un):Prop where
 ar:v.arrays=u.arrays
 pl:∀name,z06 name v.flows 0=z06 name u.flows 0
 fl:∀(i:Nat) f g,u.flows[i]?=some f->v.flows[i]?=some g->FRel (uSz u.flows) f g
theorem j5j:∀{l:List Fl}{f:Fl},f∈l->lsz f.body<=uSz l
 |g::r,f,h=>by
  rcases Aq.1 h with rfl|h
  ·simp only[uSz];omega
  ·have:=j5j h;simp only[uSz];omega
theorem yo7(m:Bool){u v:Un}(R:URel u v)(ins:List Int)(hi:P64 ins){F F':Int}(h0:0<=F)(h0':0<=F'){B M:Int}(hB:B<=4611686018427387903)(hfB:F<=B)(hfB':F'<=B)(hfM:F<=M)(hfM':F'<=M)
 (hG:G m (uSz u.flows) 0 (uSz u.flows+1) F F') {d d':Nat} {q q':Int×Rs} (h:z4j u d (z06 z0x u.flows 0) [] (runA u ins F)=some q) (h':z4j v d' (z06 z0x v.flows 0) [] (runA v ins F')=some q'):RC m (uSz u.flows) q q':=by
 have e:∀(u:Un){fuel:Int},0<=fuel->(runA u ins fuel).fuel=fuel:=λu fuel h0=>by show(if fuel<0 then 0 else fuel)=fuel;rw[A1 oM0]
 rw[R.pl]at h';refine y7l (B:=B) hB R.ar R.pl R.fl (d+1) d d' _ [] _ _ _ _ (Ac _) (λ_ h=>by simp at h) h h' (y6g u ins h0 hfB hfM).ok (y6g v ins h0' hfB' hfM').ok ⟨⟨⟨rfl,rfl⟩,⟨rfl,rfl⟩,rfl,?_,rfl,rfl,hi,λrow hr y hy=>?_⟩,?_,?_⟩
 ·simp only[runA,R.ar]
 ·obtain⟨a,_,rfl⟩:=Bz.1 hr;rw[(List.mem_replicate.1 hy).2];simp[I64]
 ·rw[e u h0,e v h0'];exact hG
 ·exact Dd _
theorem ze5{q:Int×Rs}(h:z16 q.2=true):mEnd q=q.2:=A5 h
theorem zy5{q:Int×Rs}(h:Live q.2):mEnd q={ q.2 with st:=1,code:=q.1 }:=A1 (by rw[z0s h];decide)
theorem zq5(q:Int×Rs):(mEnd q).out=q.2.out:=by unfold mEnd;split<;>rfl
theorem rc_fol{N:Nat}{q q':Int×Rs}(h:RC true N q q'):Fol (mEnd q) (mEnd q')/\((mEnd q).st≠0->(mEnd q').cost<=(mEnd q).cost/\(mEnd q).fuel<=(mEnd q').fuel):=by
 cases h with
 |ok hv _ hr =>
  rw[zy5 hr.al.l,zy5 hr.al.l'];have hg:=hr.g;unfold G at hg;simp only[C6]at hg;have hc:=hr.co
  exact⟨.inr ⟨show(1:Int)≠0 by decide,rfl,hv,hr.al.out⟩,λ_=>⟨by simpa using hc,by simpa using hg⟩⟩
 |halt hh =>
  obtain⟨o1,o2⟩:=hh.over;rw[ze5 o1,ze5 o2]
  exact⟨.inr ⟨hh.st,hh.st',hh.code,hh.out⟩,λ_=>⟨hh.co,hh.fu rfl⟩⟩
 |cut hc =>
  unfold Cut at hc;simp only[C6]at hc;have e:=ze5 (z7l hc.1);refine⟨.inl ⟨by rw[e];exact hc.2.1,by rw[zq5,zq5];exact hc.2.2⟩,λh=>A9 (by rw[e];exact hc.2.1) h⟩
theorem rc_fol2{N:Nat}{q q':Int×Rs}(h:RC false N q q'):Fol (mEnd q') (mEnd q):=by
 cases h with
 |ok hv _ hr =>
  rw[zy5 hr.al.l,zy5 hr.al.l']
  exact .inr ⟨show(1:Int)≠0 by decide,rfl,hv.symm,hr.al.out.symm⟩
 |halt hh =>
  obtain⟨o1,o2⟩:=hh.over;rw[ze5 o1,ze5 o2]
  exact .inr ⟨by rw[hh.st'];exact hh.st,hh.st'.symm,hh.code.symm,hh.out.symm⟩
 |cut hc =>
  unfold Cut at hc;simp only[As,Bv]at hc;have e:=ze5 (z7l hc.1);exact .inl ⟨by rw[e];exact hc.2.1,by rw[zq5,zq5];exact hc.2.2⟩
section
structure Bd(a b:Nat)(g g':Gn):Prop where
 lf:g'.left<=g.left
 ps:g'.pos+60*g'.left<=g.pos+60*g.left+a
 t1:g.types.length<=g'.types.length
 t2:g'.types.length+10*g'.left<=g.types.length+10*g.left+b
section
variable (l:List UInt8)
end
section
variable (l:List UInt8)
end
end
theorem iota_mem{n:Nat}{v:Int}(h:v∈iota n):0<=v/\v<n:=by
 simp only[iota,Bz,En]at h;obtain⟨i,hi,rfl⟩:=h;omega
theorem else_s(u:Un)(f:Fl)(x:Nd)(hK:stK x.kind=false)(h10:x.kind≠10)(h11:x.kind≠11):SNd u f x:=by
 intro deep w all all' tb to nw hto hi hv hn r R' t0 S0 S1 tb0 tb1 y lv he hl0 hl1 h12 hlv hL hC;have hb:=z2s u f deep _ all hv;have e10:(x.kind==10)=false:=by simpa using h10
 have e11:(x.kind==11)=false:=by simpa using h11
 have hk0:x.kids=[]:=z66 hb e10 e11;have e2:(z0n tb to x.kids).2=to:=by rw[hk0];simp[z0n]
 rw[z1e u f deep w all hb e10 e11]at hv;obtain⟨a1,ho1,a3,a4,a5⟩:=za7 hv;rw[z7m tb to x hK,e2]at hL⊢;show LRel 0 0 (IS to all tb) (x::r) [] (z19 tb to x::R') _;have mo:∀v∈x.outs,v∈dN x:=λv h=>by rw[y7m];simp[h]
 have cl:z04 x=z0y x.kind:=by unfold z04;rw[e10,e11];rfl
 have hXa:(z19 tb to x).args=x.args.map (z10 to):=rfl;have hof:∀{a b q:List Int},IS to all tb a b->mOf a x.args=some q->mOf b (z19 tb to x).args=some q:=λ{a b q} hI g=>by rw[hXa,hI.1.mof a1];exact g
 by_cases hE:12<=x.kind
 ·have hle:=a5 hE;have ce:z04 x=true:=by
   rw[cl];rcases(show x.kind=12∨x.kind=13∨x.kind=14∨x.kind=15 by omega)with e|e|e|e<;>rw[e]<;>rfl
  obtain⟨rfl,rfl⟩:=hC ce;refine .ender hE hle rfl (.inl rfl) λa b q q' hI g g'=>?_;have h64:=hI.2.1.of (hof hI g);rw[hof hI g]at g'
  cases g'
  refine⟨h64,rfl,?_⟩;rcases(show x.kind=12∨x.kind=13∨x.kind=14∨x.kind=15 by omega)with e|e|e|e
  ·exact .inl ⟨e,h12 e,hI.to he.s0 hl0⟩
  ·exact .inr (.inl ⟨e,hI.to he.s1 hl1⟩)
  ·exact .inr (.inr (.inl ⟨e,hlv (by rw[z4a,e];rfl),hI.to he.s1 hl1⟩))
  ·exact .inr (.inr (.inr e))
 ·have ce:z04 x=false:=by
   rw[cl];simp[z0y];omega
  simp only[stK,Bn,Aa]at hK;refine .eff (J:=IS to (all++x.outs) tb) oM0 rfl rfl rfl rfl (λa b p hI g=>hI.2.1.of (hof hI g)) (λa b p p' hI g g'=>?_) (λa b p a2 b2 z hI g hz htw s1 s2=>?_) (hL ce)
  ·rw[hof hI g]at g';exact(C0 g').symm
  ·exact hI.seto hz ho1 s1 s2 (λv hv hm=>nw.stv v hv _ (mo _ hm) rfl) (λv hv=>nw.ft v (mo v hv)) hi λv hv hm=>nw.fb v (mo v hm) hv
theorem restS{J:VR}{r:List Nd}{R':List Nd}{E:ER}{x:Nd}(hL:z04 x=false->LRel 0 0 J r [] R' E):LRel 0 0 (λa b=>z04 x=false/\J a b) r [] R' E:=by
 cases hc:z04 x with
 |true=>exact .dead λ_ _ h=>by cases h.1
 |false=>exact .weak (λ_ _ h=>h.2) (hL hc)
theorem if_s(u:Un)(f:Fl)(x:Nd)(ih:∀q∈x.kids,SA u f q)(h10:x.kind=10):SNd u f x:=by
 intro deep w all all' tb to nw hto hi hv hn r R' t0 S0 S1 tb0 tb1 y lv he hl0 hl1 h12 hlv hL hC;have hok:=z4e u f x deep w all hv;have hb:=z2s u f deep _ all hv;obtain⟨a,b,hk⟩:=z3h hb h10;rw[z6l u f deep w all hb h10 hk]at hv;simp only[A0]at hv;rw[zf7,hk]at hok;simp only[zu0,Cd,A0]at hok;rw[j25,hk]at hn;simp only[nIK,Cd,A0]at hn;have hdn:dN x=dL a++(dL b++x.outs):=dN_if hb h10 hk;have hva:=hv.1.1.1.2;have hvb:=hv.1.1.2;simp only[z4p,A0]at hva hvb;have hna:a≠[]:=by intro e;subst e;simp at hva
 have hnb:b≠[]:=by intro e;subst e;simp at hvb
 obtain⟨n1,n2,n3⟩:=Cr.1 (hdn▸nw.nd);obtain⟨n4,n5,n6⟩:=Cr.1 n2;have ma:∀v∈dL a,v∈dN x:=λv h=>by rw[hdn];simp[h]
 have mb:∀v∈dL b,v∈dN x:=λv h=>by rw[hdn];simp[h]
 have mo:∀v∈x.outs,v∈dN x:=λv h=>by rw[hdn];simp[h]
 have nwa:=nw.sub n1 ma;have pa:=z6f a tb to hok.2.1;have k1:∀v∈all,aGet v (z0f tb to a).2.2=aGet v to:=λv hv'=>pa v λhm=>nw.na (ma v hm) hv';have nwb:New f (dL b) all all' (z0f tb to a).2.2:=(nw.sub n4 mb).to k1 λv hm=>pa v λh=>n3 v h v (by simp[hm]) rfl;have pb:=z6f b tb (z0f tb to a).2.2 hok.2.2;have k3:∀v∈all,z10 (z0f tb (z0f tb to a).2.2 b).2.2 v=z10 to v:=λv hv'=>za9 ((pb v λhm=>nw.na (mb v hm) hv').trans (k1 v hv'));have hse:=z2l hv.1.1.1.1;have hK2:stK x.kind=false:=by rw[h10];rfl
 have ekk:z0n tb to x.kids=([(z0f tb to a).1,(z0f tb (z0f tb to a).2.2 b).1],(z0f tb (z0f tb to a).2.2 b).2.2):=by rw[hk];simp[z0n]
 rw[z7m tb to x hK2,ekk]at hL⊢;have hkn:(z19 tb to x).kids=[(z0f tb to a).1,(z0f tb (z0f tb to a).2.2 b).1]:=by show(z0n tb to x.kids).1=_;rw[ekk]
 show LRel 0 0 (IS to all tb) (x::r) [] (z19 tb to x::R') _;have hcx:z04 x=(z2x a != 12&&z2x b != 12):=by unfold z04;rw[h10,hk];rfl
 have hy:∀q,(q=a∨q=b)->z2x q=12->(!z04 x)=true:=λq hq e=>by
  rw[hcx];rcases hq with rfl|rfl<;>rw[e]<;>simp
 have hlq:∀q,(q=a∨q=b)->z0m q=true->z2n x=true:=λq hq e=>by
  rw[z4a,h10,hk];rcases hq with rfl|rfl<;>simp[z39,e]
 refine .ite (J:=λa' b'=>z04 x=false/\IS (z0f tb (z0f tb to a).2.2 b).2.2 (all++x.outs) tb a' b') (E2:=SE to all S1 tb tb1 (!z04 x) (z2n x)) h10 h10 hk hkn (λa b p p' hI g g'=>?_) ?_ ?_ (λn p p' a' b' he2=>?_) (restS hL)
 ·have e:=hI.1.mof hse;rw[g]at e;have e2:mOf b (x.args.map (z10 to))=some p':=g';rw[e]at e2;rw[C0 e2]
 ·exact ih a (by rw[hk];simp) (deep+1) (w1 w f x) all all' tb to hna nwa hto hi hva.2 hn.2.1 to all S1 tb tb1 _ _ ⟨λv hv=>⟨hv,rfl⟩,λv hv=>⟨(he.s1 v hv).1,rfl⟩⟩ (.refl _) hl1 (hy a (.inl rfl)) (hlq a (.inl rfl))
 ·exact .weak (λa' b' hI=>hI.to (λv hv=>⟨hv,(za9 (k1 v hv)).symm⟩) (.refl _)) (ih b (by rw[hk];simp) (deep+1) (w1 w f x) all all' tb _ hnb nwb hto hi hvb.2 hn.2.2 to all S1 tb tb1 _ _ ⟨λv hv=>⟨hv,za9 (k1 v hv)⟩,λv hv=>⟨(he.s1 v hv).1,za9 (k1 v (he.s1 v hv).1)⟩⟩ (.refl _) hl1 (hy b (.inr rfl)) (hlq b (.inr rfl)))
 ·obtain⟨h64,rfl,he2⟩:=he2;rcases he2 with⟨rfl,hy2,hI⟩|⟨rfl,hI⟩|⟨rfl,hy2,hI⟩|rfl
  ·refine .inl ⟨rfl,λa2 b2 g g'=>⟨by simpa using hy2,IS.sets (hI.to (λv hv=>⟨hv,(k3 v hv).symm⟩) (.refl _)) h64 g g' (λv hv hm=>?_) (λv hv=>?_) hi λv hv hm=>nw.fb v (mo v hm) hv⟩⟩
   ·rw[k3 v hv]at hm;exact nw.stv v hv _ (mo _ hm) rfl
   ·rw[pb v λhm=>n6 v hm v hv rfl,pa v λhm=>n3 v hm v (by simp[hv]) rfl];exact nw.ft v (mo v hv)
  ·exact .inr ⟨by decide,by decide,.inl rfl,h64,rfl,.inr (.inl ⟨rfl,hI.to (λv hv=>⟨hv,(he.s1 v hv).2⟩) (.refl _)⟩)⟩
  ·exact .inr ⟨by decide,by decide,.inl rfl,h64,rfl,.inr (.inr (.inl ⟨rfl,hlv hy2,hI.to (λv hv=>⟨hv,(he.s1 v hv).2⟩) (.refl _)⟩))⟩
  ·exact .inr ⟨by decide,by decide,.inr rfl,h64,rfl,.inr (.inr (.inr rfl))⟩
theorem loop_s(u:Un)(f:Fl)(x:Nd)(ih:∀q∈x.kids,SA u f q)(h11:x.kind=11):SNd u f x:=by
 intro deep w all all' tb to nw hto hi hv hn r R' t0 S0 S1 tb0 tb1 y lv he hl0 hl1 h12 hlv hL hC;have hok:=z4e u f x deep w all hv;have hb:=z2s u f deep _ all hv;obtain⟨a,hk⟩:=z25 hb h11;rw[z4q u f deep w all hb h11 hk]at hv;simp only[A0]at hv;rw[zf7,hk]at hok;simp only[zu0,Cd,A0]at hok;rw[j25,hk]at hn;simp only[nIK,Cd,A0]at hn;have hdn:dN x=x.params++(dL a++x.outs):=yc0 hk;have hva:=hv.1.1.2;simp only[z4p,A0]at hva;have hne:a≠[]:=by intro e;subst e;simp at hva
 obtain⟨n1,n2,n3⟩:=Cr.1 (hdn▸nw.nd);obtain⟨n4,n5,n6⟩:=Cr.1 n2;have mp:∀v∈x.params,v∈dN x:=λv h=>by rw[hdn];simp[h]
 have ma:∀v∈dL a,v∈dN x:=λv h=>by rw[hdn];simp[h]
 have mo:∀v∈x.outs,v∈dN x:=λv h=>by rw[hdn];simp[h]
 have hinp:inR f.types.length x.params:=z2z hv.1.1.1.2;have hse:=z2l hv.1.1.1.1;have hda:∀v∈dL a,(all++x.params).contains v=false:=λv hm=>by
  rw[Ck,nw.fa v (ma v hm),Ce,<- Dv,List.contains_iff_mem];exact λhp=>n3 v hp v (by simp[hm]) rfl
 have hinr:inR f.types.length (all++x.params):=λv hv=>by
  rcases B3.1 hv with h|h
  ·exact nw.inr v h
  ·exact hinp v h
 have pa:=z6f a tb to hok.2;have hrp:Rel f.types to (all++x.params) (all'++x.params):=nw.rel.outs λv hv=>nw.ft v (mp v hv);have nwa:New f (dL a) (all++x.params) (all'++x.params) to:=⟨n4,hda,λv hm hh=>by
  rcases B3.1 hh with h|h
  ·exact nw.fb v (ma v hm) h
  ·exact n3 v h v (by simp[hm]) rfl,λv hm=>nw.ft v (ma v hm),hrp,hinr⟩
 have k2:∀v∈all,z10 (z0f tb to a).2.2 v=z10 to v:=λv hv=>za9 (pa v λhm=>nw.na (ma v hm) hv);have hK2:stK x.kind=false:=by rw[h11];rfl
 have ekk:z0n tb to x.kids=([(z0f tb to a).1],(z0f tb to a).2.2):=by rw[hk];simp[z0n]
 rw[z7m tb to x hK2,ekk]at hL⊢;have hkn:(z19 tb to x).kids=[(z0f tb to a).1]:=by show(z0n tb to x.kids).1=_;rw[ekk]
 show LRel 0 0 (IS to all tb) (x::r) [] (z19 tb to x::R') _;have hcl:z04 x = !z0m a:=by unfold z04;rw[h11,hk];rfl
 have sp:∀a b p a2 b2,IS to all tb a b->P64 p->mSet a x.params p=some a2->mSet b x.params p=some b2->IS to (all++x.params) tb a2 b2:=λa b p a2 b2 hI h64 g g' =>
  hI.sets h64 g g' (λv hv hm=>nw.stv v hv _ (mp _ hm) rfl) (λv hv=>nw.ft v (mp v hv)) hi λv hv hm=>nw.fb v (mp v hm) hv
 refine .loop (I2:=IS to (all++x.params) tb) (J:=λa' b'=>z04 x=false/\IS (z0f tb to a).2.2 (all++x.outs) tb a' b') (E2:=SE to [] all tb tb false (z0m a)) h11 h11 hk hkn (λa b p p' a2 b2 hI g g' t t'=>?_) ?_ (λn p p' a' b' he2=>?_) (restS hL)
 ·have e:=hI.1.mof hse;rw[g]at e;have e2:mOf b (x.args.map (z10 to))=some p':=g';have h64:=hI.2.1.of e2;rw[e]at e2;obtain rfl:=C0 e2;exact sp _ _ _ _ _ hI h64 t t'
 ·exact ih a (by rw[hk];simp) (deep+1) (w2 f x) (all++x.params) (all'++x.params) tb to hne nwa (hto.mono _) (hi.mono λv hv=>Bq _ hv) hva.2 hn.2 to [] all tb tb false _ ⟨λv hv=>by simp at hv,λv hv=>⟨Bq _ hv,rfl⟩⟩ (.refl _) (.refl _) (λh=>by
   have:=j1y hva.2 h
   cases this) λh=>h
 ·obtain⟨h64,rfl,he2⟩:=he2;rcases he2 with⟨_,hy2,_⟩|⟨rfl,hI⟩|⟨rfl,hy2,hI⟩|rfl
  ·cases hy2
  ·exact .inr (.inr ⟨rfl,λa2 b2 g g'=>sp _ _ _ _ _ hI h64 g g'⟩)
  ·refine .inr (.inl ⟨rfl,λa2 b2 g g'=>⟨by rw[hcl,hy2];rfl,IS.sets (hI.to (λv hv=>⟨hv,(k2 v hv).symm⟩) (.refl _)) h64 g g' (λv hv hm=>?_) (λv hv=>?_) hi λv hv hm=>nw.fb v (mo v hm) hv⟩⟩)
   ·rw[k2 v hv]at hm;exact nw.stv v hv _ (mo _ hm) rfl
   ·rw[pa v λhm=>n6 v hm v hv rfl];exact nw.ft v (mo v hv)
  ·exact .inl ⟨rfl,h64,rfl,.inr (.inr (.inr rfl))⟩
theorem node_s(u:Un)(f:Fl)(x:Nd)(ih:∀q∈x.kids,SA u f q):SNd u f x:=by
 by_cases hK:stK x.kind=true
 ·exact pure_s u f x hK
 have hK2:stK x.kind=false:=by simpa using hK
 by_cases h10:x.kind=10
 ·exact if_s u f x ih h10
 by_cases h11:x.kind=11
 ·exact loop_s u f x ih h11
 ·exact else_s u f x hK2 h10 h11
theorem yw9{u:Un}{f:Fl}{deep:Int}{w:Wh}{all:List Int}{x:Nd}(h:z85 u f deep w all x=true):inR f.types.length x.outs:=by
 have hb:=z2s u f deep _ all h
 by_cases h10:x.kind=10
 ·obtain⟨a,b,hk⟩:=z3h hb h10;rw[z6l u f deep w all hb h10 hk]at h;simp only[A0]at h;exact z2z h.2
 by_cases h11:x.kind=11
 ·obtain⟨a,hk⟩:=z25 hb h11;rw[z4q u f deep w all hb h11 hk]at h;simp only[A0]at h;exact z2z h.2
 rw[z1e u f deep w all hb (by simpa using h10) (by simpa using h11)]at h;exact ok_in h
theorem j2a{u:Un}{f:Fl}{x:Nd}{D:List Int}{deep:Int}{w:Wh}{all all':List Int}{tb:Tb}{to:TT}(nw:New f (dN x++D) all all' to)(hto:TabOk f.types tb all')(hi:TabIn tb all')(hv:z85 u f deep w all x=true) :
 ∃all2,New f D (all++x.outs) all2 (z0r tb to x).2.2/\TabOk f.types (z0r tb to x).2.1 all2/\TabIn (z0r tb to x).2.1 all2/\TabLe tb (z0r tb to x).2.1:=by
 obtain⟨n1,n2,n3⟩:=Cr.1 nw.nd;have nwx:=nw.sub n1 λv h=>Bq _ h;have hok:=z4e u f x deep w all hv;have hkx:=za8 x tb to hok;have hE:=node_e u f x (λq _=>j15 u f _ q (Ac _)) deep w all all' tb to n1 nwx.fa nwx.ft nw.rel hto hv;have mo:∀v∈x.outs,v∈dN x:=λv h=>by rw[y7m];simp[h]
 have base:∀all2,(∀v∈all2,v∈all'∨v∈x.outs)->Rel f.types (z0r tb to x).2.2 (all++x.outs) all2->New f D (all++x.outs) all2 (z0r tb to x).2.2:=λall2 h2 hr=>by
  refine⟨n2,λv hm=>?_,λv hm hh=>?_,λv hm=>(hkx v λhn=>n3 v hn v hm rfl).trans (nw.ft v (C9 _ hm)),hr,λv hh=>?_⟩
  ·rw[Ck,nw.fa v (C9 _ hm),Ce,<- Dv,List.contains_iff_mem];exact λho=>n3 v (mo v ho) v hm rfl
  ·rcases h2 v hh with h|h
   ·exact nw.fb v (C9 _ hm) h
   ·exact n3 v (mo v h) v hm rfl
  ·rcases B3.1 hh with h|h
   ·exact nw.inr v h
   ·exact yw9 hv v h
 have ta:TabIn (z0r tb to x).2.1 (all'++(z0r tb to x).1.flatMap Nd.outs)/\TabLe tb (z0r tb to x).2.1:=by
  by_cases hK:stK x.kind=true
  ·have hb:=z2s u f deep _ all hv;have hkk:x.kind=1∨x.kind=2∨x.kind=3∨x.kind=4:=by simp only[stK,Bb,At]at hK;omega
   have e10:(x.kind==10)=false:=by simp;omega
   have e11:(x.kind==11)=false:=by simp;omega
   have hk0:x.kids=[]:=z66 hb e10 e11;have e2:(z0n tb to x.kids).2=to:=by rw[hk0];simp[z0n]
   have hv2:=hv;rw[z1e u f deep w all hb e10 e11]at hv2;obtain⟨o,ho,_⟩:=zz8 hK hv2;have a1:=(za7 hv2).1;have hXo:(z19 tb to x).outs=[o]:=ho;have hXa:(z19 tb to x).args=x.args.map (z10 to):=rfl;rw[zf7]at hok;simp only[A0]at hok;rw[z9i,A5 hK,e2];rcases y41 (tb:=tb) (to:=to) hXo with⟨y1,hp,hd⟩|⟨hp,hs⟩
   ·rw[hp];exact⟨hi.mono λv hv=>Bq _ hv,.refl _⟩
   ·rw[hp];have hod:o∈dN x:=mo o (by rw[ho];simp);refine⟨?_,kept_le hi (nwx.fb o hod) hs⟩;have:([z19 tb to x]:List Nd).flatMap Nd.outs=[o]:=by simp[hXo]
    show TabIn (zl9 tb (z19 tb to x) o) (all'++([z19 tb to x]:List Nd).flatMap Nd.outs);rw[this];refine kept_in hi (yn9 nwx a1) (λh=>?_) λh=>?_
    ·have h:x.kind=3:=h;have:=hok.1.1.2;rw[h]at this;rw[hXa,Ab];simpa using this
    ·have h:x.kind=4:=h;have:=hok.1.2;rw[h]at this;rw[hXa,Ab];simpa using this
  ·rw[z7m tb to x (by simpa using hK)];exact⟨hi.mono λv hv=>Bq _ hv,.refl _⟩
 rcases hE with⟨h1,h2,h3,h4⟩|⟨z,h1,h2,h3,h4,h5,h6⟩
 ·rw[h1]at ta;have e:all'++([]:List Nd).flatMap Nd.outs=all':=by simp
  rw[e]at ta;exact⟨all',base all' (λv hv=>.inl hv) h3,h4,ta.1,ta.2⟩
 ·rw[h1]at ta;have e:([z]:List Nd).flatMap Nd.outs=x.outs:=by simp[h4]
  rw[e]at ta;exact⟨all'++x.outs,base _ (λv hv=>B3.1 hv) h5,h6,ta.1,ta.2⟩
theorem go_s(u:Un)(f:Fl):∀(l:List Nd),(∀x∈l,SNd u f x)->SA u f l
 |[],_=>λ_ _ _ _ _ _ h=>A9 rfl h
 |x::r,ih=>λdeep w all all' tb to _ nw hto hi hv hn t0 S0 S1 tb0 tb1 y lv he hl0 hl1 h12 hlv=>by
  unfold vGo at hv;simp only[A0,At]at hv;simp only[nIL,A0]at hn;simp only[dL]at nw;obtain⟨n1,n2,n3⟩:=Cr.1 nw.nd;have nwx:=nw.sub n1 λv h=>Bq _ h;rw[show(z0f tb to (x::r)).1=(z0r tb to x).1++(z0f (z0r tb to x).2.1 (z0r tb to x).2.2 r).1 by rw[z0f]];obtain⟨all2,m1,m2,m3,m4⟩:=j2a nw hto hi hv.1.1.2;have hx:=hv.1.1.2;have hcr:=hv.1.2;refine ih x (.head _) deep w all all' tb to nwx hto hi hx hn.1 r _ t0 S0 S1 tb0 tb1 y lv he hl0 hl1 (λe=>?_) (λe=>hlv (by simp[z0m,e])) (λhc=>?_) λhc=>?_
  ·have hc:z04 x=true:=by
    unfold z04;rw[e];rfl
   rw[hc]at hcr;have:r=[]:=by cases r with|nil=>rfl|cons _ _=>cases hcr
   subst this;exact h12 (by rw[ym5,e];rfl)
  ·have hne:r≠[]:=by rw[hc]at hcr;intro e;rw[e]at hcr;cases hcr
   exact go_s u f r (λz hz=>ih z (.tail _ hz)) deep w _ all2 _ _ hne m1 m2 m3 hv.2 hn.2 t0 S0 S1 tb0 tb1 y lv
    (he.step (λv hv=>Bq _ hv) λv hv=>za8 x tb to (z4e u f x deep w all hx) v λhm=>nwx.na hm hv)
    (hl0.trans m4) (hl1.trans m4) (λe=>h12 (by rw[yn3 hne];exact e)) λe=>hlv (by simp[z0m,e])
  ·have:r=[]:=by rw[hc]at hcr;cases r with|nil=>rfl|cons _ _=>cases hcr
   subst this;exact⟨rfl,by simp[z0f]⟩
theorem sa_all(u:Un)(f:Fl):∀(N:Nat)(l:List Nd),SizeOf.sizeOf l<N->SA u f l
 |0,_,h=>A9 h (An _)
 |N+1,l,hN=>go_s u f l λx hx=>node_s u f x λq hq=>sa_all u f N q (Bg (zc7 hx rfl hq) (C7 hN))
theorem j3n{u:Un}(hz:(z17 u).1=0){f:Fl}(hf:f∈u.flows)(hn:nIL f.body=true):FRel (uSz u.flows) f (z5n stB f):=by
 refine⟨rfl,j5j hf,?_⟩;have hF:=((z6m u).1 hz).2 f hf;have h:=y0l hF;have hp:=z9m hF;have hv:=h.1;simp only[z4p,A0]at hv;have hne:f.body≠[]:=by intro e;rw[e]at hv;simp at hv
 have fa:∀v∈dL f.body,(iota f.params.toNat).contains v=false:=λv hm=>by
  have:=h.2.2 v hm
  cases hc:(iota f.params.toNat).contains v with
  |false=>rfl
  |true=>rw[y0k hp hc]at this;cases this
 have nw:New f (dL f.body) (iota f.params.toNat) (iota f.params.toNat) []:=⟨h.2.1,fa,λv hm hh=>Bool.noConfusion ((fa v hm).symm.trans (List.contains_iff_mem.2 hh)),λ_ _=>rfl,λv hv v0 v1=>⟨hv,v0,v1,rfl⟩,λv hv=>by
  have:=iota_mem hv;omega⟩
 have hA:=sa_all u f _ f.body (Ac _) 1 z3z _ _ ⟨[],[]⟩ [] hne nw (λe he=>by simp at he) ⟨λ_ _ h=>(by cases h),λ_ _ h=>(by cases h)⟩ hv.2 hn [] [] [] ⟨[],[]⟩ ⟨[],[]⟩ true true ⟨λv hv=>by simp at hv,λv hv=>by simp at hv⟩ (.refl _) (.refl _) (λ_=>rfl) λ_=>rfl;refine .weak (λa b h=>⟨λv hv=>by rw[h.1];rfl,by rw[<- h.1];exact h.2.2,⟨λ_ _ h=>(by cases h),λ_ _ h=>(by cases h)⟩⟩) (hA.monoE λn p p' a b h=>?_);obtain⟨h64,rfl,_⟩:=h;refine⟨rfl,?_⟩
 cases p' with
 |nil=>simp[I64]
 |cons z r=>exact h64 z (.head _)
theorem same_rel{u:Un}(hz:(z17 u).1=0)(hn:∀f∈u.flows,nIL f.body=true):URel u (z3r stB u):=by
 refine⟨rfl,λname=>zr9 stB name u.flows 0,λi f g h h'=>?_⟩;have:(z3r stB u).flows[i]?=(u.flows[i]?).map (z5n stB):=Bc ..;rw[h',h]at this;obtain rfl:g=z5n stB f:=C0 this;exact j3n hz (Af h) (hn f (Af h))
theorem y5l{m n z:Int}(hn:n≠0)(h:m.tdiv n=z)(h1:-9223372036854775808<=z/\z<=9223372036854775807):z3f .quo .i64 m n=some (.int .i64 z):=by
 subst h;simp only[z3f];rw[A1 hn,D3 _ h1]
theorem j3r(u v:Un)(hW:z0j u<=34000000000)(ins:List Int)(fuel q:Int)(hf:0<=fuel/\fuel<=1000000)(hq:fuel.tdiv 4=q)(a b c d:Rs)
 (hA:SC Tryz.prog 16 [.pv u.enc,.pv (ints ins),iInt fuel] [] (λ_=>False) (.pv (runv a)) [])
 (hB:SC Tryz.prog 16 [.pv v.enc,.pv (ints ins),iInt fuel] [] (λ_=>False) (.pv (runv b)) [])
 (hC:SC Tryz.prog 16 [.pv v.enc,.pv (ints ins),iInt q] [] (λ_=>False) (.pv (runv c)) [])
 (hD:SC Tryz.prog 16 [.pv u.enc,.pv (ints ins),iInt ((q+1)*((uSz u.flows:Int)+1))] [] (λ_=>False) (.pv (runv d)) [])
 (h1:Fol a b) (h2:a.st≠0->b.cost<=a.cost/\a.fuel<=b.fuel) (h3:Fol c d) (hb:b.out.length<=1073741824) (hd:d.out.length<=1073741824) :
 SC Tryz.prog 12 [.pv u.enc,.pv v.enc,.pv (ints ins),iInt fuel] [] (λk=>k∈[]) (iBool true) []:=by
 refine K0 tb {} [] Tryz.func12 rfl rfl ?_;have hF1:=y4e a b h1 hb;have hF2:=y4e c d h3 hd;have hN:=sc_nodes u hW;have hw:=uSz_W u.flows;have hw2:wtF u.flows<=z0j u:=by unfold z0j;omega
 have hqb:0<=q/\q<=1000000:=by
  rw[<- hq,Du hf.1];omega
 have hm:-9223372036854775808<=(q+1)*((uSz u.flows:Int)+1)/\(q+1)*((uSz u.flows:Int)+1)<=9223372036854775807:=by
  have x1:0<=(q+1)*((uSz u.flows:Int)+1):=G6 oM0 oM0;have x2:(q+1)*((uSz u.flows:Int)+1)<=1000001*34000000001:=Int.mul_le_mul oM0 oM0 oM0 oM0;omega
 obtain⟨ains,aar,ast,acode,aout,acost,afuel,asp⟩:=a;obtain⟨bins,bar,bst,bcode,bout,bcost,bfuel,bsp⟩:=b;dsimp only at h2;refine⟨[],hA,sR,Gf,rfl,[],hB,sR,Gf,rfl,[],hF1,sR,Gf,rfl,?_⟩;refine z00 (λh5=>?_) λh5=>?_
 ·have hst:ast≠0:=by simpa using h5
  obtain⟨c1,c2⟩:=h2 hst;refine z00 (λh6=>A9 h6 (by simp;omega)) λ_=>z00 (λh6=>A9 h6 (by simp;omega)) λ_=>?_;exact⟨y5l dC0 hq oM0,[],hC,sR,Gf,rfl,y5l dC0 hq oM0,z01 rfl oM0,[],hN,sR,Gf,rfl,z01 rfl oM0,y5k rfl hm,[],hD,sR,Gf,rfl,[],hF2,sR,Gf,rfl,sI,Gf⟩
 ·exact⟨y5l dC0 hq oM0,[],hC,sR,Gf,rfl,y5l dC0 hq oM0,z01 rfl oM0,[],hN,sR,Gf,rfl,z01 rfl oM0,y5k rfl hm,[],hD,sR,Gf,rfl,[],hF2,sR,Gf,rfl,sI,Gf⟩
theorem gA_mem{A:Ar}(u:Un):∀(l:List Ar)(p:Int),r8gA u l p=true->A∈l->0<=A.size/\A.size<=1000
 |[],_,_,h=>by cases h
 |B::r,p,h1,h=>by
  simp only[r8gA,gArr,A0,Bi,Cg]at h1;rcases Aq.1 h with rfl|h
  ·omega
  ·exact gA_mem u r _ h1.2 h
theorem arr_size{u:Un}{A:Ar}(hz:(z17 u).1=0)(h:A∈u.arrays):0<=A.size/\A.size<=1000:=by
 obtain⟨h1,_⟩:=(z6m u).1 hz;unfold z1i at h1;simp only[A0]at h1;exact gA_mem _ _ _ h1.1.1 h
theorem yr4(u:Un)(h1:u.arrays.length=2)(hW:z0j u<=34000000000)(hz:(z17 u).1=0)(ins:List Int)(fuel:Int)(d:Nat)(r:Int×Rs)(h:z4j u d (z06 z0x u.flows 0) [] (runA u ins fuel)=some r) :
 SC Tryz.prog 16 [.pv u.enc,.pv (ints ins),iInt fuel] [] (λ_=>False) (.pv (runv (mEnd r))) []:=by
 have hs:=@arr_size u;obtain⟨ar,fs⟩:=u;obtain⟨A,A2,rfl⟩:∃A A2,ar=[A,A2]:=by
  match ar,(show ar.length=2 from h1)with
  |[A,A2],_=>exact⟨A,A2,rfl⟩
 exact sr_run2 fs A A2 hW hz ins fuel d r h (hs hz (.head _)) (hs hz (.tail _ (.head _)))
theorem yf6{u v:Un}(R:URel u v)(h1:u.arrays.length=2)(hW:z0j u<=34000000000)(hW':z0j v<=34000000000)(hz:(z17 u).1=0)(hz':(z17 v).1=0)(hN:uSz u.flows<=4000000)(ins:List Int)(hi:P64 ins)(fuel:Int)(hf:0<=fuel/\fuel<=510) :
 SC Tryz.prog 12 [.pv u.enc,.pv v.enc,.pv (ints ins),iInt fuel] [] (λk=>k∈[]) (iBool true) []:=by
 have hq:0<=fuel.tdiv 4/\fuel.tdiv 4<=127:=by rw[Du hf.1];omega
 have hfD0:0<=(fuel.tdiv 4+1)*((uSz u.flows:Int)+1):=G6 oM0 oM0;have hfD:(fuel.tdiv 4+1)*((uSz u.flows:Int)+1)<=128*4000001:=Int.mul_le_mul oM0 oM0 oM0 oM0;have B:(1073741824:Int)<=4611686018427387903:=by decide
 have M:(1073741824:Int)<=1073741824:=by decide
 have hav:v.arrays.length=2:=by rw[R.ar];exact h1
 obtain⟨da,qa,ra,ia⟩:=y6h hz ins hf.1 B M oM0 oM0;obtain⟨db,qb,rb,ib⟩:=y6h hz' ins hf.1 B M oM0 oM0;obtain⟨dc,qc,rc,ic⟩:=y6h hz' ins hq.1 B M oM0 oM0;obtain⟨dd,qd,rd,id⟩:=y6h hz ins hfD0 B M oM0 oM0;have k1:=rc_fol (yo7 true R ins hi hf.1 hf.1 B (M:=1073741824) oM0 oM0 oM0 oM0 (by unfold G;simp) ra rb);have k2:=rc_fol2 (yo7 false R ins hi hfD0 hq.1 B (M:=1073741824) oM0 oM0 oM0 oM0 (by
  unfold G;simp only[As,Bv];rw[Int.add_mul];generalize fuel.tdiv 4*((uSz u.flows:Int)+1)=P;omega) rd rc)
 have ob:qb.2.out.length<=1073741824:=by have:=ib.out;have:=ib.ok.1;omega
 have od:qd.2.out.length<=1073741824:=by have:=id.out;have:=id.ok.1;omega
 exact j3r u v hW ins fuel (fuel.tdiv 4) oM0 rfl _ _ _ _ (yr4 u h1 hW hz ins fuel da qa ra) (yr4 v hav hW' hz' ins fuel db qb rb) (yr4 v hav hW' hz' ins _ dc qc rc) (yr4 u h1 hW hz ins _ dd qd rd) k1.1 k1.2 k2 (by rw[zq5];exact ob) (by rw[zq5];exact od)
theorem sc_run0(u:Un)(hu:u.arrays=[])(hW:z0j u<=34000000000)(hz:(z17 u).1=0)(ins:List Int)(fuel:Int)(d:Nat)(r:Int×Rs)(h:z4j u d (z06 z0x u.flows 0) [] (run0 ins fuel)=some r):SC Tryz.prog 16 [.pv u.enc,.pv (ints ins),iInt fuel] [] (λ_=>False) (.pv (runv (mEnd r))) []:=by
 obtain⟨ar,fs⟩:=u;obtain rfl:ar=[]:=hu;exact sr_run0 fs hW hz ins fuel d r h
theorem eq_drop{l m:List Int}{i:Nat}{x y:Int}(hl:l.drop i=x::l.drop (i+1))(hm:m.drop i=y::m.drop (i+1)):(l.drop i==m.drop i)=(x==y&&(l.drop (i+1)==m.drop (i+1))):=by
 rw[hl,hm];rfl
theorem yy6(a b:Nd)(ha:a.args.length<=34359738368):SC Tryz.prog 52 [.pv (ndv a),.pv (ndv b)] [] (λk=>k∈[]) (iBool (z6e a b)) []:=by
 refine K0 tb { pb:=[102,103] } [] Tryz.func52 rfl rfl ?_;unfold z6e;have ne:∀{p q:Int},(p != q)=true->(p==q)=false:=λh=>by simpa using h
 have nf:∀{p q:Int},(p != q)=false->(p==q)=true:=λh=>by simpa using h
 refine z00 (λh=>?_) λh=>?_
 ·have h:(a.kind==b.kind)=false:=ne h;exact⟨sE (by rw[h];rfl),Gf⟩
 have h1:(a.kind==b.kind)=true:=nf h;refine z00 (λh=>?_) λh=>?_
 ·have h:(a.op==b.op)=false:=ne h;exact⟨sE (by rw[h1,h];rfl),Gf⟩
 have h2:(a.op==b.op)=true:=nf h;refine z00 (λh=>?_) λh=>?_
 ·have h:(a.n==b.n)=false:=ne h;exact⟨sE (by rw[h1,h2,h];rfl),Gf⟩
 have h3:(a.n==b.n)=true:=nf h;refine z00 (λh=>?_) λh=>?_
 ·have h:decide (a.kind > 4)=true:=h;exact⟨sE (by rw[h1,h2,h3,show decide (a.kind<=4)=false by simp at h⊢;omega];rfl),Gf⟩
 have h4:decide (a.kind<=4)=true:=by have h:decide (a.kind > 4)=false:=h;simp at h⊢;omega
 refine z00 (λh=>?_) λh=>?_
 ·have h:(((a.args.map eInt).length:Int) != ((b.args.map eInt).length:Int))=true:=h;simp only[Ab]at h;exact⟨sE (by rw[h1,h2,h3,h4,args_ne (by simpa using h)];rfl),Gf⟩
 have h:(((a.args.map eInt).length:Int) != ((b.args.map eInt).length:Int))=false:=h;simp only[Ab]at h;have h5:a.args.length=b.args.length:=by simp at h;omega
 rw[h1,h2,h3,h4];refine⟨Nat,λi=>[(5,iInt ((i:Nat):Int))],λ_=>[],λi=>a.args.length-i,λi=>i<=a.args.length/\(a.args==b.args)=(a.args.drop i==b.args.drop i),[],0,⟨Aj _,rfl⟩,Gg,Gf,?_⟩;rintro i ⟨i1,i2⟩;refine z00 (λhc=>?_) λhc=>?_
 ·have hlt:i<a.args.length:=z12 (f:=eInt) rfl hc;obtain⟨x,x1,x2,x3,x4⟩:=z0u hlt;obtain⟨y,y1,y2,y3,y4⟩:=z0u (show i<b.args.length by omega);rw[eq_drop x3 y3]at i2;refine⟨z02 (f:=eInt) x1,rfl,z02 (f:=eInt) y1,rfl,z00 (λh=>?_) λh=>?_⟩
  ·exact⟨sE (by rw[i2,ne h];rfl),Gf⟩
  ·rw[nf h,B6]at i2;exact⟨z01 rfl oM0,i+1,z05 hlt,⟨hlt,i2⟩,Gg,Gf,rfl,rfl,rfl,rfl⟩
 ·have hge:a.args.length<=i:=z13 (f:=eInt) rfl hc;rw[Ae hge,Ae (show b.args.length<=i by omega)]at i2;exact⟨sE (by rw[i2];rfl),Gf⟩
theorem y20:∀(N:Nat)(l:List Nd),SizeOf.sizeOf l<N->lsW l<=34359738368->SC Tryz.prog 27 [.pv (z2h l)] [] (λk=>k∈[]) (iBool (onL [] l)) []
 |0,_,h=>A9 h (An _)
 |N+1,l,hN=>λhb=>by
  refine K0 tb {} [] Tryz.func27 rfl rfl ?_;have hle:=j21 l;refine⟨Nat,λi=>[(3,iInt ((i:Nat):Int))],λ_=>[],λi=>l.length-i,λi=>i<=l.length/\onL [] l=onL (l.take i) (l.drop i),[],0,⟨Aj _,rfl⟩,Gg,Gf,?_⟩;rintro i ⟨i1,i2⟩;refine z00 (λhc=>?_) λhc=>?_
  ·have hlt:i<l.length:=z12 (f:=Nd.enc) rfl hc;obtain⟨x,x1,x2,x3,x4⟩:=z0u hlt;have hWx:=zb5 x;have hWl:=y11 x4;have hkl:=ym2 x.kids;rw[x3,onL,j2i,<- x2]at i2;refine⟨Nat,λk=>[(4,iInt ((k:Nat):Int))],λ_=>[],λk=>i-k,λk=>k<=i/\((l.take i).any λy=>z6e y x)=((l.take i).drop k).any λy=>z6e y x,[],0,⟨Aj _,rfl⟩,Gg,Gf,?_⟩;rintro k ⟨k1,k2⟩;refine z00 (λhc2=>?_) λhc2=>?_
   ·have hlt2:k<i:=by simpa using hc2
    have hti:k<(l.take i).length:=by rw[Db];omega
    obtain⟨y,y1,y2,y3,y4⟩:=z0u hti;have hym:=List.mem_of_mem_take y4;have hyl:l[k]?=some y:=by rw[C3,A5 hlt2]at y1;exact y1
    have hWy:=zb5 y;have hWm:=y11 hym;rw[y3,Gc]at k2;have hA:=yy6 y x oM0;generalize z6e y x=c at hA k2
    cases c
    ·exact⟨z0a hyl,rfl,z0a x1,rfl,[],hA,sR,Gf,rfl,z01 rfl oM0,k+1,z05 hlt2,⟨hlt2,k2⟩,Gg,Gf,rfl,rfl,rfl,rfl⟩
    ·exact⟨z0a hyl,rfl,z0a x1,rfl,[],hA,sR,Gf,rfl,sE (by rw[i2,k2];rfl),Gf⟩
   ·have hge2:i<=k:=by simpa using hc2
    rw[Ae (by rw[Db];omega)]at k2;rw[k2]at i2;refine⟨Nat,λj=>[(5,iInt ((j:Nat):Int))],λ_=>[],λj=>x.kids.length-j,λj=>j<=x.kids.length/\onK x.kids=onK (x.kids.drop j),[],0,⟨Aj _,rfl⟩,Gg,Gf,?_⟩;rintro j ⟨j1,j2⟩;refine⟨z0a x1,rfl,z00 (λhc2=>?_) λhc2=>?_⟩
    ·have hlt2:j<x.kids.length:=z12 (f:=eKid) rfl hc2;obtain⟨q,q1,q2,q3,q4⟩:=z0u hlt2;have hqW:=z9o q4;have hQ:=y20 N q (Bg (zc7 x4 rfl q4) (C7 hN)) oM0;rw[q3,onK]at j2;generalize onL [] q=c at hQ j2
     cases c
     ·exact⟨z0a x1,rfl,z02 (f:=eKid) q1,rfl,[],hQ,sR,Gf,rfl,sE (by rw[i2,j2];rfl),Gf⟩
     ·exact⟨z0a x1,rfl,z02 (f:=eKid) q1,rfl,[],hQ,sR,Gf,rfl,z01 rfl oM0,j+1,z05 hlt2,⟨hlt2,j2⟩,Gg,Gf,rfl,rfl,rfl,rfl⟩
    ·have hge2:x.kids.length<=j:=z13 (f:=eKid) rfl hc2;rw[Ae hge2]at j2;rw[j2]at i2;exact⟨z01 rfl oM0,i+1,z05 hlt,⟨hlt,i2⟩,Gg,Gf,rfl,rfl,rfl,rfl⟩
  ·have hge:l.length<=i:=z13 (f:=Nd.enc) rfl hc;rw[Ae hge]at i2;exact⟨sE (by rw[i2];rfl),Gf⟩
theorem yq9(u:Un)(hW:z0j u<=34000000000):SC Tryz.prog 11 [.pv u.enc] [] (λk=>k∈[]) (iBool (y4c u)) []:=by
 refine K0 tb { pb:=[101] } [] Tryz.func11 rfl rfl ?_;have hw2:u.flows.length<=z0j u:=by unfold z0j;omega
 unfold y4c;refine⟨Nat,λi=>[(3,iInt ((i:Nat):Int))],λ_=>[],λi=>u.flows.length-i,λi=>i<=u.flows.length/\(u.flows.all λf=>onL [] f.body)=((u.flows.drop i).all λf=>onL [] f.body),[],0,⟨Aj _,rfl⟩,Gg,Gf,?_⟩;rintro i ⟨i1,i2⟩;refine z00 (λhc=>?_) λhc=>?_
 ·have hlt:i<u.flows.length:=z12 (f:=Fl.enc) rfl hc;obtain⟨x,x1,x2,x3,x4⟩:=z0u hlt;rw[x3,De]at i2;have hx:=ze6 x4;have hF:=y20 _ x.body (Ac _) oM0;generalize onL [] x.body=b at hF i2
  cases b
  ·exact⟨z02 (f:=Fl.enc) x1,rfl,[],hF,sR,Gf,rfl,sE (by rw[i2];rfl),Gf⟩
  ·exact⟨z02 (f:=Fl.enc) x1,rfl,[],hF,sR,Gf,rfl,z01 rfl oM0,i+1,z05 hlt,⟨hlt,i2⟩,Gg,Gf,rfl,rfl,rfl,rfl⟩
 ·have hge:u.flows.length<=i:=z13 (f:=Fl.enc) rfl hc;rw[Ae hge]at i2;exact⟨sE (by rw[i2];rfl),Gf⟩
theorem j4p(ts:List Int)(l:List Nd):SC Tryz.prog 15 [.pv (ints ts),.pv (z2h l)] [] (λk=>k∈[]) (.pv (.agg [.val (.slice none 0 0),flws [⟨z0x,1,0,ts,l⟩]])) []:=by
 refine K0 tb {} [] Tryz.func15 rfl rfl ?_;exact⟨sI,Gf⟩
def wakeL:List Nd:=[(.mk 8 0 0 ⟨#[]⟩ [] [0] [] []),(.mk 4 3 0 ⟨#[]⟩ [0,0] [1] [] []),(.mk 4 3 0 ⟨#[]⟩ [0,0] [2] [] []),(.mk 15 0 0 ⟨#[]⟩ [2] [] [] [])]
def y7a:Un:=⟨[],[⟨z0x,1,0,[1,1,1],wakeL⟩]⟩
theorem zf8:(z17 y7a).1=0:=by decide +kernel
theorem y2p:z0j y7a<=34000000000:=by decide +kernel
theorem j67:((z4j (z3r stB y7a) 20 (z06 z0x (z3r stB y7a).flows 0) [] (run0 [3] 4)).map λr=>(z16 r.2,r.1))=some (false,9):=by decide +kernel
theorem wake_run:∃r,z4j (z3r stB y7a) 20 (z06 z0x (z3r stB y7a).flows 0) [] (run0 [3] 4)=some r/\(mEnd r).st=1/\(mEnd r).code=9:=by
 have h:=j67;rw[A8]at h;obtain⟨r,h1,h2⟩:=h;simp only[Dz]at h2;refine⟨r,h1,?_,?_⟩
 ·simp only[mEnd,h2.1,As,Bv]
 ·simp only[mEnd,h2.1,As,Bv,h2.2]
def j66:PV:=.seq [[vInt 8,vInt 0,vInt 0,vStr ⟨#[]⟩,.val (.slice none 0 0),.seq [[vInt 0]],.val (.slice none 0 0),.val (.slice none 0 0)],[vInt 4,vInt 3,vInt 0,vStr ⟨#[]⟩,.seq [[vInt 0],[vInt 0]],.seq [[vInt 1]],.val (.slice none 0 0),.val (.slice none 0 0)],[vInt 4,vInt 3,vInt 0,vStr ⟨#[]⟩,.seq [[vInt 0],[vInt 0]],.seq [[vInt 2]],.val (.slice none 0 0),.val (.slice none 0 0)],[vInt 15,vInt 0,vInt 0,vStr ⟨#[]⟩,.seq [[vInt 2]],.val (.slice none 0 0),.val (.slice none 0 0),.val (.slice none 0 0)]]
theorem wake_sub:PSub j66 (z2h wakeL):=by
 show PSub _ (.seq [_,_,_,_])
 repeat' (first|exact PSub.nil|exact PSub.refl _|exact trivial|refine And.intro ?_ ?_|refine PSub.seq (ps:=[_,_,_,_]) (qs:=[_,_,_,_]) ?_|refine PSub.seq (ps:=[_]) (qs:=[_]) ?_)
theorem yt5:z99 stB ⟨[],[]⟩=(⟨[],[]⟩,1):=y3z stB (by decide +kernel)
theorem j3q(L:List Nd)(hL:PSub j66 (z2h L))(V:Un)(hH:z99 stB (⟨[],[⟨z0x,1,0,[1,1,1],L⟩]⟩:Un)=(V,0))(hW:z0j (⟨[],[⟨z0x,1,0,[1,1,1],L⟩]⟩:Un)<=34000000000)(hVa:V.arrays=[])(hVl:V.flows.length=1)(hVr:y4c V=true)(hVW:z0j V<=34000000000)(hVz:(z17 V).1=0)(r:Int×Rs)(hr:z4j V 20 (z06 z0x V.flows 0) [] (run0 [3] 4)=some r)(h1:(mEnd r).st=1)(h2:(mEnd r).code=9):SC Tryz.prog 6 [] [] (λk=>k∈[]) (iBool true) []:=by
 refine K0 tb {} [] Tryz.func6 rfl rfl ?_;have hsc:=yf5 (⟨[],[⟨z0x,1,0,[1,1,1],L⟩]⟩:Un) hW zu2;rw[hH]at hsc;have hse:=yf5 ⟨[],[]⟩ dC0 zu2;rw[yt5]at hse;have hR:=yq9 V hVW;rw[hVr]at hR;have hrun:=sc_run0 V hVa hVW hVz [3] 4 20 r hr;have hv:runv (mEnd r)=.agg [vInt 1,vInt 9,ints (mEnd r).out,vInt (mEnd r).cost,vInt (mEnd r).fuel]:=by unfold runv;rw[h1,h2]
 rw[hv]at hrun;obtain⟨va,vf⟩:=V;obtain⟨f0,rfl⟩:=Eb.1 (show vf.length=1 from hVl);exact⟨[],j4p [1,1,1] L,H0 (I0 (sP hL) J0),Gf,rfl,[],hsc,I0 (sP (z0g _)) J0,Gf,rfl,[],hrun,sR,Gf,rfl,[],hR,sR,Gf,rfl,[],hse,I0 (sP (z0g _)) J0,Gf,rfl,sI,Gf⟩
theorem sc_awake:SC Tryz.prog 6 [] [] (λk=>k∈[]) (iBool true) []:=by
 obtain⟨r,hr,h1,h2⟩:=wake_run;have hc:=y38 zf8;exact j3q wakeL wake_sub (z3r stB y7a) (z6a stB zf8) y2p rfl rfl (by have:=y49 y7a;rw[z6a stB zf8]at this;exact this) (by have:=y65 stB y3v y7a;rw[z6a stB zf8]at this;exact Bm this y2p) (by rw[hc]) r hr h1 h2
def riH(p:Pg)(lo:Lo)(vs:List (Value×PV))(s:RiS):List (Nat×HO):=riBx p s.ts lo++riLx vs s.ns
def j32(k:Int)(n:Nat)(b:Bool):Bool:=if k=5 then n==2 else if k=1∨k=2∨k=3∨k=4∨k=6∨k=8 then true else b
mutual
def riOk(p:Pg):Ex->Bool
 |.mk k _ _ nm args=>j32 k args.length (decide (0<=z3l p nm))&&zn3 p args
def zn3(p:Pg):List Ex->Bool
 |[]=>true
 |x::r=>riOk p x&&zn3 p r
end
theorem zd9{p:Pg}{x:Ex}:∀{l:List Ex},zn3 p l=true->x∈l->riOk p x=true
 |y::r,h,hm=>by
  simp only[zn3,A0]at h;rcases Aq.1 hm with rfl|hm
  ·exact h.1
  ·exact zd9 h.2 hm
def fRX(p:Pg)(lo:Lo)(vs:List (Value×PV))(e:Ex):Prop:=∀s:RiS,s.ts.length+4*xz e<=34000000000->s.ns.length+4*xz e<=34000000000->SC Tryz.prog 119 [.ptr 4 0,.pv (exv e)] (riH p lo vs s) (λk=>k∈[]) (iInt (riX p vs e s).1) (riH p lo vs (riX p vs e s).2)
def riLe(s s':RiS)(n:Nat):Prop:=s'.ts.length<=s.ts.length+4*n/\s'.ns.length<=s.ns.length+4*n
theorem riTop_le(p:Pg)(k o n:Int)(nm:ByteArray)(l:List Int)(s:RiS):riLe s (zj3 p k o n nm l s).2 1:=by
 unfold zj3 riLe
 repeat' split
 all_goals simp[z61]
theorem yw3(o a:Int)(ns:List Nd)(r:Int×RiS):(z5u o a ns r).2.ts.length=r.2.ts.length+2/\(z5u o a ns r).2.ns.length=ns.length+1:=by
 unfold z5u;split<;>simp[z61]
theorem zw8(p:Pg)(vs:List (Value×PV)):∀(N:Nat),(∀e:Ex,SizeOf.sizeOf e<N->∀s,riLe s (riX p vs e s).2 (xz e))/\(∀l:List Ex,SizeOf.sizeOf l<N->∀s,riLe s (riXL p vs l s).2 (xzL l))/\(∀(o:Int)(l:List Ex),SizeOf.sizeOf l<N->∀s,riLe s (riSh p vs o l s).2 (1+xzL l))/\(∀(o a:Int)(s:RiS)(l:List Ex),SizeOf.sizeOf l<N->riLe s (zj1 p vs o a s l).2 (1+xzL l))
 |0=>⟨λ_ h=>A9 h (An _),λ_ h=>A9 h (An _),λ_ _ h=>A9 h (An _),λ_ _ _ _ h=>A9 h (An _)⟩
 |N+1=>by
  obtain⟨h1,h2,h3,h4⟩:=zw8 p vs N;refine⟨λe he s=>?_,λl hl s=>?_,λo l hl s=>?_,λo a s l hl=>?_⟩
  ·obtain⟨k,o,n,nm,args⟩:=e;simp at he;rw[riX];split
   ·exact⟨Bl _ _,Bl _ _⟩
   ·split
    ·have:=h3 o args oM0 s;simp only[xz];exact this
    ·have g1:=h2 args oM0 s;have g2:=riTop_le p k o n nm (riXL p vs args s).1 (riXL p vs args s).2;simp only[xz];unfold riLe at g1 g2⊢;omega
  ·match l with
   |[]=>rw[riXL];exact⟨Bl _ _,Bl _ _⟩
   |e::r =>
    simp at hl;have g1:=h1 e oM0 s;have g2:=h2 r oM0 (riX p vs e s).2;rw[riXL];simp only[xzL];unfold riLe at g1 g2⊢;omega
  ·match l with
   |[]=>rw[riSh];exact⟨Bl _ _,Bl _ _⟩
   |e::r =>
    simp at hl;have g1:=h1 e oM0 s;have g2:=h4 o (riX p vs e s).1 (riX p vs e s).2 r oM0;rw[riSh];simp only[xzL];unfold riLe at g1 g2⊢;omega
  ·match l with
   |[]=>rw[zj1];exact⟨Bl _ _,Bl _ _⟩
   |e::r =>
    simp at hl;have g1:=h1 e oM0 ⟨s.ts,[]⟩;have g2:=yw3 o a s.ns (riX p vs e ⟨s.ts,[]⟩);rw[zj1];simp only[xzL];unfold riLe at g1⊢;dsimp only at g1;omega
def riLk(a b c:Nat)(vs:List (Value×PV))(ns:List Nd):List (Nat×HO):=[(a,.box [.ptr 1 0,.mp b,.sl c (ns.map Nd.enc).length]),(b,.map vs),(c,.row ndRt (ns.map Nd.enc))]
theorem riK14{f:FuncId}{p p':Pg}{ts ts':List Int}{lo lo':Lo}{vs vs':List (Value×PV)}{ns ns':List Nd}{x:PV}{r:PV}(h:SC Tryz.prog f [.ptr 4 0,.pv x] (riBx p ts lo++riLx vs ns) (λk=>k∈[]) (.pv r) (riBx p' ts' lo'++riLx vs' ns')) :
 SC Tryz.prog f [.ptr 14 0,.pv x] (riBx p ts lo++riLk 14 15 16 vs ns) (λk=>k∈[]) (.pv r) (riBx p' ts' lo'++riLk 14 15 16 vs' ns'):=L0 (((h.sw 4 14).sw 5 15).sw 6 16) λk _ hk=>A9 hk C1
theorem y4l(p:Pg)(ts:List Int)(lo:Lo)(vs:List (Value×PV))(ns:List Nd):SC Tryz.prog 166 [.ptr 4 0] (riBx p ts lo++riLx vs ns) (λk=>k∈[1,2,3,4,5,6]) (.ptr 24 0) ([(24,.box [.ptr 1 0,.mp 25,.pv (.val (.slice none 0 0))]),(25,.map vs)]++(riBx p ts lo++riLx vs ns)) :=
 L0 (((zf3 p ts lo vs ns).sw 14 24).sw 15 25) λk _ hk=>by
  simp only[Aq,C1,Fp]at hk;rcases hk with rfl|rfl|rfl|rfl|rfl|rfl<;>decide
theorem riP24(p:Pg)(ts:List Int)(lo:Lo)(vs:List (Value×PV))(ns:List Nd)(t k o n:Int)(nm:ByteArray)(args:List Int)(ks:List (List Nd))(ht:ts.length<=34359738368)(hb:ns.length<=34359738368) :
 SC Tryz.prog 169 [.ptr 24 0,.pv (.val (.int .i64 t)),.pv (.agg [vInt k,vInt o,vInt n,vStr nm,ints args,ints [],ints [],kids ks])] (riBx p ts lo++riLk 24 25 26 vs ns) (λk=>k∈[]) (iInt (z61 t k o n nm args ks ⟨ts,ns⟩).1) (riBx p (z61 t k o n nm args ks ⟨ts,ns⟩).2.ts lo++riLk 24 25 26 vs (z61 t k o n nm args ks ⟨ts,ns⟩).2.ns) :=
 L0 ((((z6j p ts lo vs ns t k o n nm args ks ht hb).sw 4 24).sw 5 25).sw 6 26) λk _ hk=>A9 hk C1
theorem riA14(p:Pg)(ts:List Int)(lo:Lo)(vs:List (Value×PV))(ns:List Nd)(x:Nd)(hb:ns.length<=34359738368):SC Tryz.prog 117 [.ptr 14 0,.pv (.agg [vInt x.kind,vInt x.op,vInt x.n,vStr x.name,ints x.args,ints x.outs,ints x.params,kids x.kids])] (riBx p ts lo++riLk 14 15 16 vs ns) (λk=>k∈[]) (.tup []) (riBx p ts lo++riLk 14 15 16 vs (ns++[x])) :=
 L0 ((((z42 p ts lo vs ns x hb).sw 4 14).sw 5 15).sw 6 16) λk _ hk=>A9 hk C1
theorem riA24(p:Pg)(ts:List Int)(lo:Lo)(vs:List (Value×PV))(ns:List Nd)(x:Nd)(hb:ns.length<=34359738368):SC Tryz.prog 117 [.ptr 24 0,.pv (.agg [vInt x.kind,vInt x.op,vInt x.n,vStr x.name,ints x.args,ints x.outs,ints x.params,kids x.kids])] (riBx p ts lo++riLk 24 25 26 vs ns) (λk=>k∈[]) (.tup []) (riBx p ts lo++riLk 24 25 26 vs (ns++[x])) :=
 L0 ((((z42 p ts lo vs ns x hb).sw 4 24).sw 5 25).sw 6 26) λk _ hk=>A9 hk C1
theorem y9d(p:Pg)(lo:Lo)(vs:List (Value×PV))(n:Int)(nm:ByteArray)(e1 e2:Ex)(s:RiS)(h1:fRX p lo vs e1)(h2:fRX p lo vs e2)(hts:s.ts.length+4*(1+xz e1+xz e2)<=34000000000)(hns:s.ns.length+4*(1+xz e1+xz e2)<=34000000000) :
 SC Tryz.prog 168 [.ptr 4 0,.pv (.agg [vInt 5,vInt 18,vInt n,vStr nm,exs [e1,e2]])] (riH p lo vs s) (λk=>k∈[]) (iInt (riSh p vs 18 [e1,e2] s).1) (riH p lo vs (riSh p vs 18 [e1,e2] s).2):=by
 refine K0 tb { pb:=[103],ids:=[(35,30),(43,31)],ob:=[30,31],gh:=[(3,[.growC 14 2 16 47 8]),(5,[.fzC 14 2 16]),(9,[.growC 24 2 26 47 8]),(10,[.fzC 24 2 26]),(11,[.fz 9 30])] } [] Tryz.func168 rfl rfl ?_;have g1:=h1 s oM0 oM0;have l1:=(zw8 p vs _).1 e1 (Ac _) s;rw[riSh,zj1];generalize riX p vs e1 s=r1 at g1 l1⊢;obtain⟨a,s1⟩:=r1;unfold riLe at l1;dsimp only at g1 l1⊢;have g2:=riK14 (h2 ⟨s1.ts,[]⟩ (by dsimp only;omega) (by simp;omega));have l2:=(zw8 p vs _).1 e2 (Ac _) ⟨s1.ts,[]⟩;generalize riX p vs e2 ⟨s1.ts,[]⟩=r2 at g2 l2⊢;obtain⟨b,s2⟩:=r2;unfold riLe at l2;dsimp only at g2 l2;have g3:=riA14 p s2.ts lo vs s2.ns (.mk 12 0 0 ⟨#[]⟩ [b] [] [] []) (by simp at l2;omega);refine⟨z1f (i:=0) rfl,rfl,[],g1,sR,Gm,rfl,[1,2,3,4,5,6],zf3 p s1.ts lo vs s1.ns,sR,⟨rfl,rfl,rfl,rfl,rfl,rfl,rfl,rfl,rfl,rfl,rfl,rfl,Gf⟩,rfl,[1,2,3,4,5,6],y4l p s1.ts lo vs s1.ns,sR,⟨rfl,rfl,rfl,rfl,rfl,rfl,rfl,rfl,rfl,rfl,rfl,rfl,Gf⟩,rfl,?_⟩;refine⟨z1f (i:=1) rfl,rfl,[],g2,sR,Gm,rfl,[],g3,H0 (I0 (sP (z0g _)) J0),Gm,rfl,?_⟩;have g4:=riP24 p s2.ts lo vs [] 2 2 0 0 ⟨#[]⟩ [] [] oM0 sI0;have g5:=riA24 p (s2.ts++[2]) lo vs [.mk 2 0 0 ⟨#[]⟩ [] [(s2.ts.length:Int)] [] []] (.mk 12 0 0 ⟨#[]⟩ [(s2.ts.length:Int)] [] [] []) sI0;have g6:=z6j p (s2.ts++[2]) lo vs s1.ns 2 10 0 0 ⟨#[]⟩ [a] [z6c 12 ⟨#[]⟩ [b] s2.ns,z6c 12 ⟨#[]⟩ [(s2.ts.length:Int)] [.mk 2 0 0 ⟨#[]⟩ [] [(s2.ts.length:Int)] [] []]] (by simp;omega) oM0;refine⟨rfl,[],g4,H0 (H0 (I0 (sP (z0g _)) J0)),Gm,rfl,[],g5,H0 (I0 (sP (z0g _)) J0),Gm,rfl,?_⟩;refine⟨rfl,rfl,(by decide:1<2),rfl,1,0,_,rfl,rfl,rfl,Bx,rfl,?_⟩;exact⟨[],g6,H0 (H0 (I0 (sP (z0g _)) J0)),Gm,rfl,sI,rfl,rfl,rfl,rfl,rfl,rfl,Gf⟩
theorem y9e(p:Pg)(lo:Lo)(vs:List (Value×PV))(n:Int)(nm:ByteArray)(e1 e2:Ex)(s:RiS)(h1:fRX p lo vs e1)(h2:fRX p lo vs e2)(hts:s.ts.length+4*(1+xz e1+xz e2)<=34000000000)(hns:s.ns.length+4*(1+xz e1+xz e2)<=34000000000) :
 SC Tryz.prog 168 [.ptr 4 0,.pv (.agg [vInt 5,vInt 19,vInt n,vStr nm,exs [e1,e2]])] (riH p lo vs s) (λk=>k∈[]) (iInt (riSh p vs 19 [e1,e2] s).1) (riH p lo vs (riSh p vs 19 [e1,e2] s).2):=by
 refine K0 tb { pb:=[103],ids:=[(35,30),(43,31)],ob:=[30,31],gh:=[(3,[.growC 14 2 16 47 8]),(5,[.fzC 14 2 16]),(9,[.growC 24 2 26 47 8]),(10,[.fzC 24 2 26]),(11,[.fz 9 31])] } [] Tryz.func168 rfl rfl ?_;have g1:=h1 s oM0 oM0;have l1:=(zw8 p vs _).1 e1 (Ac _) s;rw[riSh,zj1];generalize riX p vs e1 s=r1 at g1 l1⊢;obtain⟨a,s1⟩:=r1;unfold riLe at l1;dsimp only at g1 l1⊢;have g2:=riK14 (h2 ⟨s1.ts,[]⟩ (by dsimp only;omega) (by simp;omega));have l2:=(zw8 p vs _).1 e2 (Ac _) ⟨s1.ts,[]⟩;generalize riX p vs e2 ⟨s1.ts,[]⟩=r2 at g2 l2⊢;obtain⟨b,s2⟩:=r2;unfold riLe at l2;dsimp only at g2 l2;have g3:=riA14 p s2.ts lo vs s2.ns (.mk 12 0 0 ⟨#[]⟩ [b] [] [] []) (by simp at l2;omega);refine⟨z1f (i:=0) rfl,rfl,[],g1,sR,Gm,rfl,[1,2,3,4,5,6],zf3 p s1.ts lo vs s1.ns,sR,⟨rfl,rfl,rfl,rfl,rfl,rfl,rfl,rfl,rfl,rfl,rfl,rfl,Gf⟩,rfl,[1,2,3,4,5,6],y4l p s1.ts lo vs s1.ns,sR,⟨rfl,rfl,rfl,rfl,rfl,rfl,rfl,rfl,rfl,rfl,rfl,rfl,Gf⟩,rfl,?_⟩;refine⟨z1f (i:=1) rfl,rfl,[],g2,sR,Gm,rfl,[],g3,H0 (I0 (sP (z0g _)) J0),Gm,rfl,?_⟩;have g4:=riP24 p s2.ts lo vs [] 2 2 0 1 ⟨#[]⟩ [] [] oM0 sI0;have g5:=riA24 p (s2.ts++[2]) lo vs [.mk 2 0 1 ⟨#[]⟩ [] [(s2.ts.length:Int)] [] []] (.mk 12 0 0 ⟨#[]⟩ [(s2.ts.length:Int)] [] [] []) sI0;have g6:=z6j p (s2.ts++[2]) lo vs s1.ns 2 10 0 0 ⟨#[]⟩ [a] [z6c 12 ⟨#[]⟩ [(s2.ts.length:Int)] [.mk 2 0 1 ⟨#[]⟩ [] [(s2.ts.length:Int)] [] []],z6c 12 ⟨#[]⟩ [b] s2.ns] (by simp;omega) oM0;refine⟨rfl,[],g4,H0 (H0 (I0 (sP (z0g _)) J0)),Gm,rfl,[],g5,H0 (I0 (sP (z0g _)) J0),Gm,rfl,?_⟩;refine⟨rfl,rfl,(by decide:0<2),rfl,0,0,_,rfl,rfl,rfl,Bx,rfl,?_⟩;exact⟨[],g6,H0 (H0 (I0 (sP (z0g _)) J0)),Gm,rfl,sI,rfl,rfl,rfl,rfl,rfl,rfl,Gf⟩
theorem y8v(p:Pg)(vs:List (Value×PV)):∀(l:List Ex)(e:Ex)(s:RiS),riXL p vs (l++[e]) s=((riXL p vs l s).1++[(riX p vs e (riXL p vs l s).2).1],(riX p vs e (riXL p vs l s).2).2)
 |[],e,s=>by simp[riXL]
 |x::r,e,s=>by
  have:=y8v p vs r e (riX p vs x s).2;simp only[Be,riXL,this]
theorem yp3(p:Pg)(vs:List (Value×PV)):∀(l:List Ex)(s:RiS),(riXL p vs l s).1.length=l.length
 |[],_=>by rw[riXL];rfl
 |x::r,s=>by rw[riXL];simp[yp3 p vs r]
theorem ys9:∀(l:List Ex)(i:Nat),xzL (l.take i)+xzL (l.drop i)=xzL l
 |[],i=>by simp[xzL]
 |_::_,0=>by simp[xzL]
 |x::r,i+1=>by have:=ys9 r i;simp only[Ff,Fd,xzL];omega
theorem yq8(p:Pg)(hp:szP p)(lo:Lo)(vs:List (Value×PV))(hv:Cnt vs):∀(N:Nat)(e:Ex),SizeOf.sizeOf e<N->xz e<=100000000->riOk p e=true->fRX p lo vs e
 |0,_,h,_,_=>A9 h (An _)
 |N+1,.mk k o n nm args,hN,hx,hok=>by
  intro s hts hns;have hx0:=hx;simp only[xz]at hx hts hns;have hl:=zc8 args;rw[riOk,A0]at hok;have ih:∀x∈args,fRX p lo vs x:=λx hm=>yq8 p hp lo vs hv N x (by have:=Br hm;simp at hN;omega) (by have:=zh6 hm;omega) (zd9 hok.2 hm)
  by_cases hs:k=5/\(o=18∨o=19)
  ·obtain⟨rfl,ho⟩:=hs;have h2:args.length=2:=by have:=hok.1;unfold j32 at this;rw[A5 rfl]at this;exact Av this
   obtain⟨e1,e2,rfl⟩:∃e1 e2,args=[e1,e2]:=by
    match args,h2 with
    |[a,b],_=>exact⟨a,b,rfl⟩
   simp only[xzL]at hts hns;rw[riX,A1 dC0,A5 ⟨rfl,ho⟩];rcases ho with rfl|rfl
   ·refine K0 tb { pb:=[103] } [] Tryz.func119 rfl rfl ?_;exact⟨[],y9d p lo vs n nm e1 e2 s (ih e1 sI0) (ih e2 sI0) oM0 oM0,sR,Gm,rfl,sI,rfl,rfl,rfl,rfl,rfl,rfl,Gf⟩
   ·refine K0 tb { pb:=[103] } [] Tryz.func119 rfl rfl ?_;exact⟨[],y9e p lo vs n nm e1 e2 s (ih e1 sI0) (ih e2 sI0) oM0 oM0,sR,Gm,rfl,sI,rfl,rfl,rfl,rfl,rfl,rfl,Gf⟩
  by_cases h3:k=3
  ·subst h3;rw[riX,A5 rfl];refine K0 tb { pb:=[103] } [] Tryz.func119 rfl rfl ?_;exact VAsk.mk (p:=vInt (y2y vs nm)) (b:=(z1z (.string nm) vs).isSome) rfl hv.1 (Ec (hv.getI nm) rfl) ⟨sI,rfl,rfl,rfl,rfl,rfl,rfl,Gf⟩
  rw[riX,A1 h3,A1 hs];refine K0 tb { pb:=[103],jn:=[5],gh:=[(6,[.grow 5 1001 3 1]),(11,[.fz 5 1001])] } [] Tryz.func119 rfl rfl ?_;refine⟨Unit,λ_=>[],λ_=>[],λ_=>True,[],?_,?_⟩
  ·refine z00 (λc=>A9 (Av c) h3) λ_=>z00 (λc=>?_) λc=>?_
   ·have c:k=5:=Av c;exact z00 (λc2=>A9 ⟨c,.inl (Av c2)⟩ hs) λ_=>z00 (λc2=>A9 ⟨c,.inr (Av c2)⟩ hs) λ_=>⟨(),Gf,Gf,Gf,rfl,rfl,rfl,rfl⟩
   ·exact⟨(),Gf,Gf,Gf,rfl,rfl,rfl,rfl⟩
  rintro _ _;have hle0:=(zw8 p vs _).2.1 args (Ac _) s;unfold riLe at hle0;have h00:riXL p vs (args.take 0) s=([],s):=by rw[List.take_zero,riXL]
  refine⟨Nat,λi=>[(40,iInt ((i:Nat):Int)),(5,.sl 1001 ((riXL p vs (args.take i) s).1.map eInt).length)],λi=>(1001,.row inRt ((riXL p vs (args.take i) s).1.map eInt))::riH p lo vs (riXL p vs (args.take i) s).2,λi=>args.length-i,λi=>i<=args.length,[],0,Aj _,⟨rfl,(by simp only[h00];rfl),Gf⟩,(by simp only[h00];exact Gp),?_⟩;clear h00 hs;intro i hi;have hle:=(zw8 p vs _).2.1 (args.take i) (Ac _) s;unfold riLe at hle;have hxt:=ys9 args i;have hlen:=yp3 p vs (args.take i) s;refine z00 (λhc=>?_) λhc=>?_
  ·have hlt:i<args.length:=z12 (f:=Ex.enc) rfl hc;obtain⟨x,x1,x2,x3,x4⟩:=z0u hlt;rw[x3]at hxt;simp only[xzL]at hxt;have hsn:=y8v p vs (args.take i) x s;rw[<- x2]at hsn;generalize riXL p vs (args.take i) s=L at hle hlen hsn⊢;obtain⟨L1,q⟩:=L;dsimp only at hle hlen hsn;have hX:=ih x x4 q oM0 oM0;generalize riX p vs x q=W at hX hsn;obtain⟨w1,w2⟩:=W;dsimp only at hX hsn;exact⟨z1f x1,rfl,[],hX,sR,Gm,rfl,rfl,z3u rfl,by simp at hlen⊢;omega,z01 rfl oM0,i+1,z05 hlt,hlt,⟨rfl,slq (by rw[hsn];simp),Gf⟩,⟨rwq (by rw[hsn];simp[eInt]),by rw[hsn];rfl,by rw[hsn];rfl,rfl,by rw[hsn];rfl,rfl,by rw[hsn];rfl,Gf⟩,rfl,rfl,rfl,rfl⟩
  ·have hge:args.length<=i:=z13 (f:=Ex.enc) rfl hc;rw[Az hge]at hlen⊢;clear hle hxt;generalize riXL p vs args s=L at hle0 hlen⊢;obtain⟨l,q⟩:=L;dsimp only at hle0 hlen⊢;have hpl:k≠1->k≠2->k≠4->k≠5->k≠6->k≠8->0<=z3l p nm:=λa b c d e f=>by
    have:=hok.1;unfold j32 at this;rw[A1 d,A1 oM0]at this;exact Ap this
   clear hok ih;generalize hT:zj3 p k o n nm l q=T;unfold zj3 at hT;refine⟨rfl,z00 (λc=>?_) λc1=>z00 (λc=>?_) λc2=>z00 (λc=>?_) λc4=>z00 (λc=>?_) λc5=>z00 (λc=>?_) λc6=>z00 (λc=>?_) λc8=>?_⟩
   ·have c:k=1:=Av c;rw[A5 c]at hT;subst hT;exact⟨[],z6j p q.ts lo vs q.ns 1 1 0 n ⟨#[]⟩ [] [] oM0 oM0,H0 (H0 (I0 (sP (z0g _)) J0)),Gm,rfl,sI,rfl,rfl,rfl,rfl,rfl,rfl,Gf⟩
   ·have c1:¬k=1:=Aa.1 c1;have c:k=2:=Av c;rw[A1 c1,A5 c]at hT;subst hT;exact⟨[],z6j p q.ts lo vs q.ns 2 2 0 n ⟨#[]⟩ [] [] oM0 oM0,H0 (H0 (I0 (sP (z0g _)) J0)),Gm,rfl,sI,rfl,rfl,rfl,rfl,rfl,rfl,Gf⟩
   ·have c1:¬k=1:=Aa.1 c1;have c2:¬k=2:=Aa.1 c2;have c:k=4:=Av c;rw[A1 c1,A1 c2,A5 c]at hT;subst hT;exact⟨[],y9b o,sR,Gf,rfl,[],z6j p q.ts lo vs q.ns (y1l o) 3 o 0 ⟨#[]⟩ l [] oM0 oM0,H0 (H0 (I0 (sP (z0g _)) J0)),Gm,rfl,sI,rfl,rfl,rfl,rfl,rfl,rfl,Gf⟩
   ·have c1:¬k=1:=Aa.1 c1;have c2:¬k=2:=Aa.1 c2;have c4:¬k=4:=Aa.1 c4;have c:k=5:=Av c;rw[A1 c1,A1 c2,A1 c4,A5 c]at hT;subst hT;exact⟨[],y9b o,sR,Gf,rfl,[],z6j p q.ts lo vs q.ns (y1l o) 4 o 0 ⟨#[]⟩ l [] oM0 oM0,H0 (H0 (I0 (sP (z0g _)) J0)),Gm,rfl,sI,rfl,rfl,rfl,rfl,rfl,rfl,Gf⟩
   ·have c1:¬k=1:=Aa.1 c1;have c2:¬k=2:=Aa.1 c2;have c4:¬k=4:=Aa.1 c4;have c5:¬k=5:=Aa.1 c5;have c:k=6:=Av c;rw[A1 c1,A1 c2,A1 c4,A1 c5,A5 c]at hT;subst hT;exact⟨[],z6j p q.ts lo vs q.ns 1 5 0 0 nm l [] oM0 oM0,H0 (H0 (I0 (sP (z0g _)) J0)),Gm,rfl,sI,rfl,rfl,rfl,rfl,rfl,rfl,Gf⟩
   ·have c1:¬k=1:=Aa.1 c1;have c2:¬k=2:=Aa.1 c2;have c4:¬k=4:=Aa.1 c4;have c5:¬k=5:=Aa.1 c5;have c6:¬k=6:=Aa.1 c6;have c:k=8:=Av c;rw[A1 c1,A1 c2,A1 c4,A1 c5,A1 c6,A5 c]at hT;subst hT;exact⟨[],z6j p q.ts lo vs q.ns 1 8 0 0 ⟨#[]⟩ [] [] oM0 oM0,H0 (H0 (I0 (sP (z0g _)) J0)),Gm,rfl,sI,rfl,rfl,rfl,rfl,rfl,rfl,Gf⟩
   ·have c1:¬k=1:=Aa.1 c1;have c2:¬k=2:=Aa.1 c2;have c4:¬k=4:=Aa.1 c4;have c5:¬k=5:=Aa.1 c5;have c6:¬k=6:=Aa.1 c6;have c8:¬k=8:=Aa.1 c8;rw[A1 c1,A1 c2,A1 c4,A1 c5,A1 c6,A1 c8]at hT;subst hT;obtain⟨j,j1,j2⟩:=zy8 (hpl c1 c2 c4 c5 c6 c8);exact⟨[],zf5 p nm hp.1,sR,Gf,rfl,zb2 j2,j1,[],z6j p q.ts lo vs q.ns (fuAt p (z3l p nm)).ty 7 0 0 nm l [] oM0 oM0,H0 (H0 (I0 (sP (z0g _)) J0)),Gm,rfl,sI,rfl,rfl,rfl,rfl,rfl,rfl,Gf⟩
def riW(p:Pg)(lo:List (List ByteArray))(s:RiT):List (Nat×HO):=riBx p s.ts ⟨lo,s.jk⟩++riLx s.vs s.ns
def scB(p:Pg)(l:List St)(lo:List (List ByteArray))(s:RiT)(a:Bool×RiT):Prop:=SC Tryz.prog 38 [.ptr 4 0,.pv (sts l)] (riW p lo s) (λk=>k∈[]) (iBool a.1) (riW p lo a.2)
theorem scB14{p:Pg}{l:List St}{lo:List (List ByteArray)}{s:RiT}{a:Bool×RiT}(h:scB p l lo s a):SC Tryz.prog 38 [.ptr 14 0,.pv (sts l)] (riBx p s.ts ⟨lo,s.jk⟩++riLk 14 15 16 s.vs s.ns) (λk=>k∈[]) (iBool a.1) (riBx p a.2.ts ⟨lo,a.2.jk⟩++riLk 14 15 16 a.2.vs a.2.ns):=L0 (((h.sw 4 14).sw 5 15).sw 6 16) λk _ hk=>A9 hk C1
theorem y9c(vs:List (Value×PV))(hv:Cnt vs)(l:List ByteArray)(hl:l.length<=34359738368):SC Tryz.prog 118 [.mp 15,.pv (txs l)] [(15,.map vs)] (λk=>k∈[15]) (.pv (ints (riOf vs l))) [(15,.map vs)]:=L0 ((zj8 vs hv l hl).sw 5 15) λk _ hk=>by rw[Al.1 hk];exact D6
theorem yq7(p:Pg)(l:List St)(z03:List ByteArray)(lo:List (List ByteArray))(vs:List (Value×PV))(ts:List Int)(jk:List (List ByteArray))(ns:List Nd)(a:Bool×RiT)(hB:scB p l lo ⟨vs,ts,[],jk⟩ a)(hv:Cnt a.2.vs)(hnm:z03.length<=34359738368)(hns:a.2.ns.length<=34359738368) :
 SC Tryz.prog 163 [.ptr 4 0,.pv (sts l),.pv (txs z03)] (riW p lo ⟨vs,ts,ns,jk⟩) (λk=>k∈[]) (.pv (z2h (z5a 12 z03 a))) (riW p lo ⟨vs,a.2.ts,ns,a.2.jk⟩):=by
 refine K0 tb { ids:=[(9,14)],gh:=[(2,[.growC 14 2 16 47 8]),(4,[.fzC 14 2 16])] } [] Tryz.func163 rfl rfl ?_;have hK:=zf3 p ts ⟨lo,jk⟩ vs ns;have hB:=scB14 hB;obtain⟨b,q⟩:=a;dsimp only at hv hns hB⊢;refine⟨[1,2,3,4,5,6],hK,sR,⟨rfl,rfl,rfl,rfl,rfl,rfl,rfl,rfl,rfl,rfl,rfl,rfl,Gf⟩,rfl,[],hB,sR,Gm,rfl,?_⟩
 cases b
 ·exact⟨[15],y9c q.vs hv z03 hnm,sR,Gi,rfl,[],riA14 p q.ts ⟨lo,q.jk⟩ q.vs q.ns (.mk 12 0 0 ⟨#[]⟩ (riOf q.vs z03) [] [] []) hns,H0 (I0 (sP (z0g _)) J0),Gm,rfl,rfl,sI,rfl,rfl,rfl,rfl,rfl,rfl,Gf⟩
 ·exact⟨rfl,sI,rfl,rfl,rfl,rfl,rfl,rfl,Gf⟩
structure NmOk(vs:List (Value×PV))(ls:List (List St))(n:Nat):Prop where
 sz:∀l∈ls,szL l<=1073741824
 tx:∀e∈z8r vs ls,(z79 e.1).size<=maxLen
 len:(z8r vs ls).length<=1073741824
 at_:∀v∈riOf vs (z0c vs ls),0<=v/\v<n
theorem z9x(vs:List (Value×PV))(ls:List (List St)):(z0c vs ls).length=(z8r vs ls).length:=by simp[z0c,zo7]
theorem yg7(p:Pg)(x:St)(lo:List (List ByteArray))(s:RiT)(hv:Cnt s.vs)(e:Ex)(he:x.args[0]?=some e)(c:Int×RiS)
 (hX:SC Tryz.prog 119 [.ptr 4 0,.pv (exv e)] (riH p ⟨lo,s.jk⟩ s.vs ⟨s.ts,s.ns⟩) (λk=>k∈[]) (iInt c.1) (riH p ⟨lo,s.jk⟩ s.vs c.2)) (a b:Bool×RiT)
 (hA:scB p x.thn lo ⟨s.vs,c.2.ts,[],s.jk⟩ a) (hB:scB p x.els lo ⟨s.vs,a.2.ts,[],a.2.jk⟩ b) (ha:Cnt a.2.vs) (hb:Cnt b.2.vs) (han:a.2.ns.length<=34000000000) (hbn:b.2.ns.length<=34000000000)
 (hN:NmOk s.vs [x.thn,x.els] b.2.ts.length) (hcn:c.2.ns.length<=34000000000) (hbt:b.2.ts.length<=33000000000) :
 SC Tryz.prog 115 [.ptr 4 0,.pv (stv x)] (riW p lo s) (λk=>k∈[]) (iBool (zf2 s (z0c s.vs [x.thn,x.els]) c a b).1) (riW p lo (zf2 s (z0c s.vs [x.thn,x.els]) c a b).2):=by
 refine K0 tb { pb:=[103] } [] Tryz.func115 rfl rfl ?_;have hC:=zx0 s.vs hv [x.thn,x.els] sI0 hN.sz hN.tx hN.len;have hln:=z9x s.vs [x.thn,x.els];have hl1:=hN.len;have hat:=hN.at_;generalize z0c s.vs [x.thn,x.els]=z03 at hC hln hat⊢;have hA:=yq7 p x.thn z03 lo s.vs c.2.ts s.jk c.2.ns a hA ha oM0 oM0;have hB:=yq7 p x.els z03 lo s.vs a.2.ts a.2.jk c.2.ns b hB hb oM0 oM0;have hK:=zs8 (.mk 10 0 0 ⟨#[]⟩ [c.1] [] [] [z5a 12 z03 a,z5a 12 z03 b]);obtain⟨c1,c2⟩:=c;obtain⟨a1,a2⟩:=a;obtain⟨b1,b2⟩:=b;unfold zf2 z5t;dsimp only at hX hA hB hK hcn hbt hat⊢;refine⟨z1f he,rfl,[],hX,sR,Gm,rfl,[5],hC,sR,Gi,rfl,[],hA,sR,Gm,rfl,[],hB,sR,Gm,rfl,?_⟩;refine⟨[],hK,I0 (sP (z0g _)) J0,Gf,rfl,?_⟩;generalize z04 (.mk 10 0 0 ⟨#[]⟩ [c1] [] [] [z5a 12 z03 (a1,a2),z5a 12 z03 (b1,b2)])=k
 cases k
 ·have hO:=zj8 s.vs hv z03 oM0;have hlen:(riOf s.vs z03).length=z03.length:=by simp[riOf]
  have hL:=y23 p b2.ts ⟨lo,b2.jk⟩ (riOf s.vs z03) hat oM0;have hl2:=z3i (riOf s.vs z03) b2.ts;have hS:=y6r s.vs hv z03 (z15 b2.ts (riOf s.vs z03)).1 oM0 oM0;have hD:=z42 p (z15 b2.ts (riOf s.vs z03)).2 ⟨lo,b2.jk⟩ (zn4 s.vs z03 (z15 b2.ts (riOf s.vs z03)).1) c2.ns (.mk 10 0 0 ⟨#[]⟩ [c1] (z15 b2.ts (riOf s.vs z03)).1 [] [z5a 12 z03 (a1,a2),z5a 12 z03 (b1,b2)]) oM0;exact⟨[5],hO,sR,Gi,rfl,[],hL,sR,Gj,rfl,[],hS,sR,Gg,rfl,[],hD,H0 (I0 (sP (z0g _)) J0),Gm,rfl,sI,rfl,rfl,rfl,rfl,rfl,rfl,Gf⟩
 ·have hD:=z42 p b2.ts ⟨lo,b2.jk⟩ s.vs c2.ns (.mk 10 0 0 ⟨#[]⟩ [c1] [] [] [z5a 12 z03 (a1,a2),z5a 12 z03 (b1,b2)]) oM0;exact⟨[],hD,H0 (I0 (sP (z0g _)) J0),Gm,rfl,sI,rfl,rfl,rfl,rfl,rfl,rfl,Gf⟩
theorem yg9(p:Pg)(x:St)(z03:List ByteArray)(lo:List (List ByteArray))(s:RiT)(e:Ex)(he:x.args[0]?=some e)(ht:ze0 e=true)(a:Bool×RiT)(hA:scB p x.thn lo s a)(ha:Cnt a.2.vs)(hnm:z03.length<=34359738368)(han:a.2.ns.length<=34000000000) :
 SC Tryz.prog 167 [.ptr 4 0,.pv (stv x),.pv (txs z03)] (riW p lo s) (λk=>k∈[]) (.tup []) (riW p lo ⟨a.2.vs,a.2.ts,z5a 13 z03 a,a.2.jk⟩):=by
 refine K0 tb { pb:=[104,106] } [] Tryz.func167 rfl rfl ?_;unfold ze0 at ht;rw[A0]at ht;refine⟨z1f he,rfl,z00 (λh1=>z00 (λh2=>?_) λh2=>A9 (ht.2.symm.trans h2) dC0) λh1=>A9 (ht.1.symm.trans h1) dC0⟩;obtain⟨b,q⟩:=a;unfold z5a;dsimp only at hA ha han⊢;refine⟨[],hA,sR,Gm,rfl,?_⟩
 cases b
 ·exact⟨[5],zj8 q.vs ha z03 hnm,sR,Gi,rfl,[],z42 p q.ts ⟨lo,q.jk⟩ q.vs q.ns (.mk 13 0 0 ⟨#[]⟩ (riOf q.vs z03) [] [] []) oM0,H0 (I0 (sP (z0g _)) J0),Gm,rfl,sI,rfl,rfl,rfl,rfl,rfl,rfl,Gf⟩
 ·exact⟨sI,rfl,rfl,rfl,rfl,rfl,rfl,Gf⟩
theorem yh0(p:Pg)(x:St)(z03:List ByteArray)(lo:List (List ByteArray))(s:RiT)(hv:Cnt s.vs)(e:Ex)(he:x.args[0]?=some e)(ht:ze0 e=false)(c:Int×RiS)
 (hX:SC Tryz.prog 119 [.ptr 4 0,.pv (exv e)] (riH p ⟨lo,s.jk⟩ s.vs ⟨s.ts,s.ns⟩) (λk=>k∈[]) (iInt c.1) (riH p ⟨lo,s.jk⟩ s.vs c.2)) (a:Bool×RiT)
 (hA:scB p x.thn lo ⟨s.vs,c.2.ts,[],s.jk⟩ a) (ha:Cnt a.2.vs) (hnm:z03.length<=34359738368) (han:a.2.ns.length<=34000000000) (hcn:c.2.ns.length<=34000000000) :
 SC Tryz.prog 167 [.ptr 4 0,.pv (stv x),.pv (txs z03)] (riW p lo s) (λk=>k∈[]) (.tup []) (riW p lo ⟨s.vs,a.2.ts,z8s z03 s.vs c a,a.2.jk⟩):=by
 refine K0 tb { pb:=[104,106],ids:=[(43,14)],gh:=[(7,[.growC 14 2 16 47 8]),(9,[.fzC 14 2 16])] } [] Tryz.func167 rfl rfl ?_;have hA:=scB14 hA;have hK:=zf3 p c.2.ts ⟨lo,s.jk⟩ s.vs c.2.ns;have hD:=z42 p a.2.ts ⟨lo,a.2.jk⟩ s.vs c.2.ns (.mk 10 0 0 ⟨#[]⟩ [c.1] [] [] [z5a 13 z03 a,z6c 14 ⟨#[]⟩ (riOf s.vs z03) []]) oM0;unfold z8s;obtain⟨c1,c2⟩:=c;obtain⟨b,q⟩:=a;unfold z5a at hD⊢;dsimp only at hX hA hK hD ha han hcn⊢;have hS:∀(l:List Nd),SubI (.pv (.agg [vInt 10,vInt 0,vInt 0,vStr ⟨#[]⟩,ints [c1],.val (.slice none 0 0),.val (.slice none 0 0),.seq [[z2h l],[.seq [[vInt 14,vInt 0,vInt 0,vStr ⟨#[]⟩,ints (riOf s.vs z03),.val (.slice none 0 0),.val (.slice none 0 0),.val (.slice none 0 0)]]]]])) (.pv (.agg [vInt 10,vInt 0,vInt 0,vStr ⟨#[]⟩,ints [c1],ints [],ints [],kids [l,z6c 14 ⟨#[]⟩ (riOf s.vs z03) []]])):=λl=>sP (PSub.agg ⟨PSub.refl _,PSub.refl _,PSub.refl _,PSub.refl _,PSub.refl _,PSub.nil,PSub.nil,PSub.seq ⟨⟨PSub.refl _,Gf⟩,⟨PSub.seq ⟨y12 _,Gf⟩,Gf⟩,Gf⟩,Gf⟩)
 cases b
 ·refine⟨z1f he,rfl,z00 (λh1=>z00 (λh2=>A9 (show ze0 e=true by unfold ze0;rw[show(e.kind==2)=true from h1,show(e.n==1)=true from h2];rfl) (by rw[ht];decide)) λh2=>?_) λh1=>?_⟩
  all_goals exact⟨z1f he,rfl,[],hX,sR,Gm,rfl,[1,2,3,4,5,6],hK,sR,⟨rfl,rfl,rfl,rfl,rfl,rfl,rfl,rfl,rfl,rfl,rfl,rfl,Gf⟩,rfl,[],hA,sR,Gm,rfl,[15],y9c q.vs ha z03 hnm,sR,Gi,rfl,[],riA14 p q.ts ⟨lo,q.jk⟩ q.vs q.ns (.mk 13 0 0 ⟨#[]⟩ (riOf q.vs z03) [] [] []) oM0,H0 (I0 (sP (z0g _)) J0),Gm,rfl,rfl,[5],zj8 s.vs hv z03 hnm,sR,Gi,rfl,[],hD,H0 (I0 (hS _) J0),Gm,rfl,sI,rfl,rfl,rfl,rfl,rfl,rfl,Gf⟩
 ·refine⟨z1f he,rfl,z00 (λh1=>z00 (λh2=>A9 (show ze0 e=true by unfold ze0;rw[show(e.kind==2)=true from h1,show(e.n==1)=true from h2];rfl) (by rw[ht];decide)) λh2=>?_) λh1=>?_⟩
  all_goals exact⟨z1f he,rfl,[],hX,sR,Gm,rfl,[1,2,3,4,5,6],hK,sR,⟨rfl,rfl,rfl,rfl,rfl,rfl,rfl,rfl,rfl,rfl,rfl,rfl,Gf⟩,rfl,[],hA,sR,Gm,rfl,rfl,[5],zj8 s.vs hv z03 hnm,sR,Gi,rfl,[],hD,H0 (I0 (hS _) J0),Gm,rfl,sI,rfl,rfl,rfl,rfl,rfl,rfl,Gf⟩
def scR(p:Pg)(x:St)(z03:List ByteArray)(lo:List (List ByteArray))(s r:RiT):Prop:=SC Tryz.prog 167 [.ptr 4 0,.pv (stv x),.pv (txs z03)] (riW p lo s) (λk=>k∈[]) (.tup []) (riW p lo r)
theorem scR14{p:Pg}{x:St}{z03:List ByteArray}{lo:List (List ByteArray)}{s r:RiT}(h:scR p x z03 lo s r):SC Tryz.prog 167 [.ptr 14 0,.pv (stv x),.pv (txs z03)] (riBx p s.ts ⟨lo,s.jk⟩++riLk 14 15 16 s.vs s.ns) (λk=>k∈[]) (.tup []) (riBx p r.ts ⟨lo,r.jk⟩++riLk 14 15 16 r.vs r.ns):=L0 (((h.sw 4 14).sw 5 15).sw 6 16) λk _ hk=>A9 hk C1
theorem yy4(vs:List (Value×PV))(hv:Cnt vs)(l:List ByteArray)(q:List Int)(hq:l.length=q.length)(hl:l.length<=34359738368):SC Tryz.prog 165 [.mp 15,.pv (txs l),.pv (ints q)] [(15,.map vs)] (λk=>k∈[]) (.tup []) [(15,.map (zn4 vs l q))]:=L0 ((y6r vs hv l q hq hl).sw 5 15) λk _ hk=>A9 hk C1
theorem tail_app{α:Type}(a b:List α)(x:α):(b=[]/\a++[x]++b.tail=a++b++[x])∨(b≠[]/\a++[x]++b.tail=(a++b).set a.length x):=by
 cases b with
 |nil=>exact .inl ⟨rfl,by simp⟩
 |cons y r=>exact .inr ⟨by simp,by simp⟩
theorem y9a(p:Pg)(x:St)(lo:List (List ByteArray))(s:RiT)(hv:Cnt s.vs)(r:RiT)(hR:scR p x (z0c s.vs [x.thn]) (lo++[z0c s.vs [x.thn]]) (z2a s (z0c s.vs [x.thn])) r)
 (hN:NmOk s.vs [x.thn] s.ts.length) (hts:s.ts.length<=33000000000) (hns:s.ns.length<=34000000000) (hrt:s.ts.length<=r.ts.length) (hrt2:r.ts.length<=33000000000) (hlo:lo.length<=1000000000) (hjk:s.jk.length<=1000000000) :
 SC Tryz.prog 116 [.ptr 4 0,.pv (stv x)] (riW p lo s) (λk=>k∈[])
  (iBool (z5t s.vs (z0c s.vs [x.thn]) r.ts s.ns (z0c s.vs [x.thn]::r.jk) 11 (riOf s.vs (z0c s.vs [x.thn])) (z15 s.ts (riOf s.vs (z0c s.vs [x.thn]))).1 [r.ns]).1)
  (riW p lo (z5t s.vs (z0c s.vs [x.thn]) r.ts s.ns (z0c s.vs [x.thn]::r.jk) 11 (riOf s.vs (z0c s.vs [x.thn])) (z15 s.ts (riOf s.vs (z0c s.vs [x.thn]))).1 [r.ns]).2):=by
 refine K0 tb { pb:=[103],ids:=[(32,14)],gh:=[(5,[.growC 14 2 16 47 8]),(9,[.fzC 14 2 16])] } [] Tryz.func116 rfl rfl ?_;have hC:=zx0 s.vs hv [x.thn] sI0 hN.sz hN.tx hN.len;have hln:=z9x s.vs [x.thn];have hl1:=hN.len;have hat:=hN.at_;generalize z0c s.vs [x.thn]=z03 at hC hln hat hR⊢;have hO:=zj8 s.vs hv z03 oM0;have hlen:(riOf s.vs z03).length=z03.length:=by simp[riOf]
 have hL:=y23 p s.ts ⟨lo,s.jk⟩ (riOf s.vs z03) hat oM0;have hl2:=z3i (riOf s.vs z03) s.ts;have hK:=zf3 p (z15 s.ts (riOf s.vs z03)).2 ⟨lo,s.jk⟩ s.vs s.ns;have hS:=yy4 s.vs hv z03 (z15 s.ts (riOf s.vs z03)).1 oM0 oM0;have hR:=scR14 hR;unfold z2a at hR;have hQ:=zs8 (.mk 11 0 0 ⟨#[]⟩ (riOf s.vs z03) [] (z15 s.ts (riOf s.vs z03)).1 [r.ns]);unfold z5t;refine⟨[5],hC,sR,Gi,rfl,[5],hO,sR,Gi,rfl,[],hL,sR,Gj,rfl,?_⟩;refine⟨[1,2,3,4,5,6],hK,sR,⟨rfl,rfl,rfl,rfl,rfl,rfl,rfl,rfl,rfl,rfl,rfl,rfl,Gf⟩,rfl,[],hS,sR,Gg,rfl,?_⟩;refine VApp1.mk (m':=((lo++[z03]++s.jk.tail).map eTxs).length) (els':=(lo++[z03]++s.jk.tail).map eTxs) rfl (z3u rfl) (by simp;omega) ?_ ?_
 ·rcases tail_app lo s.jk z03 with⟨h1,h2⟩|⟨h1,h2⟩
  ·rw[h2,h1];exact .inr ⟨by simp,by simp[eTxs];rfl,by simp⟩
  ·have:=D0.2 h1;rw[h2];exact .inl ⟨by simp;omega,by simp[C8];rfl,by simp⟩
 refine⟨rfl,[],hR,sR,⟨boq sI0,rfl,rfl,rfl,rfl,rfl,Gf⟩,rfl,?_⟩;refine⟨rfl,z3e (z:=(lo.length:Int)) sI0 oM0,rfl,lo.length,rfl,by simp,rfl,?_⟩;refine⟨rfl,[],hQ,I0 (sP (z0g _)) J0,Gf,rfl,?_⟩;generalize z04 (.mk 11 0 0 ⟨#[]⟩ (riOf s.vs z03) [] (z15 s.ts (riOf s.vs z03)).1 [r.ns])=k
 cases k
 ·have hL2:=y23 p r.ts ⟨lo,z03::r.jk⟩ (riOf s.vs z03) (λv hv=>⟨(hat v hv).1,by have:=(hat v hv).2;omega⟩) oM0;have hl3:=z3i (riOf s.vs z03) r.ts;have hS2:=y6r s.vs hv z03 (z15 r.ts (riOf s.vs z03)).1 oM0 oM0;have hD:=z42 p (z15 r.ts (riOf s.vs z03)).2 ⟨lo,z03::r.jk⟩ (zn4 s.vs z03 (z15 r.ts (riOf s.vs z03)).1) s.ns (.mk 11 0 0 ⟨#[]⟩ (riOf s.vs z03) (z15 r.ts (riOf s.vs z03)).1 (z15 s.ts (riOf s.vs z03)).1 [r.ns]) oM0;exact⟨[5],hO,sR,Gi,rfl,[],hL2,sR,⟨boq sI0,rfl,rwq sI0,Gf⟩,rfl,[],hS2,sR,Gg,rfl,[],hD,sR,Gm,rfl,sI,rfl,rfl,rfl,rfl,rfl,rfl,Gf⟩
 ·have hD:=z42 p r.ts ⟨lo,z03::r.jk⟩ s.vs s.ns (.mk 11 0 0 ⟨#[]⟩ (riOf s.vs z03) [] (z15 s.ts (riOf s.vs z03)).1 [r.ns]) oM0;exact⟨[],hD,H0 (I0 (sP (z0g _)) J0),⟨boq sI0,rfl,rwq sI0,rfl,rfl,rfl,Gf⟩,rfl,sI,rfl,rfl,rfl,rfl,rfl,rfl,Gf⟩
abbrev scX(p:Pg)(e:Ex)(lo:List (List ByteArray))(vs:List (Value×PV))(jk:List (List ByteArray))(s:RiS)(c:Int×RiS):Prop:=SC Tryz.prog 119 [.ptr 4 0,.pv (exv e)] (riH p ⟨lo,jk⟩ vs s) (λk=>k∈[]) (iInt c.1) (riH p ⟨lo,jk⟩ vs c.2)
theorem y24(p:Pg)(k ty:Int)(nm:ByteArray)(args:List Ex)(thn els:List St)(lo:List (List ByteArray))(s:RiT)(hv:Cnt s.vs)(e:Ex)(he:args[0]?=some e)(hX:scX p e lo s.vs s.jk ⟨s.ts,s.ns⟩ (riX p s.vs e ⟨s.ts,s.ns⟩))(hn:(riX p s.vs e ⟨s.ts,s.ns⟩).2.ns.length<=34000000000)
 (h3:k=3->∃e2,args[1]?=some e2/\scX p e2 lo s.vs s.jk (riX p s.vs e ⟨s.ts,s.ns⟩).2 (riX p s.vs e2 (riX p s.vs e ⟨s.ts,s.ns⟩).2)/\(riX p s.vs e2 (riX p s.vs e ⟨s.ts,s.ns⟩).2).2.ns.length<=34000000000) :
 SC Tryz.prog 120 [.ptr 4 0,.pv (stv (.mk k ty nm args thn els))] (riW p lo s) (λk=>k∈[]) (.tup []) (riW p lo (z8d p k nm args s)):=by
 refine K0 tb { pb:=[103] } [] Tryz.func120 rfl rfl ?_;have g0:args.getD 0 ex0=e:=by rw[Ax,he];rfl
 unfold z8d;rw[g0];generalize riX p s.vs e ⟨s.ts,s.ns⟩=c at hX hn h3⊢;obtain⟨c1,c2⟩:=c;dsimp only at hX hn h3⊢;refine⟨z1f he,rfl,[],hX,sR,Gm,rfl,?_⟩;rcases(show k=1∨k=2∨k=3∨k=9∨(k≠1/\k≠2/\k≠3/\k≠9) by omega)with rfl|rfl|rfl|rfl|⟨k1,k2,k3,k9⟩
 iterate 2 exact⟨rfl,hv.1,sI,rfl,rfl,rfl,rfl,rfl,rfl,Gf⟩
 ·obtain⟨e2,i1,i2,i3⟩:=h3 rfl;have g1:args.getD 1 ex0=e2:=by rw[Ax,i1];rfl
  rw[g1];generalize riX p s.vs e2 c2=d at i2 i3⊢;obtain⟨d1,d2⟩:=d;dsimp only at i2 i3⊢;exact⟨z1f i1,rfl,[],i2,sR,Gm,rfl,[],z42 p d2.ts ⟨lo,s.jk⟩ s.vs d2.ns (.mk 6 0 0 nm [c1,d1] [] [] []) oM0,H0 (I0 (sP (z0g _)) J0),Gm,rfl,sI,rfl,rfl,rfl,rfl,rfl,rfl,Gf⟩
 ·exact⟨[],z42 p c2.ts ⟨lo,s.jk⟩ s.vs c2.ns (.mk 9 0 0 ⟨#[]⟩ [c1] [] [] []) oM0,H0 (I0 (sP (z0g _)) J0),Gm,rfl,sI,rfl,rfl,rfl,rfl,rfl,rfl,Gf⟩
 ·rw[A1 oM0,A1 k3,A1 k9];have no:∀{i:Int},k≠i->(k==i)=true->False:=λh e=>h (Av e);exact z00 (λh=>(no k1 h).elim) λ_=>z00 (λh=>(no k2 h).elim) λ_=>z00 (λh=>(no k3 h).elim) λ_=>z00 (λh=>(no k9 h).elim) λ_=>⟨sI,rfl,rfl,rfl,rfl,rfl,rfl,Gf⟩
def scS(p:Pg)(x:St)(lo:List (List ByteArray))(s:RiT)(a:Bool×RiT):Prop:=SC Tryz.prog 67 [.ptr 4 0,.pv (stv x)] (riW p lo s) (λk=>k∈[]) (iBool a.1) (riW p lo a.2)
theorem yy2(p:Pg)(ty:Int)(nm:ByteArray)(args:List Ex)(thn els:List St)(lo:List (List ByteArray))(s:RiT)(a:Bool×RiT)
 (h:SC Tryz.prog 115 [.ptr 4 0,.pv (stv (.mk 4 ty nm args thn els))] (riW p lo s) (λk=>k∈[]) (iBool a.1) (riW p lo a.2)):scS p (.mk 4 ty nm args thn els) lo s a:=by
 refine K0 tb { pb:=[103] } [] Tryz.func67 rfl rfl ?_;exact⟨[],h,sR,Gm,rfl,sI,rfl,rfl,rfl,rfl,rfl,rfl,Gf⟩
theorem y4k(p:Pg)(ty:Int)(nm:ByteArray)(args:List Ex)(thn els:List St)(lo:List (List ByteArray))(s:RiT)(a:Bool×RiT)
 (h:SC Tryz.prog 116 [.ptr 4 0,.pv (stv (.mk 5 ty nm args thn els))] (riW p lo s) (λk=>k∈[]) (iBool a.1) (riW p lo a.2)):scS p (.mk 5 ty nm args thn els) lo s a:=by
 refine K0 tb { pb:=[103] } [] Tryz.func67 rfl rfl ?_;exact⟨[],h,sR,Gm,rfl,sI,rfl,rfl,rfl,rfl,rfl,rfl,Gf⟩
theorem yg8(p:Pg)(k ty:Int)(hk:k=6∨k=7)(nm:ByteArray)(args:List Ex)(thn els:List St)(lo:List (List ByteArray))(hlo:lo≠[])(s:RiT)(hv:Cnt s.vs)(hl:lo.length<=1000000000)(hln:(lo.getLastD []).length<=1000000000)(hn:s.ns.length<=34000000000):scS p (.mk k ty nm args thn els) lo s (riS p (.mk k ty nm args thn els) lo s):=by
 have hO:=zj8 s.vs hv (lo.getLastD []) oM0;have hpos:=D0.2 hlo;have hg:((lo++s.jk).map eTxs)[lo.length-1]?=some (eTxs (lo.getLastD [])):=by
  rw[Bc,Au oM0,<- Em]
  cases lo with
  |nil=>exact A9 rfl hlo
  |cons y r=>simp[List.getLast?_cons,List.getLastD_eq_getLast?]
 rw[riS];refine K0 tb { pb:=[103] } [] Tryz.func67 rfl rfl ?_;rcases hk with rfl|rfl
 ·refine⟨rfl,z3e (z:=((lo.length:Nat):Int)-1) sI0 oM0,rfl,VIdR.mk (i:=lo.length-1) (by simp;omega) oM0 (VRow.mk (i:=lo.length-1) (j:=0) rfl rfl hg rfl ?_)⟩;exact⟨[5],hO,sR,Gi,rfl,[],z42 p s.ts ⟨lo,s.jk⟩ s.vs s.ns (.mk 14 0 0 ⟨#[]⟩ (riOf s.vs (lo.getLastD [])) [] [] []) oM0,H0 (I0 (sP (z0g _)) J0),Gm,rfl,sI,rfl,rfl,rfl,rfl,rfl,rfl,Gf⟩
 ·refine⟨rfl,z3e (z:=((lo.length:Nat):Int)-1) sI0 oM0,rfl,VIdR.mk (i:=lo.length-1) (by simp;omega) oM0 (VRow.mk (i:=lo.length-1) (j:=0) rfl rfl hg rfl ?_)⟩;exact⟨[5],hO,sR,Gi,rfl,[],z42 p s.ts ⟨lo,s.jk⟩ s.vs s.ns (.mk 13 0 0 ⟨#[]⟩ (riOf s.vs (lo.getLastD [])) [] [] []) oM0,H0 (I0 (sP (z0g _)) J0),Gm,rfl,sI,rfl,rfl,rfl,rfl,rfl,rfl,Gf⟩
theorem yy3(p:Pg)(ty:Int)(nm:ByteArray)(args:List Ex)(thn els:List St)(lo:List (List ByteArray))(s:RiT)(e:Ex)(he:args[0]?=some e)(hX:scX p e lo s.vs s.jk ⟨s.ts,s.ns⟩ (riX p s.vs e ⟨s.ts,s.ns⟩))(hn:(riX p s.vs e ⟨s.ts,s.ns⟩).2.ns.length<=34000000000):scS p (.mk 8 ty nm args thn els) lo s (riS p (.mk 8 ty nm args thn els) lo s):=by
 have g0:args.getD 0 ex0=e:=by rw[Ax,he];rfl
 rw[riS,A1 dC0,A1 dC0,A1 dC0,A1 dC0,A5 rfl,g0];refine K0 tb { pb:=[103] } [] Tryz.func67 rfl rfl ?_;generalize riX p s.vs e ⟨s.ts,s.ns⟩=c at hX hn⊢;obtain⟨c1,c2⟩:=c;dsimp only at hX hn⊢;exact⟨z1f he,rfl,[],hX,sR,Gm,rfl,[],z42 p c2.ts ⟨lo,s.jk⟩ s.vs c2.ns (.mk 15 0 0 ⟨#[]⟩ [c1] [] [] []) oM0,H0 (I0 (sP (z0g _)) J0),Gm,rfl,sI,rfl,rfl,rfl,rfl,rfl,rfl,Gf⟩
theorem y4j(p:Pg)(k ty:Int)(h4:k≠4)(h5:k≠5)(h6:k≠6)(h7:k≠7)(h8:k≠8)(nm:ByteArray)(args:List Ex)(thn els:List St)(lo:List (List ByteArray))(s:RiT)
 (h:SC Tryz.prog 120 [.ptr 4 0,.pv (stv (.mk k ty nm args thn els))] (riW p lo s) (λk=>k∈[]) (.tup []) (riW p lo (z8d p k nm args s))):scS p (.mk k ty nm args thn els) lo s (riS p (.mk k ty nm args thn els) lo s):=by
 rw[riS,A1 h4,A1 h5,A1 h6,A1 h7,A1 h8];refine K0 tb { pb:=[103] } [] Tryz.func67 rfl rfl ?_;have no:∀{i:Int},k≠i->(k==i)=true->False:=λh e=>h (Av e);exact z00 (λh=>(no h4 h).elim) λ_=>z00 (λh=>(no h5 h).elim) λ_=>z00 (λh=>(no h6 h).elim) λ_=>z00 (λh=>(no h7 h).elim) λ_=>z00 (λh=>(no h8 h).elim) λ_=>⟨[],h,sR,Gm,rfl,sI,rfl,rfl,rfl,rfl,rfl,rfl,Gf⟩
def riIx(p:Pg)(lo:List (List ByteArray)):List St->Int->RiT->Int
 |[],_,_=>-1
 |x::r,j,s=>if (riS p x lo s).1 then j else riIx p lo r (j+1) (riS p x lo s).2
theorem j34(p:Pg)(lo:List (List ByteArray)):∀(l:List St)(j:Int)(s:RiT),0<=j->decide (riIx p lo l j s≥0)=(riB p l lo s).1
 |[],_,_,_=>by rw[riIx,riB];rfl
 |x::r,j,s,hj=>by
  rw[riIx,riB];split
  ·simp[hj]
  ·exact j34 p lo r (j+1) _ oM0
theorem sc_riIdx(p:Pg)(lo:List (List ByteArray))(l:List St)(s0:RiT)(I:Nat->RiT->Prop)(h0:I 0 s0)(hS:∀i x s,l[i]?=some x->I i s->scS p x lo s (riS p x lo s)/\((riS p x lo s).1=false->I (i+1) (riS p x lo s).2)) :
 SC Tryz.prog 114 [.pv (sts l),.fn (.func 67) [.ptr 4 0] []] (riW p lo s0) (λk=>k∈[]) (iInt (riIx p lo l 0 s0)) (riW p lo (riB p l lo s0).2):=by
 refine K0 tb { gh:=[(0,[.len 0])] } [] Tryz.func114 rfl rfl ?_;intro hl;simp only[Ab]at hl;have hl:l.length<=9223372036854775807:=hl;refine⟨Nat×RiT,λa=>[(8,iInt ((a.1:Nat):Int))],λa=>riW p lo a.2,λa=>l.length-a.1,λa=>a.1<=l.length/\I a.1 a.2/\riIx p lo l 0 s0=riIx p lo (l.drop a.1) a.1 a.2/\riB p l lo s0=riB p (l.drop a.1) lo a.2,[],(0,s0),⟨Aj _,h0,rfl,rfl⟩,Gg,Gm,?_⟩;rintro⟨i,s⟩ ⟨i1,i2,i3,i4⟩;dsimp only at i1 i2 i3 i4;refine z00 (λhc=>?_) λhc=>?_
 ·have hlt:i<l.length:=z12 (f:=St.enc) rfl hc;obtain⟨x,x1,x2,x3,x4⟩:=z0u hlt;obtain⟨hx,hI⟩:=hS i x s x1 i2;rw[x3,riIx]at i3;rw[x3,riB]at i4;unfold scS at hx;generalize riS p x lo s=a at hx hI i3 i4;obtain⟨b,q⟩:=a;dsimp only at hx hI i3 i4
  cases b
  ·simp only[As,Bv]at i3 i4;exact⟨zk5 x1,rfl,hx,sR,Gm,λk hk=>hk,rfl,rfl,z01 rfl oM0,(i+1,q),z05 hlt,⟨hlt,hI rfl,i3,i4⟩,Gg,Gm,rfl,rfl,rfl,rfl⟩
  ·simp only[C6]at i3 i4;rw[i3,i4];exact⟨zk5 x1,rfl,hx,sR,Gm,λk hk=>hk,rfl,rfl,sI,rfl,rfl,rfl,rfl,rfl,rfl,Gf⟩
 ·have hge:l.length<=i:=z13 (f:=St.enc) rfl hc;rw[i3,i4,Ae hge,riIx,riB];exact⟨sI,rfl,rfl,rfl,rfl,rfl,rfl,Gf⟩
theorem sc_riHas(p:Pg)(lo:List (List ByteArray))(l:List St)(s0:RiT)(I:Nat->RiT->Prop)(h0:I 0 s0)(hS:∀i x s,l[i]?=some x->I i s->scS p x lo s (riS p x lo s)/\((riS p x lo s).1=false->I (i+1) (riS p x lo s).2)) :
 SC Tryz.prog 66 [.pv (sts l),.fn (.func 67) [.ptr 4 0] []] (riW p lo s0) (λk=>k∈[]) (iBool (riB p l lo s0).1) (riW p lo (riB p l lo s0).2):=by
 refine K0 tb {} [] Tryz.func66 rfl rfl ?_;exact⟨[],sc_riIdx p lo l s0 I h0 hS,sR,Gm,rfl,sE (Ah iBool (j34 p lo l 0 s0 dC0)),rfl,rfl,rfl,rfl,rfl,rfl,Gf⟩
theorem yy5(p:Pg)(lo:List (List ByteArray))(l:List St)(s0:RiT)(I:Nat->RiT->Prop)(h0:I 0 s0)(hS:∀i x s,l[i]?=some x->I i s->scS p x lo s (riS p x lo s)/\((riS p x lo s).1=false->I (i+1) (riS p x lo s).2)):scB p l lo s0 (riB p l lo s0):=by
 refine K0 tb {} [] Tryz.func38 rfl rfl ?_;exact⟨[],sc_riHas p lo l s0 I h0 hS,sR,Gm,rfl,sI,rfl,rfl,rfl,rfl,rfl,rfl,Gf⟩
mutual
def cnS:St->Nat
 |.mk _ _ _ _ thn els=>1+cnL thn+cnL els
def cnL:List St->Nat
 |[]=>0
 |x::r=>cnS x+cnL r
end
mutual
def grS:St->Nat
 |.mk _ _ _ args thn els=>2+8*xzL args+2*(cnL thn+cnL els)+grL thn+grL els
def grL:List St->Nat
 |[]=>0
 |x::r=>grS x+grL r
end
def gA(p:Pg)(n:Nat)(args:List Ex):Bool:=decide (n<=args.length)&&zn3 p args
mutual
def gS(p:Pg)(b lp:Bool):St->Bool
 |.mk k _ _ args thn els =>
  if k=4 then gA p 1 args&&gB p b lp thn&&gB p b lp els
  else if k=5 then gA p 1 args&&gB p b true thn
  else if k=6∨k=7 then lp
  else if k=3 then gA p 2 args
  else gA p 1 args&&(b||(args.getD 0 ex0).kind != 3)
def gB(p:Pg)(b lp:Bool):List St->Bool
 |[]=>true
 |x::r=>gS p b lp x&&gB p (b||x.kind==1) lp r
end
structure RiI(vs:List (Value×PV))(n:Nat)(b:Bool):Prop where
 cnt:Cnt vs
 rng:∀e∈vs,∃v:Int,e.2=vInt v/\0<=v/\v<n
 ne:b=true->vs≠[]
theorem RiI.get{vs:List (Value×PV)}{n:Nat}{b:Bool}(h:RiI vs n b)(nm:ByteArray)(hb:b=true∨(z1z (.string nm) vs).isSome=true):0<=y2y vs nm/\y2y vs nm<n:=by
 unfold y2y
 cases hf:z1z (.string nm) vs with
 |none =>
  rcases hb with hb|hb
  ·obtain⟨e,r,he⟩:=Cf (h.ne hb);obtain⟨v,_,h1,h2⟩:=h.rng e (he▸ .head _);exact⟨Dd _,by dsimp only;omega⟩
  ·rw[hf]at hb;cases hb
 |some q =>
  obtain⟨a,ha⟩:=z93 hf;obtain⟨v,h1,h2,h3⟩:=h.rng _ ha;dsimp only at h1;subst h1;exact⟨h2,h3⟩
theorem RiI.mono{vs:List (Value×PV)}{n m:Nat}{b:Bool}(h:RiI vs n b)(hm:n<=m):RiI vs m b:=⟨h.cnt,λe he=>by obtain⟨v,h1,h2,h3⟩:=h.rng e he;exact⟨v,h1,h2,by omega⟩,h.ne⟩
theorem RiI.weak{vs:List (Value×PV)}{n:Nat}{b c:Bool}(h:RiI vs n b)(hc:c=true->b=true):RiI vs n c:=⟨h.cnt,h.rng,λe=>h.ne (hc e)⟩
theorem mput_ne{k:Value}{v:PV}:∀{es:List (Value×PV)},mput k v es≠[]
 |[],h=>by simp[mput]at h
 |(a,q)::r,h=>by
  simp only[mput]at h;split at h<;>cases h
theorem RiI.put{vs:List (Value×PV)}{n:Nat}{b:Bool}(h:RiI vs n b)(nm:ByteArray){v:Int}(h0:0<=v)(h1:v<n):RiI (riSt vs nm v) n true :=
 ⟨h.cnt.putI nm v,λe he=>by
  rcases z55 he with rfl|he
  ·exact⟨v,rfl,h0,h1⟩
  ·exact h.rng e he,λ_=>mput_ne⟩
theorem RiI.set{n:Nat}{b:Bool}:∀(l:List ByteArray) (q:List Int) {vs:List (Value×PV)},RiI vs n b->(∀v∈q,0<=v/\v<n)->RiI (zn4 vs l q) n b
 |[],[],_,h,_=>h
 |[],_::_,_,h,_=>h
 |_::_,[],_,h,_=>h
 |x::a,y::c,_,h,hq=>RiI.set a c ((h.put x (hq y (.head _)).1 (hq y (.head _)).2).weak λ_=>rfl) λv hv=>hq v (.tail _ hv)
theorem zs4:∀(l ts:List Int),∀v∈(z15 ts l).1,0<=v/\v<(z15 ts l).2.length
 |[],ts,v,h=>by cases h
 |x::r,ts,v,h=>by
  have hl:=z3i r (ts++[ts.getD x.toNat 0]);simp only[z15,Aq]at h⊢;rcases h with rfl|h
  ·have:=hl.2;rw[B8]at this;simp only[A3,A6]at this;omega
  ·exact zs4 r _ v h
theorem zn2(vs:List (Value×PV))(Q:Value->Prop)(hQ:∀nm,(z1z (.string nm) vs).isSome=true->Q (.string nm)):∀(N:Nat)(l:List St),SizeOf.sizeOf l<N->∀out:List (Value×PV),(∀e∈out,Q e.1)->∀e∈z4k vs l out,Q e.1
 |0,_,h,_,_=>A9 h (An _)
 |N+1,[],_,out,h=>by rw[z4k];exact h
 |N+1,x::r,hN,out,h=>by
  have hx:=zt7 x;simp at hN;rw[z4k,zd8];refine zn2 vs Q hQ N r oM0 _ (zn2 vs Q hQ N x.els oM0 _ (zn2 vs Q hQ N x.thn oM0 _ ?_));split
  ·rename_i hc;rw[A0]at hc;intro e he;rcases z55 he with rfl|he
   ·exact hQ _ hc.1
   ·exact h e he
  ·exact h
theorem yn7(k:Value)(v:PV):∀es:List (Value×PV),(mput k v es).length<=es.length+1
 |[]=>by simp[mput]
 |(a,q)::r=>by
  simp only[mput];split
  ·simp
  ·have:=yn7 k v r;simp;omega
theorem z9e(vs:List (Value×PV)):∀(N:Nat)(l:List St),SizeOf.sizeOf l<N->∀out:List (Value×PV),(z4k vs l out).length<=out.length+cnL l
 |0,_,h,_=>A9 h (An _)
 |N+1,[],_,out=>by rw[z4k];simp[cnL]
 |N+1,x::r,hN,out=>by
  have hx:=zt7 x;simp at hN;rw[z4k,zd8];have h1:(if (z1z (.string x.name) vs).isSome&&x.kind==2 then mput (.string x.name) (.agg []) out else out).length<=out.length+1:=by
   split
   ·exact yn7 _ _ _
   ·omega
  generalize(if (z1z (.string x.name) vs).isSome&&x.kind==2 then mput (.string x.name) (.agg []) out else out)=o1 at h1;have h2:=z9e vs N x.thn oM0 o1;have h3:=z9e vs N x.els oM0 (z4k vs x.thn o1);have h4:=z9e vs N r oM0 (z4k vs x.els (z4k vs x.thn o1));have h5:cnS x=1+cnL x.thn+cnL x.els:=by cases x;rw[cnS];rfl
  rw[cnL];omega
theorem j37(vs:List (Value×PV))(Q:Value->Prop)(hQ:∀nm,(z1z (.string nm) vs).isSome=true->Q (.string nm))(ls:List (List St)):∀e∈z8r vs ls,Q e.1:=by
 suffices ∀(ls:List (List St)) (o:List (Value×PV)),(∀e∈o,Q e.1)->∀e∈ls.foldl (λo l=>z4k vs l o) o,Q e.1 from this ls [] λe he=>by cases he
 intro ls
 induction ls with
 |nil=>exact λo h=>h
 |cons l r ih=>exact λo h=>ih _ (zn2 vs Q hQ _ l (Ac _) o h)
theorem y46(vs:List (Value×PV))(l:List St):(z8r vs [l]).length<=cnL l:=by
 have:=z9e vs _ l (Ac _) [];simpa[z8r]using this
theorem y47(vs:List (Value×PV))(l m:List St):(z8r vs [l,m]).length<=cnL l+cnL m:=by
 have h1:=z9e vs _ l (Ac _) [];have h2:=z9e vs _ m (Ac _) (z4k vs l []);simp[z8r]at h1⊢;omega
theorem y45{vs:List (Value×PV)}{n:Nat}{b:Bool}(h:RiI vs n b)(ls:List (List St)):∀v∈riOf vs (z0c vs ls),0<=v/\v<n:=by
 intro v hv;obtain⟨nm,h1,rfl⟩:=Bz.1 hv;refine h.get nm (.inr ?_);have hq:=j37 vs (λk=>∀s,k=.string s->(z1z (.string s) vs).isSome=true) (λnm h s e=>by cases e;exact h) ls;obtain⟨l,h2,rfl⟩:=Bz.1 h1;have h3:l∈((z8r vs ls).map λe=>z79 e.1).map λs=>s.data.toList:=List.mem_mergeSort.1 h2;obtain⟨s,h4,rfl⟩:=Bz.1 h3;obtain⟨e,h5,rfl⟩:=Bz.1 h4;have h6:=y1m vs ls e h5;have h7:=hq e h5
 cases hk:e.1<;>rw[hk]at h6<;>simp[z1y]at h6
 rename_i t;exact h7 t hk
structure RiR(b:Bool)(s r:RiT)(n g:Nat):Prop where
 I:RiI r.vs r.ts.length b
 lo:s.ts.length<=r.ts.length
 hi:r.ts.length<=s.ts.length+g
 ns:r.ns.length<=s.ns.length+g
 jk:r.jk.length<=s.jk.length+n
theorem j38(t k o n:Int)(nm:ByteArray)(args:List Int)(kids:List (List Nd))(s:RiS):0<=(z61 t k o n nm args kids s).1/\(z61 t k o n nm args kids s).1<(z61 t k o n nm args kids s).2.ts.length/\s.ts.length<=(z61 t k o n nm args kids s).2.ts.length:=by
 simp[z61];omega
theorem y1o(p:Pg)(k o n:Int)(nm:ByteArray)(l:List Int)(s:RiS):0<=(zj3 p k o n nm l s).1/\(zj3 p k o n nm l s).1<(zj3 p k o n nm l s).2.ts.length/\s.ts.length<=(zj3 p k o n nm l s).2.ts.length:=by
 unfold zj3
 repeat' split
 all_goals exact j38 _ _ _ _ _ _ _ _
theorem zj2(o a:Int)(ns:List Nd)(r:Int×RiS):0<=(z5u o a ns r).1/\(z5u o a ns r).1<(z5u o a ns r).2.ts.length/\r.2.ts.length<=(z5u o a ns r).2.ts.length:=by
 unfold z5u;split<;>(simp[z61];omega)
theorem riX_ge(p:Pg)(vs:List (Value×PV)):∀(N:Nat),(∀e:Ex,SizeOf.sizeOf e<N->∀s,s.ts.length<=(riX p vs e s).2.ts.length)/\(∀l:List Ex,SizeOf.sizeOf l<N->∀s,s.ts.length<=(riXL p vs l s).2.ts.length)/\(∀(o:Int)(l:List Ex),SizeOf.sizeOf l<N->∀s,s.ts.length<=(riSh p vs o l s).2.ts.length)/\(∀(o a:Int)(s:RiS)(l:List Ex),SizeOf.sizeOf l<N->s.ts.length<=(zj1 p vs o a s l).2.ts.length)
 |0=>⟨λ_ h=>A9 h (An _),λ_ h=>A9 h (An _),λ_ _ h=>A9 h (An _),λ_ _ _ _ h=>A9 h (An _)⟩
 |N+1=>by
  obtain⟨h1,h2,h3,h4⟩:=riX_ge p vs N;refine⟨λe he s=>?_,λl hl s=>?_,λo l hl s=>?_,λo a s l hl=>?_⟩
  ·obtain⟨k,o,n,nm,args⟩:=e;simp at he;rw[riX];split
   ·exact Ag _
   ·split
    ·exact h3 o args oM0 s
    ·exact Bm (h2 args oM0 s) (y1o p k o n nm _ _).2.2
  ·match l with
   |[]=>rw[riXL];exact Ag _
   |e::r =>
    simp at hl;rw[riXL];exact Bm (h1 e oM0 s) (h2 r oM0 _)
  ·match l with
   |[]=>rw[riSh];exact Ag _
   |e::r =>
    simp at hl;rw[riSh];exact Bm (h1 e oM0 s) (h4 o _ _ r oM0)
  ·match l with
   |[]=>rw[zj1];exact Ag _
   |e::r =>
    simp at hl;rw[zj1];exact Bm (h1 e oM0 ⟨s.ts,[]⟩) (zj2 o a s.ns _).2.2
theorem riX_rng(p:Pg){vs:List (Value×PV)}{b:Bool}(e:Ex)(s:RiS)(h:RiI vs s.ts.length b)(hb:b=true∨e.kind≠3)(hok:riOk p e=true):0<=(riX p vs e s).1/\(riX p vs e s).1<(riX p vs e s).2.ts.length:=by
 obtain⟨k,o,n,nm,args⟩:=e;rw[riX]
 by_cases h3:k=3
 ·rw[A5 h3];rcases hb with hb|hb
  ·exact h.get nm (.inl hb)
  ·exact A9 h3 hb
 ·rw[A1 h3]
  by_cases hs:k=5/\(o=18∨o=19)
  ·rw[A5 hs];rw[riOk,A0]at hok;have h2:args.length=2:=by have:=hok.1;unfold j32 at this;rw[A5 hs.1]at this;exact Av this
   match args,h2 with
   |[e1,e2],_ =>
    rw[riSh,zj1];exact⟨(zj2 _ _ _ _).1,(zj2 _ _ _ _).2.1⟩
  ·rw[A1 hs];exact⟨(y1o _ _ _ _ _ _ _).1,(y1o _ _ _ _ _ _ _).2.1⟩
theorem zs3{b:Bool}{vs:List (Value×PV)}{z03:List ByteArray}{n0:Nat}(h:RiI vs n0 b)(ts:List Int)(ns:List Nd)(jk:List (List ByteArray))(k:Int)(args params:List Int)(kids:List (List Nd))(hts:n0<=ts.length) :
 RiI (z5t vs z03 ts ns jk k args params kids).2.vs (z5t vs z03 ts ns jk k args params kids).2.ts.length b/\ts.length<=(z5t vs z03 ts ns jk k args params kids).2.ts.length/\(z5t vs z03 ts ns jk k args params kids).2.ts.length<=ts.length+z03.length/\(z5t vs z03 ts ns jk k args params kids).2.ns.length=ns.length+1/\(z5t vs z03 ts ns jk k args params kids).2.jk=jk:=by
 unfold z5t;split
 ·exact⟨h.mono hts,Ag _,Bl _ _,by simp,rfl⟩
 ·have hl:=z3i (riOf vs z03) ts;have hn:(riOf vs z03).length=z03.length:=by simp[riOf]
  refine⟨RiI.set _ _ (h.mono (by dsimp only;omega)) λv hv=>zs4 _ _ v hv,by dsimp only;omega,by dsimp only;omega,by simp,rfl⟩
theorem zb3{p:Pg}{args:List Ex}(h:gA p 1 args=true):∃e,args[0]?=some e/\args.getD 0 ex0=e/\riOk p e=true/\xz e<=xzL args:=by
 unfold gA at h;rw[A0]at h;have h1:=Ap h.1
 match args,h1 with
 |e::r,_=>exact⟨e,rfl,rfl,zd9 h.2 (.head _),zh6 (.head _)⟩
theorem j1d{p:Pg}{args:List Ex}(h:gA p 2 args=true):∃e e2,args[0]?=some e/\args[1]?=some e2/\args.getD 0 ex0=e/\args.getD 1 ex0=e2/\riOk p e=true/\riOk p e2=true/\xz e+xz e2<=xzL args:=by
 unfold gA at h;rw[A0]at h;have h1:=Ap h.1
 match args,h1 with
 |e::e2::r,_=>exact⟨e,e2,rfl,rfl,rfl,rfl,zd9 h.2 (.head _),zd9 h.2 (.tail _ (.head _)),by simp only[xzL];omega⟩
theorem z8c(vs:List (Value×PV))(l:List St):(z0c vs [l]).length<=cnL l:=(z9x vs [l]).symm▸y46 vs l
theorem zw7(vs:List (Value×PV))(l m:List St):(z0c vs [l,m]).length<=cnL l+cnL m:=(z9x vs [l,m]).symm▸y47 vs l m
theorem z5v(p:Pg)(vs:List (Value×PV))(e:Ex)(s:RiS):s.ts.length<=(riX p vs e s).2.ts.length/\(riX p vs e s).2.ts.length<=s.ts.length+4*xz e/\(riX p vs e s).2.ns.length<=s.ns.length+4*xz e :=
 ⟨(riX_ge p vs _).1 e (Ac _) s,(zw8 p vs _).1 e (Ac _) s⟩
theorem y1j{s:RiT}{b:Bool}(h:RiI s.vs s.ts.length b)(z03:List ByteArray):RiI (z2a s z03).vs (z2a s z03).ts.length b/\(z2a s z03).ts.length=s.ts.length+z03.length:=by
 have hl:=z3i (riOf s.vs z03) s.ts;have hn:(riOf s.vs z03).length=z03.length:=by simp[riOf]
 unfold z2a;refine⟨RiI.set _ _ (h.mono (by dsimp only;omega)) λv hv=>zs4 _ _ v hv,by dsimp only;omega⟩
theorem j39(p:Pg):∀N,(∀x:St,SizeOf.sizeOf x<N->∀b lp lo s,gS p b lp x=true->RiI s.vs s.ts.length b->RiR (b||x.kind==1) s (riS p x lo s).2 (cnS x) (grS x))/\(∀l:List St,SizeOf.sizeOf l<N->∀b lp lo s,gB p b lp l=true->RiI s.vs s.ts.length b->RiR b s (riB p l lo s).2 (cnL l) (grL l))
 |0=>⟨λ_ h=>A9 h (An _),λ_ h=>A9 h (An _)⟩
 |N+1=>by
  obtain⟨hS,hB⟩:=j39 p N;refine⟨λx hx b lp lo s hg hI=>?_,λl hl b lp lo s hg hI=>?_⟩
  ·obtain⟨k,ty,nm,args,thn,els⟩:=x;simp at hx;rw[gS]at hg;rw[riS];simp only[cnS,grS,St.kind]
   by_cases h4:k=4
   ·subst h4;rw[A5 rfl,A0,A0]at hg;rw[A5 rfl,show(b||(4:Int)==1)=b by simp];obtain⟨e,i1,i2,i3,i4⟩:=zb3 hg.1.1;rw[i2];obtain⟨j1,j2,j3⟩:=z5v p s.vs e ⟨s.ts,s.ns⟩;generalize riX p s.vs e ⟨s.ts,s.ns⟩=c at j1 j2 j3⊢;dsimp only at j1 j2 j3;have hA:=hB thn oM0 b lp lo ⟨s.vs,c.2.ts,[],s.jk⟩ hg.1.2 (hI.mono j1);generalize riB p thn lo ⟨s.vs,c.2.ts,[],s.jk⟩=a at hA⊢;have hE:=hB els oM0 b lp lo ⟨s.vs,a.2.ts,[],a.2.jk⟩ hg.2 (hI.mono (Bm j1 hA.lo));generalize riB p els lo ⟨s.vs,a.2.ts,[],a.2.jk⟩=d at hE⊢;have hn:=zw7 s.vs thn els;generalize z0c s.vs [thn,els]=z03 at hn⊢;obtain⟨a1,a2,a3,a4,a5⟩:=hA;obtain⟨d1,d2,d3,d4,d5⟩:=hE;dsimp only at a2 a3 a4 a5 d2 d3 d4 d5;unfold zf2;obtain⟨r1,r2,r3,r4,r5⟩:=zs3 (z03:=z03) hI d.2.ts c.2.ns d.2.jk 10 [c.1] [] [z5a 12 z03 a,z5a 12 z03 d] oM0;exact⟨r1,by omega,by omega,by omega,by rw[r5];omega⟩
   by_cases h5:k=5
   ·subst h5;rw[A1 dC0,A5 rfl,A0]at hg;rw[A1 dC0,A5 rfl,show(b||(5:Int)==1)=b by simp];obtain⟨e,i1,i2,i3,i4⟩:=zb3 hg.1;rw[i2];have hn:=z8c s.vs thn;generalize z0c s.vs [thn]=z03 at hn⊢;obtain⟨k1,k2⟩:=y1j hI z03;have ht:s.jk.tail.length<=s.jk.length:=by simp
    split
    ·have hA:=hB thn oM0 b true (lo++[z03]) (z2a s z03) hg.2 k1;generalize riB p thn (lo++[z03]) (z2a s z03)=a at hA⊢;obtain⟨a1,a2,a3,a4,a5⟩:=hA;have a5:a.2.jk.length<=s.jk.tail.length+cnL thn:=a5;unfold y6c;obtain⟨r1,r2,r3,r4,r5⟩:=zs3 (z03:=z03) hI a.2.ts s.ns (z03::a.2.jk) 11 (riOf s.vs z03) (z15 s.ts (riOf s.vs z03)).1 [z5a 13 z03 a] oM0;exact⟨r1,by omega,by omega,by omega,by rw[r5,A3];omega⟩
    ·obtain⟨j1,j2,j3⟩:=z5v p (z2a s z03).vs e ⟨(z2a s z03).ts,[]⟩;generalize riX p (z2a s z03).vs e ⟨(z2a s z03).ts,[]⟩=c at j1 j2 j3⊢;dsimp only at j1 j2 j3;have hA:=hB thn oM0 b true (lo++[z03]) ⟨(z2a s z03).vs,c.2.ts,[],s.jk.tail⟩ hg.2 (k1.mono j1);generalize riB p thn (lo++[z03]) ⟨(z2a s z03).vs,c.2.ts,[],s.jk.tail⟩=a at hA⊢;obtain⟨a1,a2,a3,a4,a5⟩:=hA;dsimp only at a2 a3 a4 a5;unfold y6d;obtain⟨r1,r2,r3,r4,r5⟩:=zs3 (z03:=z03) hI a.2.ts s.ns (z03::a.2.jk) 11 (riOf s.vs z03) (z15 s.ts (riOf s.vs z03)).1 [z8s z03 (z2a s z03).vs c a] oM0;exact⟨r1,by omega,by omega,by omega,by rw[r5,A3];omega⟩
   rw[A1 h4,A1 h5]at hg;rw[A1 h4,A1 h5]
   by_cases h6:k=6
   ·subst h6;rw[A5 rfl,show(b||(6:Int)==1)=b by simp];exact⟨hI,Ag _,Bl _ _,by simp[z6c];omega,Bl _ _⟩
   by_cases h7:k=7
   ·subst h7;rw[A1 dC0,A5 rfl,show(b||(7:Int)==1)=b by simp];exact⟨hI,Ag _,Bl _ _,by simp[z6c];omega,Bl _ _⟩
   rw[A1 oM0]at hg;rw[A1 h6,A1 h7]
   by_cases h8:k=8
   ·subst h8;rw[A1 dC0,A0]at hg;rw[A5 rfl,show(b||(8:Int)==1)=b by simp];obtain⟨e,i1,i2,i3,i4⟩:=zb3 hg.1;rw[i2];obtain⟨j1,j2,j3⟩:=z5v p s.vs e ⟨s.ts,s.ns⟩;dsimp only at j1 j2 j3;exact⟨hI.mono j1,j1,by dsimp only;omega,by simp[z6c];omega,Bl _ _⟩
   rw[A1 h8];unfold z8d
   by_cases h3:k=3
   ·subst h3;rw[A5 rfl]at hg;obtain⟨e,e2,i1,i2,i3,i4,i5,i6,i7⟩:=j1d hg;rw[A1 dC0,A5 rfl,i3,i4,show(b||(3:Int)==1)=b by simp];obtain⟨j1,j2,j3⟩:=z5v p s.vs e ⟨s.ts,s.ns⟩;obtain⟨m1,m2,m3⟩:=z5v p s.vs e2 (riX p s.vs e ⟨s.ts,s.ns⟩).2;dsimp only at j1 j2 j3;exact⟨hI.mono (Bm j1 m1),Bm j1 m1,by dsimp only;omega,by simp[z6c];omega,Bl _ _⟩
   rw[A1 h3,A0]at hg;obtain⟨e,i1,i2,i3,i4⟩:=zb3 hg.1;have hg2:=hg.2;rw[i2]at hg2⊢;obtain⟨j1,j2,j3⟩:=z5v p s.vs e ⟨s.ts,s.ns⟩;dsimp only at j1 j2 j3
   by_cases h12:k=1∨k=2
   ·rw[A5 h12];have hr:=riX_rng p e ⟨s.ts,s.ns⟩ hI (by
     rw[Bb]at hg2;rcases hg2 with h|h
     ·exact .inl h
     ·exact .inr (by simpa using h)) i3
    exact⟨((hI.mono j1).put nm hr.1 hr.2).weak λ_=>rfl,j1,by dsimp only;omega,by dsimp only;omega,Bl _ _⟩
   ·rw[A1 h12,A1 h3,show(b||k==1)=b by rw[show(k==1)=false from Aa.2 λe=>h12 (.inl e)];simp];split
    ·exact⟨hI.mono j1,j1,by dsimp only;omega,by simp[z6c];omega,Bl _ _⟩
    ·exact⟨hI.mono j1,j1,by dsimp only;omega,by dsimp only;omega,Bl _ _⟩
  ·match l with
   |[]=>rw[riB];exact⟨hI,Ag _,Bl _ _,Bl _ _,Bl _ _⟩
   |x::r =>
    simp at hl;rw[gB,A0]at hg;have h1:=hS x oM0 b lp lo s hg.1 hI;rw[riB];simp only[cnL,grL];obtain⟨a1,a2,a3,a4,a5⟩:=h1;split
    ·exact⟨a1.weak λh=>by rw[h];rfl,a2,by dsimp only;omega,by dsimp only;omega,by dsimp only;omega⟩
    ·obtain⟨d1,d2,d3,d4,d5⟩:=hB r oM0 _ lp lo (riS p x lo s).2 hg.2 a1;exact⟨d1.weak λh=>by rw[h];rfl,by omega,by omega,by omega,by omega⟩
mutual
def ntS(n:Nat):St->Prop
 |.mk _ _ nm _ thn els=>nm.size<=n/\ntL n thn/\ntL n els
def ntL(n:Nat):List St->Prop
 |[]=>True
 |x::r=>ntS n x/\ntL n r
end
theorem ntS_eq{n:Nat}{x:St}:ntS n x↔x.name.size<=n/\ntL n x.thn/\ntL n x.els:=by cases x;rw[ntS];exact Iff.rfl
theorem y01(vs:List (Value×PV))(n:Nat):∀(N:Nat)(l:List St),SizeOf.sizeOf l<N->ntL n l->∀out:List (Value×PV),(∀e∈out,(z79 e.1).size<=n)->∀e∈z4k vs l out,(z79 e.1).size<=n
 |0,_,h,_,_,_=>A9 h (An _)
 |N+1,[],_,_,out,h=>by rw[z4k];exact h
 |N+1,x::r,hN,hm,out,h=>by
  have hx:=zt7 x;simp at hN;rw[ntL,ntS_eq]at hm;rw[z4k,zd8];refine y01 vs n N r oM0 hm.2 _ (y01 vs n N x.els oM0 hm.1.2.2 _ (y01 vs n N x.thn oM0 hm.1.2.1 _ ?_));split
  ·intro e he;rcases z55 he with rfl|he
   ·exact hm.1.1
   ·exact h e he
  ·exact h
theorem yp1(vs:List (Value×PV))(n:Nat)(ls:List (List St))(hm:∀l∈ls,ntL n l):∀e∈z8r vs ls,(z79 e.1).size<=n:=by
 suffices ∀(ls:List (List St)) (_:∀l∈ls,ntL n l) (o:List (Value×PV)),(∀e∈o,(z79 e.1).size<=n)->∀e∈ls.foldl (λo l=>z4k vs l o) o,(z79 e.1).size<=n from this ls hm [] λe he=>by cases he
 intro ls
 induction ls with
 |nil=>exact λ_ o h=>h
 |cons l r ih=>exact λhm o h=>ih (λq hq=>hm q (.tail _ hq)) _ (y01 vs n _ l (Ac _) (hm l (.head _)) o h)
theorem cn_le:∀N,(∀x:St,SizeOf.sizeOf x<N->cnS x<=sz x)/\(∀l:List St,SizeOf.sizeOf l<N->cnL l<=szL l)
 |0=>⟨λ_ h=>A9 h (An _),λ_ h=>A9 h (An _)⟩
 |N+1=>by
  obtain⟨h1,h2⟩:=cn_le N;refine⟨λx hx=>?_,λl hl=>?_⟩
  ·obtain⟨k,ty,nm,args,thn,els⟩:=x;simp at hx;have:=h2 thn oM0;have:=h2 els oM0;rw[cnS,sz];omega
  ·match l with
   |[]=>rw[cnL];omega
   |x::r =>
    simp at hl;have:=h1 x oM0;have:=h2 r oM0;rw[cnL,szL];omega
theorem j0z(l:List St):cnL l<=szL l:=(cn_le _).2 l (Ac _)
structure RiB(lp:Bool)(lo:List (List ByteArray))(s:RiT)(n g:Nat):Prop where
 ts:s.ts.length+g<=32000000000
 ns:s.ns.length+g<=32000000000
 jk:lo.length+s.jk.length+n<=1000000000
 lens:∀l∈lo,l.length<=1000000000
 inl:lp=true->lo≠[]
theorem nmOk1{vs:List (Value×PV)}{n:Nat}{b:Bool}(h:RiI vs n b){l:List St}(hs:szL l<=100000000)(hm:ntL maxLen l):NmOk vs [l] n :=
 ⟨λq hq=>by rw[Al.1 hq];omega,yp1 vs maxLen [l] λq hq=>by rw[Al.1 hq];exact hm,by have:=y46 vs l;have:=j0z l;omega,y45 h [l]⟩
theorem nmOk2{vs:List (Value×PV)}{n:Nat}{b:Bool}(h:RiI vs n b){l m:List St}(hs:szL l<=100000000)(hs2:szL m<=100000000)(hm:ntL maxLen l)(hm2:ntL maxLen m):NmOk vs [l,m] n :=
 ⟨λq hq=>by
  simp only[Aq,C1,Fp]at hq;rcases hq with rfl|rfl<;>omega,yp1 vs maxLen [l,m] λq hq=>by
  simp only[Aq,C1,Fp]at hq;rcases hq with rfl|rfl<;>assumption,by have:=y47 vs l m;have:=j0z l;have:=j0z m;omega,y45 h [l,m]⟩
theorem y0q{lo:List (List ByteArray)}{n:Nat}(h:∀l∈lo,l.length<=n):(lo.getLastD []).length<=n:=by
 rw[List.getLastD_eq_getLast?]
 cases hl:lo.getLast? with
 |none=>simp
 |some q=>exact h q (List.mem_of_getLast? hl)
def ihB(p:Pg)(l:List St):Prop:=∀b lp lo s,gB p b lp l=true->ntL maxLen l->szL l<=100000000->RiI s.vs s.ts.length b->RiB lp lo s (cnL l) (grL l)->scB p l lo s (riB p l lo s)
theorem resB(p:Pg)(l:List St)(b lp:Bool)(lo:List (List ByteArray))(s:RiT)(hg:gB p b lp l=true)(hI:RiI s.vs s.ts.length b):RiR b s (riB p l lo s).2 (cnL l) (grL l):=(j39 p _).2 l (Ac _) b lp lo s hg hI
theorem sc_ri4(p:Pg)(hp:szP p)(ty:Int)(nm:ByteArray)(args:List Ex)(thn els:List St)(hT:ihB p thn)(hE:ihB p els)(b lp:Bool)(lo:List (List ByteArray))(s:RiT)(hg:gS p b lp (.mk 4 ty nm args thn els)=true)(hm:ntS maxLen (.mk 4 ty nm args thn els))(hz:sz (.mk 4 ty nm args thn els)<=100000000)(hI:RiI s.vs s.ts.length b)(hb:RiB lp lo s (cnS (.mk 4 ty nm args thn els)) (grS (.mk 4 ty nm args thn els))):scS p (.mk 4 ty nm args thn els) lo s (riS p (.mk 4 ty nm args thn els) lo s):=by
 rw[gS,A5 rfl,A0,A0]at hg;rw[ntS]at hm;rw[sz]at hz;obtain⟨b1,b2,b3,b4,b5⟩:=hb;rw[grS]at b1 b2;rw[cnS]at b3;rw[riS,A5 rfl];obtain⟨e,i1,i2,i3,i4⟩:=zb3 hg.1.1;rw[i2];obtain⟨j1,j2,j3⟩:=z5v p s.vs e ⟨s.ts,s.ns⟩;have hX:=yq8 p hp ⟨lo,s.jk⟩ s.vs hI.cnt _ e (Ac _) oM0 i3 ⟨s.ts,s.ns⟩ (by dsimp only;omega) (by dsimp only;omega);generalize riX p s.vs e ⟨s.ts,s.ns⟩=c at hX j1 j2 j3⊢;dsimp only at j1 j2 j3;have q1:=hI.mono j1;have hA:=hT b lp lo ⟨s.vs,c.2.ts,[],s.jk⟩ hg.1.2 hm.2.1 oM0 q1 ⟨by dsimp only;omega,by simp;omega,by dsimp only;omega,b4,b5⟩;have rA:=resB p thn b lp lo ⟨s.vs,c.2.ts,[],s.jk⟩ hg.1.2 q1;generalize riB p thn lo ⟨s.vs,c.2.ts,[],s.jk⟩=a at hA rA⊢;obtain⟨a1,a2,a3,a4,a5⟩:=rA;simp only[A6,Bu]at a2 a3 a4 a5;have q2:=hI.mono (Bm j1 a2);have hD:=hE b lp lo ⟨s.vs,a.2.ts,[],a.2.jk⟩ hg.2 hm.2.2 oM0 q2 ⟨by dsimp only;omega,by simp;omega,by dsimp only;omega,b4,b5⟩;have rE:=resB p els b lp lo ⟨s.vs,a.2.ts,[],a.2.jk⟩ hg.2 q2;generalize riB p els lo ⟨s.vs,a.2.ts,[],a.2.jk⟩=d at hD rE⊢;obtain⟨d1,d2,d3,d4,d5⟩:=rE;simp only[A6,Bu]at d2 d3 d4 d5;have hN:=nmOk2 (hI.mono (show s.ts.length<=d.2.ts.length by omega)) (l:=thn) (m:=els) oM0 oM0 hm.2.1 hm.2.2;have z1:a.2.ns.length<=34000000000:=by omega
 have z2:d.2.ns.length<=34000000000:=by omega
 have z3:c.2.ns.length<=34000000000:=by omega
 have z4:d.2.ts.length<=33000000000:=by omega
 exact yy2 p ty nm args thn els lo s _ (yg7 p (.mk 4 ty nm args thn els) lo s hI.cnt e i1 c hX a d hA hD a1.cnt d1.cnt z1 z2 hN z3 z4)
theorem ym8(lo:List (List ByteArray))(z03:List ByteArray):(lo++[z03]).length=lo.length+1:=by simp
theorem yn0{lo:List (List ByteArray)}{z03:List ByteArray}(h:∀l∈lo,l.length<=1000000000)(hn:z03.length<=1000000000):∀l∈lo++[z03],l.length<=1000000000:=λl hl=>by
 rcases B3.1 hl with g|g
 ·exact h l g
 ·rw[Al.1 g];exact hn
theorem sc_ri5t(p:Pg)(ty:Int)(nm:ByteArray)(args:List Ex)(thn els:List St)(hT:ihB p thn)(b lp:Bool)(lo:List (List ByteArray))(s:RiT)(hg:gS p b lp (.mk 5 ty nm args thn els)=true)(hm:ntS maxLen (.mk 5 ty nm args thn els))(hz:sz (.mk 5 ty nm args thn els)<=100000000)(hI:RiI s.vs s.ts.length b)(hb:RiB lp lo s (cnS (.mk 5 ty nm args thn els)) (grS (.mk 5 ty nm args thn els)))(ht:ze0 (args.getD 0 ex0)=true):scS p (.mk 5 ty nm args thn els) lo s (riS p (.mk 5 ty nm args thn els) lo s):=by
 rw[gS,A1 dC0,A5 rfl,A0]at hg;rw[ntS]at hm;rw[sz]at hz;obtain⟨b1,b2,b3,b4,b5⟩:=hb;rw[grS]at b1 b2;rw[cnS]at b3;rw[riS,A1 dC0,A5 rfl,A5 ht];obtain⟨e,i1,i2,i3,i4⟩:=zb3 hg.1;rw[i2]at ht;have hn:=z8c s.vs thn;have hO:=nmOk1 hI (l:=thn) oM0 hm.2.1;have htl:s.jk.tail.length<=s.jk.length:=by simp
 refine y4k p ty nm args thn els lo s _ ?_;obtain⟨k1,k2⟩:=y1j hI (z0c s.vs [thn]);have kn:(z2a s (z0c s.vs [thn])).ns.length=0:=rfl;have kj:(z2a s (z0c s.vs [thn])).jk.length=s.jk.tail.length:=rfl;have hA:=hT b true (lo++[z0c s.vs [thn]]) (z2a s (z0c s.vs [thn])) hg.2 hm.2.1 oM0 k1 ⟨by omega,by omega,by rw[ym8];omega,yn0 b4 oM0,λ_=>by simp⟩;have rA:=resB p thn b true (lo++[z0c s.vs [thn]]) (z2a s (z0c s.vs [thn])) hg.2 k1;generalize riB p thn (lo++[z0c s.vs [thn]]) (z2a s (z0c s.vs [thn]))=a at hA rA⊢;obtain⟨a1,a2,a3,a4,a5⟩:=rA;have z1:(z0c s.vs [thn]).length<=34359738368:=by omega
 have z2:a.2.ns.length<=34000000000:=by omega
 have hRd:=yg9 p (.mk 5 ty nm args thn els) (z0c s.vs [thn]) (lo++[z0c s.vs [thn]]) (z2a s (z0c s.vs [thn])) e i1 ht a hA a1.cnt z1 z2;have y1:s.ts.length<=33000000000:=by omega
 have y2:s.ns.length<=34000000000:=by omega
 have y3:s.ts.length<=a.2.ts.length:=by omega
 have y4:a.2.ts.length<=33000000000:=by omega
 have y5:lo.length<=1000000000:=by omega
 have y6:s.jk.length<=1000000000:=by omega
 unfold y6c;exact y9a p (.mk 5 ty nm args thn els) lo s hI.cnt ⟨a.2.vs,a.2.ts,z5a 13 (z0c s.vs [thn]) a,a.2.jk⟩ hRd hO y1 y2 y3 y4 y5 y6
theorem sc_ri5f(p:Pg)(hp:szP p)(ty:Int)(nm:ByteArray)(args:List Ex)(thn els:List St)(hT:ihB p thn)(b lp:Bool)(lo:List (List ByteArray))(s:RiT)(hg:gS p b lp (.mk 5 ty nm args thn els)=true)(hm:ntS maxLen (.mk 5 ty nm args thn els))(hz:sz (.mk 5 ty nm args thn els)<=100000000)(hI:RiI s.vs s.ts.length b)(hb:RiB lp lo s (cnS (.mk 5 ty nm args thn els)) (grS (.mk 5 ty nm args thn els)))(ht:ze0 (args.getD 0 ex0)=false):scS p (.mk 5 ty nm args thn els) lo s (riS p (.mk 5 ty nm args thn els) lo s):=by
 rw[gS,A1 dC0,A5 rfl,A0]at hg;rw[ntS]at hm;rw[sz]at hz;obtain⟨b1,b2,b3,b4,b5⟩:=hb;rw[grS]at b1 b2;rw[cnS]at b3;rw[riS,A1 dC0,A5 rfl,A1 (by rw[ht];decide)];obtain⟨e,i1,i2,i3,i4⟩:=zb3 hg.1;rw[i2]at ht⊢;have hn:=z8c s.vs thn;have hO:=nmOk1 hI (l:=thn) oM0 hm.2.1;have htl:s.jk.tail.length<=s.jk.length:=by simp
 refine y4k p ty nm args thn els lo s _ ?_;obtain⟨k1,k2⟩:=y1j hI (z0c s.vs [thn]);obtain⟨j1,j2,j3⟩:=z5v p (z2a s (z0c s.vs [thn])).vs e ⟨(z2a s (z0c s.vs [thn])).ts,[]⟩;have hX:=yq8 p hp ⟨lo++[z0c s.vs [thn]],s.jk.tail⟩ (z2a s (z0c s.vs [thn])).vs k1.cnt _ e (Ac _) oM0 i3 ⟨(z2a s (z0c s.vs [thn])).ts,[]⟩ (by dsimp only;omega) (by simp;omega);generalize riX p (z2a s (z0c s.vs [thn])).vs e ⟨(z2a s (z0c s.vs [thn])).ts,[]⟩=c at hX j1 j2 j3⊢;simp only[A6,Bu]at j1 j2 j3;have q1:=k1.mono j1;have hA:=hT b true (lo++[z0c s.vs [thn]]) ⟨(z2a s (z0c s.vs [thn])).vs,c.2.ts,[],s.jk.tail⟩ hg.2 hm.2.1 oM0 q1 ⟨by dsimp only;omega,by simp only[A6];omega,by rw[ym8];dsimp only;omega,yn0 b4 oM0,λ_=>by simp⟩;have rA:=resB p thn b true (lo++[z0c s.vs [thn]]) ⟨(z2a s (z0c s.vs [thn])).vs,c.2.ts,[],s.jk.tail⟩ hg.2 q1;generalize riB p thn (lo++[z0c s.vs [thn]]) ⟨(z2a s (z0c s.vs [thn])).vs,c.2.ts,[],s.jk.tail⟩=a at hA rA⊢;obtain⟨a1,a2,a3,a4,a5⟩:=rA;simp only[A6,Bu]at a2 a3 a4 a5;have z1:(z0c s.vs [thn]).length<=34359738368:=by omega
 have z2:a.2.ns.length<=34000000000:=by omega
 have z3:c.2.ns.length<=34000000000:=by omega
 have hRd:=yh0 p (.mk 5 ty nm args thn els) (z0c s.vs [thn]) (lo++[z0c s.vs [thn]]) (z2a s (z0c s.vs [thn])) k1.cnt e i1 ht c hX a hA a1.cnt z1 z2 z3;have y1:s.ts.length<=33000000000:=by omega
 have y2:s.ns.length<=34000000000:=by omega
 have y3:s.ts.length<=a.2.ts.length:=by omega
 have y4:a.2.ts.length<=33000000000:=by omega
 have y5:lo.length<=1000000000:=by omega
 have y6:s.jk.length<=1000000000:=by omega
 unfold y6d;exact y9a p (.mk 5 ty nm args thn els) lo s hI.cnt ⟨(z2a s (z0c s.vs [thn])).vs,a.2.ts,z8s (z0c s.vs [thn]) (z2a s (z0c s.vs [thn])).vs c a,a.2.jk⟩ hRd hO y1 y2 y3 y4 y5 y6
theorem yq6(p:Pg)(hp:szP p):∀N,(∀x:St,SizeOf.sizeOf x<N->∀b lp lo s,gS p b lp x=true->ntS maxLen x->sz x<=100000000->RiI s.vs s.ts.length b->RiB lp lo s (cnS x) (grS x)->scS p x lo s (riS p x lo s)) /\
 (∀l:List St,SizeOf.sizeOf l<N->∀b lp lo s,gB p b lp l=true->ntL maxLen l->szL l<=100000000->RiI s.vs s.ts.length b->RiB lp lo s (cnL l) (grL l)->scB p l lo s (riB p l lo s))
 |0=>⟨λ_ h=>A9 h (An _),λ_ h=>A9 h (An _)⟩
 |N+1=>by
  obtain⟨hS,hB⟩:=yq6 p hp N;have hR:=j39 p;refine⟨λx hx b lp lo s hg hm hz hI hb=>?_,λl hl b lp lo s hg hm hz hI hb=>?_⟩
  ·obtain⟨k,ty,nm,args,thn,els⟩:=x;simp at hx;have hg0:=hg;have hm0:=hm;have hz0:=hz;have hb0:=hb;rw[gS]at hg;rw[ntS]at hm;rw[sz]at hz;obtain⟨b1,b2,b3,b4,b5⟩:=hb;rw[grS]at b1 b2;rw[cnS]at b3;have hXX:∀(e:Ex) (vs:List (Value×PV)) (t:RiS) (jk:List (List ByteArray)),Cnt vs->riOk p e=true->xz e<=xzL args->t.ts.length+4*xz e<=34000000000->t.ns.length+4*xz e<=34000000000->scX p e lo vs jk t (riX p vs e t):=λe vs t jk hv ho hx h1 h2=>yq8 p hp ⟨lo,jk⟩ vs hv _ e (Ac _) oM0 ho t h1 h2;have hTh:ihB p thn:=λb lp lo s=>hB thn oM0 b lp lo s;have hEl:ihB p els:=λb lp lo s=>hB els oM0 b lp lo s
   by_cases h4:k=4
   ·subst h4;exact sc_ri4 p hp ty nm args thn els hTh hEl b lp lo s hg0 hm0 hz0 hI hb0
   by_cases h5:k=5
   ·subst h5
    by_cases ht:ze0 (args.getD 0 ex0)=true
    ·exact sc_ri5t p ty nm args thn els hTh b lp lo s hg0 hm0 hz0 hI hb0 ht
    ·exact sc_ri5f p hp ty nm args thn els hTh b lp lo s hg0 hm0 hz0 hI hb0 (by simpa using ht)
   rw[A1 h4,A1 h5]at hg
   by_cases h67:k=6∨k=7
   ·rw[A5 h67]at hg;exact yg8 p k ty h67 nm args thn els lo (b5 hg) s hI.cnt oM0 (y0q b4) oM0
   rw[A1 h67]at hg;have h6:k≠6:=λe=>h67 (.inl e);have h7:k≠7:=λe=>h67 (.inr e)
   by_cases h3:k=3
   ·subst h3;rw[A5 rfl]at hg;obtain⟨e,e2,i1,i2,i3,i4,i5,i6,i7⟩:=j1d hg;obtain⟨j1,j2,j3⟩:=z5v p s.vs e ⟨s.ts,s.ns⟩;obtain⟨m1,m2,m3⟩:=z5v p s.vs e2 (riX p s.vs e ⟨s.ts,s.ns⟩).2;dsimp only at j1 j2 j3;have hX:=hXX e s.vs ⟨s.ts,s.ns⟩ s.jk hI.cnt i5 oM0 (by dsimp only;omega) (by dsimp only;omega);have hX2:=hXX e2 s.vs (riX p s.vs e ⟨s.ts,s.ns⟩).2 s.jk hI.cnt i6 oM0 oM0 oM0;exact y4j p 3 ty dC0 dC0 dC0 dC0 dC0 nm args thn els lo s (y24 p 3 ty nm args thn els lo s hI.cnt e i1 hX oM0 λ_=>⟨e2,i2,hX2,by omega⟩)
   rw[A1 h3,A0]at hg;obtain⟨e,i1,i2,i3,i4⟩:=zb3 hg.1;obtain⟨j1,j2,j3⟩:=z5v p s.vs e ⟨s.ts,s.ns⟩;dsimp only at j1 j2 j3;have hX:=hXX e s.vs ⟨s.ts,s.ns⟩ s.jk hI.cnt i3 i4 (by dsimp only;omega) (by dsimp only;omega)
   by_cases h8:k=8
   ·subst h8;exact yy3 p ty nm args thn els lo s e i1 hX oM0
   ·exact y4j p k ty h4 h5 h6 h7 h8 nm args thn els lo s (y24 p k ty nm args thn els lo s hI.cnt e i1 hX oM0 λe=>A9 e h3)
  ·refine yy5 p lo l s (λi t=>∃c,RiI t.vs t.ts.length c/\gB p c lp (l.drop i)=true/\ntL maxLen (l.drop i)/\t.ts.length+grL (l.drop i)<=s.ts.length+grL l/\t.ns.length+grL (l.drop i)<=s.ns.length+grL l/\t.jk.length+cnL (l.drop i)<=s.jk.length+cnL l) ⟨b,hI,hg,hm,Ag _,Ag _,Ag _⟩ ?_;rintro i x t hx ⟨c,c1,c2,c3,c4,c5,c6⟩;have hd:l.drop i=x::l.drop (i+1):=by
    obtain⟨h1,h2⟩:=A7.1 hx;rw[<- h2];exact D8 h1
   have hmem:=Af hx;have hsz:=zx5 hmem;have hso:=Br hmem;rw[hd,gB,A0]at c2;rw[hd,ntL]at c3;rw[hd,grL]at c4 c5;rw[hd,cnL]at c6;obtain⟨b1,b2,b3,b4,b5⟩:=hb;have r:=(hR _).1 x (Ac _) c lp lo t c2.1 c1;obtain⟨r1,r2,r3,r4,r5⟩:=r;exact⟨hS x oM0 c lp lo t c2.1 c3.1 oM0 c1 ⟨by omega,by omega,by omega,b4,b5⟩,λ_=>⟨_,r1,c2.2,c3.2,by omega,by omega,by omega⟩⟩
section
variable {T:List Tk}
theorem zc3(k t:Int)(s:ByteArray)(a:List Ex)(x y:List St):cnS (.mk k t s a x y)=1+cnL x+cnL y:=by simp only[cnS]
theorem cnL_one(a:St):cnL [a]=cnS a:=by simp[cnL]
theorem j0y:∀a b:List St,cnL (a++b)=cnL a+cnL b
 |[],b=>by simp[cnL]
 |x::r,b=>by simp only[Be,cnL,j0y r b];omega
attribute [local irreducible] mE z6w
theorem let_cn(hT:TkOk T){s:Ps}(h:(mLet T s).2.over=false):2*cnS (mLet T s).1+s.at_<=(mLet T s).2.at_:=by
 unfold mLet at h⊢;dsimp only at h⊢;have b1:=(z58 hT).back h;have b2:=(z0b hT (w:=sEq)).back b1;have b3:=(z1x hT (k:=1) dC0).back b2;have a1:=(z58 hT (s:=z0q T sEq (z0k T 1 (z0t T s).2).2)).at_;have a2:=zi1.lt b1;have a3:=z6u.lt b2;have a4:=zl6.lt b3;simp only[zc3,cnL];omega
theorem named_cn(hT:TkOk T){s:Ps}(h:(z4s T s).2.over=false):2*cnS (z4s T s).1+s.at_<=(z4s T s).2.at_:=by
 unfold z4s at h⊢;split at h
 ·rename_i h1;rw[A5 h1];dsimp only at h⊢;have h2:=yn4 hT 2 (z0k T 1 s).2.next;have h3:=((z52 hT (big T)).2.2.2.2.1 2 (z0k T 1 s).2.next).at_;have b1:=(z3y h1).1;have a1:=z6u.lt b1;rw[z0p]at h3;simp only[zc3,cnL];omega
 rename_i h1;rw[A1 h1];split at h
 ·rename_i h2;rw[A5 h2];dsimp only at h⊢;have b1:=(z3y h2).1;have a1:=z6u.lt b1;have d1:=(z58 hT (s:=(z0k T 1 s).2.next)).at_;rw[z0p]at d1;generalize(mE T (z0k T 1 s).2.next)=e at h d1⊢;have d2:=(z0b hT (w:=sSc) (s:=e.2)).at_;have d3:=(z0b hT (w:=sEq) (s:=z0q T sSc e.2)).at_;have d4:=(z58 hT (s:=z0q T sEq (z0q T sSc e.2))).at_;simp only[zc3,cnL];omega
 ·rename_i h2;rw[A1 h2];dsimp only at h⊢;have b1:=(z58 hT).back h;have b2:=(z0b hT (w:=sEq)).back b1;have a1:=z6u.lt b2;have a2:=zi1.lt b1;have a3:=(z58 hT (s:=z0q T sEq (z0k T 1 s).2)).at_;simp only[zc3,cnL];omega
theorem flat_cn(hT:TkOk T){s:Ps}(h:(z9q T s).2.over=false):2*cnS (z9q T s).1+s.at_<=(z9q T s).2.at_+1:=by
 unfold z9q at h⊢;split at h
 ·rename_i h1;rw[A5 h1];simp only[zc3,cnL,z0p];omega
 rename_i h1;rw[A1 h1];split at h
 ·rename_i h1;rw[A5 h1];simp only[zc3,cnL,z0p];omega
 rename_i h1;rw[A1 h1];split at h
 ·rename_i h1;rw[A5 h1];have a1:=(z58 hT (s:=s.next)).at_;rw[z0p]at a1;simp only[zc3,cnL];omega
 rename_i h1;rw[A1 h1];split at h
 ·rename_i h1;rw[A5 h1];have a1:=(z2t hT (s:=s.next)).at_;rw[z0p]at a1;simp only[zc3,cnL];omega
 rename_i h1;rw[A1 h1];have:=named_cn hT h;omega
theorem y0s(hT:TkOk T){s:Ps}(h:(z1r T s).2.over=false):s.at_+1<=(z1r T s).2.at_:=by
 unfold z1r at h⊢;dsimp only at h⊢;have b1:=(z0b hT (w:=sRc)).back h;have b2:=(z58 hT).back b1;have a1:=zi1.lt b2;have a2:=(z58 hT (s:=z0q T sRo s)).at_;have a3:=(z0b hT (w:=sRc) (s:=(mE T (z0q T sRo s)).2)).at_;omega
theorem stmt_cn(hT:TkOk T)(N:Nat)(iB:∀d s,(z1v T N d s).2.over=false->2*cnL (z1v T N d s).1+s.at_<=(z1v T N d s).2.at_)(d:Int)(s:Ps)(h:(z5q T (N+1) d s).2.over=false):2*cnS (z5q T (N+1) d s).1+s.at_<=(z5q T (N+1) d s).2.at_:=by
 have e:=y2f d s;unfold z5q at h⊢;generalize z3b d s=s at e h⊢;rw[<- e];split at h
 ·rename_i h1;rw[A5 h1];have b1:=(z0b hT (w:=z5b)).back h;have h2:=let_cn hT b1;have h3:=(z0b hT (w:=z5b) (s:=(mLet T s).2)).at_;dsimp only at h3⊢;omega
 rename_i h1;rw[A1 h1];split at h
 ·rename_i h1;rw[A5 h1];split at h
  ·rename_i h2;rw[A5 h2];have b2:=iB _ _ h;have b0:=(z3y h2).1;have b3:=iB _ _ b0;have b4:=y0s hT (((z5k hT N).2.1 _ _).back b0);rw[z0p]at b2 b4;simp only[zc3];omega
  ·rename_i h2;rw[A1 h2];have b3:=iB _ _ h;have b4:=y0s hT (((z5k hT N).2.1 _ _).back h);rw[z0p]at b4;simp only[zc3,cnL];omega
 rename_i h1;rw[A1 h1];split at h
 ·rename_i h1;rw[A5 h1];have b3:=iB _ _ h;have b4:=y0s hT (((z5k hT N).2.1 _ _).back h);rw[z0p]at b4;simp only[zc3,cnL];omega
 rename_i h1;rw[A1 h1];have b1:=(z0b hT (w:=z5b)).back h;have h2:=flat_cn hT b1;have h3:=zi1.lt h;dsimp only at h3⊢;omega
theorem yr6(hT:TkOk T):∀N,(∀d s,(z5q T N d s).2.over=false->2*cnS (z5q T N d s).1+s.at_<=(z5q T N d s).2.at_)/\(∀d s,(z1v T N d s).2.over=false->2*cnL (z1v T N d s).1+s.at_<=(z1v T N d s).2.at_) /\
 (∀d out s,(z75 T N d out s).2.over=false->2*cnL (z75 T N d out s).1+s.at_<=2*cnL out+(z75 T N d out s).2.at_)
 |0=>⟨λd s h=>A9 h (by simp[z5q,Ps.over,Ps.setBad]),λd s _=>by show 0+s.at_<=s.at_;omega,λd out s _=>by show 2*cnL out+s.at_<=2*cnL out+s.at_;omega⟩
 |N+1=>by
  obtain⟨iS,iB,iL⟩:=yr6 hT N;refine⟨λd s h=>stmt_cn hT N iB d s h,λd s h=>?_,λd out s h=>?_⟩
  ·unfold z1v at h⊢;have h1:=iL d [] (z0q T sBo s) h;have h2:=(z0b hT (w:=sBo) (s:=s)).at_;simp only[cnL]at h1;omega
  ·unfold z75 at h⊢;split at h
   ·rename_i h1;rw[A5 h1];exact Ag _
   rename_i h1;rw[A1 h1];split at h
   ·rename_i h1;rw[A5 h1];simp only[z0p];omega
   rename_i h1;rw[A1 h1];have b1:=((z5k hT N).2.2 _ _ _).back h;have h2:=iL _ _ _ h;have h3:=iS _ _ b1;rw[j0y,cnL_one]at h2;omega
def pcn:List Fu->Nat
 |[]=>0
 |f::r=>cnL f.body+pcn r
theorem j2n:∀a b:List Fu,pcn (a++b)=pcn a+pcn b
 |[],b=>by simp[pcn]
 |x::r,b=>by simp only[Be,pcn,j2n r b];omega
theorem func_cn(hT:TkOk T){t:Int}{n:ByteArray}{s:Ps}(h:(z7b T t n s).2.over=false):2*cnL (z7b T t n s).1.body+s.at_<=(z7b T t n s).2.at_:=by
 unfold z7b at h⊢;dsimp only at h⊢;have h1:=(yr6 hT (big T)).2.1 1 _ h;have h2:=(z0b hT (w:=sRo) (s:=s)).at_;have h6:=(zl3 hT (s:=z0q T sRo s)).at_;omega
theorem yf0(hT:TkOk T):∀N p s,(z2v T N p s).2.over=false->2*pcn (z2v T N p s).1.funcs+s.at_<=2*pcn p.funcs+(z2v T N p s).2.at_
 |0,_,_,_=>Ag _
 |N+1,p,s,h=>by
  unfold z2v at h⊢;split
  ·exact Ag _
  rename_i c1;rw[A1 c1]at h;have a1:=(z5l hT (s:=s)).at_;have a2:=(z1x hT (k:=1) dC0 (s:=(z0t T s).2)).at_;split
  ·rename_i c2;rw[A5 c2]at h;have h1:=yf0 hT N _ _ h;have a3:=(z1x hT (k:=0) dC0 (s:=(z0k T 1 (z0t T s).2).2.next)).at_;have a4:=(z0b hT (w:=sSc) (s:=(z0k T 0 (z0k T 1 (z0t T s).2).2.next).2)).at_;have a5:=(z0b hT (w:=z5b) (s:=z0q T sSc (z0k T 0 (z0k T 1 (z0t T s).2).2.next).2)).at_;rw[z0p]at a3;dsimp only at h1;omega
  ·rename_i c2;rw[A1 c2]at h;have h1:=yf0 hT N _ _ h;have b1:(z7b T (z0t T s).1 (z0k T 1 (z0t T s).2).1 (z0k T 1 (z0t T s).2).2).2.over=false:=(z78 hT N _ _).back h;have h2:=func_cn hT b1;rw[j2n]at h1;simp only[pcn]at h1;omega
theorem j1e(s:ByteArray):pcn (z1u s).1.funcs<=50000:=by
 unfold z1u;split
 ·rename_i h0;obtain⟨hT,hl⟩:=ze2 h0;split
  ·exact Aj _
  ·rename_i h1;split
   ·exact Aj _
   ·rename_i h2;split
    ·have ho:(z90 (z1d s).1).2.over=false:=by unfold Ps.over;rw[F0.2 h1,F0.2 h2];rfl
     have hp:0<(z1d s).1.length:=by obtain⟨i,e,h,_⟩:=hT;rw[h];simp
     have h3:=yf0 hT (big (z1d s).1) ⟨[],[]⟩ ⟨0,false,false⟩ ho;have h4:=(z78 hT (big (z1d s).1) ⟨[],[]⟩ ⟨0,false,false⟩).lt hp;unfold z90;simp only[pcn]at h3;dsimp only at h3 h4⊢;omega
    ·exact Aj _
 ·exact Aj _
end
theorem j0g{p:Pg}{s:Sc}{e:Ex}{r:List Ex}(h:(z73 p s (e::r)).2=0):(z5e p s e).2=0/\(z73 p s r).2=0:=by
 rw[z73]at h
 by_cases h1:(z5e p s e).2=0
 ·rw[A5 h1]at h
  by_cases h2:(z73 p s r).2=0
  ·exact⟨h1,h2⟩
  ·rw[A1 h2]at h;exact A9 h h2
 ·rw[A1 h1]at h;exact A9 h h1
theorem yt0{p:Pg}{s:Sc}{k o n:Int}{nm:ByteArray}{args:List Ex}(h:(z5e p s (.mk k o n nm args)).2=0):z8i p s k nm args.length=0/\(z73 p s args).2=0:=by
 rw[z5e]at h
 by_cases h1:z8i p s k nm args.length=0
 ·rw[A5 h1]at h
  by_cases h2:(z73 p s args).2=0
  ·exact⟨h1,h2⟩
  ·rw[A1 h2]at h;exact A9 h h2
 ·rw[A1 h1]at h;exact A9 h h1
theorem yFine_ok{b:Bool}{e:Int}(he:e≠0)(h:zy2 b e=0):b=true:=by
 unfold zy2 at h
 cases b with
 |true=>rfl
 |false=>exact A9 h he
theorem j35(p:Pg)(s:Sc):∀N,(∀e:Ex,SizeOf.sizeOf e<N->∀m,rx e m=true->(z5e p s e).2=0->riOk p e=true)/\(∀l:List Ex,SizeOf.sizeOf l<N->∀m,rxL l m=true->(z73 p s l).2=0->zn3 p l=true)
 |0=>⟨λ_ h=>A9 h (An _),λ_ h=>A9 h (An _)⟩
 |N+1=>by
  obtain⟨h1,h2⟩:=j35 p s N;refine⟨λe he m hr hy=>?_,λl hl m hr hy=>?_⟩
  ·obtain⟨k,o,n,nm,args⟩:=e;simp at he;rw[rx,A0]at hr;obtain⟨y1,y2⟩:=yt0 hy;rw[riOk,h2 args oM0 m hr.1 y2,Cd];have hr2:=hr.2;unfold rOwn at hr2;unfold j32
   by_cases k5:k=5
   ·subst k5;simp at hr2;simp[hr2.2]
   rw[A1 k5]
   by_cases k7:k=7
   ·subst k7;rw[A1 dC0];unfold z8i at y1;rw[A1 dC0,A1 dC0,A5 rfl]at y1
    by_cases c:z3l p nm<0
    ·rw[A5 c]at y1;exact A9 y1 dC0
    ·exact Cb oM0
   ·by_cases kk:k=1∨k=2∨k=3∨k=4∨k=6∨k=8
    ·rw[A5 kk]
    ·simp only[not_or]at kk;obtain⟨q1,q2,q3,q4,q6,q8⟩:=kk;rw[A1 q1,A1 q2,A1 q3,A1 q4,A1 k5,A1 q6,A1 k7,A1 q8]at hr2
     cases hr2
  ·match l with
   |[]=>rfl
   |e::r =>
    simp at hl;rw[rxL,A0,A0]at hr;obtain⟨y1,y2⟩:=j0g hy;rw[zn3,h1 e oM0 _ hr.1.2 y1,h2 r oM0 m hr.2 y2];rfl
theorem ok_riX{p:Pg}{s:Sc}{e:Ex}{m:Int}(hr:rx e m=true)(hy:(z5e p s e).2=0):riOk p e=true:=(j35 p s _).1 e (Ac _) m hr hy
theorem z8j{p:Pg}{s:Sc}{e:Ex}{t:Int}(h:ze4 p s e t=0):(z5e p s e).2=0:=by
 unfold ze4 at h;split at h
 ·assumption
 ·exact h
theorem j6e{p:Pg}{e:Ex}(h:(z5e p [] e).2=0):e.kind≠3:=by
 obtain⟨k,o,n,nm,args⟩:=e;intro hk;have hk:k=3:=hk;subst hk;have:=(yt0 h).1;simp[z8i,zb9,zy2]at this
theorem shp_len{k:Int}{n:Nat}(h:((n:Int) != (shp k).2.2.1)=false):(k=1∨k=2∨k=4∨k=5∨k=8∨k=9∨k=10)/\n=1∨k=3/\n=2∨(k=6∨k=7)/\n=0:=by
 have h:(n:Int)=(shp k).2.2.1:=by simpa using h
 unfold shp at h
 by_cases h1:k=1
 ·rw[A5 h1]at h;dsimp only at h;omega
 rw[A1 h1]at h
 by_cases h2:k=2
 ·rw[A5 h2]at h;dsimp only at h;omega
 rw[A1 h2]at h
 by_cases h3:k=3
 ·rw[A5 h3]at h;dsimp only at h;omega
 rw[A1 h3]at h
 by_cases h4:k=4
 ·rw[A5 h4]at h;dsimp only at h;omega
 rw[A1 h4]at h
 by_cases h5:k=5
 ·rw[A5 h5]at h;dsimp only at h;omega
 rw[A1 h5]at h
 by_cases h6:k=6∨k=7
 ·rw[A5 h6]at h;dsimp only at h;omega
 rw[A1 h6]at h
 by_cases h8:k=8∨k=9∨k=10
 ·rw[A5 h8]at h;dsimp only at h;omega
 rw[A1 h8]at h;dsimp only at h;omega
theorem y1r{k ty:Int}{nm:ByteArray}{args:List Ex}{thn els:List St}{m:Int}(h:rst (.mk k ty nm args thn els) m=true) :
 ((k=1∨k=2∨k=4∨k=5∨k=8∨k=9∨k=10)/\args.length=1∨k=3/\args.length=2∨(k=6∨k=7)/\args.length=0)/\(∀e∈args,rx e 100=true)/\rsL thn (m-1)=true/\rsL els (m-1)=true/\((shp k).2.1=z0o nm/\((shp k).2.1=false->nm.toList=[])):=by
 rw[rst]at h;simp only[A0,Bi,Bj]at h;obtain⟨⟨⟨⟨h1,h2⟩,h3⟩,h4⟩,h5⟩:=h;unfold yv8 at h1;simp only[Bn]at h1;obtain⟨⟨⟨⟨⟨_,h12⟩,_⟩,_⟩,h15⟩,h16⟩:=h1;refine⟨shp_len h12,h2,h4,h5,by simpa using h15,λe=>?_⟩;rw[e]at h16;simpa using h16
theorem y81(s:Sc)(k ty:Int)(nm:ByteArray)(d:Int):(!(z6s s k ty nm d).isEmpty)=(!s.isEmpty||k==1):=by
 unfold z6s
 by_cases h:k=1
 ·rw[A5 h,h];simp
 ·rw[A1 h,show(k==1)=false from Aa.2 h,Ev]
theorem gA_of{p:Pg}{s:Sc}{args:List Ex}(n:Nat)(hl:n<=args.length)(hr:∀e∈args,rx e 100=true)(hy:∀e∈args,(z5e p s e).2=0):gA p n args=true:=by
 unfold gA;rw[A0];refine⟨Cb hl,?_⟩;clear hl
 induction args with
 |nil=>rfl
 |cons e r ih=>rw[zn3,ok_riX (hr e (.head _)) (hy e (.head _)),ih (λq hq=>hr q (.tail _ hq)) λq hq=>hy q (.tail _ hq)];rfl
theorem yk1{p:Pg}{res:Int}{x:St}{r:List St}{s:Sc}{d:Int}{lp:Bool}{n:Nat}(h:(z2g p res (x::r) s d lp n).1=0):(yOne p res x s d lp n).1=0/\(z2g p res r (z6s s x.kind x.ty x.name d) d lp (yOne p res x s d lp n).2).1=0:=by
 rw[z2g]at h
 by_cases h1:(yOne p res x s d lp n).1=0
 ·rw[A5 h1]at h;exact⟨h1,h⟩
 ·rw[A1 h1]at h;exact A9 h h1
theorem yOne_ok{p:Pg}{res k ty:Int}{nm:ByteArray}{args:List Ex}{thn els:List St}{s:Sc}{d:Int}{lp:Bool}{n:Nat}(h:(yOne p res (.mk k ty nm args thn els) s d lp n).1=0) :
 zy3 p res s k ty nm args d lp=0/\(z2g p res thn (z6s s k ty nm d) (d+1) (lp||k==5) (n+1)).1=0/\(z2g p res els (z6s s k ty nm d) (d+1) lp (z2g p res thn (z6s s k ty nm d) (d+1) (lp||k==5) (n+1)).2).1=0:=by
 rw[yOne]at h
 by_cases h1:zy3 p res s k ty nm args d lp=0
 ·rw[A5 h1]at h
  by_cases h2:(z2g p res thn (z6s s k ty nm d) (d+1) (lp||k==5) (n+1)).1=0
  ·rw[A5 h2]at h;exact⟨h1,h2,h⟩
  ·rw[A1 h2]at h;exact A9 h h2
 ·rw[A1 h1]at h;exact A9 h h1
theorem j0j{p:Pg}{res k ty:Int}{nm:ByteArray}{args:List Ex}{s:Sc}{d:Int}{lp:Bool}(h:zy3 p res s k ty nm args d lp=0)(hl:(k=1∨k=2∨k=4∨k=5∨k=8∨k=9∨k=10)/\args.length=1∨k=3/\args.length=2∨(k=6∨k=7)/\args.length=0):∀e∈args,(z5e p s e).2=0:=by
 unfold zy3 at h;rcases hl with⟨hk,hl⟩|⟨hk,hl⟩|⟨hk,hl⟩
 ·obtain⟨e,rfl⟩:=Eb.1 hl;intro q hq;obtain rfl:=Al.1 hq;rw[show([q]:List Ex).getD 0 ex0=q from rfl]at h
  by_cases c1:k=4∨k=5
  ·rw[A5 c1]at h;exact z8j h
  rw[A1 c1]at h
  by_cases c2:k=8
  ·rw[A5 c2]at h;exact z8j h
  rw[A1 c2]at h
  by_cases c3:k=9
  ·rw[A5 c3]at h;exact z8j h
  rw[A1 c3]at h
  by_cases c4:k=10
  ·rw[A5 c4]at h;exact h
  rw[A1 c4,A1 oM0]at h;unfold yb0 at h;rw[show([q]:List Ex).getD 0 ex0=q from rfl]at h
  by_cases c5:k=1
  ·rw[A5 c5]at h;split at h
   ·rename_i h1;exact z8j h1
   ·exact z8j h
  rw[A1 c5,A5 oM0]at h;split at h
  ·exact A9 h dC0
  ·exact z8j h
 ·subst hk;rw[A1 dC0,A1 dC0,A1 dC0,A1 dC0,A1 dC0]at h;unfold yb0 at h;rw[A1 dC0,A1 dC0]at h
  match args,hl with
  |[a,b],_ =>
   rw[show([a,b]:List Ex).getD 0 ex0=a from rfl,show([a,b]:List Ex).getD 1 ex0=b from rfl]at h;split at h
   ·exact A9 h dC0
   ·split at h
    ·rename_i h1;intro q hq;simp only[Aq,C1,Fp]at hq;rcases hq with rfl|rfl
     ·exact z8j h1
     ·exact z8j h
    ·rename_i h1;exact A9 h h1
 ·obtain rfl:=Ay hl;intro q hq
  cases hq
theorem gB_of(p:Pg)(res:Int):∀N,(∀x:St,SizeOf.sizeOf x<N->∀m s d lp n,rst x m=true->(yOne p res x s d lp n).1=0->gS p (!s.isEmpty) lp x=true)/\(∀l:List St,SizeOf.sizeOf l<N->∀m s d lp n,rsL l m=true->(z2g p res l s d lp n).1=0->gB p (!s.isEmpty) lp l=true)
 |0=>⟨λ_ h=>A9 h (An _),λ_ h=>A9 h (An _)⟩
 |N+1=>by
  obtain⟨h1,h2⟩:=gB_of p res N;refine⟨λx hx m s d lp n hr hy=>?_,λl hl m s d lp n hr hy=>?_⟩
  ·obtain⟨k,ty,nm,args,thn,els⟩:=x;simp at hx;obtain⟨r1,r2,r3,r4,_⟩:=y1r hr;obtain⟨y1,y2,y3⟩:=yOne_ok hy;have ya:=j0j y1 r1;rw[gS]
   by_cases k4:k=4
   ·subst k4;rw[show z6s s 4 ty nm d=s from rfl,show(lp||(4:Int)==5)=lp by simp]at y2 y3;rw[A5 rfl,gA_of 1 oM0 r2 ya,h2 thn oM0 _ _ _ _ _ r3 y2,h2 els oM0 _ _ _ _ _ r4 y3];rfl
   rw[A1 k4]
   by_cases k5:k=5
   ·subst k5;rw[show z6s s 5 ty nm d=s from rfl,show(lp||(5:Int)==5)=true by simp]at y2;rw[A5 rfl,gA_of 1 oM0 r2 ya,h2 thn oM0 _ _ _ _ _ r3 y2];rfl
   rw[A1 k5]
   by_cases k67:k=6∨k=7
   ·rw[A5 k67];unfold zy3 at y1;rw[A1 oM0,A1 oM0,A1 oM0,A1 oM0,A5 k67]at y1;exact yFine_ok dC0 y1
   rw[A1 k67]
   by_cases k3:k=3
   ·rw[A5 k3];exact gA_of 2 oM0 r2 ya
   rw[A1 k3,gA_of 1 oM0 r2 ya,B6]
   cases s with
   |cons a b=>rfl
   |nil =>
    match args,r1 with
    |[],r1=>simp only[A6]at r1;omega
    |e::r,_ =>
     have:=j6e (ya e (.head _));show(false||(((e::r).getD 0 ex0).kind != 3))=true;rw[Ce];exact bne_iff_ne.2 this
  ·match l with
   |[]=>rfl
   |x::r =>
    simp at hl;rw[rsL,A0]at hr;obtain⟨y1,y2⟩:=yk1 hy;have hh:=h2 r oM0 m _ d lp _ hr.2 y2;rw[y81]at hh;rw[gB,h1 x oM0 m s d lp n hr.1 y1,hh];rfl
theorem yl7{α:Type}(f g:α -> Bool)(h:α -> α)(e:∀x,f (h x)=g x):∀(l:List α)(i:Int),idxP f (l.map h) i=idxP g l i
 |[],i=>rfl
 |x::r,i=>by simp only[B7,idxP,e,yl7 f g h e r]
theorem j6g(p:Pg)(nm:ByteArray):z3l (rnP p) nm=z3l p nm:=by
 unfold z3l;exact yl7 _ _ rnF (λ_=>rfl) p.funcs 0
theorem j36(p:Pg)(es:List (Value×PV)):∀N,(∀e:Ex,SizeOf.sizeOf e<N->riOk (rnP p) (rnX es e)=riOk p e/\xz (rnX es e)=xz e)/\(∀l:List Ex,SizeOf.sizeOf l<N->zn3 (rnP p) (rnXL es l)=zn3 p l/\xzL (rnXL es l)=xzL l)
 |0=>⟨λ_ h=>A9 h (An _),λ_ h=>A9 h (An _)⟩
 |N+1=>by
  obtain⟨h1,h2⟩:=j36 p es N;refine⟨λe he=>?_,λl hl=>?_⟩
  ·obtain⟨k,o,n,nm,args⟩:=e;simp at he;have hl:(rnXL es args).length=args.length:=by rw[zs6,Ab]
   rw[rnX,riOk,riOk,(h2 args oM0).1,xz,xz,(h2 args oM0).2,hl,j6g];refine⟨?_,rfl⟩
   by_cases k3:k=3
   ·subst k3;rfl
   ·rw[A1 k3]
  ·match l with
   |[]=>exact⟨rfl,rfl⟩
   |e::r =>
    simp at hl;rw[rnXL,zn3,zn3,xzL,xzL,(h1 e oM0).1,(h2 r oM0).1,(h1 e oM0).2,(h2 r oM0).2];exact⟨rfl,rfl⟩
theorem yp0(p:Pg)(es:List (Value×PV))(l:List Ex):zn3 (rnP p) (l.map (rnX es))=zn3 p l/\xzL (l.map (rnX es))=xzL l:=by rw[<- zs6];exact(j36 p es _).2 l (Ac _)
theorem rnX_kind(es:List (Value×PV))(e:Ex):(rnX es e).kind=e.kind:=by rw[rnX_eq];rfl
theorem gA_rn(p:Pg)(es:List (Value×PV))(n:Nat)(l:List Ex):gA (rnP p) n (l.map (rnX es))=gA p n l:=by unfold gA;rw[(yp0 p es l).1,Ab]
theorem rnS_kind(x:St)(es:List (Value×PV))(n:Nat):(rnS x es n).1.kind=x.kind:=by cases x;rw[rnS];rfl
theorem yp6(p:Pg):∀N,(∀x:St,SizeOf.sizeOf x<N->∀es n,cnS (rnS x es n).1=cnS x/\sz (rnS x es n).1=sz x/\∀b lp,gS (rnP p) b lp (rnS x es n).1=gS p b lp x)/\(∀l:List St,SizeOf.sizeOf l<N->∀es n,cnL (rnB l es n).1=cnL l/\szL (rnB l es n).1=szL l/\∀b lp,gB (rnP p) b lp (rnB l es n).1=gB p b lp l)
 |0=>⟨λ_ h=>A9 h (An _),λ_ h=>A9 h (An _)⟩
 |N+1=>by
  obtain⟨h1,h2⟩:=yp6 p N;refine⟨λx hx es n=>?_,λl hl es n=>?_⟩
  ·obtain⟨k,ty,nm,args,thn,els⟩:=x;simp at hx;rw[rnS];obtain⟨t1,t2,t3⟩:=h2 thn oM0 (z1t es k nm n).2.1 (z1t es k nm n).2.2;obtain⟨e1,e2,e3⟩:=h2 els oM0 (z1t es k nm n).2.1 (rnB thn (z1t es k nm n).2.1 (z1t es k nm n).2.2).2;refine⟨by rw[cnS,cnS,t1,e1],by rw[sz,sz,t2,e2,(yp0 p es args).2],λb lp=>?_⟩;rw[gS,gS,gA_rn,gA_rn,t3,t3,e3];have hg:((args.map (rnX es)).getD 0 ex0).kind=(args.getD 0 ex0).kind:=by
    cases args with
    |nil=>rfl
    |cons a r=>exact rnX_kind es a
   rw[hg]
  ·match l with
   |[]=>exact⟨rfl,rfl,λ_ _=>rfl⟩
   |x::r =>
    simp at hl;obtain⟨a1,a2,a3⟩:=h1 x oM0 es n;obtain⟨b1,b2,b3⟩:=h2 r oM0 (z1t es x.kind x.name n).2.1 (rnS x es n).2;rw[rnB];refine⟨by rw[cnL,cnL,a1,b1],by rw[szL,szL,a2,b2],λb lp=>?_⟩;rw[gB,gB,a3,b3,rnS_kind]
theorem rn_cn(l:List St)(es:List (Value×PV))(n:Nat):cnL (rnB l es n).1=cnL l:=((yp6 pg0 _).2 l (Ac _) es n).1
theorem rn_sz(l:List St)(es:List (Value×PV))(n:Nat):szL (rnB l es n).1=szL l:=((yp6 pg0 _).2 l (Ac _) es n).2.1
theorem rn_gB(p:Pg)(l:List St)(es:List (Value×PV))(n:Nat)(b lp:Bool):gB (rnP p) b lp (rnB l es n).1=gB p b lp l:=((yp6 p _).2 l (Ac _) es n).2.2 b lp
theorem ySc_ne(l:List Pm):(!(ySc l).isEmpty) = !l.isEmpty:=by
 unfold ySc
 suffices ∀(l:List Pm)(s:Sc),(l.foldl (λs x=>(x.name,x.ty,(0:Int))::s) s).isEmpty=(s.isEmpty&&l.isEmpty) by rw[this];simp
 intro l
 induction l with
 |nil=>intro s;simp
 |cons x r ih=>intro s;rw[Ee,ih];simp
theorem yw4(l:List Pm)(es:List (Value×PV))(n:Nat):(rnPm l es n).1.isEmpty=l.isEmpty:=by cases l<;>rfl
theorem j0h{p:Pg}(hr:rPg p=true)(hy:(z86 p).1=0):∀f∈p.funcs,gB p (!f.params.isEmpty) false f.body=true:=by
 unfold z86 at hy;split at hy
 ·unfold rPg at hr;rw[A0]at hr;have hr:=Bj.1 hr.2
  suffices ∀(l:List Fu)(i:Nat),(∀f∈l,rFu f=true)->(yb1 p l i).1=0->∀f∈l,gB p (!f.params.isEmpty) false f.body=true from this p.funcs 0 hr hy
  intro l
  induction l with
  |nil=>intro i _ _ f hf;cases hf
  |cons x r ih =>
   intro i hr hy f hf;rw[yb1]at hy;split at hy
   ·exact A9 (show(50:Int)=0 from hy) dC0
   ·split at hy
    ·rename_i h2;rcases Aq.1 hf with rfl|hf
     ·have hb:(z2g p f.ty f.body (ySc f.params) 1 false 0).1=0:=by
       unfold yFun at h2;dsimp only at h2;split at h2
       ·exact A9 h2 dC0
       ·exact h2
      have hR:=hr f (.head _);unfold rFu at hR;simp only[A0]at hR;have:=(gB_of p f.ty _).2 f.body (Ac _) 100 (ySc f.params) 1 false 0 hR.1.2 hb;rw[ySc_ne]at this;exact this
     ·exact ih (i+1) (λq hq=>hr q (.tail _ hq)) hy f hf
    ·rename_i h2;exact A9 hy h2
 ·exact A9 hy dC0
theorem rnF_gB{p:Pg}(hr:rPg p=true)(hy:(z86 p).1=0):∀f∈(rnP p).funcs,gB (rnP p) (!f.params.isEmpty) false f.body=true:=by
 intro f hf;obtain⟨g,hg,rfl⟩:=Bz.1 (show f∈p.funcs.map rnF from hf);have h1:=j0h hr hy g hg;have h2:(rnF g).params.isEmpty=g.params.isEmpty:=yw4 g.params [] 0;rw[h2];show gB (rnP p) _ false (rnB g.body _ _).1=true;rw[rn_gB];exact h1
mutual
def nxX:Ex->Bool
 |.mk k _ _ nm args=>(k==3||decide (nm.size<=20))&&nxL args
def nxL:List Ex->Bool
 |[]=>true
 |x::r=>nxX x&&nxL r
end
mutual
def nxS:St->Bool
 |.mk k _ nm args thn els=>(k==1||k==2||decide (nm.size<=20))&&nxL args&&nxB thn&&nxB els
def nxB:List St->Bool
 |[]=>true
 |x::r=>nxS x&&nxB r
end
theorem y52{s:ByteArray}(h:s.toList=[]):s.size=0:=by
 rw[z2d]at h;show s.data.size=0;rw[<- Bw,h];rfl
theorem zl8{s:ByteArray}(h:z0o s=true):s.size<=20:=by
 unfold z0o at h;simp only[A0,Ba]at h;have:=h.1.1.1.2;omega
theorem nxX_of:∀N,(∀e:Ex,SizeOf.sizeOf e<N->∀m,rx e m=true->nxX e=true)/\(∀l:List Ex,SizeOf.sizeOf l<N->∀m,rxL l m=true->nxL l=true)
 |0=>⟨λ_ h=>A9 h (An _),λ_ h=>A9 h (An _)⟩
 |N+1=>by
  obtain⟨h1,h2⟩:=nxX_of N;refine⟨λe he m hr=>?_,λl hl m hr=>?_⟩
  ·obtain⟨k,o,n,nm,args⟩:=e;simp at he;rw[rx,A0]at hr;rw[nxX,h2 args oM0 m hr.1,Cd];have hr:=hr.2;unfold rOwn at hr;have e0:nm.toList=[]->(k==3||decide (nm.size<=20))=true:=λh=>by rw[Bb];exact .inr (Cb (by rw[y52 h];omega))
   have e1:z0o nm=true->(k==3||decide (nm.size<=20))=true:=λh=>by rw[Bb];exact .inr (Cb (zl8 h))
   repeat' split at hr
   all_goals (try (simp only[A0,At]at hr))
   iterate 2 exact e0 hr.1.2
   ·exact e1 hr.1.2
   iterate 2 exact e0 hr.1.2
   iterate 2 exact e1 hr.1.2
   ·exact e0 hr.1.2
   ·cases hr
  ·match l with
   |[]=>rfl
   |e::r =>
    simp at hl;rw[rxL,A0,A0]at hr;rw[nxL,h1 e oM0 _ hr.1.2,h2 r oM0 m hr.2];rfl
theorem nxL_of{l:List Ex}(h:∀e∈l,rx e 100=true):nxL l=true:=by
 induction l with
 |nil=>rfl
 |cons e r ih=>rw[nxL,(nxX_of _).1 e (Ac _) 100 (h e (.head _)),ih λq hq=>h q (.tail _ hq)];rfl
theorem nm_sz{b:Bool}{nm:ByteArray}(h:b=z0o nm/\(b=false->nm.toList=[])):nm.size<=20:=by
 cases b with
 |true=>exact zl8 h.1.symm
 |false=>rw[y52 (h.2 rfl)];omega
theorem nxB_of:∀N,(∀x:St,SizeOf.sizeOf x<N->∀m,rst x m=true->nxS x=true)/\(∀l:List St,SizeOf.sizeOf l<N->∀m,rsL l m=true->nxB l=true)
 |0=>⟨λ_ h=>A9 h (An _),λ_ h=>A9 h (An _)⟩
 |N+1=>by
  obtain⟨h1,h2⟩:=nxB_of N;refine⟨λx hx m hr=>?_,λl hl m hr=>?_⟩
  ·obtain⟨k,ty,nm,args,thn,els⟩:=x;simp at hx;obtain⟨_,r2,r3,r4,r5⟩:=y1r hr;rw[nxS,nxL_of r2,h2 thn oM0 _ r3,h2 els oM0 _ r4,Cd,Cd,Cd,Bb];exact .inr (Cb (nm_sz r5))
  ·match l with
   |[]=>rfl
   |x::r =>
    simp at hl;rw[rsL,A0]at hr;rw[nxB,h1 x oM0 m hr.1,h2 r oM0 m hr.2];rfl
theorem nxX_rn(es:List (Value×PV)):∀N,(∀e:Ex,SizeOf.sizeOf e<N->nxX (rnX es e)=nxX e)/\(∀l:List Ex,SizeOf.sizeOf l<N->nxL (rnXL es l)=nxL l)
 |0=>⟨λ_ h=>A9 h (An _),λ_ h=>A9 h (An _)⟩
 |N+1=>by
  obtain⟨h1,h2⟩:=nxX_rn es N;refine⟨λe he=>?_,λl hl=>?_⟩
  ·obtain⟨k,o,n,nm,args⟩:=e;simp at he;rw[rnX,nxX,nxX,h2 args oM0]
   by_cases k3:k=3
   ·subst k3;rfl
   ·rw[A1 k3]
  ·match l with
   |[]=>rfl
   |e::r =>
    simp at hl;rw[rnXL,nxL,nxL,h1 e oM0,h2 r oM0]
theorem nxL_rn(es:List (Value×PV))(l:List Ex):nxL (l.map (rnX es))=nxL l:=by rw[<- zs6];exact(nxX_rn es _).2 l (Ac _)
theorem nxB_rn:∀N,(∀x:St,SizeOf.sizeOf x<N->∀es n,nxS x=true->nxS (rnS x es n).1=true)/\(∀l:List St,SizeOf.sizeOf l<N->∀es n,nxB l=true->nxB (rnB l es n).1=true)
 |0=>⟨λ_ h=>A9 h (An _),λ_ h=>A9 h (An _)⟩
 |N+1=>by
  obtain⟨h1,h2⟩:=nxB_rn N;refine⟨λx hx es n h=>?_,λl hl es n h=>?_⟩
  ·obtain⟨k,ty,nm,args,thn,els⟩:=x;simp at hx;rw[nxS,A0,A0,A0]at h;rw[rnS,nxS,nxL_rn,h2 thn oM0 _ _ h.1.2,h2 els oM0 _ _ h.2,h.1.1.2,Cd,Cd,Cd];have h4:=h.1.1.1
   by_cases k1:k=1
   ·subst k1;rfl
   by_cases k2:k=2
   ·subst k2;rfl
   rw[show(z1t es k nm n).1=nm by unfold z1t;rw[A1 k1,A1 k2]];exact h4
  ·match l with
   |[]=>rfl
   |x::r =>
    simp at hl;rw[nxB,A0]at h;rw[rnB,nxB,h1 x oM0 _ _ h.1,h2 r oM0 _ _ h.2];rfl
theorem nxL_mem{l:List Ex}{e:Ex}(h:nxL l=true)(he:e∈l):nxX e=true:=by
 induction l with
 |nil=>cases he
 |cons x r ih =>
  rw[nxL,A0]at h;rcases Aq.1 he with rfl|he
  ·exact h.1
  ·exact ih h.2 he
theorem j5a(n:Nat)(h:n<=1000000000):(tVal n).size<=30:=by
 have:=Lib.itoa_length_le (n:Int) oM0 oM0;have e:(tVal n).size=1+(Lib.itoa (n:Int)).length:=by
  unfold tVal tNum;rw[A4];show 1+(Lib.itoa (n:Int)).toArray.size=_;rw[F3]
 omega
def Sh(es:List (Value×PV)):Prop:=∀e∈es,∃s:ByteArray,e.2=vStr s/\s.size<=30
theorem Sh.put{es:List (Value×PV)}(h:Sh es)(a:ByteArray){b:ByteArray}(hb:b.size<=30):Sh (z9z es a b):=λe he=>by
 rcases z55 he with rfl|he
 ·exact⟨b,rfl,hb⟩
 ·exact h e he
theorem Sh.get{es:List (Value×PV)}(h:Sh es)(a:ByteArray):(z8t es a).size<=30:=by
 unfold z8t;split
 ·rename_i s hf;obtain⟨a,ha⟩:=z93 hf;obtain⟨t,h1,h2⟩:=h _ ha;dsimp only at h1
  cases h1
  exact h2
 ·exact Aj _
theorem nt_rn:∀N,(∀x:St,SizeOf.sizeOf x<N->∀es n m,Sh es->n+cnS x<=1000000000->rst x m=true->ntS 30 (rnS x es n).1/\(rnS x es n).2<=n+cnS x/\Sh (z1t es x.kind x.name n).2.1)/\(∀l:List St,SizeOf.sizeOf l<N->∀es n m,Sh es->n+cnL l<=1000000000->rsL l m=true->ntL 30 (rnB l es n).1/\(rnB l es n).2<=n+cnL l)
 |0=>⟨λ_ h=>A9 h (An _),λ_ h=>A9 h (An _)⟩
 |N+1=>by
  obtain⟨h1,h2⟩:=nt_rn N;refine⟨λx hx es n m hs hn hr=>?_,λl hl es n m hs hn hr=>?_⟩
  ·obtain⟨k,ty,nm,args,thn,els⟩:=x;simp at hx;obtain⟨_,_,r3,r4,r5⟩:=y1r hr;rw[cnS]at hn;have hv:=j5a n oM0;have ho:(z1t es k nm n).1.size<=30/\(z1t es k nm n).2.2<=n+1/\Sh (z1t es k nm n).2.1:=by
    unfold z1t;split
    ·exact⟨(hs.put nm hv).get nm,Ag _,hs.put nm hv⟩
    ·split
     ·exact⟨hs.get nm,Fg _,hs⟩
     ·exact⟨Bm (nm_sz r5) oM0,Fg _,hs⟩
   obtain⟨o1,o2,o3⟩:=ho;obtain⟨t1,t2⟩:=h2 thn oM0 (z1t es k nm n).2.1 (z1t es k nm n).2.2 _ o3 oM0 r3;obtain⟨e1,e2⟩:=h2 els oM0 (z1t es k nm n).2.1 (rnB thn (z1t es k nm n).2.1 (z1t es k nm n).2.2).2 _ o3 oM0 r4;rw[rnS,ntS,cnS];exact⟨⟨o1,t1,e1⟩,by dsimp only;omega,o3⟩
  ·match l with
   |[]=>exact⟨Gf,Bl _ _⟩
   |x::r =>
    simp at hl;rw[rsL,A0]at hr;rw[cnL]at hn;obtain⟨a1,a2,a3⟩:=h1 x oM0 es n m hs oM0 hr.1;obtain⟨b1,b2⟩:=h2 r oM0 (z1t es x.kind x.name n).2.1 (rnS x es n).2 m a3 oM0 hr.2;rw[rnB,ntL,cnL];exact⟨⟨a1,b1⟩,by dsimp only;omega⟩
theorem j2b{a b:Nat}(hab:a<=b):∀N,(∀x:St,SizeOf.sizeOf x<N->ntS a x->ntS b x)/\(∀l:List St,SizeOf.sizeOf l<N->ntL a l->ntL b l)
 |0=>⟨λ_ h=>A9 h (An _),λ_ h=>A9 h (An _)⟩
 |N+1=>by
  obtain⟨h1,h2⟩:=j2b hab N;refine⟨λx hx h=>?_,λl hl h=>?_⟩
  ·obtain⟨k,ty,nm,args,thn,els⟩:=x;simp at hx;rw[ntS]at h⊢;exact⟨Bm h.1 hab,h2 thn oM0 h.2.1,h2 els oM0 h.2.2⟩
  ·match l with
   |[]=>trivial
   |x::r =>
    simp at hl;rw[ntL]at h⊢;exact⟨h1 x oM0 h.1,h2 r oM0 h.2⟩
theorem j3j:∀(l:List Pm) (es:List (Value×PV)) (n:Nat),Sh es->n+l.length<=1000000000->Sh (rnPm l es n).2.1/\(rnPm l es n).2.2=n+l.length
 |[],es,n,h,_=>⟨h,rfl⟩
 |x::r,es,n,h,hn=>by
  rw[A3]at hn;obtain⟨h1,h2⟩:=j3j r (z9z es x.name (tVal n)) (n+1) (h.put _ (j5a n oM0)) oM0;rw[rnPm,A3];exact⟨h1,by dsimp only;omega⟩
theorem z7x(a b:List Nd):z0z (a++b)=z0z a+z0z b:=by
 unfold z0z;rw[yk0,B8];omega
theorem z6b(k o n:Int)(nm:ByteArray)(a b c:List Int)(ks:List (List Nd)):z0z [.mk k o n nm a b c ks]=1+a.length+b.length+c.length+nm.size+wtK ks:=by simp only[z0z,wtL,wtN,A3,A6];omega
theorem j68(a:List Nd):wtK [a]=1+z0z a:=by simp only[wtK,z0z];omega
theorem yj9(a b:List Nd):wtK [a,b]=2+z0z a+z0z b:=by simp only[wtK,z0z];omega
theorem yj8:wtK []=0:=rfl
theorem z7y:z0z []=0:=rfl
theorem y3r:∀a b:List Nd,lsz (a++b)=lsz a+lsz b
 |[],b=>by simp[lsz]
 |x::r,b=>by simp only[Be,lsz,y3r r b];omega
theorem zr3(k o n:Int)(nm:ByteArray)(a b c:List Int)(ks:List (List Nd)):lsz [.mk k o n nm a b c ks]=1+kdz ks:=by simp only[lsz,nsz];omega
theorem j1t(a:List Nd):kdz [a]=lsz a:=by simp only[kdz];omega
theorem yd2(a b:List Nd):kdz [a,b]=lsz a+lsz b:=by simp only[kdz];omega
def tw(s:RiS):Nat:=s.ts.length+z0z s.ns
theorem sz0:(⟨#[]⟩:ByteArray).size=0:=rfl
theorem ys2(t k o n:Int)(nm:ByteArray)(args:List Int)(ks:List (List Nd))(s:RiS):tw (z61 t k o n nm args ks s).2=tw s+3+args.length+nm.size+wtK ks/\lsz (z61 t k o n nm args ks s).2.ns=lsz s.ns+1+kdz ks:=by
 unfold z61 tw;refine⟨?_,?_⟩
 ·dsimp only;rw[z7x,z6b,B8];simp only[A3,A6];omega
 ·dsimp only;rw[y3r,zr3];omega
theorem tw_top(p:Pg)(k o n:Int)(nm:ByteArray)(l:List Int)(s:RiS)(hn:nm.size<=20):tw (zj3 p k o n nm l s).2<=tw s+23+l.length/\lsz (zj3 p k o n nm l s).2.ns<=lsz s.ns+1:=by
 unfold zj3
 repeat' split
 all_goals (rw[(ys2 ..).1,(ys2 ..).2];simp only[yj8,sz0,A6,kdz];omega)
theorem z21(k:Int)(nm:ByteArray)(args:List Int)(ns:List Nd):z0z (z6c k nm args ns)=z0z ns+1+args.length+nm.size/\lsz (z6c k nm args ns)=lsz ns+1:=by
 unfold z6c;refine⟨?_,?_⟩
 ·rw[z7x,z6b];simp only[yj8,A6];omega
 ·rw[y3r,zr3];simp only[kdz]
theorem tw_sh(o a:Int)(ns:List Nd)(r:Int×RiS):tw (z5u o a ns r).2=tw r.2+z0z ns+13/\lsz (z5u o a ns r).2.ns=lsz ns+lsz r.2.ns+4:=by
 unfold z5u;split
 all_goals
  rw[(ys2 ..).1,(ys2 ..).2,yj9,yd2,(z21 ..).1,(z21 ..).2,(z21 ..).1,(z21 ..).2,z6b,zr3];unfold tw;simp only[yj8,sz0,A6,A3,kdz,B8];omega
theorem riX_tw(p:Pg)(vs:List (Value×PV)):∀(N:Nat),(∀e:Ex,SizeOf.sizeOf e<N->nxX e=true->∀s,tw (riX p vs e s).2+1<=tw s+27*xz e/\lsz (riX p vs e s).2.ns<=lsz s.ns+4*xz e) /\
 (∀l:List Ex,SizeOf.sizeOf l<N->nxL l=true->∀s,tw (riXL p vs l s).2+l.length<=tw s+27*xzL l/\lsz (riXL p vs l s).2.ns<=lsz s.ns+4*xzL l/\(riXL p vs l s).1.length=l.length) /\
 (∀(o:Int)(l:List Ex),SizeOf.sizeOf l<N->nxL l=true->∀s,tw (riSh p vs o l s).2<=tw s+27*xzL l+13/\lsz (riSh p vs o l s).2.ns<=lsz s.ns+4*xzL l+4) /\
 (∀(o a:Int)(s:RiS)(l:List Ex),SizeOf.sizeOf l<N->nxL l=true->tw (zj1 p vs o a s l).2<=tw s+27*xzL l+13/\lsz (zj1 p vs o a s l).2.ns<=lsz s.ns+4*xzL l+4)
 |0=>⟨λ_ h=>A9 h (An _),λ_ h=>A9 h (An _),λ_ _ h=>A9 h (An _),λ_ _ _ _ h=>A9 h (An _)⟩
 |N+1=>by
  obtain⟨h1,h2,h3,h4⟩:=riX_tw p vs N;refine⟨λe he hn s=>?_,λl hl hn s=>?_,λo l hl hn s=>?_,λo a s l hl hn=>?_⟩
  ·obtain⟨k,o,n,nm,args⟩:=e;simp at he;rw[nxX,A0]at hn;rw[riX,xz];split
   ·exact⟨by dsimp only;omega,by dsimp only;omega⟩
   ·rename_i k3;split
    ·obtain⟨a1,a2⟩:=h3 o args oM0 hn.2 s;exact⟨by omega,by omega⟩
    ·obtain⟨a1,a2,a3⟩:=h2 args oM0 hn.2 s;have hnm:nm.size<=20:=by
      have:=hn.1;rw[Bb]at this;rcases this with h|h
      ·exact A9 (Av h) k3
      ·exact Ap h
     obtain⟨b1,b2⟩:=tw_top p k o n nm (riXL p vs args s).1 (riXL p vs args s).2 hnm;exact⟨by omega,by omega⟩
  ·match l with
   |[]=>rw[riXL];exact⟨Ag _,Ag _,rfl⟩
   |e::r =>
    simp at hl;rw[nxL,A0]at hn;rw[riXL,xzL];obtain⟨a1,a2⟩:=h1 e oM0 hn.1 s;obtain⟨b1,b2,b3⟩:=h2 r oM0 hn.2 (riX p vs e s).2;exact⟨by dsimp only[List.length_cons];omega,by dsimp only;omega,by dsimp only[List.length_cons];rw[b3]⟩
  ·match l with
   |[]=>rw[riSh];exact⟨by dsimp only;omega,by dsimp only;omega⟩
   |e::r =>
    simp at hl;rw[nxL,A0]at hn;rw[riSh,xzL];obtain⟨a1,a2⟩:=h1 e oM0 hn.1 s;obtain⟨b1,b2⟩:=h4 o (riX p vs e s).1 (riX p vs e s).2 r oM0 hn.2;exact⟨by omega,by omega⟩
  ·match l with
   |[]=>rw[zj1];exact⟨by dsimp only;omega,by dsimp only;omega⟩
   |e::r =>
    simp at hl;rw[nxL,A0]at hn;rw[zj1,xzL,(tw_sh ..).1,(tw_sh ..).2];obtain⟨a1,a2⟩:=h1 e oM0 hn.1 ⟨s.ts,[]⟩;have e1:tw ⟨s.ts,[]⟩=s.ts.length:=by unfold tw;rw[z7y];rfl
    have e2:lsz []=0:=rfl;dsimp only at a2;rw[e1]at a1;rw[e2]at a2;have e3:tw s=s.ts.length+z0z s.ns:=rfl;exact⟨by omega,by omega⟩
def zs5(l:List Pm):List (Value×PV)×List Int:=l.foldl (λa x=>(riSt a.1 x.name a.2.length,a.2++[x.ty])) ([],[])
def riT0(l:List Pm):RiT:=⟨(zs5 l).1,(zs5 l).2,[],[]⟩
def z7z(p:Pg)(f:Fu):Fl:=⟨f.name,f.ty,f.params.length,(riB p f.body [] (riT0 f.params)).2.ts,(riB p f.body [] (riT0 f.params)).2.ns⟩
theorem yw2(l:List Pm)(x:Pm):zs5 (l++[x])=(riSt (zs5 l).1 x.name (zs5 l).2.length,(zs5 l).2++[x.ty]):=by simp[zs5]
theorem y1n(l:List Pm):(zs5 l).2.length=l.length:=by
 suffices ∀(l:List Pm) (a:List (Value×PV)×List Int),(l.foldl (λa x=>(riSt a.1 x.name a.2.length,a.2++[x.ty])) a).2.length=a.2.length+l.length by
  have:=this l ([],[]);simpa[zs5]using this
 intro l
 induction l with
 |nil=>intro a;simp
 |cons x r ih=>intro a;simp only[Ee];rw[ih];simp;omega
theorem yp2(l:List Pm):RiI (zs5 l).1 (zs5 l).2.length (!l.isEmpty):=by
 suffices ∀(l:List Pm) (a:List (Value×PV)×List Int) (b:Bool),RiI a.1 a.2.length b->RiI (l.foldl (λa x=>(riSt a.1 x.name a.2.length,a.2++[x.ty])) a).1 (l.foldl (λa x=>(riSt a.1 x.name a.2.length,a.2++[x.ty])) a).2.length (b || !l.isEmpty)from by
  have h:=this l ([],[]) false ⟨Cnt.nil,(λe he=>by cases he),λh=>by cases h⟩;simpa[zs5]using h
 intro l
 induction l with
 |nil=>intro a b h;simpa using h
 |cons x r ih =>
  intro a b h;simp only[Ee];have:=ih (riSt a.1 x.name a.2.length,a.2++[x.ty]) true ((h.mono (m:=(a.2++[x.ty]).length) sI0).put x.name (v:=(a.2.length:Int)) oM0 (by simp;omega));exact this.weak λ_=>by simp
theorem j42(p:Pg)(f:Fu)(hl:f.params.length<=1000000000)(hB:scB p f.body [] (riT0 f.params) (riB p f.body [] (riT0 f.params))) :
 SC Tryz.prog 18 [.pv (.agg [arrs p.arrays,fus p.funcs]),.pv (.agg [vStr f.name,vInt f.ty,pms f.params,sts f.body])] [] (λk=>k∈[]) (.pv (.agg (z7z p f).enc)) []:=by
 refine K0 tb { pb:=[102,103,107],ids:=[(10,1),(11,5),(13,4)],gh:=[(2,[.growC 1 2 2 3 1,.growC 1 3 3 77 1,.spC 1 3 3,.growC 4 2 6 47 8]),(8,[.fzC 1 2 2,.fzC 4 2 6])] } [] Tryz.func18 rfl rfl ?_;refine⟨Nat,λi=>[(17,iInt ((i:Nat):Int))],λi=>riW p [] (riT0 (f.params.take i)),λi=>f.params.length-i,λi=>i<=f.params.length,[],0,Aj _,Gg,Gm,?_⟩;intro i hi;refine z00 (λhc=>?_) λhc=>?_
 ·have hlt:i<f.params.length:=z12 (f:=Pm.enc) rfl hc;obtain⟨x,x1,x2,x3,x4⟩:=z0u hlt;have hs:=yw2 (f.params.take i) x;rw[<- x2]at hs;have hn:=y1n (f.params.take i);have hk:=(yp2 (f.params.take i)).cnt;rw[Db]at hn;have hs1:=Ah Prod.fst hs;have hs2:=Ah Prod.snd hs;dsimp only at hs1 hs2;exact⟨zw2 x1,rfl,[],zt1 p (zs5 (f.params.take i)).2 ⟨[],[]⟩ x.ty oM0,sR,Gj,rfl,rfl,hk.1,z01 rfl oM0,i+1,z05 hlt,hlt,Gg,⟨boq (by simp only[riT0,hs2]),rwq (by simp only[riT0,hs2]),rfl,rfl,mpq (by simp only[riT0,hs1];rfl),rfl,Gf⟩,rfl,rfl,rfl,rfl⟩
 ·have hge:f.params.length<=i:=z13 (f:=Pm.enc) rfl hc;rw[Az hge];unfold z7z;generalize riB p f.body [] (riT0 f.params)=r at hB⊢;exact⟨[],hB,sR,Gm,rfl,rfl,rfl,sE (by rw[Ab];rfl),Gf⟩
def un0:Un:=⟨[],[]⟩
def riUn(q:Pg):Un:=⟨q.arrays,q.funcs.map (z7z q)⟩
def y6e(p:Pg)(k:Int):Un×Int:=if (rnOf p).2=0 then(if k=0 then(riUn (rnOf p).1,0)else(un0,2))else(un0,(rnOf p).2)
theorem sc_Rise0(p:Pg)(hR:SC Tryz.prog 17 [.pv p.enc] [] (λk=>k∈[]) (.tup [.pv (rnOf p).1.enc,iInt (rnOf p).2]) [])(hfl:(rnOf p).1.funcs.length<=1000000000)
 (hF:(rnOf p).2=0->∀f∈(rnOf p).1.funcs,f.params.length<=1000000000/\scB (rnOf p).1 f.body [] (riT0 f.params) (riB (rnOf p).1 f.body [] (riT0 f.params))) (k1 k2:Int)
 (hK:(rnOf p).2=0->SC Tryz.prog 19 [.pv (riUn (rnOf p).1).enc] [] (λk=>k∈[]) (.tup [iInt k1,iInt k2]) []) :
 SC Tryz.prog 7 [.pv p.enc] [] (λk=>k∈[]) (.tup [.pv (y6e p k1).1.enc,iInt (y6e p k1).2]) []:=by
 refine K0 tb { pb:=[107],gh:=[(5,[.growC 105 1 9 59 5]),(10,[.fzC 105 1 9])] } [] Tryz.func7 rfl rfl ?_;unfold y6e;generalize rnOf p=q at hR hfl hF hK⊢;obtain⟨q,e⟩:=q;dsimp only at hR hfl hF hK⊢;refine⟨[],hR,sR,Gf,rfl,z00 (λh=>?_) λh=>?_⟩
 ·have h:¬e=0:=by simpa using h
  rw[A1 h];exact⟨sT2 (sP (z0g _)),Gf⟩
 have h:e=0:=by simpa using h
 subst h;have hF:=hF rfl;have hK:=hK rfl;rw[A5 rfl];refine⟨Nat,λi=>[(25,iInt ((i:Nat):Int))],λi=>[(105,.box [.pv (arrs q.arrays),.sl 9 ((q.funcs.take i).map λf=>(z7z q f).enc).length]),(9,.row ⟨59,5⟩ ((q.funcs.take i).map λf=>(z7z q f).enc))],λi=>q.funcs.length-i,λi=>i<=q.funcs.length,[],0,Aj _,Gg,Gi,?_⟩;intro i hi;refine z00 (λhc=>?_) λhc=>?_
 ·have hlt:i<q.funcs.length:=z12 (f:=Fu.enc) rfl hc;obtain⟨x,x1,x2,x3,x4⟩:=z0u hlt;obtain⟨f1,f2⟩:=hF x x4;exact⟨zb2 x1,rfl,[],j42 q x f1 f2,sR,Gf,rfl,rfl,z3u rfl,by simp;omega,by simp,z01 rfl oM0,i+1,z05 hlt,hlt,Gg,⟨boq (by rw[x2];simp),rwq (by rw[x2];simp[Fl.enc]),Gf⟩,rfl,rfl,rfl,rfl⟩
 ·have hge:q.funcs.length<=i:=z13 (f:=Fu.enc) rfl hc;rw[Az hge];have he:(riUn q).enc=.agg [arrs q.arrays,.seq (q.funcs.map λf=>(z7z q f).enc)]:=by simp[riUn,Un.enc,flws]
  rw[he]at hK;refine⟨rfl,[],hK,sR,Gf,rfl,z00 (λh=>?_) λh=>?_⟩
  ·have h:¬k1=0:=by simpa using h
   rw[A1 h];exact⟨sT2 (sP (z0g _)),Gf⟩
  ·have h:k1=0:=by simpa using h
   rw[A5 h,he];exact⟨sI,Gf⟩
def twT(s:RiT):Nat:=s.ts.length+z0z s.ns
theorem z7d(vs:List (Value×PV))(z03:List ByteArray):(riOf vs z03).length=z03.length:=by simp[riOf]
theorem yc8(vs:List (Value×PV))(z03:List ByteArray)(ts:List Int)(ns:List Nd)(jk:List (List ByteArray))(k:Int)(args params:List Int)(kids:List (List Nd)) :
 twT (z5t vs z03 ts ns jk k args params kids).2<=ts.length+z0z ns+2*z03.length+1+args.length+params.length+wtK kids/\lsz (z5t vs z03 ts ns jk k args params kids).2.ns=lsz ns+1+kdz kids:=by
 have hl:=z3i (riOf vs z03) ts;rw[z7d]at hl;unfold z5t twT;split
 ·refine⟨?_,?_⟩
  ·dsimp only;rw[z7x,z6b,sz0];simp only[A6];omega
  ·dsimp only;rw[y3r,zr3];omega
 ·refine⟨?_,?_⟩
  ·dsimp only;rw[z7x,z6b,sz0];omega
  ·dsimp only;rw[y3r,zr3];omega
theorem yk7(k:Int)(z03:List ByteArray)(a:Bool×RiT):z0z (z5a k z03 a)<=z0z a.2.ns+1+z03.length/\lsz (z5a k z03 a)<=lsz a.2.ns+1:=by
 unfold z5a;split
 ·exact⟨by omega,by omega⟩
 ·rw[(z21 ..).1,(z21 ..).2,z7d,sz0];exact⟨by omega,Ag _⟩
theorem X_tw(p:Pg)(vs:List (Value×PV))(e:Ex)(h:nxX e=true)(s:RiS):(riX p vs e s).2.ts.length+z0z (riX p vs e s).2.ns<=s.ts.length+z0z s.ns+27*xz e/\lsz (riX p vs e s).2.ns<=lsz s.ns+4*xz e:=by
 obtain⟨h1,h2⟩:=(riX_tw p vs _).1 e (Ac _) h s;unfold tw at h1;exact⟨by omega,h2⟩
theorem zr6{l:List Ex}{i:Nat}{e:Ex}(h:nxL l=true)(he:l[i]?=some e):nxX e=true:=nxL_mem h (Af he)
theorem kid_ts(s:RiT)(z03:List ByteArray):(z2a s z03).ts.length=s.ts.length+z03.length:=by
 have hl:=z3i (riOf s.vs z03) s.ts;rw[z7d]at hl;unfold z2a;dsimp only;omega
theorem ri_tw(p:Pg)(M:Nat):∀N,(∀x:St,SizeOf.sizeOf x<N->∀b lp lo s,gS p b lp x=true->nxS x=true->cnS x<=M->(∀l∈lo,l.length<=M)->twT (riS p x lo s).2<=twT s+27*sz x+(30+8*M)*cnS x/\lsz (riS p x lo s).2.ns<=lsz s.ns+4*sz x) /\
 (∀l:List St,SizeOf.sizeOf l<N->∀b lp lo s,gB p b lp l=true->nxB l=true->cnL l<=M->(∀q∈lo,q.length<=M)->twT (riB p l lo s).2<=twT s+27*szL l+(30+8*M)*cnL l/\lsz (riB p l lo s).2.ns<=lsz s.ns+4*szL l)
 |0=>⟨λ_ h=>A9 h (An _),λ_ h=>A9 h (An _)⟩
 |N+1=>by
  obtain⟨hS,hB⟩:=ri_tw p M N;refine⟨λx hx b lp lo s hg hn hc hlo=>?_,λl hl b lp lo s hg hn hc hlo=>?_⟩
  ·obtain⟨k,ty,nm,args,thn,els⟩:=x;simp at hx;rw[gS]at hg;rw[nxS,A0,A0,A0]at hn;obtain⟨⟨⟨n1,n2⟩,n3⟩,n4⟩:=hn;rw[cnS]at hc;rw[riS];simp only[cnS,sz];have hK:(30+8*M)*(1+cnL thn+cnL els)=(30+8*M)+(30+8*M)*cnL thn+(30+8*M)*cnL els:=by rw[F4,F4,Nat.mul_one]
   rw[hK]
   by_cases h4:k=4
   ·subst h4;rw[A5 rfl,A0,A0]at hg;rw[A5 rfl];obtain⟨e,i1,i2,i3,i4⟩:=zb3 hg.1.1;rw[i2];obtain⟨j1,j2⟩:=X_tw p s.vs e (zr6 n2 i1) ⟨s.ts,s.ns⟩;generalize riX p s.vs e ⟨s.ts,s.ns⟩=c at j1 j2⊢;dsimp only at j1 j2;obtain⟨a1,a2⟩:=hB thn oM0 b lp lo ⟨s.vs,c.2.ts,[],s.jk⟩ hg.1.2 n3 oM0 hlo;generalize riB p thn lo ⟨s.vs,c.2.ts,[],s.jk⟩=a at a1 a2⊢;obtain⟨d1,d2⟩:=hB els oM0 b lp lo ⟨s.vs,a.2.ts,[],a.2.jk⟩ hg.2 n4 oM0 hlo;generalize riB p els lo ⟨s.vs,a.2.ts,[],a.2.jk⟩=d at d1 d2⊢;have hm:=zw7 s.vs thn els;generalize z0c s.vs [thn,els]=z03 at hm⊢;unfold zf2;obtain⟨r1,r2⟩:=yc8 s.vs z03 d.2.ts c.2.ns d.2.jk 10 [c.1] [] [z5a 12 z03 a,z5a 12 z03 d];obtain⟨w1,w2⟩:=yk7 12 z03 a;obtain⟨v1,v2⟩:=yk7 12 z03 d;rw[yj9]at r1;rw[yd2]at r2;unfold twT at a1 d1 r1⊢;simp only[z7y,A3,A6]at a1 d1 r1;rw[show lsz []=0 from rfl]at a2 d2;generalize(30+8*M)*cnL thn=Kt at a1⊢;generalize(30+8*M)*cnL els=Ke at d1⊢;exact⟨by omega,by omega⟩
   by_cases h5:k=5
   ·subst h5;rw[A1 dC0,A5 rfl,A0]at hg;rw[A1 dC0,A5 rfl];obtain⟨e,i1,i2,i3,i4⟩:=zb3 hg.1;rw[i2];have hm:=z8c s.vs thn;generalize z0c s.vs [thn]=z03 at hm⊢;have hlo2:∀q∈lo++[z03],q.length<=M:=λq hq=>by
     rcases B3.1 hq with h|h
     ·exact hlo q h
     ·rw[Al.1 h];omega
    have hk:=kid_ts s z03;have hl:=z3i (riOf s.vs z03) s.ts;have hkn:(z2a s z03).ns=[]:=rfl;rw[z7d]at hl;split
    ·obtain⟨a1,a2⟩:=hB thn oM0 b true (lo++[z03]) (z2a s z03) hg.2 n3 oM0 hlo2;generalize riB p thn (lo++[z03]) (z2a s z03)=a at a1 a2⊢;unfold y6c;obtain⟨r1,r2⟩:=yc8 s.vs z03 a.2.ts s.ns (z03::a.2.jk) 11 (riOf s.vs z03) (z15 s.ts (riOf s.vs z03)).1 [z5a 13 z03 a];obtain⟨w1,w2⟩:=yk7 13 z03 a;rw[j68,z7d]at r1;rw[j1t]at r2;unfold twT at a1 r1⊢;rw[hkn,z7y]at a1;rw[hkn,show lsz []=0 from rfl]at a2;generalize(30+8*M)*cnL thn=Kt at a1⊢;generalize(30+8*M)*cnL els=Ke;exact⟨by omega,by omega⟩
    ·obtain⟨j1,j2⟩:=X_tw p (z2a s z03).vs e (zr6 n2 i1) ⟨(z2a s z03).ts,[]⟩;generalize riX p (z2a s z03).vs e ⟨(z2a s z03).ts,[]⟩=c at j1 j2⊢;dsimp only at j1 j2;obtain⟨a1,a2⟩:=hB thn oM0 b true (lo++[z03]) ⟨(z2a s z03).vs,c.2.ts,[],s.jk.tail⟩ hg.2 n3 oM0 hlo2;generalize riB p thn (lo++[z03]) ⟨(z2a s z03).vs,c.2.ts,[],s.jk.tail⟩=a at a1 a2⊢;unfold y6d;obtain⟨r1,r2⟩:=yc8 s.vs z03 a.2.ts s.ns (z03::a.2.jk) 11 (riOf s.vs z03) (z15 s.ts (riOf s.vs z03)).1 [z8s z03 (z2a s z03).vs c a];obtain⟨w1,w2⟩:=yk7 13 z03 a;have hq:z0z (z8s z03 (z2a s z03).vs c a)=z0z c.2.ns+5+z0z (z5a 13 z03 a)+z03.length/\lsz (z8s z03 (z2a s z03).vs c a)=lsz c.2.ns+2+lsz (z5a 13 z03 a):=by
      unfold z8s;refine⟨?_,?_⟩
      ·rw[z7x,z6b,yj9,(z21 ..).1,z7d,sz0,z7y];simp only[A3,A6];omega
      ·rw[y3r,zr3,yd2,(z21 ..).2,show lsz []=0 from rfl];omega
     rw[j68,z7d,hq.1]at r1;rw[j1t,hq.2]at r2;unfold twT at a1 r1⊢;simp only[z7y]at a1 j1;rw[show lsz []=0 from rfl]at a2 j2;generalize(30+8*M)*cnL thn=Kt at a1⊢;generalize(30+8*M)*cnL els=Ke;exact⟨by omega,by omega⟩
   rw[A1 h4,A1 h5]at hg;rw[A1 h4,A1 h5];have hlast:=y0q hlo;generalize(30+8*M)*cnL thn=Kt;generalize(30+8*M)*cnL els=Ke;unfold twT
   by_cases h6:k=6
   ·rw[A5 h6];dsimp only;rw[(z21 ..).1,(z21 ..).2,z7d,sz0];exact⟨by omega,by omega⟩
   by_cases h7:k=7
   ·rw[A1 h6,A5 h7];dsimp only;rw[(z21 ..).1,(z21 ..).2,z7d,sz0];exact⟨by omega,by omega⟩
   rw[A1 oM0]at hg;rw[A1 h6,A1 h7];have hnm:k=3->nm.size<=20:=λh=>by
    subst h;rw[Bb,Bb]at n1;rcases n1 with(n1|n1)|n1
    iterate 2 exact A9 n1 dC0
    ·exact Ap n1
   by_cases h8:k=8
   ·subst h8;rw[A1 dC0,A0]at hg;rw[A5 rfl];obtain⟨e,i1,i2,i3,i4⟩:=zb3 hg.1;rw[i2];obtain⟨j1,j2⟩:=X_tw p s.vs e (zr6 n2 i1) ⟨s.ts,s.ns⟩;dsimp only at j1 j2⊢;rw[(z21 ..).1,(z21 ..).2,sz0];simp only[A3,A6];exact⟨by omega,by omega⟩
   rw[A1 h8];unfold z8d
   by_cases h3:k=3
   ·have hnm:=hnm h3;subst h3;rw[A5 rfl]at hg;obtain⟨e,e2,i1,i2,i3,i4,i5,i6,i7⟩:=j1d hg;rw[A1 dC0,A5 rfl,i3,i4];obtain⟨j1,j2⟩:=X_tw p s.vs e (zr6 n2 i1) ⟨s.ts,s.ns⟩;obtain⟨m1,m2⟩:=X_tw p s.vs e2 (zr6 n2 i2) (riX p s.vs e ⟨s.ts,s.ns⟩).2;dsimp only at j1 j2⊢;rw[(z21 ..).1,(z21 ..).2];simp only[A3,A6];exact⟨by omega,by omega⟩
   rw[A1 h3,A0]at hg;obtain⟨e,i1,i2,i3,i4⟩:=zb3 hg.1;rw[i2];obtain⟨j1,j2⟩:=X_tw p s.vs e (zr6 n2 i1) ⟨s.ts,s.ns⟩;dsimp only at j1 j2
   by_cases h12:k=1∨k=2
   ·rw[A5 h12];dsimp only;exact⟨by omega,by omega⟩
   ·rw[A1 h12,A1 h3];split
    ·dsimp only;rw[(z21 ..).1,(z21 ..).2,sz0];simp only[A3,A6];exact⟨by omega,by omega⟩
    ·dsimp only;exact⟨by omega,by omega⟩
  ·match l with
   |[]=>rw[riB];exact⟨Bl _ _,Bl _ _⟩
   |x::r =>
    simp at hl;rw[gB,A0]at hg;rw[nxB,A0]at hn;rw[cnL]at hc;obtain⟨a1,a2⟩:=hS x oM0 b lp lo s hg.1 hn.1 oM0 hlo;rw[riB];simp only[cnL,szL];rw[F4 (30+8*M) (cnS x) (cnL r)];generalize(30+8*M)*cnS x=Kx at a1⊢;split
    ·exact⟨by dsimp only;omega,by dsimp only;omega⟩
    ·obtain⟨d1,d2⟩:=hB r oM0 _ lp lo (riS p x lo s).2 hg.2 hn.2 oM0 hlo;exact⟨by omega,by omega⟩
theorem gr_le(M:Nat):∀N,(∀x:St,SizeOf.sizeOf x<N->cnS x<=M->grS x<=8*sz x+(2+2*M)*cnS x)/\(∀l:List St,SizeOf.sizeOf l<N->cnL l<=M->grL l<=8*szL l+(2+2*M)*cnL l)
 |0=>⟨λ_ h=>A9 h (An _),λ_ h=>A9 h (An _)⟩
 |N+1=>by
  obtain⟨hS,hB⟩:=gr_le M N;refine⟨λx hx hc=>?_,λl hl hc=>?_⟩
  ·obtain⟨k,ty,nm,args,thn,els⟩:=x;simp at hx;rw[cnS]at hc;have a:=hB thn oM0 oM0;have b:=hB els oM0 oM0;simp only[cnS,sz,grS];rw[show(2+2*M)*(1+cnL thn+cnL els)=(2+2*M)+(2+2*M)*cnL thn+(2+2*M)*cnL els by rw[F4,F4,Nat.mul_one]];generalize(2+2*M)*cnL thn=Kt at a⊢;generalize(2+2*M)*cnL els=Ke at b⊢;omega
  ·match l with
   |[]=>exact Aj _
   |x::r =>
    simp at hl;rw[cnL]at hc;have a:=hS x oM0 oM0;have b:=hB r oM0 oM0;simp only[cnL,szL,grL];rw[F4 (2+2*M) (cnS x) (cnL r)];generalize(2+2*M)*cnS x=Kt at a⊢;generalize(2+2*M)*cnL r=Ke at b⊢;omega
structure RnOk(q:Pg):Prop where
 pz:pz q.funcs<=300003
 ar:q.arrays.length<=300003
 cn:pcn q.funcs<=50000
 nmA:∀a∈q.arrays,a.name.size<=20
 nmF:∀f∈q.funcs,f.name.size<=20
 gB:∀f∈q.funcs,gB q (!f.params.isEmpty) false f.body=true
 nx:∀f∈q.funcs,nxB f.body=true
 nt:∀f∈q.funcs,ntL maxLen f.body
theorem y66{f:Fu}:∀{l:List Fu},f∈l->cnL f.body<=pcn l
 |x::r,h=>by
  rw[pcn];rcases Aq.1 h with rfl|h
  ·omega
  ·have:=y66 h;omega
theorem pz_rn:∀l:List Fu,pz (l.map rnF)=pz l/\pcn (l.map rnF)=pcn l
 |[]=>⟨rfl,rfl⟩
 |f::r=>by
  obtain⟨h1,h2⟩:=pz_rn r;rw[B7,pz,pz,pcn,pcn,h1,h2];have e1:(rnF f).params.length=f.params.length:=z9y _ _ _;have e2:szL (rnF f).body=szL f.body:=rn_sz _ _ _;have e3:cnL (rnF f).body=cnL f.body:=rn_cn _ _ _;rw[e1,e2,e3];exact⟨rfl,rfl⟩
theorem rnOk{p:Pg}(h1:pz p.funcs+p.arrays.length<=300003)(h2:pcn p.funcs<=50000)(hr:rPg p=true)(hy:(z86 p).1=0):RnOk (rnP p):=by
 have hr':=hr;unfold rPg at hr';rw[A0]at hr';obtain⟨ha,hf⟩:=hr';have ha:=Bj.1 ha;have hf:=Bj.1 hf;have hF:∀f∈p.funcs,z0o f.name=true/\rsL f.body 100=true:=λf h=>by
  have:=hf f h;unfold rFu at this;simp only[A0]at this;exact⟨this.1.1.1.1,this.1.2⟩
 obtain⟨e1,e2⟩:=pz_rn p.funcs;have sh0:Sh []:=λe he=>by cases he
 refine⟨?_,?_,?_,λa h=>?_,λf h=>?_,rnF_gB hr hy,λf h=>?_,λf h=>?_⟩
 ·show pz (p.funcs.map rnF)<=_;omega
 ·show p.arrays.length<=_;omega
 ·show pcn (p.funcs.map rnF)<=_;omega
 ·have:=ha a h;simp only[A0]at this;exact zl8 this.1.1
 all_goals obtain⟨g,hg,rfl⟩:=Bz.1 (show f∈p.funcs.map rnF from h)
 ·exact zl8 (hF g hg).1
 ·exact(nxB_rn _).2 g.body (Ac _) _ _ ((nxB_of _).2 g.body (Ac _) 100 (hF g hg).2)
 ·have hpl:=zw3 hg;have hcm:=y66 hg;obtain⟨s1,s2⟩:=j3j g.params [] 0 sh0 oM0;refine(j2b (show 30<=maxLen by decide) _).2 _ (Ac _) ?_;exact((nt_rn _).2 g.body (Ac _) (rnPm g.params [] 0).2.1 (rnPm g.params [] 0).2.2 100 s1 oM0 (hF g hg).2).1
theorem riFun{q:Pg}(h:RnOk q){f:Fu}(hf:f∈q.funcs):f.params.length<=1000000000/\scB q f.body [] (riT0 f.params) (riB q f.body [] (riT0 f.params)):=by
 have hpl:=zw3 hf;have hcm:=y66 hf;have h1:=h.pz;have h2:=h.cn;have h3:=zm1 q.funcs;have h4:=h.ar;have hg:=(gr_le 50000 _).2 f.body (Ac _) oM0;have ht:(riT0 f.params).ts.length=f.params.length:=y1n f.params;refine⟨by omega,(yq6 q ⟨by omega,by omega⟩ _).2 f.body (Ac _) (!f.params.isEmpty) false [] (riT0 f.params) (h.gB f hf) (h.nt f hf) oM0 (yp2 f.params) ⟨by omega,?_,?_,(λl hl=>by cases hl),λe=>by cases e⟩⟩
 ·show 0+_<=_;omega
 ·show 0+0+_<=_;omega
theorem j33{q:Pg}(h:RnOk q){f:Fu}(hf:f∈q.funcs):(z7z q f).types.length+z0z (z7z q f).body<=f.params.length+27*szL f.body+400030*cnL f.body/\lsz (z7z q f).body<=4*szL f.body:=by
 have hcm:=y66 hf;have h2:=h.cn;obtain⟨a,b⟩:=(ri_tw q 50000 _).2 f.body (Ac _) (!f.params.isEmpty) false [] (riT0 f.params) (h.gB f hf) (h.nx f hf) oM0 (λl hl=>by cases hl);have ht:twT (riT0 f.params)=f.params.length:=by
  unfold twT;rw[show(riT0 f.params).ts.length=f.params.length from y1n f.params];rfl
 rw[ht]at a;have hb:lsz (riT0 f.params).ns=0:=rfl;rw[hb]at b;unfold twT at a;exact⟨by simpa[z7z]using a,by simpa[z7z]using b⟩
theorem riUn_w{q:Pg}(h:RnOk q):z0j (riUn q)<=34000000000/\uSz (riUn q).flows<=4000000:=by
 have h1:=h.pz;have h2:=h.cn;have h4:=h.ar;have key:∀l:List Fu,(∀f∈l,f∈q.funcs)->wtF (l.map (z7z q))+l.length<=27*pz l+400030*pcn l/\uSz (l.map (z7z q))<=4*pz l:=by
  intro l
  induction l with
  |nil=>intro _;exact⟨Ag _,Ag _⟩
  |cons f r ih =>
   intro hm;obtain⟨i1,i2⟩:=ih λx hx=>hm x (.tail _ hx);have hf:=hm f (.head _);obtain⟨a,b⟩:=j33 h hf;have hn:=h.nmF f hf;rw[B7,wtF,uSz,pz,pcn,A3];have e:(z7z q f).name.size=f.name.size:=rfl;rw[e,F4 400030];generalize 400030*cnL f.body=K1 at a⊢;generalize 400030*pcn r=K2 at i1⊢;exact⟨by omega,by omega⟩
 obtain⟨k1,k2⟩:=key q.funcs λf h=>h;have hA:∀l:List Ar,(∀a∈l,a.name.size<=20)->wtA l<=20*l.length:=by
  intro l
  induction l with
  |nil=>intro _;exact Ag _
  |cons a r ih =>
   intro hm;have:=ih λx hx=>hm x (.tail _ hx);have:=hm a (.head _);rw[wtA,A3];omega
 have hA:=hA q.arrays h.nmA;have hm:400030*pcn q.funcs<=400030*50000:=Nat.mul_le_mul_left _ h2;generalize 400030*pcn q.funcs=K at k1 hm;unfold z0j;have e1:(riUn q).arrays=q.arrays:=rfl;have e2:(riUn q).flows=q.funcs.map (z7z q):=rfl;rw[e1,e2,Ab];have h3:=zm1 q.funcs;exact⟨by omega,by omega⟩
def riU(s:ByteArray):Un×Int:=y6e (z1u s).1 (z4v (riUn (rnOf (z1u s).1).1)).1
theorem rn_ok(s:ByteArray)(h:(rnOf (z1u s).1).2=0):RnOk (rnOf (z1u s).1).1:=by
 unfold rnOf at h⊢
 by_cases hy:(z86 (z1u s).1).1=0
 ·rw[A5 hy];exact rnOk (y7x s) (j1e s) (zv4 s) hy
 ·rw[A1 hy]at h;exact A9 h dC0
theorem sc_Rise(s:ByteArray):SC Tryz.prog 7 [.pv (z1u s).1.enc] [] (λk=>k∈[]) (.tup [.pv (riU s).1.enc,iInt (riU s).2]) []:=by
 have hz:=y7x s;refine sc_Rise0 (z1u s).1 (j3o (z1u s).1 oM0 oM0 (zv4 s)) ?_ (λh f hf=>riFun (rn_ok s h) hf) _ (z4v (riUn (rnOf (z1u s).1).1)).2 λh=>SC.anyR (y4o _ (Bm (riUn_w (rn_ok s h)).1 dC0))
 by_cases hy:(z86 (z1u s).1).1=0
 ·have h:(rnOf (z1u s).1).2=0:=by unfold rnOf;rw[A5 hy]
  have:=(rn_ok s h).pz;have:=zm1 (rnOf (z1u s).1).1.funcs;omega
 ·unfold rnOf;rw[A1 hy];exact Aj _
theorem un0_w:z0j un0<=34000000000/\uSz un0.flows<=4000000:=⟨by decide,by decide⟩
theorem riU_w(s:ByteArray):z0j (riU s).1<=34000000000/\uSz (riU s).1.flows<=4000000:=by
 unfold riU y6e;split
 ·rename_i h;split
  ·exact riUn_w (rn_ok s h)
  ·exact un0_w
 ·exact un0_w
end Go.Proofs.YtjlaalpfpecikaaGreatDoor
