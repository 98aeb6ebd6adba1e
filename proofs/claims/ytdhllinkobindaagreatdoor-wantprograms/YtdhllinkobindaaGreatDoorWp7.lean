/- PART 7 of 9 of a proof: see the last part. -/
import Derived.Test.YtdhllinkobindaaGreatDoorWp6
set_option maxRecDepth 20000
set_option maxHeartbeats 8000000
set_option linter.unusedSimpArgs false
set_option linter.unusedVariables false
set_option linter.unusedSectionVars false
namespace Go.Proofs.YtdhllinkobindaaGreatDoor
open Go
def WLs(q:List Nd):Prop:=∀(h:Hd)(s:List Int)(g:Bool),wOkL h q=true->SC Tryz.prog 49 [.ptr 3001 0,.pv (z1n q),.pv (hdv h)] (wH s g) (λk=>k∈[]) (.tup []) (wH (z4k h s q) (gr s (z4k h s q) g))
theorem sc_wNode(x:Nd)(h:Hd)(s:List Int)(g:Bool)(hok:wOkN h x=true)(ih:∀q∈x.kids,WLs q):SC Tryz.prog 89 [.ptr 3001 0,.pv (ndv x),.pv (hdv h)] (wH s g) (λk=>k∈[]) (.tup []) (wH (zd6 h s x) (gr s (zd6 h s x) g)):=by
 refine SC.vc tb { pb:=[104] } [] Tryz.func89 rfl rfl ?_;have hHm:=zw7 x;obtain⟨kind,op,n,name,args,outs,params,ks⟩:=x;simp only[Nd.kids]at ih;rcases(show kind=12∨kind=13∨kind=14∨kind=10∨kind=11∨(kind≠12/\kind≠13/\kind≠14/\kind≠10/\kind≠11) by omega)with rfl|rfl|rfl|rfl|rfl|⟨k1,k2,k3,k4,k5⟩
 ·have hle:h.yield.length<=args.length:=by simpa[wOkN]using hok
  exact⟨[],zf4 args h.yield s g hle,sR,Gd,rfl,sI,rfl,rfl,Gb⟩
 ·have hle:h.next.length<=args.length:=by simpa[wOkN]using hok
  exact⟨[],zf4 args h.next s g hle,sR,Gd,rfl,sI,rfl,rfl,Gb⟩
 ·have hle:h.left.length<=args.length:=by simpa[wOkN]using hok
  exact⟨[],zf4 args h.left s g hle,sR,Gd,rfl,sI,rfl,rfl,Gb⟩
 ·have hok2:ks.length=2/\wOkK ⟨outs,h.next,h.left⟩ ks=true:=by simpa[wOkN]using hok
  obtain⟨a,b,rfl⟩:∃a b,ks=[a,b]:=by
   match ks,hok2.1 with
   |[a,b],_=>exact⟨a,b,rfl⟩
  have hoa:=z9w hok2.2 (.head _);have hob:=z9w hok2.2 (.tail _ (.head _));have p1:=z4u args s;have p2:=z3h a ⟨outs,h.next,h.left⟩ (wAdd s args);have p3:=z3h b ⟨outs,h.next,h.left⟩ (z4k ⟨outs,h.next,h.left⟩ (wAdd s args) a);exact⟨[],y6y args s g,sR,Gd,rfl,(show([a,b].map eKid)[0]?=some [z1n a]from rfl),rfl,[],ih a (.head _) ⟨outs,h.next,h.left⟩ (wAdd s args) (gr s (wAdd s args) g) hoa,sR,Gd,rfl,(show([a,b].map eKid)[1]?=some [z1n b]from rfl),rfl,[],ih b (.tail _ (.head _)) ⟨outs,h.next,h.left⟩ (z4k ⟨outs,h.next,h.left⟩ (wAdd s args) a) (gr (wAdd s args) (z4k ⟨outs,h.next,h.left⟩ (wAdd s args) a) (gr s (wAdd s args) g)) hob,sR,Gd,rfl,
   sI,by rw[show zd6 h s (.mk 10 op n name args outs params [a,b])=z4k ⟨outs,h.next,h.left⟩ (z4k ⟨outs,h.next,h.left⟩ (wAdd s args) a) b from rfl,<- zl1 (p1.trans p2) p3,<- zl1 p1 p2];exact Gd⟩
 ·have hok2:params.length<=args.length/\ks.length=1/\wOkK ⟨[],params,outs⟩ ks=true:=by simpa[wOkN]using hok
  obtain⟨a,rfl⟩:=C7.1 hok2.2.1;have hoa:=z9w hok2.2.2 (.head _);have p1:=z2v args params s;have p2:=z3h a ⟨[],params,outs⟩ (z14 s args params);exact⟨[],zf4 args params s g hok2.1,sR,Gd,rfl,(show([a].map eKid)[0]?=some [z1n a]from rfl),rfl,[],ih a (.head _) ⟨[],params,outs⟩ (z14 s args params) (gr s (z14 s args params) g) hoa,SubA.same (SubA.same (SubA.cons (sP (z0c _)) SubA.nil)),Gd,rfl,
   sI,by rw[show zd6 h s (.mk 11 op n name args outs params [a])=z4k ⟨[],params,outs⟩ (z14 s args params) a from rfl,<- zl1 p1 p2];exact Gd⟩
 ·have no:∀{i:Int},kind≠i->(kind==i)=true->False:=λh e=>h (eq_of_beq e);have hW:zd6 h s (.mk kind op n name args outs params ks)=if !z16 (.mk kind op n name args outs params ks)||s.contains (outs.headD 0)then wAdd s args else s:=by
   rw[y7c];simp[Nd.kind,Nd.args,Nd.outs,k1,k2,k3,k4,k5]
  have hO:z16 (.mk kind op n name args outs params ks)=true->outs≠[]:=λe=>by
   rw[j57]at hok;simp[Nd.kind,Nd.outs,k1,k2,k3,k4,k5,e]at hok;exact hok
  rw[hW];generalize z16 (.mk kind op n name args outs params ks)=c at hHm hO;refine z00 (λh=>(no k1 h).elim) λ_=>z00 (λh=>(no k2 h).elim) λ_=>z00 (λh=>(no k3 h).elim) λ_=>z00 (λh=>(no k4 h).elim) λ_=>z00 (λh=>(no k5 h).elim) λ_=>?_
  cases c
  ·exact⟨[],hHm,sR,Gb,rfl,[],y6y args s g,sR,Gd,rfl,sI,rfl,rfl,Gb⟩
  ·obtain⟨o0,ors,rfl⟩:=C6 (hO rfl);have hH:=y6z s o0;rw[show(o0::ors).headD 0=o0 from rfl];generalize s.contains o0=b at hH
   cases b
   ·exact⟨[],hHm,sR,Gb,rfl,(show((o0::ors).map eInt)[0]?=some [vInt o0]from rfl),rfl,[3002],hH,sR,Gd,rfl,sI,by rw[show(if (!true||false)=true then wAdd s args else s)=s from rfl,y0o];exact Gd⟩
   ·exact⟨[],hHm,sR,Gb,rfl,(show((o0::ors).map eInt)[0]?=some [vInt o0]from rfl),rfl,[3002],hH,sR,Gd,rfl,[],y6y args s g,sR,Gd,rfl,sI,rfl,rfl,Gb⟩
theorem zx2:∀(N:Nat)(l:List Nd),SizeOf.sizeOf l<N->WLs l
 |0,_,h=>absurd h (Aj _)
 |N+1,l,hN=>λh s g hok=>by
  refine SC.vc tb { gh:=[(0,[.len 1])] } [] Tryz.func49 rfl rfl ?_;intro hl;simp only[Ac]at hl;have hl:l.length<=9223372036854775807:=hl;refine⟨Nat×List Int,λq=>[(10,iInt ((q.1:Nat):Int))],λq=>wH q.2 (gr s q.2 g),λq=>l.length-q.1,λq=>q.1<=l.length/\z4k h s l=z4k h q.2 (l.drop q.1)/\Pre s q.2,[],(0,s),⟨Ad _,rfl,.refl s⟩,Gc,⟨by rw[y0o];rfl,rfl,Gb⟩,?_⟩;rintro⟨k,st⟩ ⟨k1,k2,k3⟩;dsimp only at k1 k2 k3;refine z00 (λhc=>?_) λhc=>?_
  ·have hlt:k<l.length:=z0z (f:=Nd.enc) rfl hc;obtain⟨x,x1,x2,x3,x4⟩:=z0p hlt;rw[x3,z4k]at k2;have hX:=sc_wNode x h st (gr s st g) (y7d hok x4) λq hq=>zx2 N q (B8 (z8o x4 rfl hq) (Bp hN));have hp:=zp6 x h st;exact⟨z07 x1,rfl,[],hX,sR,Gd,rfl,z01 rfl oM0,(k+1,zd6 h st x),z03 hlt,⟨hlt,k2,k3.trans hp⟩,Gc,⟨by rw[<- zl1 k3 hp];rfl,rfl,Gb⟩,rfl,rfl,rfl,rfl⟩
  ·have hge:l.length<=k:=z10 (f:=Nd.enc) rfl hc;rw[Ab hge]at k2;rw[show z4k h s l=st from k2];exact⟨sI,rfl,rfl,Gb⟩
theorem sc_wList(l:List Nd)(h:Hd)(s:List Int)(g:Bool)(hok:wOkL h l=true):SC Tryz.prog 49 [.ptr 3001 0,.pv (z1n l),.pv (hdv h)] (wH s g) (λk=>k∈[]) (.tup []) (wH (z4k h s l) (gr s (z4k h s l) g)):=zx2 _ l (Aa _) h s g hok
theorem y5s:∀l:List Nd,l.length<=lsW l
 |[]=>Ae _
 |x::r=>by have:=y5s r;have:=z7o x;simp only[lsW,A1];omega
theorem zx1:∀(N:Nat)(l:List Nd),SizeOf.sizeOf l<N->∀(h:Hd)(s:List Int),wOkL h l=true->lsW l<=34359738368->SC Tryz.prog 50 [.mp 3002,.pv (z1n l),.pv (hdv h)] (wM s) (λk=>k∈[3002]) (.pv (z1n (z1o s h l))) (wM s)
 |0,_,h=>absurd h (Aj _)
 |N+1,l,hN=>λh s hok hb=>by
  refine SC.vc tb { gh:=[(1,[.grow 6 106 47 8]),(23,[.fz 6 106])] } [3002] Tryz.func50 rfl rfl ?_;have hle:=y5s l;have hsl:=zn6 s h l;refine⟨Nat×List Nd,λq=>[(13,iInt ((q.1:Nat):Int)),(6,.sl 106 (q.2.map Nd.enc).length)],λq=>[(106,.row ⟨47,8⟩ (q.2.map Nd.enc))],λq=>l.length-q.1,λq=>q.1<=l.length/\q.2++z1o s h (l.drop q.1)=z1o s h l,[],(0,[]),⟨Ad _,rfl⟩,Gd,Gc,?_⟩;rintro⟨k,out⟩ ⟨k1,k2⟩;dsimp only at k1 k2;refine z00 (λhc=>?_) λhc=>?_
  ·have hlt:k<l.length:=z0z (f:=Nd.enc) rfl hc;obtain⟨x,x1,x2,x3,x4⟩:=z0p hlt;have hWx:=z7o x;have hWl:=y11 x4;have hxok:=y7d hok x4;have hHm:=zw7 x;rw[x3,z1o]at k2;have hol:out.length+(z68 s h x).length<=34359738368:=by
    have:=Af List.length k2;simp only[B5]at this;omega
   have hal:(out.map Nd.enc).length=out.length:=Ac _;have hkid:∀q∈x.kids,∀(h:Hd),wOkL h q=true->SC Tryz.prog 50 [.mp 3002,.pv (z1n q),.pv (hdv h)] (wM s) (λk=>k∈[3002]) (.pv (z1n (z1o s h q))) (wM s):=λq hq h ho=>zx1 N q (B8 (z8o x4 rfl hq) (Bp hN)) h s ho (by have:=z6s hq;omega);obtain⟨kind,op,n,name,args,outs,params,ks⟩:=x;simp only[Nd.kids,Nd.args,Nd.outs,Nd.params]at hkid hWx;refine⟨z07 x1,rfl,?_⟩;rcases(show kind=12∨kind=13∨kind=14∨kind=10∨kind=11∨(kind≠12/\kind≠13/\kind≠14/\kind≠10/\kind≠11) by omega)with rfl|rfl|rfl|rfl|rfl|⟨k1',k2',k3',k4',k5'⟩
   ·have hle:h.yield.length<=args.length:=by simpa[wOkN]using hxok
    have hN1:z68 s h (.mk 12 op n name args outs params ks)=[.mk 12 op n name (z0j s args h.yield) outs params ks]:=rfl;rw[hN1]at k2 hol;exact⟨[3002],z9q args h.yield s hle oM0,sR,⟨rfl,rfl,by simp,Gb⟩,rfl,rfl,z3i rfl,by rw[hal];exact B9 hol dC0,z01 rfl oM0,(k+1,out++[.mk 12 op n name (z0j s args h.yield) outs params ks]),z03 hlt,⟨hlt,by rw[C2];exact k2⟩,⟨rfl,slq sI0,Gb⟩,⟨rwq (by rw[z98];rfl),Gb⟩,rfl,rfl,rfl,rfl⟩
   ·have hle:h.next.length<=args.length:=by simpa[wOkN]using hxok
    have hN1:z68 s h (.mk 13 op n name args outs params ks)=[.mk 13 op n name (z0j s args h.next) outs params ks]:=rfl;rw[hN1]at k2 hol;exact⟨[3002],z9q args h.next s hle oM0,sR,⟨rfl,rfl,by simp,Gb⟩,rfl,rfl,z3i rfl,by rw[hal];exact B9 hol dC0,z01 rfl oM0,(k+1,out++[.mk 13 op n name (z0j s args h.next) outs params ks]),z03 hlt,⟨hlt,by rw[C2];exact k2⟩,⟨rfl,slq sI0,Gb⟩,⟨rwq (by rw[z98];rfl),Gb⟩,rfl,rfl,rfl,rfl⟩
   ·have hle:h.left.length<=args.length:=by simpa[wOkN]using hxok
    have hN1:z68 s h (.mk 14 op n name args outs params ks)=[.mk 14 op n name (z0j s args h.left) outs params ks]:=rfl;rw[hN1]at k2 hol;exact⟨[3002],z9q args h.left s hle oM0,sR,⟨rfl,rfl,by simp,Gb⟩,rfl,rfl,z3i rfl,by rw[hal];exact B9 hol dC0,z01 rfl oM0,(k+1,out++[.mk 14 op n name (z0j s args h.left) outs params ks]),z03 hlt,⟨hlt,by rw[C2];exact k2⟩,⟨rfl,slq sI0,Gb⟩,⟨rwq (by rw[z98];rfl),Gb⟩,rfl,rfl,rfl,rfl⟩
   ·have hok2:ks.length=2/\wOkK ⟨outs,h.next,h.left⟩ ks=true:=by simpa[wOkN]using hxok
    obtain⟨a,b,rfl⟩:∃a b,ks=[a,b]:=by
     match ks,hok2.1 with
     |[a,b],_=>exact⟨a,b,rfl⟩
    have hA:=hkid a (.head _) ⟨outs,h.next,h.left⟩ (z9w hok2.2 (.head _));have hB:=hkid b (.tail _ (.head _)) ⟨outs,h.next,h.left⟩ (z9w hok2.2 (.tail _ (.head _)));have hN1:z68 s h (.mk 10 op n name args outs params [a,b])=[.mk 10 op n name args (z0j s outs outs) params [z1o s ⟨outs,h.next,h.left⟩ a,z1o s ⟨outs,h.next,h.left⟩ b]]:=rfl;rw[hN1]at k2 hol;exact⟨(show([a,b].map eKid)[0]?=some [z1n a]from rfl),rfl,[3002],hA,sR,⟨rfl,rfl,by simp,Gb⟩,rfl,(show([a,b].map eKid)[1]?=some [z1n b]from rfl),rfl,[3002],hB,sR,⟨rfl,rfl,by simp,Gb⟩,rfl,[3002],z9q outs outs s (Ae _) oM0,sR,⟨rfl,rfl,by simp,Gb⟩,rfl,rfl,z3i rfl,by rw[hal];exact B9 hol dC0,z01 rfl oM0,(k+1,out++[.mk 10 op n name args (z0j s outs outs) params [z1o s ⟨outs,h.next,h.left⟩ a,z1o s ⟨outs,h.next,h.left⟩ b]]),z03 hlt,⟨hlt,by rw[C2];exact k2⟩,⟨rfl,slq sI0,Gb⟩,⟨rwq (by rw[z98];rfl),Gb⟩,rfl,rfl,rfl,rfl⟩
   ·have hok2:params.length<=args.length/\ks.length=1/\wOkK ⟨[],params,outs⟩ ks=true:=by simpa[wOkN]using hxok
    obtain⟨a,rfl⟩:=C7.1 hok2.2.1;have hA:=hkid a (.head _) ⟨[],params,outs⟩ (z9w hok2.2.2 (.head _));have hN1:z68 s h (.mk 11 op n name args outs params [a])=[.mk 11 op n name (z0j s args params) (z0j s outs outs) (z0j s params params) [z1o s ⟨[],params,outs⟩ a]]:=rfl;rw[hN1]at k2 hol;exact⟨(show([a].map eKid)[0]?=some [z1n a]from rfl),rfl,[3002],hA,SubA.same (SubA.same (SubA.cons (sP (z0c _)) SubA.nil)),⟨rfl,rfl,by simp,Gb⟩,rfl,[3002],z9q args params s hok2.1 oM0,sR,⟨rfl,rfl,by simp,Gb⟩,rfl,[3002],z9q params params s (Ae _) oM0,sR,⟨rfl,rfl,by simp,Gb⟩,rfl,[3002],z9q outs outs s (Ae _) oM0,sR,⟨rfl,rfl,by simp,Gb⟩,rfl,rfl,z3i rfl,by rw[hal];exact B9 hol dC0,z01 rfl oM0,(k+1,out++[.mk 11 op n name (z0j s args params) (z0j s outs outs) (z0j s params params) [z1o s ⟨[],params,outs⟩ a]]),z03 hlt,⟨hlt,by rw[C2];exact k2⟩,⟨rfl,slq sI0,Gb⟩,⟨rwq (by rw[z98];rfl),Gb⟩,rfl,rfl,rfl,rfl⟩
   ·have no:∀{i:Int},kind≠i->(kind==i)=true->False:=λh e=>h (eq_of_beq e);have hW:z68 s h (.mk kind op n name args outs params ks)=if z16 (.mk kind op n name args outs params ks) && !s.contains (outs.headD 0)then[]else[.mk kind op n name args outs params ks]:=by
     rw[zn7];simp[Nd.kind,Nd.outs,k1',k2',k3',k4',k5']
    have hO:z16 (.mk kind op n name args outs params ks)=true->outs≠[]:=λe=>by
     rw[j57]at hxok;simp[Nd.kind,Nd.outs,k1',k2',k3',k4',k5',e]at hxok;exact hxok
    rw[hW]at k2 hol;generalize z16 (.mk kind op n name args outs params ks)=c at hHm hO k2 hol;refine z00 (λh=>(no k1' h).elim) λ_=>z00 (λh=>(no k2' h).elim) λ_=>z00 (λh=>(no k3' h).elim) λ_=>z00 (λh=>(no k4' h).elim) λ_=>z00 (λh=>(no k5' h).elim) λ_=>?_
    cases c
    ·exact⟨[],hHm,sR,Gb,rfl,rfl,z3i rfl,by rw[hal];exact B9 hol dC0,z01 rfl oM0,(k+1,out++[.mk kind op n name args outs params ks]),z03 hlt,⟨hlt,by rw[C2];exact k2⟩,⟨rfl,slq sI0,Gb⟩,⟨rwq (by rw[z98]),Gb⟩,rfl,rfl,rfl,rfl⟩
    ·obtain⟨o0,ors,rfl⟩:=C6 (hO rfl);have hH:=y6z s o0;rw[show(o0::ors).headD 0=o0 from rfl]at k2 hol;generalize s.contains o0=b at hH k2 hol
     cases b
     ·exact⟨[],hHm,sR,Gb,rfl,(show((o0::ors).map eInt)[0]?=some [vInt o0]from rfl),rfl,[3002],hH,sR,⟨rfl,rfl,by simp,Gb⟩,rfl,z01 rfl oM0,(k+1,out),z03 hlt,⟨hlt,k2⟩,Gd,Gc,rfl,rfl,rfl,rfl⟩
     ·exact⟨[],hHm,sR,Gb,rfl,(show((o0::ors).map eInt)[0]?=some [vInt o0]from rfl),rfl,[3002],hH,sR,⟨rfl,rfl,by simp,Gb⟩,rfl,rfl,z3i rfl,by rw[hal];exact B9 hol dC0,z01 rfl oM0,(k+1,out++[.mk kind op n name args (o0::ors) params ks]),z03 hlt,⟨hlt,by rw[C2];exact k2⟩,⟨rfl,slq sI0,Gb⟩,⟨rwq (by rw[z98]),Gb⟩,rfl,rfl,rfl,rfl⟩
  ·have hge:l.length<=k:=z10 (f:=Nd.enc) rfl hc;rw[Ab hge,z1o,D3]at k2;exact⟨rfl,sE (by rw[<- k2];rfl),rfl,Gb⟩
theorem sc_sweep(l:List Nd)(h:Hd)(s:List Int)(hok:wOkL h l=true)(hb:lsW l<=34359738368):SC Tryz.prog 50 [.mp 3002,.pv (z1n l),.pv (hdv h)] (wM s) (λk=>k∈[3002]) (.pv (z1n (z1o s h l))) (wM s):=zx1 _ l (Aa _) h s hok hb
theorem sc_wFlow(f:Fl)(hok:wOkL hd0 f.body=true)(hb:lsW f.body<=34359738368):SC Tryz.prog 26 [.pv (.agg f.enc)] [] (λk=>k∈[]) (.pv (.agg (z5c wB f).enc)) []:=by
 refine SC.vc tb { ids:=[(4,3002),(6,3001)] } [] Tryz.func26 rfl rfl ?_;refine⟨List Int×Bool,λ_=>[],λq=>wH q.1 q.2,λq=>2*((agL f.body).length-q.1.length)+q.2.toNat,λq=>∃j,q.1=z5u f.body j/\j<=q.1.length/\(q.2=false->zg4 f.body q.1=q.1),[],([],true),⟨0,rfl,Ad _,λh=>by cases h⟩,Gb,Gd,?_⟩;rintro⟨s,g⟩ ⟨j,hs,j1,j2⟩;dsimp only at hs j1 j2
 cases g
 ·have hd:s=wSet f.body:=hs.trans (yz5 (by rw[<- hs];exact j1) (by rw[<- hs];exact j2 rfl));subst hd;exact⟨[3002],sc_sweep f.body hd0 (wSet f.body) hok hb,SubA.same (SubA.same (SubA.cons (sP (z0c _)) SubA.nil)),Gd,rfl,sI,Gb⟩
 ·have hL:=sc_wList f.body hd0 s false hok;have hp:=zp8 f.body s;have hin:=(y03 f.body (j+1)).len;have hj:z5u f.body (j+1)=zg4 f.body s:=by rw[hs];rfl
  rw[hj]at hin
  by_cases hgr:zg4 f.body s=s
  ·have hl:z4k hd0 s f.body=s:=hgr;rw[hl,y0o]at hL;exact⟨[],hL,SubA.same (SubA.same (SubA.cons (sP (z0c _)) SubA.nil)),Gd,rfl,(s,false),by simp,⟨j,hs,j1,λ_=>hgr⟩,Gb,Gd,rfl,rfl,rfl,rfl⟩
  ·have hlt:s.length<(zg4 f.body s).length:=by
    rcases Dj s.length (zg4 f.body s).length with h|h
    ·exact h
    ·exact absurd (hp.eq h) hgr
   have hge:gr s (z4k hd0 s f.body) false=true:=by
    cases hx:gr s (z4k hd0 s f.body) false with
    |true=>rfl
    |false=>exact absurd ((gr_false hp).1 hx) hgr
   rw[hge]at hL;exact⟨[],hL,SubA.same (SubA.same (SubA.cons (sP (z0c _)) SubA.nil)),Gd,rfl,(zg4 f.body s,true),by simp only[Bool.toNat_true];omega,⟨j+1,hj.symm,by show j+1<=(zg4 f.body s).length;omega,λh=>by cases h⟩,Gb,Gd,rfl,rfl,rfl,rfl⟩
theorem yf4(u:Un)(hW:z0g u<=34000000000)(hok:(z59 u).1=0->∀f∈u.flows,wOkL hd0 f.body=true):SC Tryz.prog 10 [.pv u.enc] [] (λk=>k∈[]) (.tup [.pv (z8w wB u).1.enc,iInt (z8w wB u).2]) []:=by
 have hK:=y4w u (B9 hW dC0);have hw2:u.flows.length<=z0g u:=by unfold z0g;omega
 have hres:z8w wB u=if (z59 u).1=0 then(z3s wB u,0)else(⟨[],[]⟩,1):=by unfold z8w;by_cases h:(z59 u).1=0<;>simp[h]
 rw[hres];clear hres;generalize z59 u=c at hK hok⊢;obtain⟨c1,c2⟩:=c;dsimp only at hK hok⊢
 by_cases h:c1=0
 case neg =>
  rw[if_neg h];refine SC.vc tb { pb:=[101] } [] Tryz.func10 rfl rfl ?_;exact⟨[],hK,sR,Gb,rfl,z00 (λ_=>⟨sT2 (sP (z0c _)),Gb⟩) λh2=>absurd h2 (by simp[h])⟩
 rw[if_pos h];subst h;refine SC.vc tb { pb:=[101],gh:=[(5,[.growC 106 1 9 59 5]),(10,[.fzC 106 1 9])] } [] Tryz.func10 rfl rfl ?_;refine⟨[],hK,sR,Gb,rfl,?_⟩;refine⟨Nat,λi=>[(23,iInt ((i:Nat):Int))],λi=>[(106,.box [.pv (arrs u.arrays),.sl 9 i]),(9,.row ⟨59,5⟩ ((u.flows.take i).map λf=>(z5c wB f).enc))],λi=>u.flows.length-i,λi=>i<=u.flows.length,[],0,Ad _,Gc,Gd,?_⟩;intro i hi;have hl:((u.flows.take i).map λf=>(z5c wB f).enc).length=i:=by rw[Ac,Dg];omega
 refine z00 (λhc=>?_) λhc=>?_
 ·have hlt:i<u.flows.length:=z0z (f:=Fl.enc) rfl hc;obtain⟨x,x1,x2,x3,x4⟩:=z0p hlt;have hx:=z99 x4;have hL:=sc_wFlow x (hok rfl x x4) oM0;exact⟨z02 (f:=Fl.enc) x1,rfl,[],hL,sR,Gb,rfl,hl,z3i rfl,by simp;omega,by simp;omega,z01 rfl oM0,i+1,z03 hlt,hlt,Gc,⟨boq rfl,rwq (by rw[x2];simp[z5c,Fl.enc]),Gb⟩,rfl,rfl,rfl,rfl⟩
 ·have hge:u.flows.length<=i:=z10 (f:=Fl.enc) rfl hc;rw[Av hge];have he:(z3s wB u).enc=.agg [arrs u.arrays,.seq (u.flows.map λf=>(z5c wB f).enc)]:=by simp[z3s,Un.enc,flws]
  rw[he];rw[Av hge]at hl;exact⟨hl,sI,Gb⟩
def run0(ins:List Int)(fuel:Int):Rs:={ ins:=ins,ar:=[],st:=0,code:=0,out:=[],cost:=0,fuel:=if fuel<0 then 0 else fuel,spent:=false }
def mEnd(r:Int×Rs):Rs:=if z11 r.2 then r.2 else { r.2 with st:=1,code:=r.1 }
def runv(s:Rs):PV:=.agg [vInt s.st,vInt s.code,ints s.out,vInt s.cost,vInt s.fuel]
theorem j44(fs:List Fl)(hW:z0g ⟨[],fs⟩<=34000000000)(hz:(z17 ⟨[],fs⟩).1=0)(ins:List Int)(fuel:Int)(d:Nat)(r:Int×Rs)(h:z3z ⟨[],fs⟩ d (z05 z0s fs 0) [] { run0 ins fuel with ar:=[] }=some r):SC Tryz.prog 16 [.pv (Un.enc ⟨[],fs⟩),.pv (ints ins),iInt fuel] [] (λ_=>False) (.pv (runv (mEnd r))) []:=by
 refine SC.anyR (SC.vc tb { gh:=[(5,[.growC 1001 6 1002 3 1]),(12,[.fzC 1001 6 1002])],ids:=[(26,1001),(45,1004),(47,1003)] } [] Tryz.func16 rfl rfl ?_);have hub:∀f∈fs,lsW f.body<=34359738368:=λf hf=>B9 (z99 (u:=⟨[],fs⟩) hf) (B9 hW oM0);have hcall:=(zf5 ⟨[],fs⟩ hub (d+1)).1 d (Aa d) _ _ _ _ h sI0;have hal:=yb2 h;have hC:=zf0 ⟨[],fs⟩ hW;rw[hz]at hC;have hP:=z3v ⟨[],fs⟩ z0s;obtain⟨n,ins',ar',st',code',out',cost',fuel',spent'⟩:=r;obtain rfl:ar'=[]:=At hal;have hO:=z2x ⟨[],fs⟩ ⟨ins',[],st',code',out',cost',fuel',spent'⟩;obtain⟨ov,hov⟩:∃b,z11 ⟨ins',[],st',code',out',cost',fuel',spent'⟩=b:=⟨_,rfl⟩;rw[hov]at hO;have hend:mEnd (n,⟨ins',[],st',code',out',cost',fuel',spent'⟩)=if ov then(⟨ins',[],st',code',out',cost',fuel',spent'⟩:Rs)else⟨ins',[],1,n,out',cost',fuel',spent'⟩:=by unfold mEnd;rw[hov]
 rw[hend];clear hend;refine⟨[],hC,sR,Gb,rfl,Unit,λ_=>[(10,iInt 0)],λ_=>[],λ_=>0,λ_=>True,[],(),Gb,Gc,Gb,λ_ _=>⟨[],hP,sR,Gb,rfl,[],hcall,SubA.same (SubA.same (SubA.cons sN sR)),Gd,rfl,[],hO,sR,Gd,rfl,?_⟩⟩
 cases ov with
 |true=>exact⟨rfl,sI,Gb⟩
 |false=>exact⟨rfl,sI,Gb⟩
theorem sr_run1(fs:List Fl)(A:Ar)(hW:z0g ⟨[A],fs⟩<=34000000000)(hz:(z17 ⟨[A],fs⟩).1=0)(ins:List Int)(fuel:Int)(d:Nat)(r:Int×Rs)(h:z3z ⟨[A],fs⟩ d (z05 z0s fs 0) [] { run0 ins fuel with ar:=[List.replicate A.size.toNat 0] }=some r)(hsz:0<=A.size/\A.size<=1000):SC Tryz.prog 16 [.pv (Un.enc ⟨[A],fs⟩),.pv (ints ins),iInt fuel] [] (λ_=>False) (.pv (runv (mEnd r))) []:=by
 refine SC.anyR (SC.vc tb { gh:=[(5,[.growC 1001 6 1002 3 1]),(12,[.fzC 1001 6 1002])],ids:=[(26,1001),(45,1004),(47,1003)] } [] Tryz.func16 rfl rfl ?_);have hub:∀f∈fs,lsW f.body<=34359738368:=λf hf=>B9 (z99 (u:=⟨[A],fs⟩) hf) (B9 hW oM0);have hcall:=(zf5 ⟨[A],fs⟩ hub (d+1)).1 d (Aa d) _ _ _ _ h sI0;have hal:=yb2 h;have hC:=zf0 ⟨[A],fs⟩ hW;rw[hz]at hC;have hP:=z3v ⟨[A],fs⟩ z0s;obtain⟨n,ins',ar',st',code',out',cost',fuel',spent'⟩:=r;obtain⟨q2,rfl⟩:∃q2,ar'=[q2]:=C7.1 hal;have hO:=z2x ⟨[A],fs⟩ ⟨ins',[q2],st',code',out',cost',fuel',spent'⟩;obtain⟨ov,hov⟩:∃b,z11 ⟨ins',[q2],st',code',out',cost',fuel',spent'⟩=b:=⟨_,rfl⟩;rw[hov]at hO;have hend:mEnd (n,⟨ins',[q2],st',code',out',cost',fuel',spent'⟩)=if ov then(⟨ins',[q2],st',code',out',cost',fuel',spent'⟩:Rs)else⟨ins',[q2],1,n,out',cost',fuel',spent'⟩:=by unfold mEnd;rw[hov]
 rw[hend];clear hend;have hTl:((A.size:Int))=(A.size.toNat:Nat):=by omega
 refine⟨[],hC,sR,Gb,rfl,Bool,λb=>[(10,iInt (if b then 1 else 0))],λb=>if b then[(1001,rBox ⟨[A],fs⟩ { run0 ins fuel with ar:=[List.replicate A.size.toNat 0] }),(1003,.box [.sl 1004 ((List.replicate A.size.toNat (0:Int)).map eInt).length]),(1004,rowI (List.replicate A.size.toNat 0))]else[(1001,rBox ⟨[A],fs⟩ { run0 ins fuel with ar:=[] })],λb=>if b then 0 else 1,λ_=>True,[],false,Gb,Gc,Gc,λb _=>?_⟩
 cases b with
 |false =>
  exact⟨at0 (a:=Ar.enc A),rfl,rfl,hTl,by omega,by simp,rfl,Bf,by decide,z01 (m:=0) (n:=1) rfl dC0,true,Bf,Gb,Gc,⟨rfl,boq (show[IV.sl 1004 A.size.toNat]=_ by simp),rwq (by simp[eInt];exact .inr rfl),Gb⟩,rfl,rfl,rfl,rfl⟩
 |true =>
  refine⟨[],hP,sR,Gb,rfl,[],hcall,SubA.same (SubA.same (SubA.cons sN sR)),Gf,rfl,[],hO,sR,Gf,rfl,?_⟩
  cases ov with
  |true=>exact⟨rfl,sI,Gb⟩
  |false=>exact⟨rfl,sI,Gb⟩
theorem sr_run2(fs:List Fl)(A B:Ar)(hW:z0g ⟨[A,B],fs⟩<=34000000000)(hz:(z17 ⟨[A,B],fs⟩).1=0)(ins:List Int)(fuel:Int)(d:Nat)(r:Int×Rs)(h:z3z ⟨[A,B],fs⟩ d (z05 z0s fs 0) [] { run0 ins fuel with ar:=[List.replicate A.size.toNat 0,List.replicate B.size.toNat 0] }=some r)(hsz:0<=A.size/\A.size<=1000)(hszB:0<=B.size/\B.size<=1000):SC Tryz.prog 16 [.pv (Un.enc ⟨[A,B],fs⟩),.pv (ints ins),iInt fuel] [] (λ_=>False) (.pv (runv (mEnd r))) []:=by
 refine SC.anyR (SC.vc tb { gh:=[(5,[.growC 1001 6 1002 3 1]),(12,[.fzC 1001 6 1002])],ids:=[(26,1001),(45,1004),(47,1003)] } [] Tryz.func16 rfl rfl ?_);have hub:∀f∈fs,lsW f.body<=34359738368:=λf hf=>B9 (z99 (u:=⟨[A,B],fs⟩) hf) (B9 hW oM0);have hcall:=(zf5 ⟨[A,B],fs⟩ hub (d+1)).1 d (Aa d) _ _ _ _ h sI0;have hal:=yb2 h;have hC:=zf0 ⟨[A,B],fs⟩ hW;rw[hz]at hC;have hP:=z3v ⟨[A,B],fs⟩ z0s;obtain⟨n,ins',ar',st',code',out',cost',fuel',spent'⟩:=r;obtain⟨q2,q3,rfl⟩:=zr2 (l:=ar') hal;have hO:=z2x ⟨[A,B],fs⟩ ⟨ins',[q2,q3],st',code',out',cost',fuel',spent'⟩;obtain⟨ov,hov⟩:∃b,z11 ⟨ins',[q2,q3],st',code',out',cost',fuel',spent'⟩=b:=⟨_,rfl⟩;rw[hov]at hO;have hend:mEnd (n,⟨ins',[q2,q3],st',code',out',cost',fuel',spent'⟩)=if ov then(⟨ins',[q2,q3],st',code',out',cost',fuel',spent'⟩:Rs)else⟨ins',[q2,q3],1,n,out',cost',fuel',spent'⟩:=by unfold mEnd;rw[hov]
 rw[hend];clear hend;have hTl:((A.size:Int))=(A.size.toNat:Nat):=by omega
 have hTB:((B.size:Int))=(B.size.toNat:Nat):=by omega
 refine⟨[],hC,sR,Gb,rfl,Nat,λb=>[(10,iInt (b:Nat))],λb=>match b with|0=>[(1001,rBox ⟨[A,B],fs⟩ { run0 ins fuel with ar:=[] })]|1=>[(1001,rBox ⟨[A,B],fs⟩ { run0 ins fuel with ar:=[List.replicate A.size.toNat 0] }),(1003,.box [.sl 1004 ((List.replicate A.size.toNat (0:Int)).map eInt).length]),(1004,rowI (List.replicate A.size.toNat 0))]|_=>[(1001,rBox ⟨[A,B],fs⟩ { run0 ins fuel with ar:=[List.replicate A.size.toNat 0,List.replicate B.size.toNat 0] }),(1013,.box [.sl 1004 ((List.replicate A.size.toNat (0:Int)).map eInt).length,.sl 1014 ((List.replicate B.size.toNat (0:Int)).map eInt).length]),(1004,rowI (List.replicate A.size.toNat 0)),(1014,rowI (List.replicate B.size.toNat 0))],λb=>2-b,λb=>b<=2,[],0,Ad _,Gc,Gc,λb hb=>?_⟩
 match b,hb with
 |0,_ =>
  exact⟨at0 (a:=Ar.enc A),rfl,rfl,hTl,by omega,by simp,rfl,Bf,by decide,z01 (m:=0) (n:=1) rfl dC0,1,by decide,by decide,Gc,⟨rfl,boq (show[IV.sl 1004 A.size.toNat]=_ by simp),rwq (by simp[eInt];exact .inr rfl),Gb⟩,rfl,rfl,rfl,rfl⟩
 |1,_ =>
  exact⟨(show([A,B].map Ar.enc)[1]?=some (Ar.enc B)from rfl),rfl,rfl,hTB,by omega,by simp,by simp,rfl,rfl,Bf,Bf,by decide,z01 (m:=1) (n:=1) rfl dC0,2,by decide,by decide,Gc,⟨rfl,boq (show[IV.sl 1004 ((List.replicate A.size.toNat (0:Int)).map eInt).length,IV.sl 1014 B.size.toNat]=_ by simp),rfl,rwq (by simp[eInt];exact .inr rfl),Gb⟩,rfl,rfl,rfl,rfl⟩
 |2,_ =>
  refine⟨[],hP,sR,Gb,rfl,[],hcall,SubA.same (SubA.same (SubA.cons sN sR)),Gg,rfl,[],hO,sR,Gg,rfl,?_⟩
  cases ov with
  |true=>exact⟨rfl,sI,Gb⟩
  |false=>exact⟨rfl,sI,Gb⟩
mutual
theorem nsz_W:∀x:Nd,nsz x<=ndW x
 |.mk _ _ _ _ _ _ _ ks=>by have:=kdz_W ks;simp only[nsz,ndW];omega
theorem lsz_W:∀l:List Nd,lsz l<=lsW l
 |[]=>Ae _
 |x::r=>by have:=nsz_W x;have:=lsz_W r;simp only[lsz,lsW];omega
theorem kdz_W:∀ks:List (List Nd),kdz ks<=kdW ks
 |[]=>Ae _
 |l::r=>by have:=lsz_W l;have:=kdz_W r;simp only[kdz,kdW];omega
end
def szK:List Nd->Nat
 |[]=>0
 |x::r=>kdz x.kids+szK r
theorem yi3:∀a b:List Nd,szK (a++b)=szK a+szK b
 |[],b=>by simp[szK]
 |x::r,b=>by simp only[Bb,szK,yi3 r b];omega
theorem yc6:∀a b:List (List Nd),kdz (a++b)=kdz a+kdz b
 |[],b=>by simp[kdz]
 |x::r,b=>by simp only[Bb,kdz,yc6 r b];omega
theorem j1b:∀l:List Nd,lsz l=l.length+szK l
 |[]=>rfl
 |x::r=>by simp only[lsz,szK,A1,y45,j1b r];omega
theorem j3g:∀(N:Nat)(l:List Nd),SizeOf.sizeOf l<N->lsW l<=34359738368->SC Tryz.prog 54 [.pv (z1n l)] [] (λk=>k∈[]) (iInt (lsz l)) []
 |0,_,h,_=>absurd h (Aj _)
 |N+1,l,hN,hb=>by
  refine SC.vc tb {} [] Tryz.func54 rfl rfl ?_;have hl:=j1b l;have hw:=lsz_W l;refine⟨Nat,λi=>[(4,iInt i),(3,iInt ((l.length+szK (l.take i):Nat)))],λ_=>[],λi=>l.length-i,λi=>i<=l.length,[],0,Ad _,⟨rfl,ivq (by simp[szK]),Gb⟩,Gb,?_⟩;intro i hi;refine z00 (λhc=>?_) λhc=>?_
  ·have hlt:=z0z (f:=Nd.enc) rfl hc;obtain⟨x,hx,ht,hd,hm⟩:=z0p hlt;have happ:szK l=szK (l.take i)+(kdz x.kids+szK (l.drop (i+1))):=by
    conv=>lhs;rw[<- D0 i l,hd]
    rw[yi3];rfl
   have hone:szK (l.take (i+1))=szK (l.take i)+kdz x.kids:=by rw[ht,yi3];simp[szK]
   have hxw:=(@zv3 l).2 x hm;have hxe:=z7o x;refine⟨Nat,λj=>[(5,iInt j),(3,iInt ((l.length+szK (l.take i)+kdz (x.kids.take j):Nat)))],λ_=>[],λj=>x.kids.length-j,λj=>j<=x.kids.length,[],0,Ad _,⟨rfl,ivq (by simp[kdz]),Gb⟩,Gb,?_⟩;intro j hj;refine⟨z07 hx,rfl,z00 (λhc2=>?_) λhc2=>?_⟩
   ·have hlt2:=z0z (f:=eKid) rfl hc2;obtain⟨q,hq,ht2,hd2,hm2⟩:=z0p hlt2;have happ2:kdz x.kids=kdz (x.kids.take j)+(lsz q+kdz (x.kids.drop (j+1))):=by
     conv=>lhs;rw[<- D0 j x.kids,hd2]
     rw[yc6];rfl
    have hone2:kdz (x.kids.take (j+1))=kdz (x.kids.take j)+lsz q:=by rw[ht2,yc6];simp[kdz]
    have hqw:=z6s hm2;have hkl:=yl2 x.kids;exact⟨z07 hx,rfl,z02 (f:=eKid) hq,rfl,[],j3g N q (B8 (z8o hm rfl hm2) (Bp hN)) oM0,sR,Gb,rfl,z01 rfl oM0,z01 rfl oM0,j+1,z03 hlt2,hlt2,⟨rfl,ivq (by rw[hone2];omega),Gb⟩,Gb,rfl,rfl,rfl,rfl⟩
   ·have hge:=z10 (f:=eKid) rfl hc2;exact⟨z01 rfl oM0,i+1,z03 hlt,hlt,⟨rfl,ivq (by rw[hone,Av hge];omega),Gb⟩,Gb,rfl,rfl,rfl,rfl⟩
  ·exact⟨sE (by rw[Av (z10 (f:=Nd.enc) rfl hc),hl]),Gb⟩
def uSz:List Fl->Nat
 |[]=>0
 |f::r=>lsz f.body+uSz r
theorem yi8:∀a b:List Fl,uSz (a++b)=uSz a+uSz b
 |[],b=>by simp[uSz]
 |x::r,b=>by simp only[Bb,uSz,yi8 r b];omega
theorem uSz_W:∀l:List Fl,uSz l<=wtF l
 |[]=>Ae _
 |f::r=>by have:=uSz_W r;have:=lsz_W f.body;have:=y89 f.body;simp only[uSz,wtF,z0x];omega
theorem sc_nodes(u:Un)(hW:z0g u<=34000000000):SC Tryz.prog 29 [.pv u.enc] [] (λk=>k∈[]) (iInt (uSz u.flows)) []:=by
 refine SC.vc tb {} [] Tryz.func29 rfl rfl ?_;have hw:=uSz_W u.flows;have hw2:wtF u.flows<=z0g u:=by unfold z0g;omega
 have hw3:u.flows.length<=z0g u:=by unfold z0g;omega
 refine⟨Nat,λi=>[(4,iInt i),(3,iInt (uSz (u.flows.take i)))],λ_=>[],λi=>u.flows.length-i,λi=>i<=u.flows.length,[],0,Ad _,Gd,Gb,?_⟩;intro i hi;refine z00 (λhc=>?_) λhc=>?_
 ·have hlt:=z0z (f:=Fl.enc) rfl hc;obtain⟨f,hf,ht,hd,hm⟩:=z0p hlt;have happ:uSz u.flows=uSz (u.flows.take i)+(lsz f.body+uSz (u.flows.drop (i+1))):=by
   conv=>lhs;rw[<- D0 i u.flows,hd]
   rw[yi8];rfl
  have hone:uSz (u.flows.take (i+1))=uSz (u.flows.take i)+lsz f.body:=by rw[ht,yi8];simp[uSz]
  exact⟨z02 (f:=Fl.enc) hf,rfl,[],j3g _ f.body (Aa _) (B9 (z99 hm) (B9 hW oM0)),sR,Gb,rfl,z01 rfl oM0,z01 rfl oM0,i+1,z03 hlt,hlt,⟨rfl,ivq (by rw[hone];omega),Gb⟩,Gb,rfl,rfl,rfl,rfl⟩
 ·exact⟨sE (by rw[Av (z10 (f:=Fl.enc) rfl hc)]),Gb⟩
theorem sc_ins(l:List Int):SC Tryz.prog 13 [.pv (ints l)] [] (λk=>k∈[]) (.pv (ints (l.take 10))) []:=by
 refine SC.vc tb {} [] Tryz.func13 rfl rfl ?_;refine z00 (λh=>?_) λh=>?_
 ·have h2:(10:Int)<l.length:=by simpa using h
  exact⟨10,rfl,by omega,by simp;omega,zl2,sE (by simp[ints]),Gb⟩
 ·have h2:(l.length:Int)<=10:=by simpa using h
  have:l.length<=10:=by omega
  exact⟨sE (by rw[Av this]),Gb⟩
theorem y4v(l:List Int):SC Tryz.prog 52 [.pv (ints l),.pv (ints l)] [] (λk=>k∈[]) (iBool true) []:=by
 refine SC.vc tb { gh:=[(1,[.len 0])] } [] Tryz.func52 rfl rfl ?_;intro hl;simp only[Ac]at hl;refine z00 (λh1=>absurd h1 sI0) λ_=>?_;refine⟨Nat,λk=>[(5,iInt k)],λ_=>[],λk=>l.length-k,λk=>k<=l.length,[],0,Ad _,Gc,Gb,?_⟩;intro k hk;refine z00 (λhc=>?_) λhc=>?_
 ·have hlt:=z0z (f:=eInt) rfl hc;obtain⟨x,hx,ht,hd,_⟩:=z0p hlt;exact⟨z02 (f:=eInt) hx,rfl,z02 (f:=eInt) hx,rfl,z00 (λh2=>absurd h2 sI0) λ_=>⟨z01 rfl oM0,k+1,z03 hlt,hlt,Gc,Gb,rfl,rfl,rfl,rfl⟩⟩
 ·exact⟨sI,Gb⟩
theorem sc_alike(a b:Rs)(h1:b.st=a.st)(h2:b.code=a.code)(h3:b.out=a.out):SC Tryz.prog 53 [.pv (runv a),.pv (runv b)] [] (λk=>k∈[]) (iBool true) []:=by
 refine SC.vc tb {} [] Tryz.func53 rfl rfl ?_;have hS:=y4v a.out;obtain⟨ins,ar,st,code,out,cost,fuel,spent⟩:=a;obtain⟨ins',ar',st',code',out',cost',fuel',spent'⟩:=b;obtain rfl:st'=st:=h1;obtain rfl:code'=code:=h2;obtain rfl:out'=out:=h3;refine z00 (λ_=>?_) λh=>absurd h sI0;refine z00 (λ_=>?_) λh=>absurd h sI0;exact⟨[],hS,sR,Gb,rfl,sI,Gb⟩
def Fol(a b:Rs):Prop:=(a.st=0/\a.out <+: b.out)∨(a.st≠0/\b.st=a.st/\b.code=a.code/\b.out=a.out)
theorem y4m(a b:Rs)(h:Fol a b)(hb:b.out.length<=1073741824):SC Tryz.prog 28 [.pv (runv a),.pv (runv b)] [] (λk=>k∈[]) (iBool true) []:=by
 refine SC.vc tb {} [] Tryz.func28 rfl rfl ?_;rcases h with⟨h1,h2⟩|⟨h1,h2,h3,h4⟩
 ·have hS:=y4v a.out;obtain⟨ins,ar,st,code,out,cost,fuel,spent⟩:=a;obtain⟨ins',ar',st',code',out',cost',fuel',spent'⟩:=b;obtain rfl:st=0:=h1;obtain⟨t,rfl⟩:∃t,out++t=out':=h2;refine z00 (λ_=>?_) λh=>absurd h (by simp;omega);exact⟨out.length,by simp,by omega,by simp,zl2,[],hS,SubA.same (SubA.cons (sE (by simp[ints])) sR),Gb,rfl,sI,Gb⟩
 ·have hA:=sc_alike a b h2 h3 h4;obtain⟨ins,ar,st,code,out,cost,fuel,spent⟩:=a;refine z00 (λh=>absurd (by simpa using h) h1) λ_=>?_;exact⟨[],hA,sR,Gb,rfl,sI,Gb⟩
def runA(u:Un)(ins:List Int)(fuel:Int):Rs:={ run0 ins fuel with ar:=u.arrays.map λa=>List.replicate a.size.toNat 0 }
theorem y6h(u:Un)(ins:List Int){fuel:Int}(h0:0<=fuel){B M:Int}(hB:fuel<=B)(hM:fuel<=M):Inv u.arrays.length B M (runA u ins fuel):=by
 have e:(runA u ins fuel).fuel=fuel:=by show(if fuel<0 then 0 else fuel)=fuel;rw[if_neg oM0]
 refine⟨⟨by rw[e];exact h0,D1 _,by rw[e];show(0:Int)+fuel<=B;omega⟩,by rw[e];show((0:Nat):Int)+fuel<=M;omega,by simp[runA]⟩
theorem main_ok{u:Un}(h:(z17 u).1=0):0<=z05 z0s u.flows 0/\∃g,u.flows[(z05 z0s u.flows 0).toNat]?=some g/\g.params=0:=by
 obtain⟨h1,_⟩:=(zb1 u).1 h;unfold z1f at h1;simp only[A0]at h1;have h2:=h1.2;unfold za3 at h2;simp only[A0,Bj,Au]at h2;obtain⟨⟨h3,h4⟩,h5⟩:=h2;obtain⟨j,hj,hjl⟩:=zr9 z0s u.flows 0 oM0 h3;refine⟨h3,_,A8 oM0,?_⟩;rw[Ax,A8 oM0]at h5;exact h5
theorem y6i{u:Un}(hz:(z17 u).1=0)(ins:List Int){fuel:Int}(h0:0<=fuel){B M:Int}(hB:B<=4611686018427387903)(hM:M<=1073741824)(hfB:fuel<=B)(hfM:fuel<=M) :
 ∃d r,z3z u d (z05 z0s u.flows 0) [] (runA u ins fuel)=some r/\Inv u.arrays.length B M r.2:=by
 obtain⟨m1,g,m2,m3⟩:=main_ok hz;have hi:=y6h u ins h0 hfB hfM;have e:(runA u ins fuel).fuel=fuel:=by show(if fuel<0 then 0 else fuel)=fuel;rw[if_neg oM0]
 obtain⟨r,h1,h2⟩:=(j4f hB hM rfl (vf_of hz) (3*fuel.toNat+2)).2.2.1 _ [] _ m1 ⟨g,m2,by rw[m3];rfl⟩ hi (by rw[e];omega);exact⟨_,r,h1,h2⟩
structure URel(u v:Un):Prop where
 ar:v.arrays=u.arrays
 pl:∀name,z05 name v.flows 0=z05 name u.flows 0
 fl:∀(i:Nat) f g,u.flows[i]?=some f->v.flows[i]?=some g->FRel (uSz u.flows) f g
theorem j4m:∀{l:List Fl}{f:Fl},f∈l->lsz f.body<=uSz l
 |g::r,f,h=>by
  rcases Ao.1 h with rfl|h
  ·simp only[uSz];omega
  ·have:=j4m h;simp only[uSz];omega
theorem yn3(m:Bool){u v:Un}(R:URel u v)(ins:List Int){F F':Int}(h0:0<=F)(h0':0<=F'){B M:Int}(hB:B<=4611686018427387903)(hfB:F<=B)(hfB':F'<=B)(hfM:F<=M)(hfM':F'<=M)
 (hG:G m (uSz u.flows) 0 (uSz u.flows+1) F F') {d d':Nat} {q q':Int×Rs} (h:z3z u d (z05 z0s u.flows 0) [] (runA u ins F)=some q) (h':z3z v d' (z05 z0s v.flows 0) [] (runA v ins F')=some q'):RC m (uSz u.flows) q q':=by
 have e:∀(u:Un){fuel:Int},0<=fuel->(runA u ins fuel).fuel=fuel:=λu fuel h0=>by show(if fuel<0 then 0 else fuel)=fuel;rw[if_neg oM0]
 rw[R.pl]at h';refine y7n (B:=B) hB R.ar R.pl R.fl (d+1) d d' _ [] _ _ _ _ (Aa _) h h' (y6h u ins h0 hfB hfM).ok (y6h v ins h0' hfB' hfM').ok ⟨⟨⟨rfl,rfl⟩,⟨rfl,rfl⟩,rfl,?_,rfl,rfl⟩,?_,?_⟩
 ·simp only[runA,R.ar]
 ·rw[e u h0,e v h0'];exact hG
 ·exact D1 _
theorem zd8{q:Int×Rs}(h:z11 q.2=true):mEnd q=q.2:=if_pos h
theorem zy6{q:Int×Rs}(h:Live q.2):mEnd q={ q.2 with st:=1,code:=q.1 }:=if_neg (by rw[z0t h];decide)
theorem zq7(q:Int×Rs):(mEnd q).out=q.2.out:=by unfold mEnd;split<;>rfl
theorem rc_fol{N:Nat}{q q':Int×Rs}(h:RC true N q q'):Fol (mEnd q) (mEnd q')/\((mEnd q).st≠0->(mEnd q').cost<=(mEnd q).cost/\(mEnd q).fuel<=(mEnd q').fuel):=by
 cases h with
 |ok hv hr =>
  rw[zy6 hr.al.l,zy6 hr.al.l'];have hg:=hr.g;unfold G at hg;simp only[C8]at hg;have hc:=hr.co
  exact⟨.inr ⟨show(1:Int)≠0 by decide,rfl,hv,hr.al.out⟩,λ_=>⟨by simpa using hc,by simpa using hg⟩⟩
 |halt hh =>
  obtain⟨o1,o2⟩:=hh.over;rw[zd8 o1,zd8 o2]
  exact⟨.inr ⟨hh.st,hh.st',hh.code,hh.out⟩,λ_=>⟨hh.co,hh.fu rfl⟩⟩
 |cut hc =>
  unfold Cut at hc;simp only[C8]at hc;have e:=zd8 (z7d hc.1);refine⟨.inl ⟨by rw[e];exact hc.2.1,by rw[zq7,zq7];exact hc.2.2⟩,λh=>absurd (by rw[e];exact hc.2.1) h⟩
theorem rc_fol2{N:Nat}{q q':Int×Rs}(h:RC false N q q'):Fol (mEnd q') (mEnd q):=by
 cases h with
 |ok hv hr =>
  rw[zy6 hr.al.l,zy6 hr.al.l']
  exact .inr ⟨show(1:Int)≠0 by decide,rfl,hv.symm,hr.al.out.symm⟩
 |halt hh =>
  obtain⟨o1,o2⟩:=hh.over;rw[zd8 o1,zd8 o2]
  exact .inr ⟨by rw[hh.st'];exact hh.st,hh.st'.symm,hh.code.symm,hh.out.symm⟩
 |cut hc =>
  unfold Cut at hc;simp only[Ap,By]at hc;have e:=zd8 (z7d hc.1);exact .inl ⟨by rw[e];exact hc.2.1,by rw[zq7,zq7];exact hc.2.2⟩
def EqW(s S:List Int):VR:=λa b=>∀x∈S,x∈s->getV a x=getV b x
def WE(s:List Int)(h:Hd)(y lv:Bool)(S0 S1:List Int):ER:=λn p p' a b =>
 (n=12/\y=true/\p.length=h.yield.length/\p'=z0j s p h.yield/\EqW s S0 a b)∨(n=13/\p.length=h.next.length/\p'=z0j s p h.next/\EqW s S1 a b) ∨
 (n=14/\lv=true/\p.length=h.left.length/\p'=z0j s p h.left/\EqW s S1 a b)∨(n=15/\p'=p)
theorem EqW.sub{s S T:List Int}{a b:List Int}(h:EqW s S a b)(ht:∀x∈T,x∈S):EqW s T a b:=λx hx hs=>h x (ht x hx) hs
theorem y0x:∀{a l p:List Int},mOf a l=some p->p.length=l.length
 |_,[],_,h=>by cases h;rfl
 |a,i::r,p,h=>by
  simp only[mOf,Am,A5]at h;obtain⟨y,_,q,h2,rfl⟩:=h;simp[y0x h2]
theorem zz3{s:List Int}{a b:List Int}:∀{l to p:List Int},mOf a l=some p->(∀v∈z0j s l to,getV a v=getV b v)->mOf b (z0j s l to)=some (z0j s p to)
 |[],to,p,h,_=>by cases h;rfl
 |i::r,[],p,h,_=>by
  simp only[mOf,Am,A5]at h;obtain⟨y,_,q,h2,rfl⟩:=h
  simp[z0j,mOf]
 |i::r,t::to,p,h,hk=>by
  simp only[mOf,Am,A5]at h;obtain⟨y,h1,q,h2,rfl⟩:=h;unfold z0j at hk⊢;split
  ·rename_i ht;rw[if_pos ht]at hk;simp only[mOf,Am,A5];exact⟨y,by rw[<- hk i (.head _)];exact h1,_,zz3 h2 λv hv=>hk v (.tail _ hv),rfl⟩
  ·rename_i ht;rw[if_neg ht]at hk;exact zz3 h2 hk
theorem EqW.mset{s:List Int}:∀{o p S a b a2 b2:List Int},EqW s S a b->p.length=o.length->mSet a o p=some a2->mSet b (z0j s o o) (z0j s p o)=some b2->EqW s (S++o) a2 b2
 |[],p,S,a,b,a2,b2,h,hl,h1,h2=>by
  cases h1
  have:p=[]:=At hl;subst this
  cases h2;simpa using h
 |i::r,[],S,a,b,a2,b2,h,hl,h1,h2=>by simp at hl
 |i::r,y::p,S,a,b,a2,b2,h,hl,h1,h2=>by
  obtain⟨y',p',a1,e,g1,g2⟩:=y0y h1;obtain⟨rfl,rfl⟩:=List.cons.inj e;have hl':p.length=r.length:=by simpa using hl
  unfold z0j at h2
  by_cases hi:s.contains i=true
  ·rw[if_pos hi,if_pos hi]at h2;obtain⟨y'',p'',b1,e,g1',g2'⟩:=y0y h2;obtain⟨rfl,rfl⟩:=List.cons.inj e;have h3:EqW s (S++[i]) a1 b1:=λx hx hs=>by
    rw[zd9 g1,zd9 g1']
    by_cases e:x=i
    ·rw[if_pos e,if_pos e]
    ·rw[if_neg e,if_neg e];rcases B4.1 hx with hx|hx
     ·exact h x hx hs
     ·exact absurd (Ak.1 hx) e
   have:=EqW.mset h3 hl' g2 g2';simpa using this
  ·rw[if_neg hi,if_neg hi]at h2;have h3:EqW s (S++[i]) a1 b:=λx hx hs=>by
    have e:x≠i:=λe=>hi (List.contains_iff_mem.2 (e▸hs));rw[zd9 g1,if_neg e];rcases B4.1 hx with hx|hx
    ·exact h x hx hs
    ·exact absurd (Ak.1 hx) e
   have:=EqW.mset h3 hl' g2 h2;simpa using this
theorem EqW.seto{s S outs a b a2 b2:List Int}{y:Int}(h:EqW s S a b)(ho:outs.length<=1)(h1:setO outs a y a2)(h2:setO outs b y b2):EqW s (S++outs) a2 b2:=by
 cases outs with
 |nil=>obtain rfl:a2=a:=h1;obtain rfl:b2=b:=h2;simpa using h
 |cons o os =>
  have:os=[]:=At (by simpa using ho);subst this;intro x hx hs;rw[zd9 h1,zd9 h2]
  by_cases e:x=o
  ·rw[if_pos e,if_pos e]
  ·rw[if_neg e,if_neg e];rcases B4.1 hx with hx|hx
   ·exact h x hx hs
   ·exact absurd (Ak.1 hx) e
theorem zl6(s:List Int):∀(l to:List Int),∀v∈z0j s l to,v∈l
 |[],to,v,h=>by simp[z0j]at h
 |i::r,[],v,h=>by simp[z0j]at h
 |i::r,t::to,v,h=>by
  unfold z0j at h;split at h
  ·rcases Ao.1 h with rfl|h
   ·exact .head _
   ·exact .tail _ (zl6 s r to v h)
  ·exact .tail _ (zl6 s r to v h)
theorem zb6{u:Un}{f:Fl}{s:List Int}(hu:∀g∈u.flows,VF u g):∀(N:Nat)(l:List Nd),SizeOf.sizeOf l<N->∀(deep:Int)(i lp:Bool)(h:Hd)(S:List Int)(y lv:Bool)(S0 S1:List Int),
 l≠[]->HdIn f h->z4k h s l=s->vGo u f deep (whOf f i lp h) S l=true->(∀v∈S0,v∈S)->(∀v∈S1,v∈S)->(z2i l=12->y=true)->(z0i l=true->lv=true)->LRel 0 0 (EqW s S) l [] (z1o s h l) (WE s h y lv S0 S1)
 |0,_,hN,_,_,_,_,_,_,_,_,_,_,_,_,_,_,_,_,_=>absurd hN (Aj _)
 |N+1,[],_,_,_,_,_,_,_,_,_,_,hne,_,_,_,_,_,_,_=>absurd rfl hne
 |N+1,x::l,hN,deep,i,lp,h,S,y,lv,S0,S1,_,hi,hw,hv,s0,s1,hy,hlv=>by
  have hsl:SizeOf.sizeOf l<N:=by have:SizeOf.sizeOf (x::l)=1+SizeOf.sizeOf x+SizeOf.sizeOf l:=rfl;omega
  have hkid:∀q∈x.kids,SizeOf.sizeOf q<N:=λq hq=>B8 (z8o (l:=x::l) (.head _) rfl hq) (Bp hN);have hv0:=hv;unfold vGo at hv;simp only[A0,Au]at hv;obtain⟨⟨⟨_,v2⟩,v3⟩,v4⟩:=hv;have hb:=z4s u f deep _ S v2;have hw0:=hw;unfold z4k at hw;obtain⟨e1,_⟩:=Pre.two (zp6 x h s) (z3h l h _) hw;rw[e1]at hw;rw[show z1o s h (x::l)=z68 s h x++z1o s h l by rw[z1o]];rw[y7c]at e1;rw[zn7];have rest:∀(hl:l≠[]),LRel 0 0 (EqW s (S++x.outs)) l [] (z1o s h l) (WE s h y lv S0 S1):=λhl =>
   zb6 hu N l hsl deep i lp h _ y lv S0 S1 hl hi hw v4 (λv hv=>Cc _ (s0 v hv)) (λv hv=>Cc _ (s1 v hv)) (λe=>hy (by rw[ym1 hl];exact e)) λe=>hlv (by simp[z0i,e])
  by_cases h10:x.kind=10
  ·have n12:¬(x.kind==12)=true:=by simp[h10]
   have n13:¬(x.kind==13)=true:=by simp[h10]
   have n14:¬(x.kind==14)=true:=by simp[h10]
   have p10:(x.kind==10)=true:=by simp[h10]
   rw[if_neg n12,if_neg n13,if_neg n14,if_pos p10]at e1⊢;obtain⟨q0,q1,hk⟩:=z3u hb h10;obtain⟨f1,_⟩:=Pre.two (z4u x.args s) (z5v x.kids _ _) e1;rw[f1,hk]at e1;simp only[z9v]at e1;obtain⟨f3,_⟩:=Pre.two (z3h q0 _ s) (z3h q1 _ _) e1;rw[f3]at e1;rw[z79 u f deep _ S hb h10 hk,w1_of]at v2;simp only[A0,z42]at v2;have hargs:=z2m v2.1.1.1.1;have hwa:=zp5 f1;have hin:HdIn f ⟨x.outs,h.next,h.left⟩:=⟨z1b v2.2,hi.2⟩;have hcl:z08 x=((z2i q0 != 12)&&(z2i q1 != 12)):=by simp[z08,h10,hk,kid0,kid1]
   have hlq:∀q,q=q0∨q=q1->z0i q=true->lv=true:=λq hq' e=>hlv (by
    have:z3f x=true:=by rw[z4d,h10,hk];rcases hq' with rfl|rfl<;>simp[z34,e]
    simp[z0i,this])
   have harg:∀a b p p',EqW s S a b->mOf a x.args=some p->mOf b x.args=some p'->p'[0]?=p[0]?:=λa b p p' hI g g'=>by
    rw[j1d λv hv=>hI v (hargs v hv) (hwa v hv),g']at g;rw[Bx g]
   have hks:z5x s ⟨x.outs,h.next,h.left⟩ x.kids=[z1o s ⟨x.outs,h.next,h.left⟩ q0,z1o s ⟨x.outs,h.next,h.left⟩ q1]:=by rw[hk];simp[z5x]
   rw[hks];have kid:∀(yy:Bool) q,(q=q0∨q=q1)->(z2i q=12->yy=true)->LRel 0 0 (EqW s S) q [] (z1o s ⟨x.outs,h.next,h.left⟩ q) (WE s ⟨x.outs,h.next,h.left⟩ yy lv S S1):=by
    intro yy q hq hyy;rcases hq with rfl|rfl
    ·exact zb6 hu N q (hkid q (by rw[hk];simp)) _ _ _ _ S yy lv S S1 (by simpa using v2.1.1.1.2.1) hin f3 v2.1.1.1.2.2 (λ_ h=>h) s1 hyy (hlq q (.inl rfl))
    ·exact zb6 hu N q (hkid q (by rw[hk];simp)) _ _ _ _ S yy lv S S1 (by simpa using v2.1.1.2.1) hin e1 v2.1.1.2.2 (λ_ h=>h) s1 hyy (hlq q (.inr rfl))
   have other:∀{yy:Bool}{n:Int}{p p' a b:List Int},n≠12->WE s ⟨x.outs,h.next,h.left⟩ yy lv S S1 n p p' a b->n≠12/\n≠0/\(([]:List KF)=[]∨n=15)/\WE s h y lv S0 S1 n p p' a b:=by
    intro yy n p p' a b hn he;rcases he with⟨e,_⟩|e|e|e
    ·exact absurd e hn
    ·exact⟨hn,by rw[e.1];decide,.inl rfl,.inr (.inl e)⟩
    ·exact⟨hn,by rw[e.1];decide,.inl rfl,.inr (.inr (.inl e))⟩
    ·exact⟨hn,by rw[e.1];decide,.inl rfl,.inr (.inr (.inr e))⟩
   cases hcx:z08 x with
   |true =>
    rw[hcx]at hcl;have hcl2:z2i q0≠12/\z2i q1≠12:=by simpa using hcl.symm
    refine .ite (J:=λ_ _=>False) (E2:=WE s ⟨x.outs,h.next,h.left⟩ false lv S S1) h10 h10 hk rfl harg (kid false q0 (.inl rfl) λe=>absurd e hcl2.1) (kid false q1 (.inr rfl) λe=>absurd e hcl2.2) (λn p p' a b he=>?_) (.dead λ_ _ h=>h)
    by_cases hn:n=12
    ·rcases he with⟨_,e,_⟩|⟨e,_⟩|⟨e,_⟩|⟨e,_⟩
     ·cases e
     all_goals rw[e]at hn;exact absurd hn dC0
    ·exact .inr (other hn he)
   |false =>
    have hl:l≠[]:=by rw[hcx]at v3;intro e;rw[e]at v3;cases v3
    refine .ite (J:=EqW s (S++x.outs)) (E2:=WE s ⟨x.outs,h.next,h.left⟩ true lv S S1) h10 h10 hk rfl harg (kid true q0 (.inl rfl) λ_=>rfl) (kid true q1 (.inr rfl) λ_=>rfl) (λn p p' a b he=>?_) (rest hl)
    by_cases hn:n=12
    ·rcases he with⟨e,_,e2,rfl,e3⟩|⟨e,_⟩|⟨e,_⟩|⟨e,_⟩
     ·exact .inl ⟨e,λa2 b2 g g'=>e3.mset e2 g g'⟩
     all_goals rw[e]at hn;exact absurd hn dC0
    ·exact .inr (other hn he)
  by_cases h11:x.kind=11
  ·have n12:¬(x.kind==12)=true:=by simp[h11]
   have n13:¬(x.kind==13)=true:=by simp[h11]
   have n14:¬(x.kind==14)=true:=by simp[h11]
   have n10:¬(x.kind==10)=true:=by simp[h11]
   have p11:(x.kind==11)=true:=by simp[h11]
   rw[if_neg n12,if_neg n13,if_neg n14,if_neg n10,if_pos p11]at e1⊢;obtain⟨q,hk⟩:=z2a hb h11;obtain⟨f1,_⟩:=Pre.two (z2v x.args x.params s) (z5v x.kids _ _) e1;rw[f1,hk]at e1;simp only[z9v]at e1;rw[z4t u f deep _ S hb h11 hk,w2_of]at v2;simp only[A0,z42]at v2;have hargs:=z2m v2.1.1.1.1;have hp:inR f.types.length x.params:=z1b v2.1.1.1.2;have hpl:x.args.length=x.params.length:=y2o hp v2.1.1.1.1;have hin:HdIn f ⟨[],x.params,x.outs⟩:=⟨λv hv=>by simp at hv,hp,z1b v2.2⟩;have hcl:z08 x = !z0i q:=by simp[z08,h11,hk,kid0]
   have hqne:q≠[]:=by simpa using v2.1.1.2.1
   have hks:z5x s ⟨[],x.params,x.outs⟩ x.kids=[z1o s ⟨[],x.params,x.outs⟩ q]:=by rw[hk];simp[z5x]
   rw[hks];have body:LRel 0 0 (EqW s (S++x.params)) q [] (z1o s ⟨[],x.params,x.outs⟩ q) (WE s ⟨[],x.params,x.outs⟩ false (z0i q) [] S) :=
    zb6 hu N q (hkid q (by rw[hk];simp)) _ _ _ _ (S++x.params) false (z0i q) [] S hqne hin e1 v2.1.1.2.2 (λ_ h=>by simp at h) (λv hv=>Cc _ hv) (λe=>by have:=j18 v2.1.1.2.2 e;cases this) (λe=>e)
   have hh:=z6b f1;have ent:∀a b p p' a2 b2,EqW s S a b->mOf a x.args=some p->mOf b (z0j s x.args x.params)=some p'->mSet a x.params p=some a2->mSet b (z0j s x.params x.params) p'=some b2->EqW s (S++x.params) a2 b2:=by
    intro a b p p' a2 b2 hI g g' t t';have hsub:∀v∈z0j s x.args x.params,v∈x.args:=zl6 s x.args x.params;rw[zz3 g λv hv=>hI v (hargs v (hsub v hv)) (hh v hv)]at g'
    cases g'
    exact hI.mset ((y0x g).trans hpl) t t'
   cases hcx:z08 x with
   |true =>
    rw[hcx]at hcl;refine .loop (J:=λ_ _=>False) (E2:=WE s ⟨[],x.params,x.outs⟩ false (z0i q) [] S) h11 h11 hk rfl ent body (λn p p' a b he=>?_) (.dead λ_ _ h=>h);rcases he with⟨_,e,_⟩|⟨e1,e2,rfl,e3⟩|⟨_,e2,_⟩|⟨e1,e2⟩
    ·cases e
    ·exact .inr (.inr ⟨e1,λa2 b2 t t'=>e3.mset e2 t t'⟩)
    ·rw[e2]at hcl;cases hcl
    ·exact .inl ⟨e1,.inr (.inr (.inr ⟨rfl,e2⟩))⟩
   |false =>
    have hl:l≠[]:=by rw[hcx]at v3;intro e;rw[e]at v3;cases v3
    refine .loop (J:=EqW s (S++x.outs)) (E2:=WE s ⟨[],x.params,x.outs⟩ false (z0i q) [] S) h11 h11 hk rfl ent body (λn p p' a b he=>?_) (rest hl);rcases he with⟨_,e,_⟩|⟨e1,e2,rfl,e3⟩|⟨e1,_,e2,rfl,e3⟩|⟨e1,e2⟩
    ·cases e
    ·exact .inr (.inr ⟨e1,λa2 b2 t t'=>e3.mset e2 t t'⟩)
    ·exact .inr (.inl ⟨e1,λa2 b2 t t'=>e3.mset e2 t t'⟩)
    ·exact .inl ⟨e1,.inr (.inr (.inr ⟨rfl,e2⟩))⟩
  have e10:(x.kind==10)=false:=by simpa using h10
  have e11:(x.kind==11)=false:=by simpa using h11
  rw[z1x u f deep _ S hb e10 e11]at v2;obtain⟨a1,a2,a3,a4,a5⟩:=y2g v2;obtain⟨_,_,_,_,t12,t13,t14,_⟩:=smp_ok hu v2;have cl:z08 x=z0v x.kind:=by unfold z08;rw[e10,e11];rfl
  have endNil:z0v x.kind=true->l=[]:=λe=>by
   rw[cl,e]at v3
   cases l with
   |nil=>rfl
   |cons z r=>cases v3
  have handed:∀(to:List Int) a b p p',z14 s x.args to=s->EqW s S a b->mOf a x.args=some p->mOf b (z0j s x.args to)=some p'->p'=z0j s p to:=by
   intro to a b p p' hh hI g g';have hsub:∀v∈z0j s x.args to,v∈x.args:=zl6 s x.args to;rw[zz3 g λv hv=>hI v (a1 v (hsub v hv)) (z6b hh v hv)]at g';exact(Bx g').symm
  by_cases h12:x.kind=12
  ·have p12:(x.kind==12)=true:=by simp[h12]
   rw[if_pos p12]at e1⊢;have hl0:=endNil (by rw[h12];rfl);refine .ender oM0 oM0 rfl (.inl rfl) λa b p p' hI g g'=>.inl ⟨h12,hy (by rw[hl0,yl3,h12];rfl),?_,handed _ a b p p' e1 hI g g',hI.sub s0⟩;rw[y0x g,(t12 h12).2];exact z9i hi.1
  rw[if_neg (by simpa using h12)]at e1⊢
  by_cases h13:x.kind=13
  ·have p13:(x.kind==13)=true:=by simp[h13]
   rw[if_pos p13]at e1⊢;refine .ender (by show(12:Int)<=x.kind;omega) oM0 rfl (.inl rfl) λa b p p' hI g g'=>.inr (.inl ⟨h13,?_,handed _ a b p p' e1 hI g g',hI.sub s1⟩);rw[y0x g,t13 h13];exact z9i hi.2.1
  rw[if_neg (by simpa using h13)]at e1⊢
  by_cases h14:x.kind=14
  ·have p14:(x.kind==14)=true:=by simp[h14]
   rw[if_pos p14]at e1⊢;refine .ender (by show(12:Int)<=x.kind;omega) oM0 rfl (.inl rfl) λa b p p' hI g g'=>.inr (.inr (.inl ⟨h14,hlv (by simp[z0i,z4d,h14]),?_,handed _ a b p p' e1 hI g g',hI.sub s1⟩));rw[y0x g,t14 h14];exact z9i hi.2.2
  rw[if_neg (by simpa using h14),if_neg (by simpa using h10),if_neg (by simpa using h11)]at e1⊢
  by_cases hd:(z16 x && !s.contains (x.outs.headD 0))=true
  ·rw[if_pos hd,Dn];simp only[A0,Bc]at hd;obtain⟨hHL,o,ho⟩:=a3 hd.1;have hl:l≠[]:=by rw[(z7h hd.1).2.2.1]at v3;intro e;rw[e]at v3;cases v3
   refine .skip (J:=EqW s (S++x.outs)) hHL (λa b a2' hI ha=>?_) (rest hl);obtain⟨p,z,o1,_,_,g3,g4⟩:=ha;rw[ho]at g3⊢;obtain rfl:o=o1:=by simpa using g3
   have hos:o∉s:=λh=>by
    rw[ho]at hd;have:=hd.2;simp[h]at this
   intro v hv hs;have e:v≠o:=λe=>hos (e▸hs);rw[zd9 g4,if_neg e];rcases B4.1 hv with hv|hv
   ·exact hI v hv hs
   ·exact absurd (Ak.1 hv) e
  ·rw[if_neg hd];have hc:(!z16 x||s.contains (x.outs.headD 0))=true:=by
    cases h1:z16 x<;>cases h2:s.contains (x.outs.headD 0)<;>simp_all
   rw[if_pos hc]at e1;have hwa:=zp5 e1;have hof:∀{a b},EqW s S a b->mOf a x.args=mOf b x.args:=λhI=>j1d λv hv=>hI v (a1 v hv) (hwa v hv);rw[List.singleton_append]
   cases hm:z16 x with
   |true =>
    obtain⟨hHL,o,ho⟩:=a3 hm;have hl:l≠[]:=by rw[(z7h hm).2.2.1]at v3;intro e;rw[e]at v3;cases v3
    refine .both (J:=EqW s (S++x.outs)) hHL hHL (Ae _) (λa b a2' b2' hI ha hb2=>?_) (rest hl);obtain⟨p,z,o1,g1,g2,g3,g4⟩:=ha;obtain⟨p',z',o1',g1',g2',g3',g4'⟩:=hb2;rw[hof hI,g1']at g1
    cases g1
    rw[g2']at g2;cases g2
    obtain rfl:o1=o1':=by rw[g3]at g3';exact Bx g3'
    rw[ho]at g3⊢;obtain rfl:o=o1:=by simpa using g3
    exact hI.seto (outs:=[o]) sI0 g4 g4'
   |false =>
    have n1:x.kind≠1:=λe=>by rw[z16,e]at hm;cases hm
    have n2:x.kind≠2:=λe=>by rw[z16,e]at hm;cases hm
    by_cases h15:x.kind=15
    ·refine .ender oM0 oM0 rfl (.inl rfl) λa b p p' hI g g'=>.inr (.inr (.inr ⟨h15,?_⟩));rw[hof hI,g']at g;exact Bx g
    ·have hE:¬12<=x.kind:=λh=>by have:=a5 h;omega
     have hl:l≠[]:=by
      rw[cl,show z0v x.kind=false by simp[z0v];omega]at v3;intro e;rw[e]at v3;cases v3
     refine .eff (J:=EqW s (S++x.outs)) ⟨n1,n2,h10,h11,h12,h13,h14,h15⟩ rfl rfl rfl rfl (λa b p p' hI g g'=>?_) (λa b a2' b2' z hI ha hb2=>hI.seto a2 ha hb2) (rest hl);rw[hof hI,g']at g;exact Bx g
theorem j5b{u:Un}(hz:(z17 u).1=0){f:Fl}(hf:f∈u.flows):FRel (uSz u.flows) f (z5c wB f):=by
 refine⟨rfl,j4m hf,?_⟩;obtain⟨v1,_⟩:=vf_of hz f hf;simp only[z42,A0]at v1;have hr:=zb6 (u:=u) (f:=f) (s:=wSet f.body) (vf_of hz) _ f.body (Aa _) 1 false false hd0 (iota f.params.toNat) true true [] [] (by simpa using v1.1) (hd0_in f) (yr3 f.body) v1.2 (λ_ h=>by simp at h) (λ_ h=>by simp at h) (λ_=>rfl) λ_=>rfl;refine .weak (λa b h=>?_) (hr.monoE λn p p' a b h=>?_)
 ·rw[h.1];exact λ_ _ _=>rfl
 ·unfold EF;rcases h with⟨_,_,e,rfl,_⟩|⟨_,e,rfl,_⟩|⟨_,_,e,rfl,_⟩|⟨_,rfl⟩
  ·have:p=[]:=At e;subst this;rfl
  ·have:p=[]:=At e;subst this;rfl
  ·have:p=[]:=At e;subst this;rfl
  ·rfl
theorem want_rel{u:Un}(hz:(z17 u).1=0):URel u (z3s wB u):=by
 refine⟨rfl,λname=>zr8 wB name u.flows 0,λi f g h h'=>?_⟩;have:(z3s wB u).flows[i]?=(u.flows[i]?).map (z5c wB):=Ba ..;rw[h',h]at this;obtain rfl:g=z5c wB f:=Bx this;exact j5b hz (Ag h)
section
structure Bd(a b:Nat)(g g':Gn):Prop where
 lf:g'.left<=g.left
 ps:g'.pos+60*g'.left<=g.pos+60*g.left+a
 t1:g.types.length<=g'.types.length
 t2:g'.types.length+10*g'.left<=g.types.length+10*g.left+b
section
variable (l:List UInt8)
end
section
variable (l:List UInt8)
end
end
theorem y5o{m n z:Int}(hn:n≠0)(h:m.tdiv n=z)(h1:-9223372036854775808<=z/\z<=9223372036854775807):z3c .quo .i64 m n=some (.int .i64 z):=by
 subst h;simp only[z3c];rw[if_neg hn,Cw _ h1]
theorem j2t(u v:Un)(hW:z0g u<=34000000000)(ins:List Int)(fuel q:Int)(hf:0<=fuel/\fuel<=1000000)(hq:fuel.tdiv 4=q)(a b c d:Rs)
 (hA:SC Tryz.prog 16 [.pv u.enc,.pv (ints ins),iInt fuel] [] (λ_=>False) (.pv (runv a)) [])
 (hB:SC Tryz.prog 16 [.pv v.enc,.pv (ints ins),iInt fuel] [] (λ_=>False) (.pv (runv b)) [])
 (hC:SC Tryz.prog 16 [.pv v.enc,.pv (ints ins),iInt q] [] (λ_=>False) (.pv (runv c)) [])
 (hD:SC Tryz.prog 16 [.pv u.enc,.pv (ints ins),iInt ((q+1)*((uSz u.flows:Int)+1))] [] (λ_=>False) (.pv (runv d)) [])
 (h1:Fol a b) (h2:a.st≠0->b.cost<=a.cost/\a.fuel<=b.fuel) (h3:Fol c d) (hb:b.out.length<=1073741824) (hd:d.out.length<=1073741824) :
 SC Tryz.prog 12 [.pv u.enc,.pv v.enc,.pv (ints ins),iInt fuel] [] (λk=>k∈[]) (iBool true) []:=by
 refine SC.vc tb {} [] Tryz.func12 rfl rfl ?_;have hF1:=y4m a b h1 hb;have hF2:=y4m c d h3 hd;have hN:=sc_nodes u hW;have hw:=uSz_W u.flows;have hw2:wtF u.flows<=z0g u:=by unfold z0g;omega
 have hqb:0<=q/\q<=1000000:=by
  rw[<- hq,Ed hf.1];omega
 have hm:-9223372036854775808<=(q+1)*((uSz u.flows:Int)+1)/\(q+1)*((uSz u.flows:Int)+1)<=9223372036854775807:=by
  have x1:0<=(q+1)*((uSz u.flows:Int)+1):=Fz oM0 oM0;have x2:(q+1)*((uSz u.flows:Int)+1)<=1000001*34000000001:=Int.mul_le_mul oM0 oM0 oM0 oM0;omega
 obtain⟨ains,aar,ast,acode,aout,acost,afuel,asp⟩:=a;obtain⟨bins,bar,bst,bcode,bout,bcost,bfuel,bsp⟩:=b;dsimp only at h2;refine⟨[],hA,sR,Gb,rfl,[],hB,sR,Gb,rfl,[],hF1,sR,Gb,rfl,?_⟩;refine z00 (λh5=>?_) λh5=>?_
 ·have hst:ast≠0:=by simpa using h5
  obtain⟨c1,c2⟩:=h2 hst;refine z00 (λh6=>absurd h6 (by simp;omega)) λ_=>z00 (λh6=>absurd h6 (by simp;omega)) λ_=>?_;exact⟨y5o dC0 hq oM0,[],hC,sR,Gb,rfl,y5o dC0 hq oM0,z01 rfl oM0,[],hN,sR,Gb,rfl,z01 rfl oM0,y5n rfl hm,[],hD,sR,Gb,rfl,[],hF2,sR,Gb,rfl,sI,Gb⟩
 ·exact⟨y5o dC0 hq oM0,[],hC,sR,Gb,rfl,y5o dC0 hq oM0,z01 rfl oM0,[],hN,sR,Gb,rfl,z01 rfl oM0,y5n rfl hm,[],hD,sR,Gb,rfl,[],hF2,sR,Gb,rfl,sI,Gb⟩
theorem gA_mem{A:Ar}(u:Un):∀(l:List Ar)(p:Int),r8gA u l p=true->A∈l->0<=A.size/\A.size<=1000
 |[],_,_,h=>by cases h
 |B::r,p,h1,h=>by
  simp only[r8gA,gArr,A0,Bc,Ci]at h1;rcases Ao.1 h with rfl|h
  ·omega
  ·exact gA_mem u r _ h1.2 h
theorem arr_size{u:Un}{A:Ar}(hz:(z17 u).1=0)(h:A∈u.arrays):0<=A.size/\A.size<=1000:=by
 obtain⟨h1,_⟩:=(zb1 u).1 hz;unfold z1f at h1;simp only[A0]at h1;exact gA_mem _ _ _ h1.1.1 h
theorem yq0(u:Un)(h1:u.arrays.length<=2)(hW:z0g u<=34000000000)(hz:(z17 u).1=0)(ins:List Int)(fuel:Int)(d:Nat)(r:Int×Rs)(h:z3z u d (z05 z0s u.flows 0) [] (runA u ins fuel)=some r) :
 SC Tryz.prog 16 [.pv u.enc,.pv (ints ins),iInt fuel] [] (λ_=>False) (.pv (runv (mEnd r))) []:=by
 have hs:=@arr_size u;obtain⟨ar,fs⟩:=u;rcases ar with _|⟨A,_|⟨A2,_|⟨A3,t⟩⟩⟩
 ·exact j44 fs hW hz ins fuel d r h
 ·exact sr_run1 fs A hW hz ins fuel d r h (hs hz (.head _))
 ·exact sr_run2 fs A A2 hW hz ins fuel d r h (hs hz (.head _)) (hs hz (.tail _ (.head _)))
 ·simp at h1
theorem yf5{u v:Un}(R:URel u v)(h1:u.arrays.length<=2)(hW:z0g u<=34000000000)(hW':z0g v<=34000000000)(hz:(z17 u).1=0)(hz':(z17 v).1=0)(hN:uSz u.flows<=4000000)(ins:List Int)(fuel:Int)(hf:0<=fuel/\fuel<=510) :
 SC Tryz.prog 12 [.pv u.enc,.pv v.enc,.pv (ints ins),iInt fuel] [] (λk=>k∈[]) (iBool true) []:=by
 have hq:0<=fuel.tdiv 4/\fuel.tdiv 4<=127:=by rw[Ed hf.1];omega
 have hfD0:0<=(fuel.tdiv 4+1)*((uSz u.flows:Int)+1):=Fz oM0 oM0;have hfD:(fuel.tdiv 4+1)*((uSz u.flows:Int)+1)<=128*4000001:=Int.mul_le_mul oM0 oM0 oM0 oM0;have B:(1073741824:Int)<=4611686018427387903:=by decide
 have M:(1073741824:Int)<=1073741824:=by decide
 have hav:v.arrays.length<=2:=by rw[R.ar];exact h1
 obtain⟨da,qa,ra,ia⟩:=y6i hz ins hf.1 B M oM0 oM0;obtain⟨db,qb,rb,ib⟩:=y6i hz' ins hf.1 B M oM0 oM0;obtain⟨dc,qc,rc,ic⟩:=y6i hz' ins hq.1 B M oM0 oM0;obtain⟨dd,qd,rd,id⟩:=y6i hz ins hfD0 B M oM0 oM0;have k1:=rc_fol (yn3 true R ins hf.1 hf.1 B (M:=1073741824) oM0 oM0 oM0 oM0 (by unfold G;simp) ra rb);have k2:=rc_fol2 (yn3 false R ins hfD0 hq.1 B (M:=1073741824) oM0 oM0 oM0 oM0 (by
  unfold G;simp only[Ap,By];rw[Int.add_mul];generalize fuel.tdiv 4*((uSz u.flows:Int)+1)=P;omega) rd rc)
 have ob:qb.2.out.length<=1073741824:=by have:=ib.out;have:=ib.ok.1;omega
 have od:qd.2.out.length<=1073741824:=by have:=id.out;have:=id.ok.1;omega
 exact j2t u v hW ins fuel (fuel.tdiv 4) oM0 rfl _ _ _ _ (yq0 u h1 hW hz ins fuel da qa ra) (yq0 v hav hW' hz' ins fuel db qb rb) (yq0 v hav hW' hz' ins _ dc qc rc) (yq0 u h1 hW hz ins _ dd qd rd) k1.1 k1.2 k2 (by rw[zq7];exact ob) (by rw[zq7];exact od)
theorem sc_run0(u:Un)(hu:u.arrays=[])(hW:z0g u<=34000000000)(hz:(z17 u).1=0)(ins:List Int)(fuel:Int)(d:Nat)(r:Int×Rs)(h:z3z u d (z05 z0s u.flows 0) [] (run0 ins fuel)=some r):SC Tryz.prog 16 [.pv u.enc,.pv (ints ins),iInt fuel] [] (λ_=>False) (.pv (runv (mEnd r))) []:=by
 obtain⟨ar,fs⟩:=u;obtain rfl:ar=[]:=hu;exact j44 fs hW hz ins fuel d r h
theorem y29:∀(N:Nat)(l:List Nd),SizeOf.sizeOf l<N->∀(v:Int),lsW l<=34359738368->SC Tryz.prog 51 [.pv (z1n l),iInt v] [] (λk=>k∈[]) (iBool (uL v l)) []
 |0,_,h=>absurd h (Aj _)
 |N+1,l,hN=>λv hb=>by
  refine SC.vc tb {} [] Tryz.func51 rfl rfl ?_;have hle:=y5s l;refine⟨Nat,λi=>[(5,iInt ((i:Nat):Int))],λ_=>[],λi=>l.length-i,λi=>i<=l.length/\uL v l=uL v (l.drop i),[],0,⟨Ad _,rfl⟩,Gc,Gb,?_⟩;rintro i ⟨i1,i2⟩;refine z00 (λhc=>?_) λhc=>?_
  ·have hlt:i<l.length:=z0z (f:=Nd.enc) rfl hc;obtain⟨x,x1,x2,x3,x4⟩:=z0p hlt;have hWx:=z7o x;have hWl:=y11 x4;have hkl:=yl2 x.kids;rw[x3,uL,uN_eq]at i2;refine⟨Nat,λj=>[(6,iInt ((j:Nat):Int))],λ_=>[],λj=>x.args.length-j,λj=>j<=x.args.length/\x.args.contains v=(x.args.drop j).contains v,[],0,⟨Ad _,rfl⟩,Gc,Gb,?_⟩;rintro j ⟨j1,j2⟩;refine⟨z07 x1,rfl,z00 (λhc2=>?_) λhc2=>?_⟩
   ·have hlt2:j<x.args.length:=z0z (f:=eInt) rfl hc2;obtain⟨y,y1,y2,y3,y4⟩:=z0p hlt2;rw[y3]at j2;refine⟨z07 x1,rfl,z02 (f:=eInt) y1,rfl,z00 (λh=>?_) λh=>?_⟩
    ·have h:(y==v)=true:=h;rw[cont_eq h]at j2;exact⟨sE (by rw[i2,j2];rfl),Gb⟩
    ·have h:(y==v)=false:=h;rw[cont_ne h]at j2;exact⟨z01 rfl oM0,j+1,z03 hlt2,⟨hlt2,j2⟩,Gc,Gb,rfl,rfl,rfl,rfl⟩
   ·have hge2:x.args.length<=j:=z10 (f:=eInt) rfl hc2;rw[Ab hge2]at j2;rw[show x.args.contains v=false from j2,Bv]at i2;refine⟨Nat,λj=>[(7,iInt ((j:Nat):Int))],λ_=>[],λj=>x.kids.length-j,λj=>j<=x.kids.length/\uK v x.kids=uK v (x.kids.drop j),[],0,⟨Ad _,rfl⟩,Gc,Gb,?_⟩;rintro j ⟨j1,j2⟩;refine⟨z07 x1,rfl,z00 (λhc2=>?_) λhc2=>?_⟩
    ·have hlt2:j<x.kids.length:=z0z (f:=eKid) rfl hc2;obtain⟨q,q1,q2,q3,q4⟩:=z0p hlt2;have hqW:=z6s q4;have hQ:=y29 N q (B8 (z8o x4 rfl q4) (Bp hN)) v oM0;rw[q3,uK]at j2;generalize uL v q=c at hQ j2
     cases c
     ·exact⟨z07 x1,rfl,z02 (f:=eKid) q1,rfl,[],hQ,sR,Gb,rfl,z01 rfl oM0,j+1,z03 hlt2,⟨hlt2,j2⟩,Gc,Gb,rfl,rfl,rfl,rfl⟩
     ·exact⟨z07 x1,rfl,z02 (f:=eKid) q1,rfl,[],hQ,sR,Gb,rfl,sE (by rw[i2,j2];rfl),Gb⟩
    ·have hge2:x.kids.length<=j:=z10 (f:=eKid) rfl hc2;rw[Ab hge2]at j2;rw[j2]at i2;exact⟨z01 rfl oM0,i+1,z03 hlt,⟨hlt,i2⟩,Gc,Gb,rfl,rfl,rfl,rfl⟩
  ·have hge:l.length<=i:=z10 (f:=Nd.enc) rfl hc;rw[Ab hge]at i2;exact⟨sE (by rw[i2];rfl),Gb⟩
theorem zo1(all:List Nd)(ha:lsW all<=34359738368):∀(N:Nat)(l:List Nd),SizeOf.sizeOf l<N->lsW l<=34359738368->SC Tryz.prog 27 [.pv (z1n all),.pv (z1n l)] [] (λk=>k∈[]) (iBool (wdL all l)) []
 |0,_,h,_=>absurd h (Aj _)
 |N+1,l,hN,hb=>by
  refine SC.vc tb { jn:=[6,8] } [] Tryz.func27 rfl rfl ?_;have hle:=y5s l;refine⟨Nat,λi=>[(5,iInt ((i:Nat):Int))],λ_=>[],λi=>l.length-i,λi=>i<=l.length/\wdL all l=wdL all (l.drop i),[],0,⟨Ad _,rfl⟩,Gc,Gb,?_⟩;rintro i ⟨i1,i2⟩;refine z00 (λhc=>?_) λhc=>?_
  ·have hlt:i<l.length:=z0z (f:=Nd.enc) rfl hc;obtain⟨x,x1,x2,x3,x4⟩:=z0p hlt;have hWx:=z7o x;have hWl:=y11 x4;have hkl:=yl2 x.kids;rw[x3,wdL,wdN_eq]at i2;refine⟨z07 x1,rfl,Bool,λb=>[(7,iBool b)],λ_=>[],λb=>y2t x=b,[],?_,?_⟩
   ·refine z00 (λh1=>?_) λh1=>?_
    ·have h1:decide (x.kind<=3)=true:=h1;exact⟨true,by simp only[y2t,h1,B7],Gc,Gb,rfl,rfl,rfl,rfl⟩
    ·have h1:decide (x.kind<=3)=false:=h1;refine z00 (λh2=>?_) λh2=>?_
     ·have h2:(x.kind==4)=true:=h2;refine z00 (λh3=>?_) λh3=>?_
      ·have h3:(x.op != 4)=true:=h3;exact⟨x.op != 5,by simp only[y2t,h1,h2,h3,Bv,B0],Gc,Gb,rfl,rfl,rfl,rfl⟩
      ·have h3:(x.op != 4)=false:=h3;exact⟨false,by simp only[y2t,h1,h2,h3,Bv,B0,Cn],Gc,Gb,rfl,rfl,rfl,rfl⟩
     ·have h2:(x.kind==4)=false:=h2;exact⟨false,by simp only[y2t,h1,h2,Bv,Cn],Gc,Gb,rfl,rfl,rfl,rfl⟩
   ·intro b hI;rw[hI]at i2;refine⟨Unit,λ_=>[],λ_=>[],λ_=>wdL all l=(wdK all x.kids&&wdL all (l.drop (i+1))),[],?_,?_⟩
    ·cases b
     ·exact⟨(),i2,Gb,Gb,rfl,rfl,rfl,rfl⟩
     ·refine z00 (λh=>?_) λh=>?_
      ·have h:(((x.outs.map eInt).length:Int) != 1)=true:=h;rw[Ac]at h;exact⟨sE (by rw[i2,h];rfl),Gb⟩
      ·have h:(((x.outs.map eInt).length:Int) != 1)=false:=h;rw[Ac]at h;have h1:x.outs.length=1:=by simp at h;omega
       obtain⟨o,ho⟩:=C7.1 h1;rw[h,ho]at i2;have hU:=y29 _ all (Aa _) o ha;rw[show[o].getD 0 0=o from rfl]at i2;generalize uL o all=c at hU i2;have g0:(x.outs.map eInt)[0]?=some [vInt o]:=by rw[ho];rfl
       cases c
       ·exact⟨g0,rfl,[],hU,sR,Gb,rfl,sE (by rw[i2];rfl),Gb⟩
       ·exact⟨g0,rfl,[],hU,sR,Gb,rfl,(),i2,Gb,Gb,rfl,rfl,rfl,rfl⟩
    ·rintro _ i2;refine⟨Nat,λj=>[(8,iInt ((j:Nat):Int))],λ_=>[],λj=>x.kids.length-j,λj=>j<=x.kids.length/\wdK all x.kids=wdK all (x.kids.drop j),[],0,⟨Ad _,rfl⟩,Gc,Gb,?_⟩;rintro j ⟨j1,j2⟩;refine z00 (λhc2=>?_) λhc2=>?_
     ·have hlt2:j<x.kids.length:=z0z (f:=eKid) rfl hc2;obtain⟨q,q1,q2,q3,q4⟩:=z0p hlt2;have hqW:=z6s q4;have hQ:=zo1 all ha N q (B8 (z8o x4 rfl q4) (Bp hN)) oM0;rw[q3,wdK]at j2;generalize wdL all q=c at hQ j2
      cases c
      ·exact⟨z02 (f:=eKid) q1,rfl,[],hQ,sR,Gb,rfl,sE (by rw[i2,j2];rfl),Gb⟩
      ·exact⟨z02 (f:=eKid) q1,rfl,[],hQ,sR,Gb,rfl,z01 rfl oM0,j+1,z03 hlt2,⟨hlt2,j2⟩,Gc,Gb,rfl,rfl,rfl,rfl⟩
     ·have hge2:x.kids.length<=j:=z10 (f:=eKid) rfl hc2;rw[Ab hge2]at j2;rw[j2]at i2;exact⟨z01 rfl oM0,i+1,z03 hlt,⟨hlt,i2⟩,Gc,Gb,rfl,rfl,rfl,rfl⟩
  ·have hge:l.length<=i:=z10 (f:=Nd.enc) rfl hc;rw[Ab hge]at i2;exact⟨sE (by rw[i2];rfl),Gb⟩
theorem yp4(u:Un)(hW:z0g u<=34000000000):SC Tryz.prog 11 [.pv u.enc] [] (λk=>k∈[]) (iBool (y58 u)) []:=by
 refine SC.vc tb { pb:=[101] } [] Tryz.func11 rfl rfl ?_;have hw2:u.flows.length<=z0g u:=by unfold z0g;omega
 unfold y58;refine⟨Nat,λi=>[(3,iInt ((i:Nat):Int))],λ_=>[],λi=>u.flows.length-i,λi=>i<=u.flows.length/\(u.flows.all λf=>wdL f.body f.body)=((u.flows.drop i).all λf=>wdL f.body f.body),[],0,⟨Ad _,rfl⟩,Gc,Gb,?_⟩;rintro i ⟨i1,i2⟩;refine z00 (λhc=>?_) λhc=>?_
 ·have hlt:i<u.flows.length:=z0z (f:=Fl.enc) rfl hc;obtain⟨x,x1,x2,x3,x4⟩:=z0p hlt;rw[x3,D2]at i2;have hx:=z99 x4;have hF:=zo1 x.body oM0 _ x.body (Aa _) oM0;generalize wdL x.body x.body=b at hF i2
  cases b
  ·exact⟨z02 (f:=Fl.enc) x1,rfl,z02 (f:=Fl.enc) x1,rfl,[],hF,sR,Gb,rfl,sE (by rw[i2];rfl),Gb⟩
  ·exact⟨z02 (f:=Fl.enc) x1,rfl,z02 (f:=Fl.enc) x1,rfl,[],hF,sR,Gb,rfl,z01 rfl oM0,i+1,z03 hlt,⟨hlt,i2⟩,Gc,Gb,rfl,rfl,rfl,rfl⟩
 ·have hge:u.flows.length<=i:=z10 (f:=Fl.enc) rfl hc;rw[Ab hge]at i2;exact⟨sE (by rw[i2];rfl),Gb⟩
theorem j3o(ts:List Int)(l:List Nd):SC Tryz.prog 15 [.pv (ints ts),.pv (z1n l)] [] (λk=>k∈[]) (.pv (.agg [.val (.slice none 0 0),flws [⟨z0s,1,0,ts,l⟩]])) []:=by
 refine SC.vc tb {} [] Tryz.func15 rfl rfl ?_;exact⟨sI,Gb⟩
def wakeL:List Nd:=[(.mk 1 0 1 ⟨#[]⟩ [] [0] [] []),(.mk 1 0 2 ⟨#[]⟩ [] [1] [] []),(.mk 15 0 0 ⟨#[]⟩ [1] [] [] [])]
def y7e:Un:=⟨[],[⟨z0s,1,0,[1,1],wakeL⟩]⟩
theorem zf6:(z17 y7e).1=0:=by decide +kernel
theorem y2x:z0g y7e<=34000000000:=by decide +kernel
theorem j5a:((z3z (z3s wB y7e) 20 (z05 z0s (z3s wB y7e).flows 0) [] (run0 [] 3)).map λr=>(z11 r.2,r.1))=some (false,2):=by decide +kernel
theorem wake_run:∃r,z3z (z3s wB y7e) 20 (z05 z0s (z3s wB y7e).flows 0) [] (run0 [] 3)=some r/\(mEnd r).st=1/\(mEnd r).code=2:=by
 have h:=j5a;rw[A5]at h;obtain⟨r,h1,h2⟩:=h;simp only[Eb]at h2;refine⟨r,h1,?_,?_⟩
 ·simp only[mEnd,h2.1,Ap,By]
 ·simp only[mEnd,h2.1,Ap,By,h2.2]
def j59:PV:=.seq [[vInt 1,vInt 0,vInt 1,vStr ⟨#[]⟩,.val (.slice none 0 0),.seq [[vInt 0]],.val (.slice none 0 0),.val (.slice none 0 0)],[vInt 1,vInt 0,vInt 2,vStr ⟨#[]⟩,.val (.slice none 0 0),.seq [[vInt 1]],.val (.slice none 0 0),.val (.slice none 0 0)],[vInt 15,vInt 0,vInt 0,vStr ⟨#[]⟩,.seq [[vInt 1]],.val (.slice none 0 0),.val (.slice none 0 0),.val (.slice none 0 0)]]
theorem wake_sub:PSub j59 (z1n wakeL):=by
 show PSub _ (.seq [_,_,_])
 repeat' (first|exact PSub.nil|exact PSub.refl _|exact trivial|refine And.intro ?_ ?_|refine PSub.seq (ps:=[_,_,_]) (qs:=[_,_,_]) ?_|refine PSub.seq (ps:=[_]) (qs:=[_]) ?_)
theorem ys2:z8w wB ⟨[],[]⟩=(⟨[],[]⟩,1):=y49 wB (by decide +kernel)
theorem j2s(L:List Nd)(hL:PSub j59 (z1n L))(V:Un)(hH:z8w wB (⟨[],[⟨z0s,1,0,[1,1],L⟩]⟩:Un)=(V,0))(hW:z0g (⟨[],[⟨z0s,1,0,[1,1],L⟩]⟩:Un)<=34000000000)(hVa:V.arrays=[])(hVl:V.flows.length=1)(hVr:y58 V=true)(hVW:z0g V<=34000000000)(hVz:(z17 V).1=0)(r:Int×Rs)(hr:z3z V 20 (z05 z0s V.flows 0) [] (run0 [] 3)=some r)(h1:(mEnd r).st=1)(h2:(mEnd r).code=2):SC Tryz.prog 6 [] [] (λk=>k∈[]) (iBool true) []:=by
 refine SC.vc tb {} [] Tryz.func6 rfl rfl ?_;have hsc:=yf4 (⟨[],[⟨z0s,1,0,[1,1],L⟩]⟩:Un) hW y31;rw[hH]at hsc;have hse:=yf4 ⟨[],[]⟩ dC0 y31;rw[ys2]at hse;have hR:=yp4 V hVW;rw[hVr]at hR;have hrun:=sc_run0 V hVa hVW hVz [] 3 20 r hr;have hv:runv (mEnd r)=.agg [vInt 1,vInt 2,ints (mEnd r).out,vInt (mEnd r).cost,vInt (mEnd r).fuel]:=by unfold runv;rw[h1,h2]
 rw[hv]at hrun;obtain⟨va,vf⟩:=V;obtain⟨f0,rfl⟩:=C7.1 (show vf.length=1 from hVl);exact⟨[],j3o [1,1] L,SubA.same (SubA.cons (sP hL) SubA.nil),Gb,rfl,[],hsc,SubA.cons (sP (z0c _)) SubA.nil,Gb,rfl,[],hrun,SubA.same (SubA.cons sN sR),Gb,rfl,[],hR,sR,Gb,rfl,[],hse,SubA.cons (sP (z0c _)) SubA.nil,Gb,rfl,sI,Gb⟩
theorem sc_awake:SC Tryz.prog 6 [] [] (λk=>k∈[]) (iBool true) []:=by
 obtain⟨r,hr,h1,h2⟩:=wake_run;have hc:=y3j zf6;exact j2s wakeL wake_sub (z3s wB y7e) (z66 wB zf6) y2x rfl rfl (by have:=y4i y7e;rw[z66 wB zf6]at this;exact this) (by have:=y68 wB y44 y7e;rw[z66 wB zf6]at this;exact B9 this y2x) (by rw[hc]) r hr h1 h2
def riH(p:Pg)(lo:Lo)(vs:List (Value×PV))(s:RiS):List (Nat×HO):=riBx p s.ts lo++riLx vs s.ns
def j22(k:Int)(n:Nat)(b:Bool):Bool:=if k=5 then n==2 else if k=1∨k=2∨k=3∨k=4∨k=6∨k=8 then true else b
mutual
def riOk(p:Pg):Ex->Bool
 |.mk k _ _ nm args=>j22 k args.length (decide (0<=z3n p nm))&&zm9 p args
def zm9(p:Pg):List Ex->Bool
 |[]=>true
 |x::r=>riOk p x&&zm9 p r
end
theorem zd0{p:Pg}{x:Ex}:∀{l:List Ex},zm9 p l=true->x∈l->riOk p x=true
 |y::r,h,hm=>by
  simp only[zm9,A0]at h;rcases Ao.1 hm with rfl|hm
  ·exact h.1
  ·exact zd0 h.2 hm
def fRX(p:Pg)(lo:Lo)(vs:List (Value×PV))(e:Ex):Prop:=∀s:RiS,s.ts.length+4*xz e<=34000000000->s.ns.length+4*xz e<=34000000000->SC Tryz.prog 118 [.ptr 4 0,.pv (exv e)] (riH p lo vs s) (λk=>k∈[]) (iInt (riX p vs e s).1) (riH p lo vs (riX p vs e s).2)
def riLe(s s':RiS)(n:Nat):Prop:=s'.ts.length<=s.ts.length+4*n/\s'.ns.length<=s.ns.length+4*n
theorem riTop_le(p:Pg)(k o n:Int)(nm:ByteArray)(l:List Int)(s:RiS):riLe s (zs5 p k o n nm l s).2 1:=by
 unfold zs5 riLe
 repeat' split
 all_goals simp[z6n]
theorem yv0(o a:Int)(ns:List Nd)(r:Int×RiS):(z6v o a ns r).2.ts.length=r.2.ts.length+2/\(z6v o a ns r).2.ns.length=ns.length+1:=by
 unfold z6v;split<;>simp[z6n]
theorem zw5(p:Pg)(vs:List (Value×PV)):∀(N:Nat),(∀e:Ex,SizeOf.sizeOf e<N->∀s,riLe s (riX p vs e s).2 (xz e))/\(∀l:List Ex,SizeOf.sizeOf l<N->∀s,riLe s (riXL p vs l s).2 (xzL l))/\(∀(o:Int)(l:List Ex),SizeOf.sizeOf l<N->∀s,riLe s (riSh p vs o l s).2 (1+xzL l))/\(∀(o a:Int)(s:RiS)(l:List Ex),SizeOf.sizeOf l<N->riLe s (zn1 p vs o a s l).2 (1+xzL l))
 |0=>⟨λ_ h=>absurd h (Aj _),λ_ h=>absurd h (Aj _),λ_ _ h=>absurd h (Aj _),λ_ _ _ _ h=>absurd h (Aj _)⟩
 |N+1=>by
  obtain⟨h1,h2,h3,h4⟩:=zw5 p vs N;refine⟨λe he s=>?_,λl hl s=>?_,λo l hl s=>?_,λo a s l hl=>?_⟩
  ·obtain⟨k,o,n,nm,args⟩:=e;simp at he;rw[riX];split
   ·exact⟨Bi _ _,Bi _ _⟩
   ·split
    ·have:=h3 o args oM0 s;simp only[xz];exact this
    ·have g1:=h2 args oM0 s;have g2:=riTop_le p k o n nm (riXL p vs args s).1 (riXL p vs args s).2;simp only[xz];unfold riLe at g1 g2⊢;omega
  ·match l with
   |[]=>rw[riXL];exact⟨Bi _ _,Bi _ _⟩
   |e::r =>
    simp at hl;have g1:=h1 e oM0 s;have g2:=h2 r oM0 (riX p vs e s).2;rw[riXL];simp only[xzL];unfold riLe at g1 g2⊢;omega
  ·match l with
   |[]=>rw[riSh];exact⟨Bi _ _,Bi _ _⟩
   |e::r =>
    simp at hl;have g1:=h1 e oM0 s;have g2:=h4 o (riX p vs e s).1 (riX p vs e s).2 r oM0;rw[riSh];simp only[xzL];unfold riLe at g1 g2⊢;omega
  ·match l with
   |[]=>rw[zn1];exact⟨Bi _ _,Bi _ _⟩
   |e::r =>
    simp at hl;have g1:=h1 e oM0 ⟨s.ts,[]⟩;have g2:=yv0 o a s.ns (riX p vs e ⟨s.ts,[]⟩);rw[zn1];simp only[xzL];unfold riLe at g1⊢;dsimp only at g1;omega
def riLk(a b c:Nat)(vs:List (Value×PV))(ns:List Nd):List (Nat×HO):=[(a,.box [.ptr 1 0,.mp b,.sl c (ns.map Nd.enc).length]),(b,.map vs),(c,.row ndRt (ns.map Nd.enc))]
theorem riK14{f:FuncId}{p p':Pg}{ts ts':List Int}{lo lo':Lo}{vs vs':List (Value×PV)}{ns ns':List Nd}{x:PV}{r:PV}(h:SC Tryz.prog f [.ptr 4 0,.pv x] (riBx p ts lo++riLx vs ns) (λk=>k∈[]) (.pv r) (riBx p' ts' lo'++riLx vs' ns')) :
 SC Tryz.prog f [.ptr 14 0,.pv x] (riBx p ts lo++riLk 14 15 16 vs ns) (λk=>k∈[]) (.pv r) (riBx p' ts' lo'++riLk 14 15 16 vs' ns'):=SC.sameR (((h.sw 4 14).sw 5 15).sw 6 16) λk _ hk=>absurd hk Bz
theorem y4t(p:Pg)(ts:List Int)(lo:Lo)(vs:List (Value×PV))(ns:List Nd):SC Tryz.prog 165 [.ptr 4 0] (riBx p ts lo++riLx vs ns) (λk=>k∈[1,2,3,4,5,6]) (.ptr 24 0) ([(24,.box [.ptr 1 0,.mp 25,.pv (.val (.slice none 0 0))]),(25,.map vs)]++(riBx p ts lo++riLx vs ns)) :=
 SC.sameR (((zf1 p ts lo vs ns).sw 14 24).sw 15 25) λk _ hk=>by
  simp only[Ao,Bz,Fh]at hk;rcases hk with rfl|rfl|rfl|rfl|rfl|rfl<;>decide
theorem riP24(p:Pg)(ts:List Int)(lo:Lo)(vs:List (Value×PV))(ns:List Nd)(t k o n:Int)(nm:ByteArray)(args:List Int)(ks:List (List Nd))(ht:ts.length<=34359738368)(hb:ns.length<=34359738368) :
 SC Tryz.prog 168 [.ptr 24 0,.pv (.val (.int .i64 t)),.pv (.agg [vInt k,vInt o,vInt n,vStr nm,ints args,ints [],ints [],kids ks])] (riBx p ts lo++riLk 24 25 26 vs ns) (λk=>k∈[]) (iInt (z6n t k o n nm args ks ⟨ts,ns⟩).1) (riBx p (z6n t k o n nm args ks ⟨ts,ns⟩).2.ts lo++riLk 24 25 26 vs (z6n t k o n nm args ks ⟨ts,ns⟩).2.ns) :=
 SC.sameR ((((z6e p ts lo vs ns t k o n nm args ks ht hb).sw 4 24).sw 5 25).sw 6 26) λk _ hk=>absurd hk Bz
theorem riA14(p:Pg)(ts:List Int)(lo:Lo)(vs:List (Value×PV))(ns:List Nd)(x:Nd)(hb:ns.length<=34359738368):SC Tryz.prog 116 [.ptr 14 0,.pv (.agg [vInt x.kind,vInt x.op,vInt x.n,vStr x.name,ints x.args,ints x.outs,ints x.params,kids x.kids])] (riBx p ts lo++riLk 14 15 16 vs ns) (λk=>k∈[]) (.tup []) (riBx p ts lo++riLk 14 15 16 vs (ns++[x])) :=
 SC.sameR ((((z49 p ts lo vs ns x hb).sw 4 14).sw 5 15).sw 6 16) λk _ hk=>absurd hk Bz
theorem riA24(p:Pg)(ts:List Int)(lo:Lo)(vs:List (Value×PV))(ns:List Nd)(x:Nd)(hb:ns.length<=34359738368):SC Tryz.prog 116 [.ptr 24 0,.pv (.agg [vInt x.kind,vInt x.op,vInt x.n,vStr x.name,ints x.args,ints x.outs,ints x.params,kids x.kids])] (riBx p ts lo++riLk 24 25 26 vs ns) (λk=>k∈[]) (.tup []) (riBx p ts lo++riLk 24 25 26 vs (ns++[x])) :=
 SC.sameR ((((z49 p ts lo vs ns x hb).sw 4 24).sw 5 25).sw 6 26) λk _ hk=>absurd hk Bz
theorem y9f(p:Pg)(lo:Lo)(vs:List (Value×PV))(n:Int)(nm:ByteArray)(e1 e2:Ex)(s:RiS)(h1:fRX p lo vs e1)(h2:fRX p lo vs e2)(hts:s.ts.length+4*(1+xz e1+xz e2)<=34000000000)(hns:s.ns.length+4*(1+xz e1+xz e2)<=34000000000) :
 SC Tryz.prog 167 [.ptr 4 0,.pv (.agg [vInt 5,vInt 18,vInt n,vStr nm,exs [e1,e2]])] (riH p lo vs s) (λk=>k∈[]) (iInt (riSh p vs 18 [e1,e2] s).1) (riH p lo vs (riSh p vs 18 [e1,e2] s).2):=by
 refine SC.vc tb { pb:=[103],ids:=[(35,30),(43,31)],ob:=[30,31],gh:=[(3,[.growC 14 2 16 47 8]),(5,[.fzC 14 2 16]),(9,[.growC 24 2 26 47 8]),(10,[.fzC 24 2 26]),(11,[.fz 9 30])] } [] Tryz.func167 rfl rfl ?_;have g1:=h1 s oM0 oM0;have l1:=(zw5 p vs _).1 e1 (Aa _) s;rw[riSh,zn1];generalize riX p vs e1 s=r1 at g1 l1⊢;obtain⟨a,s1⟩:=r1;unfold riLe at l1;dsimp only at g1 l1⊢;have g2:=riK14 (h2 ⟨s1.ts,[]⟩ (by dsimp only;omega) (by simp;omega));have l2:=(zw5 p vs _).1 e2 (Aa _) ⟨s1.ts,[]⟩;generalize riX p vs e2 ⟨s1.ts,[]⟩=r2 at g2 l2⊢;obtain⟨b,s2⟩:=r2;unfold riLe at l2;dsimp only at g2 l2;have g3:=riA14 p s2.ts lo vs s2.ns (.mk 12 0 0 ⟨#[]⟩ [b] [] [] []) (by simp at l2;omega);refine⟨z1c (i:=0) rfl,rfl,[],g1,sR,Gi,rfl,[1,2,3,4,5,6],zf1 p s1.ts lo vs s1.ns,sR,⟨rfl,rfl,rfl,rfl,rfl,rfl,rfl,rfl,rfl,rfl,rfl,rfl,Gb⟩,rfl,[1,2,3,4,5,6],y4t p s1.ts lo vs s1.ns,sR,⟨rfl,rfl,rfl,rfl,rfl,rfl,rfl,rfl,rfl,rfl,rfl,rfl,Gb⟩,rfl,?_⟩;refine⟨z1c (i:=1) rfl,rfl,[],g2,sR,Gi,rfl,[],g3,SubA.same (SubA.cons (sP (z0c _)) SubA.nil),Gi,rfl,?_⟩;have g4:=riP24 p s2.ts lo vs [] 2 2 0 0 ⟨#[]⟩ [] [] oM0 sI0;have g5:=riA24 p (s2.ts++[2]) lo vs [.mk 2 0 0 ⟨#[]⟩ [] [(s2.ts.length:Int)] [] []] (.mk 12 0 0 ⟨#[]⟩ [(s2.ts.length:Int)] [] [] []) sI0;have g6:=z6e p (s2.ts++[2]) lo vs s1.ns 2 10 0 0 ⟨#[]⟩ [a] [z6u 12 ⟨#[]⟩ [b] s2.ns,z6u 12 ⟨#[]⟩ [(s2.ts.length:Int)] [.mk 2 0 0 ⟨#[]⟩ [] [(s2.ts.length:Int)] [] []]] (by simp;omega) oM0;refine⟨rfl,[],g4,SubA.same (SubA.same (SubA.cons (sP (z0c _)) SubA.nil)),Gi,rfl,[],g5,SubA.same (SubA.cons (sP (z0c _)) SubA.nil),Gi,rfl,?_⟩;refine⟨rfl,rfl,(by decide:1<2),rfl,1,0,_,rfl,rfl,rfl,Bf,rfl,?_⟩;exact⟨[],g6,SubA.same (SubA.same (SubA.cons (sP (z0c _)) SubA.nil)),Gi,rfl,sI,rfl,rfl,rfl,rfl,rfl,rfl,Gb⟩
theorem y9g(p:Pg)(lo:Lo)(vs:List (Value×PV))(n:Int)(nm:ByteArray)(e1 e2:Ex)(s:RiS)(h1:fRX p lo vs e1)(h2:fRX p lo vs e2)(hts:s.ts.length+4*(1+xz e1+xz e2)<=34000000000)(hns:s.ns.length+4*(1+xz e1+xz e2)<=34000000000) :
 SC Tryz.prog 167 [.ptr 4 0,.pv (.agg [vInt 5,vInt 19,vInt n,vStr nm,exs [e1,e2]])] (riH p lo vs s) (λk=>k∈[]) (iInt (riSh p vs 19 [e1,e2] s).1) (riH p lo vs (riSh p vs 19 [e1,e2] s).2):=by
 refine SC.vc tb { pb:=[103],ids:=[(35,30),(43,31)],ob:=[30,31],gh:=[(3,[.growC 14 2 16 47 8]),(5,[.fzC 14 2 16]),(9,[.growC 24 2 26 47 8]),(10,[.fzC 24 2 26]),(11,[.fz 9 31])] } [] Tryz.func167 rfl rfl ?_;have g1:=h1 s oM0 oM0;have l1:=(zw5 p vs _).1 e1 (Aa _) s;rw[riSh,zn1];generalize riX p vs e1 s=r1 at g1 l1⊢;obtain⟨a,s1⟩:=r1;unfold riLe at l1;dsimp only at g1 l1⊢;have g2:=riK14 (h2 ⟨s1.ts,[]⟩ (by dsimp only;omega) (by simp;omega));have l2:=(zw5 p vs _).1 e2 (Aa _) ⟨s1.ts,[]⟩;generalize riX p vs e2 ⟨s1.ts,[]⟩=r2 at g2 l2⊢;obtain⟨b,s2⟩:=r2;unfold riLe at l2;dsimp only at g2 l2;have g3:=riA14 p s2.ts lo vs s2.ns (.mk 12 0 0 ⟨#[]⟩ [b] [] [] []) (by simp at l2;omega);refine⟨z1c (i:=0) rfl,rfl,[],g1,sR,Gi,rfl,[1,2,3,4,5,6],zf1 p s1.ts lo vs s1.ns,sR,⟨rfl,rfl,rfl,rfl,rfl,rfl,rfl,rfl,rfl,rfl,rfl,rfl,Gb⟩,rfl,[1,2,3,4,5,6],y4t p s1.ts lo vs s1.ns,sR,⟨rfl,rfl,rfl,rfl,rfl,rfl,rfl,rfl,rfl,rfl,rfl,rfl,Gb⟩,rfl,?_⟩;refine⟨z1c (i:=1) rfl,rfl,[],g2,sR,Gi,rfl,[],g3,SubA.same (SubA.cons (sP (z0c _)) SubA.nil),Gi,rfl,?_⟩;have g4:=riP24 p s2.ts lo vs [] 2 2 0 1 ⟨#[]⟩ [] [] oM0 sI0;have g5:=riA24 p (s2.ts++[2]) lo vs [.mk 2 0 1 ⟨#[]⟩ [] [(s2.ts.length:Int)] [] []] (.mk 12 0 0 ⟨#[]⟩ [(s2.ts.length:Int)] [] [] []) sI0;have g6:=z6e p (s2.ts++[2]) lo vs s1.ns 2 10 0 0 ⟨#[]⟩ [a] [z6u 12 ⟨#[]⟩ [(s2.ts.length:Int)] [.mk 2 0 1 ⟨#[]⟩ [] [(s2.ts.length:Int)] [] []],z6u 12 ⟨#[]⟩ [b] s2.ns] (by simp;omega) oM0;refine⟨rfl,[],g4,SubA.same (SubA.same (SubA.cons (sP (z0c _)) SubA.nil)),Gi,rfl,[],g5,SubA.same (SubA.cons (sP (z0c _)) SubA.nil),Gi,rfl,?_⟩;refine⟨rfl,rfl,(by decide:0<2),rfl,0,0,_,rfl,rfl,rfl,Bf,rfl,?_⟩;exact⟨[],g6,SubA.same (SubA.same (SubA.cons (sP (z0c _)) SubA.nil)),Gi,rfl,sI,rfl,rfl,rfl,rfl,rfl,rfl,Gb⟩
theorem y8w(p:Pg)(vs:List (Value×PV)):∀(l:List Ex)(e:Ex)(s:RiS),riXL p vs (l++[e]) s=((riXL p vs l s).1++[(riX p vs e (riXL p vs l s).2).1],(riX p vs e (riXL p vs l s).2).2)
 |[],e,s=>by simp[riXL]
 |x::r,e,s=>by
  have:=y8w p vs r e (riX p vs x s).2;simp only[Bb,riXL,this]
theorem yn9(p:Pg)(vs:List (Value×PV)):∀(l:List Ex)(s:RiS),(riXL p vs l s).1.length=l.length
 |[],_=>by rw[riXL];rfl
 |x::r,s=>by rw[riXL];simp[yn9 p vs r]
theorem yr6:∀(l:List Ex)(i:Nat),xzL (l.take i)+xzL (l.drop i)=xzL l
 |[],i=>by simp[xzL]
 |_::_,0=>by simp[xzL]
 |x::r,i+1=>by have:=yr6 r i;simp only[F8,F7,xzL];omega
theorem yp3(p:Pg)(hp:szP p)(lo:Lo)(vs:List (Value×PV))(hv:Cnt vs):∀(N:Nat)(e:Ex),SizeOf.sizeOf e<N->xz e<=100000000->riOk p e=true->fRX p lo vs e
 |0,_,h,_,_=>absurd h (Aj _)
 |N+1,.mk k o n nm args,hN,hx,hok=>by
  intro s hts hns;have hx0:=hx;simp only[xz]at hx hts hns;have hl:=zb5 args;rw[riOk,A0]at hok;have ih:∀x∈args,fRX p lo vs x:=λx hm=>yp3 p hp lo vs hv N x (by have:=Bm hm;simp at hN;omega) (by have:=zh4 hm;omega) (zd0 hok.2 hm)
  by_cases hs:k=5/\(o=18∨o=19)
  ·obtain⟨rfl,ho⟩:=hs;have h2:args.length=2:=by have:=hok.1;unfold j22 at this;rw[if_pos rfl]at this;exact eq_of_beq this
   obtain⟨e1,e2,rfl⟩:∃e1 e2,args=[e1,e2]:=by
    match args,h2 with
    |[a,b],_=>exact⟨a,b,rfl⟩
   simp only[xzL]at hts hns;rw[riX,if_neg dC0,if_pos ⟨rfl,ho⟩];rcases ho with rfl|rfl
   ·refine SC.vc tb { pb:=[103] } [] Tryz.func118 rfl rfl ?_;exact⟨[],y9f p lo vs n nm e1 e2 s (ih e1 sI0) (ih e2 sI0) oM0 oM0,sR,Gi,rfl,sI,rfl,rfl,rfl,rfl,rfl,rfl,Gb⟩
   ·refine SC.vc tb { pb:=[103] } [] Tryz.func118 rfl rfl ?_;exact⟨[],y9g p lo vs n nm e1 e2 s (ih e1 sI0) (ih e2 sI0) oM0 oM0,sR,Gi,rfl,sI,rfl,rfl,rfl,rfl,rfl,rfl,Gb⟩
  by_cases h3:k=3
  ·subst h3;rw[riX,if_pos rfl];refine SC.vc tb { pb:=[103] } [] Tryz.func118 rfl rfl ?_;exact VAsk.mk (p:=vInt (y3b vs nm)) (b:=(z1m (.string nm) vs).isSome) rfl hv.1 (E5 (hv.getI nm) rfl) ⟨sI,rfl,rfl,rfl,rfl,rfl,rfl,Gb⟩
  rw[riX,if_neg h3,if_neg hs];refine SC.vc tb { pb:=[103],jn:=[5],gh:=[(6,[.grow 5 1001 3 1]),(11,[.fz 5 1001])] } [] Tryz.func118 rfl rfl ?_;refine⟨Unit,λ_=>[],λ_=>[],λ_=>True,[],?_,?_⟩
  ·refine z00 (λc=>absurd (eq_of_beq c) h3) λ_=>z00 (λc=>?_) λc=>?_
   ·have c:k=5:=eq_of_beq c;exact z00 (λc2=>absurd ⟨c,.inl (eq_of_beq c2)⟩ hs) λ_=>z00 (λc2=>absurd ⟨c,.inr (eq_of_beq c2)⟩ hs) λ_=>⟨(),Gb,Gb,Gb,rfl,rfl,rfl,rfl⟩
   ·exact⟨(),Gb,Gb,Gb,rfl,rfl,rfl,rfl⟩
  rintro _ _;have hle0:=(zw5 p vs _).2.1 args (Aa _) s;unfold riLe at hle0;have h00:riXL p vs (args.take 0) s=([],s):=by rw[List.take_zero,riXL]
  refine⟨Nat,λi=>[(40,iInt ((i:Nat):Int)),(5,.sl 1001 ((riXL p vs (args.take i) s).1.map eInt).length)],λi=>(1001,.row inRt ((riXL p vs (args.take i) s).1.map eInt))::riH p lo vs (riXL p vs (args.take i) s).2,λi=>args.length-i,λi=>i<=args.length,[],0,Ad _,⟨rfl,(by simp only[h00];rfl),Gb⟩,(by simp only[h00];exact Gj),?_⟩;clear h00 hs;intro i hi;have hle:=(zw5 p vs _).2.1 (args.take i) (Aa _) s;unfold riLe at hle;have hxt:=yr6 args i;have hlen:=yn9 p vs (args.take i) s;refine z00 (λhc=>?_) λhc=>?_
  ·have hlt:i<args.length:=z0z (f:=Ex.enc) rfl hc;obtain⟨x,x1,x2,x3,x4⟩:=z0p hlt;rw[x3]at hxt;simp only[xzL]at hxt;have hsn:=y8w p vs (args.take i) x s;rw[<- x2]at hsn;generalize riXL p vs (args.take i) s=L at hle hlen hsn⊢;obtain⟨L1,q⟩:=L;dsimp only at hle hlen hsn;have hX:=ih x x4 q oM0 oM0;generalize riX p vs x q=W at hX hsn;obtain⟨w1,w2⟩:=W;dsimp only at hX hsn;exact⟨z1c x1,rfl,[],hX,sR,Gi,rfl,rfl,z3i rfl,by simp at hlen⊢;omega,z01 rfl oM0,i+1,z03 hlt,hlt,⟨rfl,slq (by rw[hsn];simp),Gb⟩,⟨rwq (by rw[hsn];simp[eInt]),by rw[hsn];rfl,by rw[hsn];rfl,rfl,by rw[hsn];rfl,rfl,by rw[hsn];rfl,Gb⟩,rfl,rfl,rfl,rfl⟩
  ·have hge:args.length<=i:=z10 (f:=Ex.enc) rfl hc;rw[Av hge]at hlen⊢;clear hle hxt;generalize riXL p vs args s=L at hle0 hlen⊢;obtain⟨l,q⟩:=L;dsimp only at hle0 hlen⊢;have hpl:k≠1->k≠2->k≠4->k≠5->k≠6->k≠8->0<=z3n p nm:=λa b c d e f=>by
    have:=hok.1;unfold j22 at this;rw[if_neg d,if_neg oM0]at this;exact An this
   clear hok ih;generalize hT:zs5 p k o n nm l q=T;unfold zs5 at hT;refine⟨rfl,z00 (λc=>?_) λc1=>z00 (λc=>?_) λc2=>z00 (λc=>?_) λc4=>z00 (λc=>?_) λc5=>z00 (λc=>?_) λc6=>z00 (λc=>?_) λc8=>?_⟩
   ·have c:k=1:=eq_of_beq c;rw[if_pos c]at hT;subst hT;exact⟨[],z6e p q.ts lo vs q.ns 1 1 0 n ⟨#[]⟩ [] [] oM0 oM0,SubA.same (SubA.same (SubA.cons (sP (z0c _)) SubA.nil)),Gi,rfl,sI,rfl,rfl,rfl,rfl,rfl,rfl,Gb⟩
   ·have c1:¬k=1:=A9.1 c1;have c:k=2:=eq_of_beq c;rw[if_neg c1,if_pos c]at hT;subst hT;exact⟨[],z6e p q.ts lo vs q.ns 2 2 0 n ⟨#[]⟩ [] [] oM0 oM0,SubA.same (SubA.same (SubA.cons (sP (z0c _)) SubA.nil)),Gi,rfl,sI,rfl,rfl,rfl,rfl,rfl,rfl,Gb⟩
   ·have c1:¬k=1:=A9.1 c1;have c2:¬k=2:=A9.1 c2;have c:k=4:=eq_of_beq c;rw[if_neg c1,if_neg c2,if_pos c]at hT;subst hT;exact⟨[],y9d o,sR,Gb,rfl,[],z6e p q.ts lo vs q.ns (y1m o) 3 o 0 ⟨#[]⟩ l [] oM0 oM0,SubA.same (SubA.same (SubA.cons (sP (z0c _)) SubA.nil)),Gi,rfl,sI,rfl,rfl,rfl,rfl,rfl,rfl,Gb⟩
   ·have c1:¬k=1:=A9.1 c1;have c2:¬k=2:=A9.1 c2;have c4:¬k=4:=A9.1 c4;have c:k=5:=eq_of_beq c;rw[if_neg c1,if_neg c2,if_neg c4,if_pos c]at hT;subst hT;exact⟨[],y9d o,sR,Gb,rfl,[],z6e p q.ts lo vs q.ns (y1m o) 4 o 0 ⟨#[]⟩ l [] oM0 oM0,SubA.same (SubA.same (SubA.cons (sP (z0c _)) SubA.nil)),Gi,rfl,sI,rfl,rfl,rfl,rfl,rfl,rfl,Gb⟩
   ·have c1:¬k=1:=A9.1 c1;have c2:¬k=2:=A9.1 c2;have c4:¬k=4:=A9.1 c4;have c5:¬k=5:=A9.1 c5;have c:k=6:=eq_of_beq c;rw[if_neg c1,if_neg c2,if_neg c4,if_neg c5,if_pos c]at hT;subst hT;exact⟨[],z6e p q.ts lo vs q.ns 1 5 0 0 nm l [] oM0 oM0,SubA.same (SubA.same (SubA.cons (sP (z0c _)) SubA.nil)),Gi,rfl,sI,rfl,rfl,rfl,rfl,rfl,rfl,Gb⟩
   ·have c1:¬k=1:=A9.1 c1;have c2:¬k=2:=A9.1 c2;have c4:¬k=4:=A9.1 c4;have c5:¬k=5:=A9.1 c5;have c6:¬k=6:=A9.1 c6;have c:k=8:=eq_of_beq c;rw[if_neg c1,if_neg c2,if_neg c4,if_neg c5,if_neg c6,if_pos c]at hT;subst hT;exact⟨[],z6e p q.ts lo vs q.ns 1 8 0 0 ⟨#[]⟩ [] [] oM0 oM0,SubA.same (SubA.same (SubA.cons (sP (z0c _)) SubA.nil)),Gi,rfl,sI,rfl,rfl,rfl,rfl,rfl,rfl,Gb⟩
   ·have c1:¬k=1:=A9.1 c1;have c2:¬k=2:=A9.1 c2;have c4:¬k=4:=A9.1 c4;have c5:¬k=5:=A9.1 c5;have c6:¬k=6:=A9.1 c6;have c8:¬k=8:=A9.1 c8;rw[if_neg c1,if_neg c2,if_neg c4,if_neg c5,if_neg c6,if_neg c8]at hT;subst hT;obtain⟨j,j1,j2⟩:=zy9 (hpl c1 c2 c4 c5 c6 c8);exact⟨[],zf3 p nm hp.1,sR,Gb,rfl,z9z j2,j1,[],z6e p q.ts lo vs q.ns (fuAt p (z3n p nm)).ty 7 0 0 nm l [] oM0 oM0,SubA.same (SubA.same (SubA.cons (sP (z0c _)) SubA.nil)),Gi,rfl,sI,rfl,rfl,rfl,rfl,rfl,rfl,Gb⟩
def riW(p:Pg)(lo:List (List ByteArray))(s:RiT):List (Nat×HO):=riBx p s.ts ⟨lo,s.jk⟩++riLx s.vs s.ns
def scB(p:Pg)(l:List St)(lo:List (List ByteArray))(s:RiT)(a:Bool×RiT):Prop:=SC Tryz.prog 38 [.ptr 4 0,.pv (sts l)] (riW p lo s) (λk=>k∈[]) (iBool a.1) (riW p lo a.2)
theorem scB14{p:Pg}{l:List St}{lo:List (List ByteArray)}{s:RiT}{a:Bool×RiT}(h:scB p l lo s a):SC Tryz.prog 38 [.ptr 14 0,.pv (sts l)] (riBx p s.ts ⟨lo,s.jk⟩++riLk 14 15 16 s.vs s.ns) (λk=>k∈[]) (iBool a.1) (riBx p a.2.ts ⟨lo,a.2.jk⟩++riLk 14 15 16 a.2.vs a.2.ns):=SC.sameR (((h.sw 4 14).sw 5 15).sw 6 16) λk _ hk=>absurd hk Bz
theorem y9e(vs:List (Value×PV))(hv:Cnt vs)(l:List ByteArray)(hl:l.length<=34359738368):SC Tryz.prog 117 [.mp 15,.pv (txs l)] [(15,.map vs)] (λk=>k∈[15]) (.pv (ints (riOf vs l))) [(15,.map vs)]:=SC.sameR ((zj3 vs hv l hl).sw 5 15) λk _ hk=>by rw[Ak.1 hk];exact Df
theorem yp2(p:Pg)(l:List St)(z04:List ByteArray)(lo:List (List ByteArray))(vs:List (Value×PV))(ts:List Int)(jk:List (List ByteArray))(ns:List Nd)(a:Bool×RiT)(hB:scB p l lo ⟨vs,ts,[],jk⟩ a)(hv:Cnt a.2.vs)(hnm:z04.length<=34359738368)(hns:a.2.ns.length<=34359738368) :
 SC Tryz.prog 162 [.ptr 4 0,.pv (sts l),.pv (txs z04)] (riW p lo ⟨vs,ts,ns,jk⟩) (λk=>k∈[]) (.pv (z1n (z5o 12 z04 a))) (riW p lo ⟨vs,a.2.ts,ns,a.2.jk⟩):=by
 refine SC.vc tb { ids:=[(9,14)],gh:=[(2,[.growC 14 2 16 47 8]),(4,[.fzC 14 2 16])] } [] Tryz.func162 rfl rfl ?_;have hK:=zf1 p ts ⟨lo,jk⟩ vs ns;have hB:=scB14 hB;obtain⟨b,q⟩:=a;dsimp only at hv hns hB⊢;refine⟨[1,2,3,4,5,6],hK,sR,⟨rfl,rfl,rfl,rfl,rfl,rfl,rfl,rfl,rfl,rfl,rfl,rfl,Gb⟩,rfl,[],hB,sR,Gi,rfl,?_⟩
 cases b
 ·exact⟨[15],y9e q.vs hv z04 hnm,sR,Gd,rfl,[],riA14 p q.ts ⟨lo,q.jk⟩ q.vs q.ns (.mk 12 0 0 ⟨#[]⟩ (riOf q.vs z04) [] [] []) hns,SubA.same (SubA.cons (sP (z0c _)) SubA.nil),Gi,rfl,rfl,sI,rfl,rfl,rfl,rfl,rfl,rfl,Gb⟩
 ·exact⟨rfl,sI,rfl,rfl,rfl,rfl,rfl,rfl,Gb⟩
structure NmOk(vs:List (Value×PV))(ls:List (List St))(n:Nat):Prop where
 sz:∀l∈ls,szL l<=1073741824
 tx:∀e∈z8l vs ls,(z73 e.1).size<=maxLen
 len:(z8l vs ls).length<=1073741824
 at_:∀v∈riOf vs (z0d vs ls),0<=v/\v<n
theorem z9j(vs:List (Value×PV))(ls:List (List St)):(z0d vs ls).length=(z8l vs ls).length:=by simp[z0d,zo6]
theorem yg6(p:Pg)(x:St)(lo:List (List ByteArray))(s:RiT)(hv:Cnt s.vs)(e:Ex)(he:x.args[0]?=some e)(c:Int×RiS)
 (hX:SC Tryz.prog 118 [.ptr 4 0,.pv (exv e)] (riH p ⟨lo,s.jk⟩ s.vs ⟨s.ts,s.ns⟩) (λk=>k∈[]) (iInt c.1) (riH p ⟨lo,s.jk⟩ s.vs c.2)) (a b:Bool×RiT)
 (hA:scB p x.thn lo ⟨s.vs,c.2.ts,[],s.jk⟩ a) (hB:scB p x.els lo ⟨s.vs,a.2.ts,[],a.2.jk⟩ b) (ha:Cnt a.2.vs) (hb:Cnt b.2.vs) (han:a.2.ns.length<=34000000000) (hbn:b.2.ns.length<=34000000000)
 (hN:NmOk s.vs [x.thn,x.els] b.2.ts.length) (hcn:c.2.ns.length<=34000000000) (hbt:b.2.ts.length<=33000000000) :
 SC Tryz.prog 114 [.ptr 4 0,.pv (stv x)] (riW p lo s) (λk=>k∈[]) (iBool (ze8 s (z0d s.vs [x.thn,x.els]) c a b).1) (riW p lo (ze8 s (z0d s.vs [x.thn,x.els]) c a b).2):=by
 refine SC.vc tb { pb:=[103] } [] Tryz.func114 rfl rfl ?_;have hC:=zw9 s.vs hv [x.thn,x.els] sI0 hN.sz hN.tx hN.len;have hln:=z9j s.vs [x.thn,x.els];have hl1:=hN.len;have hat:=hN.at_;generalize z0d s.vs [x.thn,x.els]=z04 at hC hln hat⊢;have hA:=yp2 p x.thn z04 lo s.vs c.2.ts s.jk c.2.ns a hA ha oM0 oM0;have hB:=yp2 p x.els z04 lo s.vs a.2.ts a.2.jk c.2.ns b hB hb oM0 oM0;have hK:=zs7 (.mk 10 0 0 ⟨#[]⟩ [c.1] [] [] [z5o 12 z04 a,z5o 12 z04 b]);obtain⟨c1,c2⟩:=c;obtain⟨a1,a2⟩:=a;obtain⟨b1,b2⟩:=b;unfold ze8 z6m;dsimp only at hX hA hB hK hcn hbt hat⊢;refine⟨z1c he,rfl,[],hX,sR,Gi,rfl,[5],hC,sR,Gd,rfl,[],hA,sR,Gi,rfl,[],hB,sR,Gi,rfl,?_⟩;refine⟨[],hK,SubA.cons (sP (z0c _)) SubA.nil,Gb,rfl,?_⟩;generalize z08 (.mk 10 0 0 ⟨#[]⟩ [c1] [] [] [z5o 12 z04 (a1,a2),z5o 12 z04 (b1,b2)])=k
 cases k
 ·have hO:=zj3 s.vs hv z04 oM0;have hlen:(riOf s.vs z04).length=z04.length:=by simp[riOf]
  have hL:=y23 p b2.ts ⟨lo,b2.jk⟩ (riOf s.vs z04) hat oM0;have hl2:=z3g (riOf s.vs z04) b2.ts;have hS:=y6s s.vs hv z04 (z13 b2.ts (riOf s.vs z04)).1 oM0 oM0;have hD:=z49 p (z13 b2.ts (riOf s.vs z04)).2 ⟨lo,b2.jk⟩ (zn0 s.vs z04 (z13 b2.ts (riOf s.vs z04)).1) c2.ns (.mk 10 0 0 ⟨#[]⟩ [c1] (z13 b2.ts (riOf s.vs z04)).1 [] [z5o 12 z04 (a1,a2),z5o 12 z04 (b1,b2)]) oM0;exact⟨[5],hO,sR,Gd,rfl,[],hL,sR,Ge,rfl,[],hS,sR,Gc,rfl,[],hD,SubA.same (SubA.cons (sP (z0c _)) SubA.nil),Gi,rfl,sI,rfl,rfl,rfl,rfl,rfl,rfl,Gb⟩
 ·have hD:=z49 p b2.ts ⟨lo,b2.jk⟩ s.vs c2.ns (.mk 10 0 0 ⟨#[]⟩ [c1] [] [] [z5o 12 z04 (a1,a2),z5o 12 z04 (b1,b2)]) oM0;exact⟨[],hD,SubA.same (SubA.cons (sP (z0c _)) SubA.nil),Gi,rfl,sI,rfl,rfl,rfl,rfl,rfl,rfl,Gb⟩
theorem yg8(p:Pg)(x:St)(z04:List ByteArray)(lo:List (List ByteArray))(s:RiT)(e:Ex)(he:x.args[0]?=some e)(ht:zd1 e=true)(a:Bool×RiT)(hA:scB p x.thn lo s a)(ha:Cnt a.2.vs)(hnm:z04.length<=34359738368)(han:a.2.ns.length<=34000000000) :
 SC Tryz.prog 166 [.ptr 4 0,.pv (stv x),.pv (txs z04)] (riW p lo s) (λk=>k∈[]) (.tup []) (riW p lo ⟨a.2.vs,a.2.ts,z5o 13 z04 a,a.2.jk⟩):=by
 refine SC.vc tb { pb:=[104,106] } [] Tryz.func166 rfl rfl ?_;unfold zd1 at ht;rw[A0]at ht;refine⟨z1c he,rfl,z00 (λh1=>z00 (λh2=>?_) λh2=>absurd (ht.2.symm.trans h2) dC0) λh1=>absurd (ht.1.symm.trans h1) dC0⟩;obtain⟨b,q⟩:=a;unfold z5o;dsimp only at hA ha han⊢;refine⟨[],hA,sR,Gi,rfl,?_⟩
 cases b
 ·exact⟨[5],zj3 q.vs ha z04 hnm,sR,Gd,rfl,[],z49 p q.ts ⟨lo,q.jk⟩ q.vs q.ns (.mk 13 0 0 ⟨#[]⟩ (riOf q.vs z04) [] [] []) oM0,SubA.same (SubA.cons (sP (z0c _)) SubA.nil),Gi,rfl,sI,rfl,rfl,rfl,rfl,rfl,rfl,Gb⟩
 ·exact⟨sI,rfl,rfl,rfl,rfl,rfl,rfl,Gb⟩
theorem yg9(p:Pg)(x:St)(z04:List ByteArray)(lo:List (List ByteArray))(s:RiT)(hv:Cnt s.vs)(e:Ex)(he:x.args[0]?=some e)(ht:zd1 e=false)(c:Int×RiS)
 (hX:SC Tryz.prog 118 [.ptr 4 0,.pv (exv e)] (riH p ⟨lo,s.jk⟩ s.vs ⟨s.ts,s.ns⟩) (λk=>k∈[]) (iInt c.1) (riH p ⟨lo,s.jk⟩ s.vs c.2)) (a:Bool×RiT)
 (hA:scB p x.thn lo ⟨s.vs,c.2.ts,[],s.jk⟩ a) (ha:Cnt a.2.vs) (hnm:z04.length<=34359738368) (han:a.2.ns.length<=34000000000) (hcn:c.2.ns.length<=34000000000) :
 SC Tryz.prog 166 [.ptr 4 0,.pv (stv x),.pv (txs z04)] (riW p lo s) (λk=>k∈[]) (.tup []) (riW p lo ⟨s.vs,a.2.ts,z9k z04 s.vs c a,a.2.jk⟩):=by
 refine SC.vc tb { pb:=[104,106],ids:=[(43,14)],gh:=[(7,[.growC 14 2 16 47 8]),(9,[.fzC 14 2 16])] } [] Tryz.func166 rfl rfl ?_;have hA:=scB14 hA;have hK:=zf1 p c.2.ts ⟨lo,s.jk⟩ s.vs c.2.ns;have hD:=z49 p a.2.ts ⟨lo,a.2.jk⟩ s.vs c.2.ns (.mk 10 0 0 ⟨#[]⟩ [c.1] [] [] [z5o 13 z04 a,z6u 14 ⟨#[]⟩ (riOf s.vs z04) []]) oM0;unfold z9k;obtain⟨c1,c2⟩:=c;obtain⟨b,q⟩:=a;unfold z5o at hD⊢;dsimp only at hX hA hK hD ha han hcn⊢;have hS:∀(l:List Nd),SubI (.pv (.agg [vInt 10,vInt 0,vInt 0,vStr ⟨#[]⟩,ints [c1],.val (.slice none 0 0),.val (.slice none 0 0),.seq [[z1n l],[.seq [[vInt 14,vInt 0,vInt 0,vStr ⟨#[]⟩,ints (riOf s.vs z04),.val (.slice none 0 0),.val (.slice none 0 0),.val (.slice none 0 0)]]]]])) (.pv (.agg [vInt 10,vInt 0,vInt 0,vStr ⟨#[]⟩,ints [c1],ints [],ints [],kids [l,z6u 14 ⟨#[]⟩ (riOf s.vs z04) []]])):=λl=>sP (PSub.agg ⟨PSub.refl _,PSub.refl _,PSub.refl _,PSub.refl _,PSub.refl _,PSub.nil,PSub.nil,PSub.seq ⟨⟨PSub.refl _,Gb⟩,⟨PSub.seq ⟨y12 _,Gb⟩,Gb⟩,Gb⟩,Gb⟩)
 cases b
 ·refine⟨z1c he,rfl,z00 (λh1=>z00 (λh2=>absurd (show zd1 e=true by unfold zd1;rw[show(e.kind==2)=true from h1,show(e.n==1)=true from h2];rfl) (by rw[ht];decide)) λh2=>?_) λh1=>?_⟩
  all_goals exact⟨z1c he,rfl,[],hX,sR,Gi,rfl,[1,2,3,4,5,6],hK,sR,⟨rfl,rfl,rfl,rfl,rfl,rfl,rfl,rfl,rfl,rfl,rfl,rfl,Gb⟩,rfl,[],hA,sR,Gi,rfl,[15],y9e q.vs ha z04 hnm,sR,Gd,rfl,[],riA14 p q.ts ⟨lo,q.jk⟩ q.vs q.ns (.mk 13 0 0 ⟨#[]⟩ (riOf q.vs z04) [] [] []) oM0,SubA.same (SubA.cons (sP (z0c _)) SubA.nil),Gi,rfl,rfl,[5],zj3 s.vs hv z04 hnm,sR,Gd,rfl,[],hD,SubA.same (SubA.cons (hS _) SubA.nil),Gi,rfl,sI,rfl,rfl,rfl,rfl,rfl,rfl,Gb⟩
 ·refine⟨z1c he,rfl,z00 (λh1=>z00 (λh2=>absurd (show zd1 e=true by unfold zd1;rw[show(e.kind==2)=true from h1,show(e.n==1)=true from h2];rfl) (by rw[ht];decide)) λh2=>?_) λh1=>?_⟩
  all_goals exact⟨z1c he,rfl,[],hX,sR,Gi,rfl,[1,2,3,4,5,6],hK,sR,⟨rfl,rfl,rfl,rfl,rfl,rfl,rfl,rfl,rfl,rfl,rfl,rfl,Gb⟩,rfl,[],hA,sR,Gi,rfl,rfl,[5],zj3 s.vs hv z04 hnm,sR,Gd,rfl,[],hD,SubA.same (SubA.cons (hS _) SubA.nil),Gi,rfl,sI,rfl,rfl,rfl,rfl,rfl,rfl,Gb⟩
def scR(p:Pg)(x:St)(z04:List ByteArray)(lo:List (List ByteArray))(s r:RiT):Prop:=SC Tryz.prog 166 [.ptr 4 0,.pv (stv x),.pv (txs z04)] (riW p lo s) (λk=>k∈[]) (.tup []) (riW p lo r)
theorem scR14{p:Pg}{x:St}{z04:List ByteArray}{lo:List (List ByteArray)}{s r:RiT}(h:scR p x z04 lo s r):SC Tryz.prog 166 [.ptr 14 0,.pv (stv x),.pv (txs z04)] (riBx p s.ts ⟨lo,s.jk⟩++riLk 14 15 16 s.vs s.ns) (λk=>k∈[]) (.tup []) (riBx p r.ts ⟨lo,r.jk⟩++riLk 14 15 16 r.vs r.ns):=SC.sameR (((h.sw 4 14).sw 5 15).sw 6 16) λk _ hk=>absurd hk Bz
theorem yw8(vs:List (Value×PV))(hv:Cnt vs)(l:List ByteArray)(q:List Int)(hq:l.length=q.length)(hl:l.length<=34359738368):SC Tryz.prog 164 [.mp 15,.pv (txs l),.pv (ints q)] [(15,.map vs)] (λk=>k∈[]) (.tup []) [(15,.map (zn0 vs l q))]:=SC.sameR ((y6s vs hv l q hq hl).sw 5 15) λk _ hk=>absurd hk Bz
theorem tail_app{α:Type}(a b:List α)(x:α):(b=[]/\a++[x]++b.tail=a++b++[x])∨(b≠[]/\a++[x]++b.tail=(a++b).set a.length x):=by
 cases b with
 |nil=>exact .inl ⟨rfl,by simp⟩
 |cons y r=>exact .inr ⟨by simp,by simp⟩
theorem y9c(p:Pg)(x:St)(lo:List (List ByteArray))(s:RiT)(hv:Cnt s.vs)(r:RiT)(hR:scR p x (z0d s.vs [x.thn]) (lo++[z0d s.vs [x.thn]]) (z2c s (z0d s.vs [x.thn])) r)
 (hN:NmOk s.vs [x.thn] s.ts.length) (hts:s.ts.length<=33000000000) (hns:s.ns.length<=34000000000) (hrt:s.ts.length<=r.ts.length) (hrt2:r.ts.length<=33000000000) (hlo:lo.length<=1000000000) (hjk:s.jk.length<=1000000000) :
 SC Tryz.prog 115 [.ptr 4 0,.pv (stv x)] (riW p lo s) (λk=>k∈[])
  (iBool (z6m s.vs (z0d s.vs [x.thn]) r.ts s.ns (z0d s.vs [x.thn]::r.jk) 11 (riOf s.vs (z0d s.vs [x.thn])) (z13 s.ts (riOf s.vs (z0d s.vs [x.thn]))).1 [r.ns]).1)
  (riW p lo (z6m s.vs (z0d s.vs [x.thn]) r.ts s.ns (z0d s.vs [x.thn]::r.jk) 11 (riOf s.vs (z0d s.vs [x.thn])) (z13 s.ts (riOf s.vs (z0d s.vs [x.thn]))).1 [r.ns]).2):=by
 refine SC.vc tb { pb:=[103],ids:=[(32,14)],gh:=[(5,[.growC 14 2 16 47 8]),(9,[.fzC 14 2 16])] } [] Tryz.func115 rfl rfl ?_;have hC:=zw9 s.vs hv [x.thn] sI0 hN.sz hN.tx hN.len;have hln:=z9j s.vs [x.thn];have hl1:=hN.len;have hat:=hN.at_;generalize z0d s.vs [x.thn]=z04 at hC hln hat hR⊢;have hO:=zj3 s.vs hv z04 oM0;have hlen:(riOf s.vs z04).length=z04.length:=by simp[riOf]
 have hL:=y23 p s.ts ⟨lo,s.jk⟩ (riOf s.vs z04) hat oM0;have hl2:=z3g (riOf s.vs z04) s.ts;have hK:=zf1 p (z13 s.ts (riOf s.vs z04)).2 ⟨lo,s.jk⟩ s.vs s.ns;have hS:=yw8 s.vs hv z04 (z13 s.ts (riOf s.vs z04)).1 oM0 oM0;have hR:=scR14 hR;unfold z2c at hR;have hQ:=zs7 (.mk 11 0 0 ⟨#[]⟩ (riOf s.vs z04) [] (z13 s.ts (riOf s.vs z04)).1 [r.ns]);unfold z6m;refine⟨[5],hC,sR,Gd,rfl,[5],hO,sR,Gd,rfl,[],hL,sR,Ge,rfl,?_⟩;refine⟨[1,2,3,4,5,6],hK,sR,⟨rfl,rfl,rfl,rfl,rfl,rfl,rfl,rfl,rfl,rfl,rfl,rfl,Gb⟩,rfl,[],hS,sR,Gc,rfl,?_⟩;refine VApp1.mk (m':=((lo++[z04]++s.jk.tail).map eTxs).length) (els':=(lo++[z04]++s.jk.tail).map eTxs) rfl (z3i rfl) (by simp;omega) ?_ ?_
 ·rcases tail_app lo s.jk z04 with⟨h1,h2⟩|⟨h1,h2⟩
  ·rw[h2,h1];exact .inr ⟨by simp,by simp[eTxs];rfl,by simp⟩
  ·have:=Cz.2 h1;rw[h2];exact .inl ⟨by simp;omega,by simp[Bs];rfl,by simp⟩
 refine⟨rfl,[],hR,sR,⟨boq sI0,rfl,rfl,rfl,rfl,rfl,Gb⟩,rfl,?_⟩;refine⟨rfl,z3b (z:=(lo.length:Int)) sI0 oM0,rfl,lo.length,rfl,by simp,rfl,?_⟩;refine⟨rfl,[],hQ,SubA.cons (sP (z0c _)) SubA.nil,Gb,rfl,?_⟩;generalize z08 (.mk 11 0 0 ⟨#[]⟩ (riOf s.vs z04) [] (z13 s.ts (riOf s.vs z04)).1 [r.ns])=k
 cases k
 ·have hL2:=y23 p r.ts ⟨lo,z04::r.jk⟩ (riOf s.vs z04) (λv hv=>⟨(hat v hv).1,by have:=(hat v hv).2;omega⟩) oM0;have hl3:=z3g (riOf s.vs z04) r.ts;have hS2:=y6s s.vs hv z04 (z13 r.ts (riOf s.vs z04)).1 oM0 oM0;have hD:=z49 p (z13 r.ts (riOf s.vs z04)).2 ⟨lo,z04::r.jk⟩ (zn0 s.vs z04 (z13 r.ts (riOf s.vs z04)).1) s.ns (.mk 11 0 0 ⟨#[]⟩ (riOf s.vs z04) (z13 r.ts (riOf s.vs z04)).1 (z13 s.ts (riOf s.vs z04)).1 [r.ns]) oM0;exact⟨[5],hO,sR,Gd,rfl,[],hL2,sR,⟨boq sI0,rfl,rwq sI0,Gb⟩,rfl,[],hS2,sR,Gc,rfl,[],hD,sR,Gi,rfl,sI,rfl,rfl,rfl,rfl,rfl,rfl,Gb⟩
 ·have hD:=z49 p r.ts ⟨lo,z04::r.jk⟩ s.vs s.ns (.mk 11 0 0 ⟨#[]⟩ (riOf s.vs z04) [] (z13 s.ts (riOf s.vs z04)).1 [r.ns]) oM0;exact⟨[],hD,SubA.same (SubA.cons (sP (z0c _)) SubA.nil),⟨boq sI0,rfl,rwq sI0,rfl,rfl,rfl,Gb⟩,rfl,sI,rfl,rfl,rfl,rfl,rfl,rfl,Gb⟩
abbrev scX(p:Pg)(e:Ex)(lo:List (List ByteArray))(vs:List (Value×PV))(jk:List (List ByteArray))(s:RiS)(c:Int×RiS):Prop:=SC Tryz.prog 118 [.ptr 4 0,.pv (exv e)] (riH p ⟨lo,jk⟩ vs s) (λk=>k∈[]) (iInt c.1) (riH p ⟨lo,jk⟩ vs c.2)
theorem y24(p:Pg)(k ty:Int)(nm:ByteArray)(args:List Ex)(thn els:List St)(lo:List (List ByteArray))(s:RiT)(hv:Cnt s.vs)(e:Ex)(he:args[0]?=some e)(hX:scX p e lo s.vs s.jk ⟨s.ts,s.ns⟩ (riX p s.vs e ⟨s.ts,s.ns⟩))(hn:(riX p s.vs e ⟨s.ts,s.ns⟩).2.ns.length<=34000000000)
 (h3:k=3->∃e2,args[1]?=some e2/\scX p e2 lo s.vs s.jk (riX p s.vs e ⟨s.ts,s.ns⟩).2 (riX p s.vs e2 (riX p s.vs e ⟨s.ts,s.ns⟩).2)/\(riX p s.vs e2 (riX p s.vs e ⟨s.ts,s.ns⟩).2).2.ns.length<=34000000000) :
 SC Tryz.prog 119 [.ptr 4 0,.pv (stv (.mk k ty nm args thn els))] (riW p lo s) (λk=>k∈[]) (.tup []) (riW p lo (ze9 p k nm args s)):=by
 refine SC.vc tb { pb:=[103] } [] Tryz.func119 rfl rfl ?_;have g0:args.getD 0 ex0=e:=by rw[Ax,he];rfl
 unfold ze9;rw[g0];generalize riX p s.vs e ⟨s.ts,s.ns⟩=c at hX hn h3⊢;obtain⟨c1,c2⟩:=c;dsimp only at hX hn h3⊢;refine⟨z1c he,rfl,[],hX,sR,Gi,rfl,?_⟩;rcases(show k=1∨k=2∨k=3∨k=9∨(k≠1/\k≠2/\k≠3/\k≠9) by omega)with rfl|rfl|rfl|rfl|⟨k1,k2,k3,k9⟩
 ·exact⟨rfl,hv.1,sI,rfl,rfl,rfl,rfl,rfl,rfl,Gb⟩
 ·exact⟨rfl,hv.1,sI,rfl,rfl,rfl,rfl,rfl,rfl,Gb⟩
 ·obtain⟨e2,i1,i2,i3⟩:=h3 rfl;have g1:args.getD 1 ex0=e2:=by rw[Ax,i1];rfl
  rw[g1];generalize riX p s.vs e2 c2=d at i2 i3⊢;obtain⟨d1,d2⟩:=d;dsimp only at i2 i3⊢;exact⟨z1c i1,rfl,[],i2,sR,Gi,rfl,[],z49 p d2.ts ⟨lo,s.jk⟩ s.vs d2.ns (.mk 6 0 0 nm [c1,d1] [] [] []) oM0,SubA.same (SubA.cons (sP (z0c _)) SubA.nil),Gi,rfl,sI,rfl,rfl,rfl,rfl,rfl,rfl,Gb⟩
 ·exact⟨[],z49 p c2.ts ⟨lo,s.jk⟩ s.vs c2.ns (.mk 9 0 0 ⟨#[]⟩ [c1] [] [] []) oM0,SubA.same (SubA.cons (sP (z0c _)) SubA.nil),Gi,rfl,sI,rfl,rfl,rfl,rfl,rfl,rfl,Gb⟩
 ·rw[if_neg oM0,if_neg k3,if_neg k9];have no:∀{i:Int},k≠i->(k==i)=true->False:=λh e=>h (eq_of_beq e);exact z00 (λh=>(no k1 h).elim) λ_=>z00 (λh=>(no k2 h).elim) λ_=>z00 (λh=>(no k3 h).elim) λ_=>z00 (λh=>(no k9 h).elim) λ_=>⟨sI,rfl,rfl,rfl,rfl,rfl,rfl,Gb⟩
def scS(p:Pg)(x:St)(lo:List (List ByteArray))(s:RiT)(a:Bool×RiT):Prop:=SC Tryz.prog 66 [.ptr 4 0,.pv (stv x)] (riW p lo s) (λk=>k∈[]) (iBool a.1) (riW p lo a.2)
theorem yw6(p:Pg)(ty:Int)(nm:ByteArray)(args:List Ex)(thn els:List St)(lo:List (List ByteArray))(s:RiT)(a:Bool×RiT)
 (h:SC Tryz.prog 114 [.ptr 4 0,.pv (stv (.mk 4 ty nm args thn els))] (riW p lo s) (λk=>k∈[]) (iBool a.1) (riW p lo a.2)):scS p (.mk 4 ty nm args thn els) lo s a:=by
 refine SC.vc tb { pb:=[103] } [] Tryz.func66 rfl rfl ?_;exact⟨[],h,sR,Gi,rfl,sI,rfl,rfl,rfl,rfl,rfl,rfl,Gb⟩
theorem y4s(p:Pg)(ty:Int)(nm:ByteArray)(args:List Ex)(thn els:List St)(lo:List (List ByteArray))(s:RiT)(a:Bool×RiT)
 (h:SC Tryz.prog 115 [.ptr 4 0,.pv (stv (.mk 5 ty nm args thn els))] (riW p lo s) (λk=>k∈[]) (iBool a.1) (riW p lo a.2)):scS p (.mk 5 ty nm args thn els) lo s a:=by
 refine SC.vc tb { pb:=[103] } [] Tryz.func66 rfl rfl ?_;exact⟨[],h,sR,Gi,rfl,sI,rfl,rfl,rfl,rfl,rfl,rfl,Gb⟩
theorem yg7(p:Pg)(k ty:Int)(hk:k=6∨k=7)(nm:ByteArray)(args:List Ex)(thn els:List St)(lo:List (List ByteArray))(hlo:lo≠[])(s:RiT)(hv:Cnt s.vs)(hl:lo.length<=1000000000)(hln:(lo.getLastD []).length<=1000000000)(hn:s.ns.length<=34000000000):scS p (.mk k ty nm args thn els) lo s (riS p (.mk k ty nm args thn els) lo s):=by
 have hO:=zj3 s.vs hv (lo.getLastD []) oM0;have hpos:=Cz.2 hlo;have hg:((lo++s.jk).map eTxs)[lo.length-1]?=some (eTxs (lo.getLastD [])):=by
  rw[Ba,Aq oM0,<- Ef]
  cases lo with
  |nil=>exact absurd rfl hlo
  |cons y r=>simp[List.getLast?_cons,List.getLastD_eq_getLast?]
 rw[riS];refine SC.vc tb { pb:=[103] } [] Tryz.func66 rfl rfl ?_;rcases hk with rfl|rfl
 ·refine⟨rfl,z3b (z:=((lo.length:Nat):Int)-1) sI0 oM0,rfl,VIdR.mk (i:=lo.length-1) (by simp;omega) oM0 (VRow.mk (i:=lo.length-1) (j:=0) rfl rfl hg rfl ?_)⟩;exact⟨[5],hO,sR,Gd,rfl,[],z49 p s.ts ⟨lo,s.jk⟩ s.vs s.ns (.mk 14 0 0 ⟨#[]⟩ (riOf s.vs (lo.getLastD [])) [] [] []) oM0,SubA.same (SubA.cons (sP (z0c _)) SubA.nil),Gi,rfl,sI,rfl,rfl,rfl,rfl,rfl,rfl,Gb⟩
 ·refine⟨rfl,z3b (z:=((lo.length:Nat):Int)-1) sI0 oM0,rfl,VIdR.mk (i:=lo.length-1) (by simp;omega) oM0 (VRow.mk (i:=lo.length-1) (j:=0) rfl rfl hg rfl ?_)⟩;exact⟨[5],hO,sR,Gd,rfl,[],z49 p s.ts ⟨lo,s.jk⟩ s.vs s.ns (.mk 13 0 0 ⟨#[]⟩ (riOf s.vs (lo.getLastD [])) [] [] []) oM0,SubA.same (SubA.cons (sP (z0c _)) SubA.nil),Gi,rfl,sI,rfl,rfl,rfl,rfl,rfl,rfl,Gb⟩
theorem yw7(p:Pg)(ty:Int)(nm:ByteArray)(args:List Ex)(thn els:List St)(lo:List (List ByteArray))(s:RiT)(e:Ex)(he:args[0]?=some e)(hX:scX p e lo s.vs s.jk ⟨s.ts,s.ns⟩ (riX p s.vs e ⟨s.ts,s.ns⟩))(hn:(riX p s.vs e ⟨s.ts,s.ns⟩).2.ns.length<=34000000000):scS p (.mk 8 ty nm args thn els) lo s (riS p (.mk 8 ty nm args thn els) lo s):=by
 have g0:args.getD 0 ex0=e:=by rw[Ax,he];rfl
 rw[riS,if_neg dC0,if_neg dC0,if_neg dC0,if_neg dC0,if_pos rfl,g0];refine SC.vc tb { pb:=[103] } [] Tryz.func66 rfl rfl ?_;generalize riX p s.vs e ⟨s.ts,s.ns⟩=c at hX hn⊢;obtain⟨c1,c2⟩:=c;dsimp only at hX hn⊢;exact⟨z1c he,rfl,[],hX,sR,Gi,rfl,[],z49 p c2.ts ⟨lo,s.jk⟩ s.vs c2.ns (.mk 15 0 0 ⟨#[]⟩ [c1] [] [] []) oM0,SubA.same (SubA.cons (sP (z0c _)) SubA.nil),Gi,rfl,sI,rfl,rfl,rfl,rfl,rfl,rfl,Gb⟩
theorem y4r(p:Pg)(k ty:Int)(h4:k≠4)(h5:k≠5)(h6:k≠6)(h7:k≠7)(h8:k≠8)(nm:ByteArray)(args:List Ex)(thn els:List St)(lo:List (List ByteArray))(s:RiT)
 (h:SC Tryz.prog 119 [.ptr 4 0,.pv (stv (.mk k ty nm args thn els))] (riW p lo s) (λk=>k∈[]) (.tup []) (riW p lo (ze9 p k nm args s))):scS p (.mk k ty nm args thn els) lo s (riS p (.mk k ty nm args thn els) lo s):=by
 rw[riS,if_neg h4,if_neg h5,if_neg h6,if_neg h7,if_neg h8];refine SC.vc tb { pb:=[103] } [] Tryz.func66 rfl rfl ?_;have no:∀{i:Int},k≠i->(k==i)=true->False:=λh e=>h (eq_of_beq e);exact z00 (λh=>(no h4 h).elim) λ_=>z00 (λh=>(no h5 h).elim) λ_=>z00 (λh=>(no h6 h).elim) λ_=>z00 (λh=>(no h7 h).elim) λ_=>z00 (λh=>(no h8 h).elim) λ_=>⟨[],h,sR,Gi,rfl,sI,rfl,rfl,rfl,rfl,rfl,rfl,Gb⟩
def riIx(p:Pg)(lo:List (List ByteArray)):List St->Int->RiT->Int
 |[],_,_=>-1
 |x::r,j,s=>if (riS p x lo s).1 then j else riIx p lo r (j+1) (riS p x lo s).2
theorem j24(p:Pg)(lo:List (List ByteArray)):∀(l:List St)(j:Int)(s:RiT),0<=j->decide (riIx p lo l j s≥0)=(riB p l lo s).1
 |[],_,_,_=>by rw[riIx,riB];rfl
 |x::r,j,s,hj=>by
  rw[riIx,riB];split
  ·simp[hj]
  ·exact j24 p lo r (j+1) _ oM0
theorem sc_riIdx(p:Pg)(lo:List (List ByteArray))(l:List St)(s0:RiT)(I:Nat->RiT->Prop)(h0:I 0 s0)(hS:∀i x s,l[i]?=some x->I i s->scS p x lo s (riS p x lo s)/\((riS p x lo s).1=false->I (i+1) (riS p x lo s).2)) :
 SC Tryz.prog 113 [.pv (sts l),.fn (.func 66) [.ptr 4 0] []] (riW p lo s0) (λk=>k∈[]) (iInt (riIx p lo l 0 s0)) (riW p lo (riB p l lo s0).2):=by
 refine SC.vc tb { gh:=[(0,[.len 0])] } [] Tryz.func113 rfl rfl ?_;intro hl;simp only[Ac]at hl;have hl:l.length<=9223372036854775807:=hl;refine⟨Nat×RiT,λa=>[(8,iInt ((a.1:Nat):Int))],λa=>riW p lo a.2,λa=>l.length-a.1,λa=>a.1<=l.length/\I a.1 a.2/\riIx p lo l 0 s0=riIx p lo (l.drop a.1) a.1 a.2/\riB p l lo s0=riB p (l.drop a.1) lo a.2,[],(0,s0),⟨Ad _,h0,rfl,rfl⟩,Gc,Gi,?_⟩;rintro⟨i,s⟩ ⟨i1,i2,i3,i4⟩;dsimp only at i1 i2 i3 i4;refine z00 (λhc=>?_) λhc=>?_
 ·have hlt:i<l.length:=z0z (f:=St.enc) rfl hc;obtain⟨x,x1,x2,x3,x4⟩:=z0p hlt;obtain⟨hx,hI⟩:=hS i x s x1 i2;rw[x3,riIx]at i3;rw[x3,riB]at i4;unfold scS at hx;generalize riS p x lo s=a at hx hI i3 i4;obtain⟨b,q⟩:=a;dsimp only at hx hI i3 i4
  cases b
  ·simp only[Ap,By]at i3 i4;exact⟨zj9 x1,rfl,hx,sR,Gi,λk hk=>hk,rfl,rfl,z01 rfl oM0,(i+1,q),z03 hlt,⟨hlt,hI rfl,i3,i4⟩,Gc,Gi,rfl,rfl,rfl,rfl⟩
  ·simp only[C8]at i3 i4;rw[i3,i4];exact⟨zj9 x1,rfl,hx,sR,Gi,λk hk=>hk,rfl,rfl,sI,rfl,rfl,rfl,rfl,rfl,rfl,Gb⟩
 ·have hge:l.length<=i:=z10 (f:=St.enc) rfl hc;rw[i3,i4,Ab hge,riIx,riB];exact⟨sI,rfl,rfl,rfl,rfl,rfl,rfl,Gb⟩
theorem sc_riHas(p:Pg)(lo:List (List ByteArray))(l:List St)(s0:RiT)(I:Nat->RiT->Prop)(h0:I 0 s0)(hS:∀i x s,l[i]?=some x->I i s->scS p x lo s (riS p x lo s)/\((riS p x lo s).1=false->I (i+1) (riS p x lo s).2)) :
 SC Tryz.prog 65 [.pv (sts l),.fn (.func 66) [.ptr 4 0] []] (riW p lo s0) (λk=>k∈[]) (iBool (riB p l lo s0).1) (riW p lo (riB p l lo s0).2):=by
 refine SC.vc tb {} [] Tryz.func65 rfl rfl ?_;exact⟨[],sc_riIdx p lo l s0 I h0 hS,sR,Gi,rfl,sE (Af iBool (j24 p lo l 0 s0 dC0)),rfl,rfl,rfl,rfl,rfl,rfl,Gb⟩
theorem yw9(p:Pg)(lo:List (List ByteArray))(l:List St)(s0:RiT)(I:Nat->RiT->Prop)(h0:I 0 s0)(hS:∀i x s,l[i]?=some x->I i s->scS p x lo s (riS p x lo s)/\((riS p x lo s).1=false->I (i+1) (riS p x lo s).2)):scB p l lo s0 (riB p l lo s0):=by
 refine SC.vc tb {} [] Tryz.func38 rfl rfl ?_;exact⟨[],sc_riHas p lo l s0 I h0 hS,sR,Gi,rfl,sI,rfl,rfl,rfl,rfl,rfl,rfl,Gb⟩
mutual
def cnS:St->Nat
 |.mk _ _ _ _ thn els=>1+cnL thn+cnL els
def cnL:List St->Nat
 |[]=>0
 |x::r=>cnS x+cnL r
end
mutual
def grS:St->Nat
 |.mk _ _ _ args thn els=>2+8*xzL args+2*(cnL thn+cnL els)+grL thn+grL els
def grL:List St->Nat
 |[]=>0
 |x::r=>grS x+grL r
end
def gA(p:Pg)(n:Nat)(args:List Ex):Bool:=decide (n<=args.length)&&zm9 p args
mutual
def gS(p:Pg)(b lp:Bool):St->Bool
 |.mk k _ _ args thn els =>
  if k=4 then gA p 1 args&&gB p b lp thn&&gB p b lp els
  else if k=5 then gA p 1 args&&gB p b true thn
  else if k=6∨k=7 then lp
  else if k=3 then gA p 2 args
  else gA p 1 args&&(b||(args.getD 0 ex0).kind != 3)
def gB(p:Pg)(b lp:Bool):List St->Bool
 |[]=>true
 |x::r=>gS p b lp x&&gB p (b||x.kind==1) lp r
end
structure RiI(vs:List (Value×PV))(n:Nat)(b:Bool):Prop where
 cnt:Cnt vs
 rng:∀e∈vs,∃v:Int,e.2=vInt v/\0<=v/\v<n
 ne:b=true->vs≠[]
theorem RiI.get{vs:List (Value×PV)}{n:Nat}{b:Bool}(h:RiI vs n b)(nm:ByteArray)(hb:b=true∨(z1m (.string nm) vs).isSome=true):0<=y3b vs nm/\y3b vs nm<n:=by
 unfold y3b
 cases hf:z1m (.string nm) vs with
 |none =>
  rcases hb with hb|hb
  ·obtain⟨e,r,he⟩:=C6 (h.ne hb);obtain⟨v,_,h1,h2⟩:=h.rng e (he▸ .head _);exact⟨D1 _,by dsimp only;omega⟩
  ·rw[hf]at hb;cases hb
 |some q =>
  obtain⟨a,ha⟩:=z7n hf;obtain⟨v,h1,h2,h3⟩:=h.rng _ ha;dsimp only at h1;subst h1;exact⟨h2,h3⟩
theorem RiI.mono{vs:List (Value×PV)}{n m:Nat}{b:Bool}(h:RiI vs n b)(hm:n<=m):RiI vs m b:=⟨h.cnt,λe he=>by obtain⟨v,h1,h2,h3⟩:=h.rng e he;exact⟨v,h1,h2,by omega⟩,h.ne⟩
theorem RiI.weak{vs:List (Value×PV)}{n:Nat}{b c:Bool}(h:RiI vs n b)(hc:c=true->b=true):RiI vs n c:=⟨h.cnt,h.rng,λe=>h.ne (hc e)⟩
theorem mput_ne{k:Value}{v:PV}:∀{es:List (Value×PV)},mput k v es≠[]
 |[],h=>by simp[mput]at h
 |(a,q)::r,h=>by
  simp only[mput]at h;split at h<;>cases h
theorem RiI.put{vs:List (Value×PV)}{n:Nat}{b:Bool}(h:RiI vs n b)(nm:ByteArray){v:Int}(h0:0<=v)(h1:v<n):RiI (riSt vs nm v) n true :=
 ⟨h.cnt.putI nm v,λe he=>by
  rcases z45 he with rfl|he
  ·exact⟨v,rfl,h0,h1⟩
  ·exact h.rng e he,λ_=>mput_ne⟩
theorem RiI.set{n:Nat}{b:Bool}:∀(l:List ByteArray) (q:List Int) {vs:List (Value×PV)},RiI vs n b->(∀v∈q,0<=v/\v<n)->RiI (zn0 vs l q) n b
 |[],[],_,h,_=>h
 |[],_::_,_,h,_=>h
 |_::_,[],_,h,_=>h
 |x::a,y::c,_,h,hq=>RiI.set a c ((h.put x (hq y (.head _)).1 (hq y (.head _)).2).weak λ_=>rfl) λv hv=>hq v (.tail _ hv)
theorem zs3:∀(l ts:List Int),∀v∈(z13 ts l).1,0<=v/\v<(z13 ts l).2.length
 |[],ts,v,h=>by cases h
 |x::r,ts,v,h=>by
  have hl:=z3g r (ts++[ts.getD x.toNat 0]);simp only[z13,Ao]at h⊢;rcases h with rfl|h
  ·have:=hl.2;rw[B5]at this;simp only[A1,A6]at this;omega
  ·exact zs3 r _ v h
theorem zm8(vs:List (Value×PV))(Q:Value->Prop)(hQ:∀nm,(z1m (.string nm) vs).isSome=true->Q (.string nm)):∀(N:Nat)(l:List St),SizeOf.sizeOf l<N->∀out:List (Value×PV),(∀e∈out,Q e.1)->∀e∈z4o vs l out,Q e.1
 |0,_,h,_,_=>absurd h (Aj _)
 |N+1,[],_,out,h=>by rw[z4o];exact h
 |N+1,x::r,hN,out,h=>by
  have hx:=zt6 x;simp at hN;rw[z4o,zc9];refine zm8 vs Q hQ N r oM0 _ (zm8 vs Q hQ N x.els oM0 _ (zm8 vs Q hQ N x.thn oM0 _ ?_));split
  ·rename_i hc;rw[A0]at hc;intro e he;rcases z45 he with rfl|he
   ·exact hQ _ hc.1
   ·exact h e he
  ·exact h
theorem ym5(k:Value)(v:PV):∀es:List (Value×PV),(mput k v es).length<=es.length+1
 |[]=>by simp[mput]
 |(a,q)::r=>by
  simp only[mput];split
  ·simp
  ·have:=ym5 k v r;simp;omega
theorem z90(vs:List (Value×PV)):∀(N:Nat)(l:List St),SizeOf.sizeOf l<N->∀out:List (Value×PV),(z4o vs l out).length<=out.length+cnL l
 |0,_,h,_=>absurd h (Aj _)
 |N+1,[],_,out=>by rw[z4o];simp[cnL]
 |N+1,x::r,hN,out=>by
  have hx:=zt6 x;simp at hN;rw[z4o,zc9];have h1:(if (z1m (.string x.name) vs).isSome&&x.kind==2 then mput (.string x.name) (.agg []) out else out).length<=out.length+1:=by
   split
   ·exact ym5 _ _ _
   ·omega
  generalize(if (z1m (.string x.name) vs).isSome&&x.kind==2 then mput (.string x.name) (.agg []) out else out)=o1 at h1;have h2:=z90 vs N x.thn oM0 o1;have h3:=z90 vs N x.els oM0 (z4o vs x.thn o1);have h4:=z90 vs N r oM0 (z4o vs x.els (z4o vs x.thn o1));have h5:cnS x=1+cnL x.thn+cnL x.els:=by cases x;rw[cnS];rfl
  rw[cnL];omega
theorem j27(vs:List (Value×PV))(Q:Value->Prop)(hQ:∀nm,(z1m (.string nm) vs).isSome=true->Q (.string nm))(ls:List (List St)):∀e∈z8l vs ls,Q e.1:=by
 suffices ∀(ls:List (List St)) (o:List (Value×PV)),(∀e∈o,Q e.1)->∀e∈ls.foldl (λo l=>z4o vs l o) o,Q e.1 from this ls [] λe he=>by cases he
 intro ls
 induction ls with
 |nil=>exact λo h=>h
 |cons l r ih=>exact λo h=>ih _ (zm8 vs Q hQ _ l (Aa _) o h)
theorem y4f(vs:List (Value×PV))(l:List St):(z8l vs [l]).length<=cnL l:=by
 have:=z90 vs _ l (Aa _) [];simpa[z8l]using this
theorem y4g(vs:List (Value×PV))(l m:List St):(z8l vs [l,m]).length<=cnL l+cnL m:=by
 have h1:=z90 vs _ l (Aa _) [];have h2:=z90 vs _ m (Aa _) (z4o vs l []);simp[z8l]at h1⊢;omega
theorem y4e{vs:List (Value×PV)}{n:Nat}{b:Bool}(h:RiI vs n b)(ls:List (List St)):∀v∈riOf vs (z0d vs ls),0<=v/\v<n:=by
 intro v hv;obtain⟨nm,h1,rfl⟩:=Cb.1 hv;refine h.get nm (.inr ?_);have hq:=j27 vs (λk=>∀s,k=.string s->(z1m (.string s) vs).isSome=true) (λnm h s e=>by cases e;exact h) ls;obtain⟨l,h2,rfl⟩:=Cb.1 h1;have h3:l∈((z8l vs ls).map λe=>z73 e.1).map λs=>s.data.toList:=List.mem_mergeSort.1 h2;obtain⟨s,h4,rfl⟩:=Cb.1 h3;obtain⟨e,h5,rfl⟩:=Cb.1 h4;have h6:=y1n vs ls e h5;have h7:=hq e h5
 cases hk:e.1<;>rw[hk]at h6<;>simp[z1w]at h6
 rename_i t;exact h7 t hk
structure RiR(b:Bool)(s r:RiT)(n g:Nat):Prop where
 I:RiI r.vs r.ts.length b
 lo:s.ts.length<=r.ts.length
 hi:r.ts.length<=s.ts.length+g
 ns:r.ns.length<=s.ns.length+g
 jk:r.jk.length<=s.jk.length+n
theorem j28(t k o n:Int)(nm:ByteArray)(args:List Int)(kids:List (List Nd))(s:RiS):0<=(z6n t k o n nm args kids s).1/\(z6n t k o n nm args kids s).1<(z6n t k o n nm args kids s).2.ts.length/\s.ts.length<=(z6n t k o n nm args kids s).2.ts.length:=by
 simp[z6n];omega
theorem y1p(p:Pg)(k o n:Int)(nm:ByteArray)(l:List Int)(s:RiS):0<=(zs5 p k o n nm l s).1/\(zs5 p k o n nm l s).1<(zs5 p k o n nm l s).2.ts.length/\s.ts.length<=(zs5 p k o n nm l s).2.ts.length:=by
 unfold zs5
 repeat' split
 all_goals exact j28 _ _ _ _ _ _ _ _
theorem zi9(o a:Int)(ns:List Nd)(r:Int×RiS):0<=(z6v o a ns r).1/\(z6v o a ns r).1<(z6v o a ns r).2.ts.length/\r.2.ts.length<=(z6v o a ns r).2.ts.length:=by
 unfold z6v;split<;>(simp[z6n];omega)
theorem riX_ge(p:Pg)(vs:List (Value×PV)):∀(N:Nat),(∀e:Ex,SizeOf.sizeOf e<N->∀s,s.ts.length<=(riX p vs e s).2.ts.length)/\(∀l:List Ex,SizeOf.sizeOf l<N->∀s,s.ts.length<=(riXL p vs l s).2.ts.length)/\(∀(o:Int)(l:List Ex),SizeOf.sizeOf l<N->∀s,s.ts.length<=(riSh p vs o l s).2.ts.length)/\(∀(o a:Int)(s:RiS)(l:List Ex),SizeOf.sizeOf l<N->s.ts.length<=(zn1 p vs o a s l).2.ts.length)
 |0=>⟨λ_ h=>absurd h (Aj _),λ_ h=>absurd h (Aj _),λ_ _ h=>absurd h (Aj _),λ_ _ _ _ h=>absurd h (Aj _)⟩
 |N+1=>by
  obtain⟨h1,h2,h3,h4⟩:=riX_ge p vs N;refine⟨λe he s=>?_,λl hl s=>?_,λo l hl s=>?_,λo a s l hl=>?_⟩
  ·obtain⟨k,o,n,nm,args⟩:=e;simp at he;rw[riX];split
   ·exact Ae _
   ·split
    ·exact h3 o args oM0 s
    ·exact B9 (h2 args oM0 s) (y1p p k o n nm _ _).2.2
  ·match l with
   |[]=>rw[riXL];exact Ae _
   |e::r =>
    simp at hl;rw[riXL];exact B9 (h1 e oM0 s) (h2 r oM0 _)
  ·match l with
   |[]=>rw[riSh];exact Ae _
   |e::r =>
    simp at hl;rw[riSh];exact B9 (h1 e oM0 s) (h4 o _ _ r oM0)
  ·match l with
   |[]=>rw[zn1];exact Ae _
   |e::r =>
    simp at hl;rw[zn1];exact B9 (h1 e oM0 ⟨s.ts,[]⟩) (zi9 o a s.ns _).2.2
theorem riX_rng(p:Pg){vs:List (Value×PV)}{b:Bool}(e:Ex)(s:RiS)(h:RiI vs s.ts.length b)(hb:b=true∨e.kind≠3)(hok:riOk p e=true):0<=(riX p vs e s).1/\(riX p vs e s).1<(riX p vs e s).2.ts.length:=by
 obtain⟨k,o,n,nm,args⟩:=e;rw[riX]
 by_cases h3:k=3
 ·rw[if_pos h3];rcases hb with hb|hb
  ·exact h.get nm (.inl hb)
  ·exact absurd h3 hb
 ·rw[if_neg h3]
  by_cases hs:k=5/\(o=18∨o=19)
  ·rw[if_pos hs];rw[riOk,A0]at hok;have h2:args.length=2:=by have:=hok.1;unfold j22 at this;rw[if_pos hs.1]at this;exact eq_of_beq this
   match args,h2 with
   |[e1,e2],_ =>
    rw[riSh,zn1];exact⟨(zi9 _ _ _ _).1,(zi9 _ _ _ _).2.1⟩
  ·rw[if_neg hs];exact⟨(y1p _ _ _ _ _ _ _).1,(y1p _ _ _ _ _ _ _).2.1⟩
theorem zs2{b:Bool}{vs:List (Value×PV)}{z04:List ByteArray}{n0:Nat}(h:RiI vs n0 b)(ts:List Int)(ns:List Nd)(jk:List (List ByteArray))(k:Int)(args params:List Int)(kids:List (List Nd))(hts:n0<=ts.length) :
 RiI (z6m vs z04 ts ns jk k args params kids).2.vs (z6m vs z04 ts ns jk k args params kids).2.ts.length b/\ts.length<=(z6m vs z04 ts ns jk k args params kids).2.ts.length/\(z6m vs z04 ts ns jk k args params kids).2.ts.length<=ts.length+z04.length/\(z6m vs z04 ts ns jk k args params kids).2.ns.length=ns.length+1/\(z6m vs z04 ts ns jk k args params kids).2.jk=jk:=by
 unfold z6m;split
 ·exact⟨h.mono hts,Ae _,Bi _ _,by simp,rfl⟩
 ·have hl:=z3g (riOf vs z04) ts;have hn:(riOf vs z04).length=z04.length:=by simp[riOf]
  refine⟨RiI.set _ _ (h.mono (by dsimp only;omega)) λv hv=>zs3 _ _ v hv,by dsimp only;omega,by dsimp only;omega,by simp,rfl⟩
theorem za0{p:Pg}{args:List Ex}(h:gA p 1 args=true):∃e,args[0]?=some e/\args.getD 0 ex0=e/\riOk p e=true/\xz e<=xzL args:=by
 unfold gA at h;rw[A0]at h;have h1:=An h.1
 match args,h1 with
 |e::r,_=>exact⟨e,rfl,rfl,zd0 h.2 (.head _),zh4 (.head _)⟩
theorem j0s{p:Pg}{args:List Ex}(h:gA p 2 args=true):∃e e2,args[0]?=some e/\args[1]?=some e2/\args.getD 0 ex0=e/\args.getD 1 ex0=e2/\riOk p e=true/\riOk p e2=true/\xz e+xz e2<=xzL args:=by
 unfold gA at h;rw[A0]at h;have h1:=An h.1
 match args,h1 with
 |e::e2::r,_=>exact⟨e,e2,rfl,rfl,rfl,rfl,zd0 h.2 (.head _),zd0 h.2 (.tail _ (.head _)),by simp only[xzL];omega⟩
theorem z88(vs:List (Value×PV))(l:List St):(z0d vs [l]).length<=cnL l:=(z9j vs [l]).symm▸y4f vs l
theorem zw4(vs:List (Value×PV))(l m:List St):(z0d vs [l,m]).length<=cnL l+cnL m:=(z9j vs [l,m]).symm▸y4g vs l m
theorem z5p(p:Pg)(vs:List (Value×PV))(e:Ex)(s:RiS):s.ts.length<=(riX p vs e s).2.ts.length/\(riX p vs e s).2.ts.length<=s.ts.length+4*xz e/\(riX p vs e s).2.ns.length<=s.ns.length+4*xz e :=
 ⟨(riX_ge p vs _).1 e (Aa _) s,(zw5 p vs _).1 e (Aa _) s⟩
theorem y1k{s:RiT}{b:Bool}(h:RiI s.vs s.ts.length b)(z04:List ByteArray):RiI (z2c s z04).vs (z2c s z04).ts.length b/\(z2c s z04).ts.length=s.ts.length+z04.length:=by
 have hl:=z3g (riOf s.vs z04) s.ts;have hn:(riOf s.vs z04).length=z04.length:=by simp[riOf]
 unfold z2c;refine⟨RiI.set _ _ (h.mono (by dsimp only;omega)) λv hv=>zs3 _ _ v hv,by dsimp only;omega⟩
theorem j29(p:Pg):∀N,(∀x:St,SizeOf.sizeOf x<N->∀b lp lo s,gS p b lp x=true->RiI s.vs s.ts.length b->RiR (b||x.kind==1) s (riS p x lo s).2 (cnS x) (grS x))/\(∀l:List St,SizeOf.sizeOf l<N->∀b lp lo s,gB p b lp l=true->RiI s.vs s.ts.length b->RiR b s (riB p l lo s).2 (cnL l) (grL l))
 |0=>⟨λ_ h=>absurd h (Aj _),λ_ h=>absurd h (Aj _)⟩
 |N+1=>by
  obtain⟨hS,hB⟩:=j29 p N;refine⟨λx hx b lp lo s hg hI=>?_,λl hl b lp lo s hg hI=>?_⟩
  ·obtain⟨k,ty,nm,args,thn,els⟩:=x;simp at hx;rw[gS]at hg;rw[riS];simp only[cnS,grS,St.kind]
   by_cases h4:k=4
   ·subst h4;rw[if_pos rfl,A0,A0]at hg;rw[if_pos rfl,show(b||(4:Int)==1)=b by simp];obtain⟨e,i1,i2,i3,i4⟩:=za0 hg.1.1;rw[i2];obtain⟨j1,j2,j3⟩:=z5p p s.vs e ⟨s.ts,s.ns⟩;generalize riX p s.vs e ⟨s.ts,s.ns⟩=c at j1 j2 j3⊢;dsimp only at j1 j2 j3;have hA:=hB thn oM0 b lp lo ⟨s.vs,c.2.ts,[],s.jk⟩ hg.1.2 (hI.mono j1);generalize riB p thn lo ⟨s.vs,c.2.ts,[],s.jk⟩=a at hA⊢;have hE:=hB els oM0 b lp lo ⟨s.vs,a.2.ts,[],a.2.jk⟩ hg.2 (hI.mono (B9 j1 hA.lo));generalize riB p els lo ⟨s.vs,a.2.ts,[],a.2.jk⟩=d at hE⊢;have hn:=zw4 s.vs thn els;generalize z0d s.vs [thn,els]=z04 at hn⊢;obtain⟨a1,a2,a3,a4,a5⟩:=hA;obtain⟨d1,d2,d3,d4,d5⟩:=hE;dsimp only at a2 a3 a4 a5 d2 d3 d4 d5;unfold ze8;obtain⟨r1,r2,r3,r4,r5⟩:=zs2 (z04:=z04) hI d.2.ts c.2.ns d.2.jk 10 [c.1] [] [z5o 12 z04 a,z5o 12 z04 d] oM0;exact⟨r1,by omega,by omega,by omega,by rw[r5];omega⟩
   by_cases h5:k=5
   ·subst h5;rw[if_neg dC0,if_pos rfl,A0]at hg;rw[if_neg dC0,if_pos rfl,show(b||(5:Int)==1)=b by simp];obtain⟨e,i1,i2,i3,i4⟩:=za0 hg.1;rw[i2];have hn:=z88 s.vs thn;generalize z0d s.vs [thn]=z04 at hn⊢;obtain⟨k1,k2⟩:=y1k hI z04;have ht:s.jk.tail.length<=s.jk.length:=by simp
    split
    ·have hA:=hB thn oM0 b true (lo++[z04]) (z2c s z04) hg.2 k1;generalize riB p thn (lo++[z04]) (z2c s z04)=a at hA⊢;obtain⟨a1,a2,a3,a4,a5⟩:=hA;have a5:a.2.jk.length<=s.jk.tail.length+cnL thn:=a5;unfold y6e;obtain⟨r1,r2,r3,r4,r5⟩:=zs2 (z04:=z04) hI a.2.ts s.ns (z04::a.2.jk) 11 (riOf s.vs z04) (z13 s.ts (riOf s.vs z04)).1 [z5o 13 z04 a] oM0;exact⟨r1,by omega,by omega,by omega,by rw[r5,A1];omega⟩
    ·obtain⟨j1,j2,j3⟩:=z5p p (z2c s z04).vs e ⟨(z2c s z04).ts,[]⟩;generalize riX p (z2c s z04).vs e ⟨(z2c s z04).ts,[]⟩=c at j1 j2 j3⊢;dsimp only at j1 j2 j3;have hA:=hB thn oM0 b true (lo++[z04]) ⟨(z2c s z04).vs,c.2.ts,[],s.jk.tail⟩ hg.2 (k1.mono j1);generalize riB p thn (lo++[z04]) ⟨(z2c s z04).vs,c.2.ts,[],s.jk.tail⟩=a at hA⊢;obtain⟨a1,a2,a3,a4,a5⟩:=hA;dsimp only at a2 a3 a4 a5;unfold y6f;obtain⟨r1,r2,r3,r4,r5⟩:=zs2 (z04:=z04) hI a.2.ts s.ns (z04::a.2.jk) 11 (riOf s.vs z04) (z13 s.ts (riOf s.vs z04)).1 [z9k z04 (z2c s z04).vs c a] oM0;exact⟨r1,by omega,by omega,by omega,by rw[r5,A1];omega⟩
   rw[if_neg h4,if_neg h5]at hg;rw[if_neg h4,if_neg h5]
   by_cases h6:k=6
   ·subst h6;rw[if_pos rfl,show(b||(6:Int)==1)=b by simp];exact⟨hI,Ae _,Bi _ _,by simp[z6u];omega,Bi _ _⟩
   by_cases h7:k=7
   ·subst h7;rw[if_neg dC0,if_pos rfl,show(b||(7:Int)==1)=b by simp];exact⟨hI,Ae _,Bi _ _,by simp[z6u];omega,Bi _ _⟩
   rw[if_neg oM0]at hg;rw[if_neg h6,if_neg h7]
   by_cases h8:k=8
   ·subst h8;rw[if_neg dC0,A0]at hg;rw[if_pos rfl,show(b||(8:Int)==1)=b by simp];obtain⟨e,i1,i2,i3,i4⟩:=za0 hg.1;rw[i2];obtain⟨j1,j2,j3⟩:=z5p p s.vs e ⟨s.ts,s.ns⟩;dsimp only at j1 j2 j3;exact⟨hI.mono j1,j1,by dsimp only;omega,by simp[z6u];omega,Bi _ _⟩
   rw[if_neg h8];unfold ze9
   by_cases h3:k=3
   ·subst h3;rw[if_pos rfl]at hg;obtain⟨e,e2,i1,i2,i3,i4,i5,i6,i7⟩:=j0s hg;rw[if_neg dC0,if_pos rfl,i3,i4,show(b||(3:Int)==1)=b by simp];obtain⟨j1,j2,j3⟩:=z5p p s.vs e ⟨s.ts,s.ns⟩;obtain⟨m1,m2,m3⟩:=z5p p s.vs e2 (riX p s.vs e ⟨s.ts,s.ns⟩).2;dsimp only at j1 j2 j3;exact⟨hI.mono (B9 j1 m1),B9 j1 m1,by dsimp only;omega,by simp[z6u];omega,Bi _ _⟩
   rw[if_neg h3,A0]at hg;obtain⟨e,i1,i2,i3,i4⟩:=za0 hg.1;have hg2:=hg.2;rw[i2]at hg2⊢;obtain⟨j1,j2,j3⟩:=z5p p s.vs e ⟨s.ts,s.ns⟩;dsimp only at j1 j2 j3
   by_cases h12:k=1∨k=2
   ·rw[if_pos h12];have hr:=riX_rng p e ⟨s.ts,s.ns⟩ hI (by
     rw[Br]at hg2;rcases hg2 with h|h
     ·exact .inl h
     ·exact .inr (by simpa using h)) i3
    exact⟨((hI.mono j1).put nm hr.1 hr.2).weak λ_=>rfl,j1,by dsimp only;omega,by dsimp only;omega,Bi _ _⟩
   ·rw[if_neg h12,if_neg h3,show(b||k==1)=b by rw[show(k==1)=false from A9.2 λe=>h12 (.inl e)];simp];split
    ·exact⟨hI.mono j1,j1,by dsimp only;omega,by simp[z6u];omega,Bi _ _⟩
    ·exact⟨hI.mono j1,j1,by dsimp only;omega,by dsimp only;omega,Bi _ _⟩
  ·match l with
   |[]=>rw[riB];exact⟨hI,Ae _,Bi _ _,Bi _ _,Bi _ _⟩
   |x::r =>
    simp at hl;rw[gB,A0]at hg;have h1:=hS x oM0 b lp lo s hg.1 hI;rw[riB];simp only[cnL,grL];obtain⟨a1,a2,a3,a4,a5⟩:=h1;split
    ·exact⟨a1.weak λh=>by rw[h];rfl,a2,by dsimp only;omega,by dsimp only;omega,by dsimp only;omega⟩
    ·obtain⟨d1,d2,d3,d4,d5⟩:=hB r oM0 _ lp lo (riS p x lo s).2 hg.2 a1;exact⟨d1.weak λh=>by rw[h];rfl,by omega,by omega,by omega,by omega⟩
mutual
def ntS(n:Nat):St->Prop
 |.mk _ _ nm _ thn els=>nm.size<=n/\ntL n thn/\ntL n els
def ntL(n:Nat):List St->Prop
 |[]=>True
 |x::r=>ntS n x/\ntL n r
end
theorem ntS_eq{n:Nat}{x:St}:ntS n x↔x.name.size<=n/\ntL n x.thn/\ntL n x.els:=by cases x;rw[ntS];exact Iff.rfl
theorem zz7(vs:List (Value×PV))(n:Nat):∀(N:Nat)(l:List St),SizeOf.sizeOf l<N->ntL n l->∀out:List (Value×PV),(∀e∈out,(z73 e.1).size<=n)->∀e∈z4o vs l out,(z73 e.1).size<=n
 |0,_,h,_,_,_=>absurd h (Aj _)
 |N+1,[],_,_,out,h=>by rw[z4o];exact h
 |N+1,x::r,hN,hm,out,h=>by
  have hx:=zt6 x;simp at hN;rw[ntL,ntS_eq]at hm;rw[z4o,zc9];refine zz7 vs n N r oM0 hm.2 _ (zz7 vs n N x.els oM0 hm.1.2.2 _ (zz7 vs n N x.thn oM0 hm.1.2.1 _ ?_));split
  ·intro e he;rcases z45 he with rfl|he
   ·exact hm.1.1
   ·exact h e he
  ·exact h
theorem yn7(vs:List (Value×PV))(n:Nat)(ls:List (List St))(hm:∀l∈ls,ntL n l):∀e∈z8l vs ls,(z73 e.1).size<=n:=by
 suffices ∀(ls:List (List St)) (_:∀l∈ls,ntL n l) (o:List (Value×PV)),(∀e∈o,(z73 e.1).size<=n)->∀e∈ls.foldl (λo l=>z4o vs l o) o,(z73 e.1).size<=n from this ls hm [] λe he=>by cases he
 intro ls
 induction ls with
 |nil=>exact λ_ o h=>h
 |cons l r ih=>exact λhm o h=>ih (λq hq=>hm q (.tail _ hq)) _ (zz7 vs n _ l (Aa _) (hm l (.head _)) o h)
theorem cn_le:∀N,(∀x:St,SizeOf.sizeOf x<N->cnS x<=sz x)/\(∀l:List St,SizeOf.sizeOf l<N->cnL l<=szL l)
 |0=>⟨λ_ h=>absurd h (Aj _),λ_ h=>absurd h (Aj _)⟩
 |N+1=>by
  obtain⟨h1,h2⟩:=cn_le N;refine⟨λx hx=>?_,λl hl=>?_⟩
  ·obtain⟨k,ty,nm,args,thn,els⟩:=x;simp at hx;have:=h2 thn oM0;have:=h2 els oM0;rw[cnS,sz];omega
  ·match l with
   |[]=>rw[cnL];omega
   |x::r =>
    simp at hl;have:=h1 x oM0;have:=h2 r oM0;rw[cnL,szL];omega
theorem j0f(l:List St):cnL l<=szL l:=(cn_le _).2 l (Aa _)
structure RiB(lp:Bool)(lo:List (List ByteArray))(s:RiT)(n g:Nat):Prop where
 ts:s.ts.length+g<=32000000000
 ns:s.ns.length+g<=32000000000
 jk:lo.length+s.jk.length+n<=1000000000
 lens:∀l∈lo,l.length<=1000000000
 inl:lp=true->lo≠[]
theorem nmOk1{vs:List (Value×PV)}{n:Nat}{b:Bool}(h:RiI vs n b){l:List St}(hs:szL l<=100000000)(hm:ntL maxLen l):NmOk vs [l] n :=
 ⟨λq hq=>by rw[Ak.1 hq];omega,yn7 vs maxLen [l] λq hq=>by rw[Ak.1 hq];exact hm,by have:=y4f vs l;have:=j0f l;omega,y4e h [l]⟩
theorem nmOk2{vs:List (Value×PV)}{n:Nat}{b:Bool}(h:RiI vs n b){l m:List St}(hs:szL l<=100000000)(hs2:szL m<=100000000)(hm:ntL maxLen l)(hm2:ntL maxLen m):NmOk vs [l,m] n :=
 ⟨λq hq=>by
  simp only[Ao,Bz,Fh]at hq;rcases hq with rfl|rfl<;>omega,yn7 vs maxLen [l,m] λq hq=>by
  simp only[Ao,Bz,Fh]at hq;rcases hq with rfl|rfl<;>assumption,by have:=y4g vs l m;have:=j0f l;have:=j0f m;omega,y4e h [l,m]⟩
theorem y0m{lo:List (List ByteArray)}{n:Nat}(h:∀l∈lo,l.length<=n):(lo.getLastD []).length<=n:=by
 rw[List.getLastD_eq_getLast?]
 cases hl:lo.getLast? with
 |none=>simp
 |some q=>exact h q (List.mem_of_getLast? hl)
def ihB(p:Pg)(l:List St):Prop:=∀b lp lo s,gB p b lp l=true->ntL maxLen l->szL l<=100000000->RiI s.vs s.ts.length b->RiB lp lo s (cnL l) (grL l)->scB p l lo s (riB p l lo s)
theorem resB(p:Pg)(l:List St)(b lp:Bool)(lo:List (List ByteArray))(s:RiT)(hg:gB p b lp l=true)(hI:RiI s.vs s.ts.length b):RiR b s (riB p l lo s).2 (cnL l) (grL l):=(j29 p _).2 l (Aa _) b lp lo s hg hI
theorem sc_ri4(p:Pg)(hp:szP p)(ty:Int)(nm:ByteArray)(args:List Ex)(thn els:List St)(hT:ihB p thn)(hE:ihB p els)(b lp:Bool)(lo:List (List ByteArray))(s:RiT)(hg:gS p b lp (.mk 4 ty nm args thn els)=true)(hm:ntS maxLen (.mk 4 ty nm args thn els))(hz:sz (.mk 4 ty nm args thn els)<=100000000)(hI:RiI s.vs s.ts.length b)(hb:RiB lp lo s (cnS (.mk 4 ty nm args thn els)) (grS (.mk 4 ty nm args thn els))):scS p (.mk 4 ty nm args thn els) lo s (riS p (.mk 4 ty nm args thn els) lo s):=by
 rw[gS,if_pos rfl,A0,A0]at hg;rw[ntS]at hm;rw[sz]at hz;obtain⟨b1,b2,b3,b4,b5⟩:=hb;rw[grS]at b1 b2;rw[cnS]at b3;rw[riS,if_pos rfl];obtain⟨e,i1,i2,i3,i4⟩:=za0 hg.1.1;rw[i2];obtain⟨j1,j2,j3⟩:=z5p p s.vs e ⟨s.ts,s.ns⟩;have hX:=yp3 p hp ⟨lo,s.jk⟩ s.vs hI.cnt _ e (Aa _) oM0 i3 ⟨s.ts,s.ns⟩ (by dsimp only;omega) (by dsimp only;omega);generalize riX p s.vs e ⟨s.ts,s.ns⟩=c at hX j1 j2 j3⊢;dsimp only at j1 j2 j3;have q1:=hI.mono j1;have hA:=hT b lp lo ⟨s.vs,c.2.ts,[],s.jk⟩ hg.1.2 hm.2.1 oM0 q1 ⟨by dsimp only;omega,by simp;omega,by dsimp only;omega,b4,b5⟩;have rA:=resB p thn b lp lo ⟨s.vs,c.2.ts,[],s.jk⟩ hg.1.2 q1;generalize riB p thn lo ⟨s.vs,c.2.ts,[],s.jk⟩=a at hA rA⊢;obtain⟨a1,a2,a3,a4,a5⟩:=rA;simp only[A6,Bt]at a2 a3 a4 a5;have q2:=hI.mono (B9 j1 a2);have hD:=hE b lp lo ⟨s.vs,a.2.ts,[],a.2.jk⟩ hg.2 hm.2.2 oM0 q2 ⟨by dsimp only;omega,by simp;omega,by dsimp only;omega,b4,b5⟩;have rE:=resB p els b lp lo ⟨s.vs,a.2.ts,[],a.2.jk⟩ hg.2 q2;generalize riB p els lo ⟨s.vs,a.2.ts,[],a.2.jk⟩=d at hD rE⊢;obtain⟨d1,d2,d3,d4,d5⟩:=rE;simp only[A6,Bt]at d2 d3 d4 d5;have hN:=nmOk2 (hI.mono (show s.ts.length<=d.2.ts.length by omega)) (l:=thn) (m:=els) oM0 oM0 hm.2.1 hm.2.2;have z1:a.2.ns.length<=34000000000:=by omega
 have z2:d.2.ns.length<=34000000000:=by omega
 have z3:c.2.ns.length<=34000000000:=by omega
 have z4:d.2.ts.length<=33000000000:=by omega
 exact yw6 p ty nm args thn els lo s _ (yg6 p (.mk 4 ty nm args thn els) lo s hI.cnt e i1 c hX a d hA hD a1.cnt d1.cnt z1 z2 hN z3 z4)
theorem yl6(lo:List (List ByteArray))(z04:List ByteArray):(lo++[z04]).length=lo.length+1:=by simp
theorem yl8{lo:List (List ByteArray)}{z04:List ByteArray}(h:∀l∈lo,l.length<=1000000000)(hn:z04.length<=1000000000):∀l∈lo++[z04],l.length<=1000000000:=λl hl=>by
 rcases B4.1 hl with g|g
 ·exact h l g
 ·rw[Ak.1 g];exact hn
theorem sc_ri5t(p:Pg)(ty:Int)(nm:ByteArray)(args:List Ex)(thn els:List St)(hT:ihB p thn)(b lp:Bool)(lo:List (List ByteArray))(s:RiT)(hg:gS p b lp (.mk 5 ty nm args thn els)=true)(hm:ntS maxLen (.mk 5 ty nm args thn els))(hz:sz (.mk 5 ty nm args thn els)<=100000000)(hI:RiI s.vs s.ts.length b)(hb:RiB lp lo s (cnS (.mk 5 ty nm args thn els)) (grS (.mk 5 ty nm args thn els)))(ht:zd1 (args.getD 0 ex0)=true):scS p (.mk 5 ty nm args thn els) lo s (riS p (.mk 5 ty nm args thn els) lo s):=by
 rw[gS,if_neg dC0,if_pos rfl,A0]at hg;rw[ntS]at hm;rw[sz]at hz;obtain⟨b1,b2,b3,b4,b5⟩:=hb;rw[grS]at b1 b2;rw[cnS]at b3;rw[riS,if_neg dC0,if_pos rfl,if_pos ht];obtain⟨e,i1,i2,i3,i4⟩:=za0 hg.1;rw[i2]at ht;have hn:=z88 s.vs thn;have hO:=nmOk1 hI (l:=thn) oM0 hm.2.1;have htl:s.jk.tail.length<=s.jk.length:=by simp
 refine y4s p ty nm args thn els lo s _ ?_;obtain⟨k1,k2⟩:=y1k hI (z0d s.vs [thn]);have kn:(z2c s (z0d s.vs [thn])).ns.length=0:=rfl;have kj:(z2c s (z0d s.vs [thn])).jk.length=s.jk.tail.length:=rfl;have hA:=hT b true (lo++[z0d s.vs [thn]]) (z2c s (z0d s.vs [thn])) hg.2 hm.2.1 oM0 k1 ⟨by omega,by omega,by rw[yl6];omega,yl8 b4 oM0,λ_=>by simp⟩;have rA:=resB p thn b true (lo++[z0d s.vs [thn]]) (z2c s (z0d s.vs [thn])) hg.2 k1;generalize riB p thn (lo++[z0d s.vs [thn]]) (z2c s (z0d s.vs [thn]))=a at hA rA⊢;obtain⟨a1,a2,a3,a4,a5⟩:=rA;have z1:(z0d s.vs [thn]).length<=34359738368:=by omega
 have z2:a.2.ns.length<=34000000000:=by omega
 have hRd:=yg8 p (.mk 5 ty nm args thn els) (z0d s.vs [thn]) (lo++[z0d s.vs [thn]]) (z2c s (z0d s.vs [thn])) e i1 ht a hA a1.cnt z1 z2;have y1:s.ts.length<=33000000000:=by omega
 have y2:s.ns.length<=34000000000:=by omega
 have y3:s.ts.length<=a.2.ts.length:=by omega
 have y4:a.2.ts.length<=33000000000:=by omega
 have y5:lo.length<=1000000000:=by omega
 have y6:s.jk.length<=1000000000:=by omega
 unfold y6e;exact y9c p (.mk 5 ty nm args thn els) lo s hI.cnt ⟨a.2.vs,a.2.ts,z5o 13 (z0d s.vs [thn]) a,a.2.jk⟩ hRd hO y1 y2 y3 y4 y5 y6
theorem sc_ri5f(p:Pg)(hp:szP p)(ty:Int)(nm:ByteArray)(args:List Ex)(thn els:List St)(hT:ihB p thn)(b lp:Bool)(lo:List (List ByteArray))(s:RiT)(hg:gS p b lp (.mk 5 ty nm args thn els)=true)(hm:ntS maxLen (.mk 5 ty nm args thn els))(hz:sz (.mk 5 ty nm args thn els)<=100000000)(hI:RiI s.vs s.ts.length b)(hb:RiB lp lo s (cnS (.mk 5 ty nm args thn els)) (grS (.mk 5 ty nm args thn els)))(ht:zd1 (args.getD 0 ex0)=false):scS p (.mk 5 ty nm args thn els) lo s (riS p (.mk 5 ty nm args thn els) lo s):=by
 rw[gS,if_neg dC0,if_pos rfl,A0]at hg;rw[ntS]at hm;rw[sz]at hz;obtain⟨b1,b2,b3,b4,b5⟩:=hb;rw[grS]at b1 b2;rw[cnS]at b3;rw[riS,if_neg dC0,if_pos rfl,if_neg (by rw[ht];decide)];obtain⟨e,i1,i2,i3,i4⟩:=za0 hg.1;rw[i2]at ht⊢;have hn:=z88 s.vs thn;have hO:=nmOk1 hI (l:=thn) oM0 hm.2.1;have htl:s.jk.tail.length<=s.jk.length:=by simp
 refine y4s p ty nm args thn els lo s _ ?_;obtain⟨k1,k2⟩:=y1k hI (z0d s.vs [thn]);obtain⟨j1,j2,j3⟩:=z5p p (z2c s (z0d s.vs [thn])).vs e ⟨(z2c s (z0d s.vs [thn])).ts,[]⟩;have hX:=yp3 p hp ⟨lo++[z0d s.vs [thn]],s.jk.tail⟩ (z2c s (z0d s.vs [thn])).vs k1.cnt _ e (Aa _) oM0 i3 ⟨(z2c s (z0d s.vs [thn])).ts,[]⟩ (by dsimp only;omega) (by simp;omega);generalize riX p (z2c s (z0d s.vs [thn])).vs e ⟨(z2c s (z0d s.vs [thn])).ts,[]⟩=c at hX j1 j2 j3⊢;simp only[A6,Bt]at j1 j2 j3;have q1:=k1.mono j1;have hA:=hT b true (lo++[z0d s.vs [thn]]) ⟨(z2c s (z0d s.vs [thn])).vs,c.2.ts,[],s.jk.tail⟩ hg.2 hm.2.1 oM0 q1 ⟨by dsimp only;omega,by simp only[A6];omega,by rw[yl6];dsimp only;omega,yl8 b4 oM0,λ_=>by simp⟩;have rA:=resB p thn b true (lo++[z0d s.vs [thn]]) ⟨(z2c s (z0d s.vs [thn])).vs,c.2.ts,[],s.jk.tail⟩ hg.2 q1;generalize riB p thn (lo++[z0d s.vs [thn]]) ⟨(z2c s (z0d s.vs [thn])).vs,c.2.ts,[],s.jk.tail⟩=a at hA rA⊢;obtain⟨a1,a2,a3,a4,a5⟩:=rA;simp only[A6,Bt]at a2 a3 a4 a5;have z1:(z0d s.vs [thn]).length<=34359738368:=by omega
 have z2:a.2.ns.length<=34000000000:=by omega
 have z3:c.2.ns.length<=34000000000:=by omega
 have hRd:=yg9 p (.mk 5 ty nm args thn els) (z0d s.vs [thn]) (lo++[z0d s.vs [thn]]) (z2c s (z0d s.vs [thn])) k1.cnt e i1 ht c hX a hA a1.cnt z1 z2 z3;have y1:s.ts.length<=33000000000:=by omega
 have y2:s.ns.length<=34000000000:=by omega
 have y3:s.ts.length<=a.2.ts.length:=by omega
 have y4:a.2.ts.length<=33000000000:=by omega
 have y5:lo.length<=1000000000:=by omega
 have y6:s.jk.length<=1000000000:=by omega
 unfold y6f;exact y9c p (.mk 5 ty nm args thn els) lo s hI.cnt ⟨(z2c s (z0d s.vs [thn])).vs,a.2.ts,z9k (z0d s.vs [thn]) (z2c s (z0d s.vs [thn])).vs c a,a.2.jk⟩ hRd hO y1 y2 y3 y4 y5 y6
theorem yp1(p:Pg)(hp:szP p):∀N,(∀x:St,SizeOf.sizeOf x<N->∀b lp lo s,gS p b lp x=true->ntS maxLen x->sz x<=100000000->RiI s.vs s.ts.length b->RiB lp lo s (cnS x) (grS x)->scS p x lo s (riS p x lo s)) /\
 (∀l:List St,SizeOf.sizeOf l<N->∀b lp lo s,gB p b lp l=true->ntL maxLen l->szL l<=100000000->RiI s.vs s.ts.length b->RiB lp lo s (cnL l) (grL l)->scB p l lo s (riB p l lo s))
 |0=>⟨λ_ h=>absurd h (Aj _),λ_ h=>absurd h (Aj _)⟩
 |N+1=>by
  obtain⟨hS,hB⟩:=yp1 p hp N;have hR:=j29 p;refine⟨λx hx b lp lo s hg hm hz hI hb=>?_,λl hl b lp lo s hg hm hz hI hb=>?_⟩
  ·obtain⟨k,ty,nm,args,thn,els⟩:=x;simp at hx;have hg0:=hg;have hm0:=hm;have hz0:=hz;have hb0:=hb;rw[gS]at hg;rw[ntS]at hm;rw[sz]at hz;obtain⟨b1,b2,b3,b4,b5⟩:=hb;rw[grS]at b1 b2;rw[cnS]at b3;have hXX:∀(e:Ex) (vs:List (Value×PV)) (t:RiS) (jk:List (List ByteArray)),Cnt vs->riOk p e=true->xz e<=xzL args->t.ts.length+4*xz e<=34000000000->t.ns.length+4*xz e<=34000000000->scX p e lo vs jk t (riX p vs e t):=λe vs t jk hv ho hx h1 h2=>yp3 p hp ⟨lo,jk⟩ vs hv _ e (Aa _) oM0 ho t h1 h2;have hTh:ihB p thn:=λb lp lo s=>hB thn oM0 b lp lo s;have hEl:ihB p els:=λb lp lo s=>hB els oM0 b lp lo s
   by_cases h4:k=4
   ·subst h4;exact sc_ri4 p hp ty nm args thn els hTh hEl b lp lo s hg0 hm0 hz0 hI hb0
   by_cases h5:k=5
   ·subst h5
    by_cases ht:zd1 (args.getD 0 ex0)=true
    ·exact sc_ri5t p ty nm args thn els hTh b lp lo s hg0 hm0 hz0 hI hb0 ht
    ·exact sc_ri5f p hp ty nm args thn els hTh b lp lo s hg0 hm0 hz0 hI hb0 (by simpa using ht)
   rw[if_neg h4,if_neg h5]at hg
   by_cases h67:k=6∨k=7
   ·rw[if_pos h67]at hg;exact yg7 p k ty h67 nm args thn els lo (b5 hg) s hI.cnt oM0 (y0m b4) oM0
   rw[if_neg h67]at hg;have h6:k≠6:=λe=>h67 (.inl e);have h7:k≠7:=λe=>h67 (.inr e)
   by_cases h3:k=3
   ·subst h3;rw[if_pos rfl]at hg;obtain⟨e,e2,i1,i2,i3,i4,i5,i6,i7⟩:=j0s hg;obtain⟨j1,j2,j3⟩:=z5p p s.vs e ⟨s.ts,s.ns⟩;obtain⟨m1,m2,m3⟩:=z5p p s.vs e2 (riX p s.vs e ⟨s.ts,s.ns⟩).2;dsimp only at j1 j2 j3;have hX:=hXX e s.vs ⟨s.ts,s.ns⟩ s.jk hI.cnt i5 oM0 (by dsimp only;omega) (by dsimp only;omega);have hX2:=hXX e2 s.vs (riX p s.vs e ⟨s.ts,s.ns⟩).2 s.jk hI.cnt i6 oM0 oM0 oM0;exact y4r p 3 ty dC0 dC0 dC0 dC0 dC0 nm args thn els lo s (y24 p 3 ty nm args thn els lo s hI.cnt e i1 hX oM0 λ_=>⟨e2,i2,hX2,by omega⟩)
   rw[if_neg h3,A0]at hg;obtain⟨e,i1,i2,i3,i4⟩:=za0 hg.1;obtain⟨j1,j2,j3⟩:=z5p p s.vs e ⟨s.ts,s.ns⟩;dsimp only at j1 j2 j3;have hX:=hXX e s.vs ⟨s.ts,s.ns⟩ s.jk hI.cnt i3 i4 (by dsimp only;omega) (by dsimp only;omega)
   by_cases h8:k=8
   ·subst h8;exact yw7 p ty nm args thn els lo s e i1 hX oM0
   ·exact y4r p k ty h4 h5 h6 h7 h8 nm args thn els lo s (y24 p k ty nm args thn els lo s hI.cnt e i1 hX oM0 λe=>absurd e h3)
  ·refine yw9 p lo l s (λi t=>∃c,RiI t.vs t.ts.length c/\gB p c lp (l.drop i)=true/\ntL maxLen (l.drop i)/\t.ts.length+grL (l.drop i)<=s.ts.length+grL l/\t.ns.length+grL (l.drop i)<=s.ns.length+grL l/\t.jk.length+cnL (l.drop i)<=s.jk.length+cnL l) ⟨b,hI,hg,hm,Ae _,Ae _,Ae _⟩ ?_;rintro i x t hx ⟨c,c1,c2,c3,c4,c5,c6⟩;have hd:l.drop i=x::l.drop (i+1):=by
    obtain⟨h1,h2⟩:=A7.1 hx;rw[<- h2];exact Cy h1
   have hmem:=Ag hx;have hsz:=zx5 hmem;have hso:=Bm hmem;rw[hd,gB,A0]at c2;rw[hd,ntL]at c3;rw[hd,grL]at c4 c5;rw[hd,cnL]at c6;obtain⟨b1,b2,b3,b4,b5⟩:=hb;have r:=(hR _).1 x (Aa _) c lp lo t c2.1 c1;obtain⟨r1,r2,r3,r4,r5⟩:=r;exact⟨hS x oM0 c lp lo t c2.1 c3.1 oM0 c1 ⟨by omega,by omega,by omega,b4,b5⟩,λ_=>⟨_,r1,c2.2,c3.2,by omega,by omega,by omega⟩⟩
section
variable {T:List Tk}
theorem zb2(k t:Int)(s:ByteArray)(a:List Ex)(x y:List St):cnS (.mk k t s a x y)=1+cnL x+cnL y:=by simp only[cnS]
theorem cnL_one(a:St):cnL [a]=cnS a:=by simp[cnL]
theorem j0e:∀a b:List St,cnL (a++b)=cnL a+cnL b
 |[],b=>by simp[cnL]
 |x::r,b=>by simp only[Bb,cnL,j0e r b];omega
attribute [local irreducible] mE z81
theorem let_cn(hT:TkOk T){s:Ps}(h:(mLet T s).2.over=false):2*cnS (mLet T s).1+s.at_<=(mLet T s).2.at_:=by
 unfold mLet at h⊢;dsimp only at h⊢;have b1:=(z56 hT).back h;have b2:=(z0b hT (w:=sEq)).back b1;have b3:=(z1y hT (k:=1) dC0).back b2;have a1:=(z56 hT (s:=z0o T sEq (z0m T 1 (z0r T s).2).2)).at_;have a2:=zh9.lt b1;have a3:=z6q.lt b2;have a4:=zl0.lt b3;simp only[zb2,cnL];omega
theorem named_cn(hT:TkOk T){s:Ps}(h:(z5j T s).2.over=false):2*cnS (z5j T s).1+s.at_<=(z5j T s).2.at_:=by
 unfold z5j at h⊢;split at h
 ·rename_i h1;rw[if_pos h1];dsimp only at h⊢;have h2:=ym2 hT 2 (z0m T 1 s).2.next;have h3:=((z54 hT (big T)).2.2.2.2.1 2 (z0m T 1 s).2.next).at_;have b1:=(z4n h1).1;have a1:=z6q.lt b1;rw[z0n]at h3;simp only[zb2,cnL];omega
 rename_i h1;rw[if_neg h1];split at h
 ·rename_i h2;rw[if_pos h2];dsimp only at h⊢;have b1:=(z4n h2).1;have a1:=z6q.lt b1;have d1:=(z56 hT (s:=(z0m T 1 s).2.next)).at_;rw[z0n]at d1;generalize(mE T (z0m T 1 s).2.next)=e at h d1⊢;have d2:=(z0b hT (w:=sSc) (s:=e.2)).at_;have d3:=(z0b hT (w:=sEq) (s:=z0o T sSc e.2)).at_;have d4:=(z56 hT (s:=z0o T sEq (z0o T sSc e.2))).at_;simp only[zb2,cnL];omega
 ·rename_i h2;rw[if_neg h2];dsimp only at h⊢;have b1:=(z56 hT).back h;have b2:=(z0b hT (w:=sEq)).back b1;have a1:=z6q.lt b2;have a2:=zh9.lt b1;have a3:=(z56 hT (s:=z0o T sEq (z0m T 1 s).2)).at_;simp only[zb2,cnL];omega
theorem flat_cn(hT:TkOk T){s:Ps}(h:(zg2 T s).2.over=false):2*cnS (zg2 T s).1+s.at_<=(zg2 T s).2.at_+1:=by
 unfold zg2 at h⊢;split at h
 ·rename_i h1;rw[if_pos h1];simp only[zb2,cnL,z0n];omega
 rename_i h1;rw[if_neg h1];split at h
 ·rename_i h1;rw[if_pos h1];simp only[zb2,cnL,z0n];omega
 rename_i h1;rw[if_neg h1];split at h
 ·rename_i h1;rw[if_pos h1];have a1:=(z56 hT (s:=s.next)).at_;rw[z0n]at a1;simp only[zb2,cnL];omega
 rename_i h1;rw[if_neg h1];split at h
 ·rename_i h1;rw[if_pos h1];have a1:=(z2s hT (s:=s.next)).at_;rw[z0n]at a1;simp only[zb2,cnL];omega
 rename_i h1;rw[if_neg h1];have:=named_cn hT h;omega
theorem y0p(hT:TkOk T){s:Ps}(h:(z1z T s).2.over=false):s.at_+1<=(z1z T s).2.at_:=by
 unfold z1z at h⊢;dsimp only at h⊢;have b1:=(z0b hT (w:=sRc)).back h;have b2:=(z56 hT).back b1;have a1:=zh9.lt b2;have a2:=(z56 hT (s:=z0o T sRo s)).at_;have a3:=(z0b hT (w:=sRc) (s:=(mE T (z0o T sRo s)).2)).at_;omega
theorem stmt_cn(hT:TkOk T)(N:Nat)(iB:∀d s,(z21 T N d s).2.over=false->2*cnL (z21 T N d s).1+s.at_<=(z21 T N d s).2.at_)(d:Int)(s:Ps)(h:(z62 T (N+1) d s).2.over=false):2*cnS (z62 T (N+1) d s).1+s.at_<=(z62 T (N+1) d s).2.at_:=by
 have e:=y2h d s;unfold z62 at h⊢;generalize z39 d s=s at e h⊢;rw[<- e];split at h
 ·rename_i h1;rw[if_pos h1];have b1:=(z0b hT (w:=z5d)).back h;have h2:=let_cn hT b1;have h3:=(z0b hT (w:=z5d) (s:=(mLet T s).2)).at_;dsimp only at h3⊢;omega
 rename_i h1;rw[if_neg h1];split at h
 ·rename_i h1;rw[if_pos h1];split at h
  ·rename_i h2;rw[if_pos h2];have b2:=iB _ _ h;have b0:=(z4n h2).1;have b3:=iB _ _ b0;have b4:=y0p hT (((z5g hT N).2.1 _ _).back b0);rw[z0n]at b2 b4;simp only[zb2];omega
  ·rename_i h2;rw[if_neg h2];have b3:=iB _ _ h;have b4:=y0p hT (((z5g hT N).2.1 _ _).back h);rw[z0n]at b4;simp only[zb2,cnL];omega
 rename_i h1;rw[if_neg h1];split at h
 ·rename_i h1;rw[if_pos h1];have b3:=iB _ _ h;have b4:=y0p hT (((z5g hT N).2.1 _ _).back h);rw[z0n]at b4;simp only[zb2,cnL];omega
 rename_i h1;rw[if_neg h1];have b1:=(z0b hT (w:=z5d)).back h;have h2:=flat_cn hT b1;have h3:=zh9.lt h;dsimp only at h3⊢;omega
theorem yq1(hT:TkOk T):∀N,(∀d s,(z62 T N d s).2.over=false->2*cnS (z62 T N d s).1+s.at_<=(z62 T N d s).2.at_)/\(∀d s,(z21 T N d s).2.over=false->2*cnL (z21 T N d s).1+s.at_<=(z21 T N d s).2.at_) /\
 (∀d out s,(z85 T N d out s).2.over=false->2*cnL (z85 T N d out s).1+s.at_<=2*cnL out+(z85 T N d out s).2.at_)
 |0=>⟨λd s h=>absurd h (by simp[z62,Ps.over,Ps.setBad]),λd s _=>by show 0+s.at_<=s.at_;omega,λd out s _=>by show 2*cnL out+s.at_<=2*cnL out+s.at_;omega⟩
 |N+1=>by
  obtain⟨iS,iB,iL⟩:=yq1 hT N;refine⟨λd s h=>stmt_cn hT N iB d s h,λd s h=>?_,λd out s h=>?_⟩
  ·unfold z21 at h⊢;have h1:=iL d [] (z0o T sBo s) h;have h2:=(z0b hT (w:=sBo) (s:=s)).at_;simp only[cnL]at h1;omega
  ·unfold z85 at h⊢;split at h
   ·rename_i h1;rw[if_pos h1];exact Ae _
   rename_i h1;rw[if_neg h1];split at h
   ·rename_i h1;rw[if_pos h1];simp only[z0n];omega
   rename_i h1;rw[if_neg h1];have b1:=((z5g hT N).2.2 _ _ _).back h;have h2:=iL _ _ _ h;have h3:=iS _ _ b1;rw[j0e,cnL_one]at h2;omega
def pcn:List Fu->Nat
 |[]=>0
 |f::r=>cnL f.body+pcn r
theorem j1s:∀a b:List Fu,pcn (a++b)=pcn a+pcn b
 |[],b=>by simp[pcn]
 |x::r,b=>by simp only[Bb,pcn,j1s r b];omega
theorem func_cn(hT:TkOk T){t:Int}{n:ByteArray}{s:Ps}(h:(z75 T t n s).2.over=false):2*cnL (z75 T t n s).1.body+s.at_<=(z75 T t n s).2.at_:=by
 unfold z75 at h⊢;dsimp only at h⊢;have h1:=(yq1 hT (big T)).2.1 1 _ h;have h2:=(z0b hT (w:=sRo) (s:=s)).at_;have h6:=(zk7 hT (s:=z0o T sRo s)).at_;omega
theorem ye4(hT:TkOk T):∀N p s,(z43 T N p s).2.over=false->2*pcn (z43 T N p s).1.funcs+s.at_<=2*pcn p.funcs+(z43 T N p s).2.at_
 |0,_,_,_=>Ae _
 |N+1,p,s,h=>by
  unfold z43 at h⊢;split
  ·exact Ae _
  rename_i c1;rw[if_neg c1]at h;have a1:=(z5h hT (s:=s)).at_;have a2:=(z1y hT (k:=1) dC0 (s:=(z0r T s).2)).at_;split
  ·rename_i c2;rw[if_pos c2]at h;have h1:=ye4 hT N _ _ h;have a3:=(z1y hT (k:=0) dC0 (s:=(z0m T 1 (z0r T s).2).2.next)).at_;have a4:=(z0b hT (w:=sSc) (s:=(z0m T 0 (z0m T 1 (z0r T s).2).2.next).2)).at_;have a5:=(z0b hT (w:=z5d) (s:=z0o T sSc (z0m T 0 (z0m T 1 (z0r T s).2).2.next).2)).at_;rw[z0n]at a3;dsimp only at h1;omega
  ·rename_i c2;rw[if_neg c2]at h;have h1:=ye4 hT N _ _ h;have b1:(z75 T (z0r T s).1 (z0m T 1 (z0r T s).2).1 (z0m T 1 (z0r T s).2).2).2.over=false:=(z9a hT N _ _).back h;have h2:=func_cn hT b1;rw[j1s]at h1;simp only[pcn]at h1;omega
theorem j0t(s:ByteArray):pcn (z2b s).1.funcs<=50000:=by
 unfold z2b;split
 ·rename_i h0;obtain⟨hT,hl⟩:=y2l h0;split
  ·exact Ad _
  ·rename_i h1;split
   ·exact Ad _
   ·rename_i h2;split
    ·have ho:(z9c (z1u s).1).2.over=false:=by unfold Ps.over;rw[Er.2 h1,Er.2 h2];rfl
     have hp:0<(z1u s).1.length:=by obtain⟨i,e,h,_⟩:=hT;rw[h];simp
     have h3:=ye4 hT (big (z1u s).1) ⟨[],[]⟩ ⟨0,false,false⟩ ho;have h4:=(z9a hT (big (z1u s).1) ⟨[],[]⟩ ⟨0,false,false⟩).lt hp;unfold z9c;simp only[pcn]at h3;dsimp only at h3 h4⊢;omega
    ·exact Ad _
 ·exact Ad _
end
theorem yz8{p:Pg}{s:Sc}{e:Ex}{r:List Ex}(h:(z70 p s (e::r)).2=0):(z5a p s e).2=0/\(z70 p s r).2=0:=by
 rw[z70]at h
 by_cases h1:(z5a p s e).2=0
 ·rw[if_pos h1]at h
  by_cases h2:(z70 p s r).2=0
  ·exact⟨h1,h2⟩
  ·rw[if_neg h2]at h;exact absurd h h2
 ·rw[if_neg h1]at h;exact absurd h h1
theorem yr7{p:Pg}{s:Sc}{k o n:Int}{nm:ByteArray}{args:List Ex}(h:(z5a p s (.mk k o n nm args)).2=0):z8c p s k nm args.length=0/\(z70 p s args).2=0:=by
 rw[z5a]at h
 by_cases h1:z8c p s k nm args.length=0
 ·rw[if_pos h1]at h
  by_cases h2:(z70 p s args).2=0
  ·exact⟨h1,h2⟩
  ·rw[if_neg h2]at h;exact absurd h h2
 ·rw[if_neg h1]at h;exact absurd h h1
theorem yFine_ok{b:Bool}{e:Int}(he:e≠0)(h:zy3 b e=0):b=true:=by
 unfold zy3 at h
 cases b with
 |true=>rfl
 |false=>exact absurd h he
theorem j25(p:Pg)(s:Sc):∀N,(∀e:Ex,SizeOf.sizeOf e<N->∀m,rx e m=true->(z5a p s e).2=0->riOk p e=true)/\(∀l:List Ex,SizeOf.sizeOf l<N->∀m,rxL l m=true->(z70 p s l).2=0->zm9 p l=true)
 |0=>⟨λ_ h=>absurd h (Aj _),λ_ h=>absurd h (Aj _)⟩
 |N+1=>by
  obtain⟨h1,h2⟩:=j25 p s N;refine⟨λe he m hr hy=>?_,λl hl m hr hy=>?_⟩
  ·obtain⟨k,o,n,nm,args⟩:=e;simp at he;rw[rx,A0]at hr;obtain⟨y1,y2⟩:=yr7 hy;rw[riOk,h2 args oM0 m hr.1 y2,Ck];have hr2:=hr.2;unfold rOwn at hr2;unfold j22
   by_cases k5:k=5
   ·subst k5;simp at hr2;simp[hr2.2]
   rw[if_neg k5]
   by_cases k7:k=7
   ·subst k7;rw[if_neg dC0];unfold z8c at y1;rw[if_neg dC0,if_neg dC0,if_pos rfl]at y1
    by_cases c:z3n p nm<0
    ·rw[if_pos c]at y1;exact absurd y1 dC0
    ·exact C9 oM0
   ·by_cases kk:k=1∨k=2∨k=3∨k=4∨k=6∨k=8
    ·rw[if_pos kk]
    ·simp only[not_or]at kk;obtain⟨q1,q2,q3,q4,q6,q8⟩:=kk;rw[if_neg q1,if_neg q2,if_neg q3,if_neg q4,if_neg k5,if_neg q6,if_neg k7,if_neg q8]at hr2
     cases hr2
  ·match l with
   |[]=>rfl
   |e::r =>
    simp at hl;rw[rxL,A0,A0]at hr;obtain⟨y1,y2⟩:=yz8 hy;rw[zm9,h1 e oM0 _ hr.1.2 y1,h2 r oM0 m hr.2 y2];rfl
theorem ok_riX{p:Pg}{s:Sc}{e:Ex}{m:Int}(hr:rx e m=true)(hy:(z5a p s e).2=0):riOk p e=true:=(j25 p s _).1 e (Aa _) m hr hy
theorem z8d{p:Pg}{s:Sc}{e:Ex}{t:Int}(h:zd7 p s e t=0):(z5a p s e).2=0:=by
 unfold zd7 at h;split at h
 ·assumption
 ·exact h
theorem j5i{p:Pg}{e:Ex}(h:(z5a p [] e).2=0):e.kind≠3:=by
 obtain⟨k,o,n,nm,args⟩:=e;intro hk;have hk:k=3:=hk;subst hk;have:=(yr7 h).1;simp[z8c,za7,zy3]at this
theorem shp_len{k:Int}{n:Nat}(h:((n:Int) != (shp k).2.2.1)=false):(k=1∨k=2∨k=4∨k=5∨k=8∨k=9∨k=10)/\n=1∨k=3/\n=2∨(k=6∨k=7)/\n=0:=by
 have h:(n:Int)=(shp k).2.2.1:=by simpa using h
 unfold shp at h
 by_cases h1:k=1
 ·rw[if_pos h1]at h;dsimp only at h;omega
 rw[if_neg h1]at h
 by_cases h2:k=2
 ·rw[if_pos h2]at h;dsimp only at h;omega
 rw[if_neg h2]at h
 by_cases h3:k=3
 ·rw[if_pos h3]at h;dsimp only at h;omega
 rw[if_neg h3]at h
 by_cases h4:k=4
 ·rw[if_pos h4]at h;dsimp only at h;omega
 rw[if_neg h4]at h
 by_cases h5:k=5
 ·rw[if_pos h5]at h;dsimp only at h;omega
 rw[if_neg h5]at h
 by_cases h6:k=6∨k=7
 ·rw[if_pos h6]at h;dsimp only at h;omega
 rw[if_neg h6]at h
 by_cases h8:k=8∨k=9∨k=10
 ·rw[if_pos h8]at h;dsimp only at h;omega
 rw[if_neg h8]at h;dsimp only at h;omega
theorem y1t{k ty:Int}{nm:ByteArray}{args:List Ex}{thn els:List St}{m:Int}(h:rst (.mk k ty nm args thn els) m=true) :
 ((k=1∨k=2∨k=4∨k=5∨k=8∨k=9∨k=10)/\args.length=1∨k=3/\args.length=2∨(k=6∨k=7)/\args.length=0)/\(∀e∈args,rx e 100=true)/\rsL thn (m-1)=true/\rsL els (m-1)=true/\((shp k).2.1=z0l nm/\((shp k).2.1=false->nm.toList=[])):=by
 rw[rst]at h;simp only[A0,Bc,Be]at h;obtain⟨⟨⟨⟨h1,h2⟩,h3⟩,h4⟩,h5⟩:=h;unfold yu4 at h1;simp only[C0]at h1;obtain⟨⟨⟨⟨⟨_,h12⟩,_⟩,_⟩,h15⟩,h16⟩:=h1;refine⟨shp_len h12,h2,h4,h5,by simpa using h15,λe=>?_⟩;rw[e]at h16;simpa using h16
theorem y82(s:Sc)(k ty:Int)(nm:ByteArray)(d:Int):(!(z6p s k ty nm d).isEmpty)=(!s.isEmpty||k==1):=by
 unfold z6p
 by_cases h:k=1
 ·rw[if_pos h,h];simp
 ·rw[if_neg h,show(k==1)=false from A9.2 h,E9]
theorem gA_of{p:Pg}{s:Sc}{args:List Ex}(n:Nat)(hl:n<=args.length)(hr:∀e∈args,rx e 100=true)(hy:∀e∈args,(z5a p s e).2=0):gA p n args=true:=by
 unfold gA;rw[A0];refine⟨C9 hl,?_⟩;clear hl
 induction args with
 |nil=>rfl
 |cons e r ih=>rw[zm9,ok_riX (hr e (.head _)) (hy e (.head _)),ih (λq hq=>hr q (.tail _ hq)) λq hq=>hy q (.tail _ hq)];rfl
theorem yj9{p:Pg}{res:Int}{x:St}{r:List St}{s:Sc}{d:Int}{lp:Bool}{n:Nat}(h:(z2h p res (x::r) s d lp n).1=0):(yOne p res x s d lp n).1=0/\(z2h p res r (z6p s x.kind x.ty x.name d) d lp (yOne p res x s d lp n).2).1=0:=by
 rw[z2h]at h
 by_cases h1:(yOne p res x s d lp n).1=0
 ·rw[if_pos h1]at h;exact⟨h1,h⟩
 ·rw[if_neg h1]at h;exact absurd h h1
theorem yOne_ok{p:Pg}{res k ty:Int}{nm:ByteArray}{args:List Ex}{thn els:List St}{s:Sc}{d:Int}{lp:Bool}{n:Nat}(h:(yOne p res (.mk k ty nm args thn els) s d lp n).1=0) :
 zy4 p res s k ty nm args d lp=0/\(z2h p res thn (z6p s k ty nm d) (d+1) (lp||k==5) (n+1)).1=0/\(z2h p res els (z6p s k ty nm d) (d+1) lp (z2h p res thn (z6p s k ty nm d) (d+1) (lp||k==5) (n+1)).2).1=0:=by
 rw[yOne]at h
 by_cases h1:zy4 p res s k ty nm args d lp=0
 ·rw[if_pos h1]at h
  by_cases h2:(z2h p res thn (z6p s k ty nm d) (d+1) (lp||k==5) (n+1)).1=0
  ·rw[if_pos h2]at h;exact⟨h1,h2,h⟩
  ·rw[if_neg h2]at h;exact absurd h h2
 ·rw[if_neg h1]at h;exact absurd h h1
theorem j01{p:Pg}{res k ty:Int}{nm:ByteArray}{args:List Ex}{s:Sc}{d:Int}{lp:Bool}(h:zy4 p res s k ty nm args d lp=0)(hl:(k=1∨k=2∨k=4∨k=5∨k=8∨k=9∨k=10)/\args.length=1∨k=3/\args.length=2∨(k=6∨k=7)/\args.length=0):∀e∈args,(z5a p s e).2=0:=by
 unfold zy4 at h;rcases hl with⟨hk,hl⟩|⟨hk,hl⟩|⟨hk,hl⟩
 ·obtain⟨e,rfl⟩:=C7.1 hl;intro q hq;obtain rfl:=Ak.1 hq;rw[show([q]:List Ex).getD 0 ex0=q from rfl]at h
  by_cases c1:k=4∨k=5
  ·rw[if_pos c1]at h;exact z8d h
  rw[if_neg c1]at h
  by_cases c2:k=8
  ·rw[if_pos c2]at h;exact z8d h
  rw[if_neg c2]at h
  by_cases c3:k=9
  ·rw[if_pos c3]at h;exact z8d h
  rw[if_neg c3]at h
  by_cases c4:k=10
  ·rw[if_pos c4]at h;exact h
  rw[if_neg c4,if_neg oM0]at h;unfold ya8 at h;rw[show([q]:List Ex).getD 0 ex0=q from rfl]at h
  by_cases c5:k=1
  ·rw[if_pos c5]at h;split at h
   ·rename_i h1;exact z8d h1
   ·exact z8d h
  rw[if_neg c5,if_pos oM0]at h;split at h
  ·exact absurd h dC0
  ·exact z8d h
 ·subst hk;rw[if_neg dC0,if_neg dC0,if_neg dC0,if_neg dC0,if_neg dC0]at h;unfold ya8 at h;rw[if_neg dC0,if_neg dC0]at h
  match args,hl with
  |[a,b],_ =>
   rw[show([a,b]:List Ex).getD 0 ex0=a from rfl,show([a,b]:List Ex).getD 1 ex0=b from rfl]at h;split at h
   ·exact absurd h dC0
   ·split at h
    ·rename_i h1;intro q hq;simp only[Ao,Bz,Fh]at hq;rcases hq with rfl|rfl
     ·exact z8d h1
     ·exact z8d h
    ·rename_i h1;exact absurd h h1
 ·obtain rfl:=At hl;intro q hq
  cases hq
theorem gB_of(p:Pg)(res:Int):∀N,(∀x:St,SizeOf.sizeOf x<N->∀m s d lp n,rst x m=true->(yOne p res x s d lp n).1=0->gS p (!s.isEmpty) lp x=true)/\(∀l:List St,SizeOf.sizeOf l<N->∀m s d lp n,rsL l m=true->(z2h p res l s d lp n).1=0->gB p (!s.isEmpty) lp l=true)
 |0=>⟨λ_ h=>absurd h (Aj _),λ_ h=>absurd h (Aj _)⟩
 |N+1=>by
  obtain⟨h1,h2⟩:=gB_of p res N;refine⟨λx hx m s d lp n hr hy=>?_,λl hl m s d lp n hr hy=>?_⟩
  ·obtain⟨k,ty,nm,args,thn,els⟩:=x;simp at hx;obtain⟨r1,r2,r3,r4,_⟩:=y1t hr;obtain⟨y1,y2,y3⟩:=yOne_ok hy;have ya:=j01 y1 r1;rw[gS]
   by_cases k4:k=4
   ·subst k4;rw[show z6p s 4 ty nm d=s from rfl,show(lp||(4:Int)==5)=lp by simp]at y2 y3;rw[if_pos rfl,gA_of 1 oM0 r2 ya,h2 thn oM0 _ _ _ _ _ r3 y2,h2 els oM0 _ _ _ _ _ r4 y3];rfl
   rw[if_neg k4]
   by_cases k5:k=5
   ·subst k5;rw[show z6p s 5 ty nm d=s from rfl,show(lp||(5:Int)==5)=true by simp]at y2;rw[if_pos rfl,gA_of 1 oM0 r2 ya,h2 thn oM0 _ _ _ _ _ r3 y2];rfl
   rw[if_neg k5]
   by_cases k67:k=6∨k=7
   ·rw[if_pos k67];unfold zy4 at y1;rw[if_neg oM0,if_neg oM0,if_neg oM0,if_neg oM0,if_pos k67]at y1;exact yFine_ok dC0 y1
   rw[if_neg k67]
   by_cases k3:k=3
   ·rw[if_pos k3];exact gA_of 2 oM0 r2 ya
   rw[if_neg k3,gA_of 1 oM0 r2 ya,B0]
   cases s with
   |cons a b=>rfl
   |nil =>
    match args,r1 with
    |[],r1=>simp only[A6]at r1;omega
    |e::r,_ =>
     have:=j5i (ya e (.head _));show(false||(((e::r).getD 0 ex0).kind != 3))=true;rw[Bv];exact bne_iff_ne.2 this
  ·match l with
   |[]=>rfl
   |x::r =>
    simp at hl;rw[rsL,A0]at hr;obtain⟨y1,y2⟩:=yj9 hy;have hh:=h2 r oM0 m _ d lp _ hr.2 y2;rw[y82]at hh;rw[gB,h1 x oM0 m s d lp n hr.1 y1,hh];rfl
theorem yk8{α:Type}(f g:α -> Bool)(h:α -> α)(e:∀x,f (h x)=g x):∀(l:List α)(i:Int),idxP f (l.map h) i=idxP g l i
 |[],i=>rfl
 |x::r,i=>by simp only[B3,idxP,e,yk8 f g h e r]
theorem j5k(p:Pg)(nm:ByteArray):z3n (rnP p) nm=z3n p nm:=by
 unfold z3n;exact yk8 _ _ rnF (λ_=>rfl) p.funcs 0
theorem j26(p:Pg)(es:List (Value×PV)):∀N,(∀e:Ex,SizeOf.sizeOf e<N->riOk (rnP p) (rnX es e)=riOk p e/\xz (rnX es e)=xz e)/\(∀l:List Ex,SizeOf.sizeOf l<N->zm9 (rnP p) (rnXL es l)=zm9 p l/\xzL (rnXL es l)=xzL l)
 |0=>⟨λ_ h=>absurd h (Aj _),λ_ h=>absurd h (Aj _)⟩
 |N+1=>by
  obtain⟨h1,h2⟩:=j26 p es N;refine⟨λe he=>?_,λl hl=>?_⟩
  ·obtain⟨k,o,n,nm,args⟩:=e;simp at he;have hl:(rnXL es args).length=args.length:=by rw[y1r,Ac]
   rw[rnX,riOk,riOk,(h2 args oM0).1,xz,xz,(h2 args oM0).2,hl,j5k];refine⟨?_,rfl⟩
   by_cases k3:k=3
   ·subst k3;rfl
   ·rw[if_neg k3]
  ·match l with
   |[]=>exact⟨rfl,rfl⟩
   |e::r =>
    simp at hl;rw[rnXL,zm9,zm9,xzL,xzL,(h1 e oM0).1,(h2 r oM0).1,(h1 e oM0).2,(h2 r oM0).2];exact⟨rfl,rfl⟩
theorem yn6(p:Pg)(es:List (Value×PV))(l:List Ex):zm9 (rnP p) (l.map (rnX es))=zm9 p l/\xzL (l.map (rnX es))=xzL l:=by rw[<- y1r];exact(j26 p es _).2 l (Aa _)
theorem rnX_kind(es:List (Value×PV))(e:Ex):(rnX es e).kind=e.kind:=by rw[rnX_eq];rfl
theorem gA_rn(p:Pg)(es:List (Value×PV))(n:Nat)(l:List Ex):gA (rnP p) n (l.map (rnX es))=gA p n l:=by unfold gA;rw[(yn6 p es l).1,Ac]
theorem rnS_kind(x:St)(es:List (Value×PV))(n:Nat):(rnS x es n).1.kind=x.kind:=by cases x;rw[rnS];rfl
theorem yo1(p:Pg):∀N,(∀x:St,SizeOf.sizeOf x<N->∀es n,cnS (rnS x es n).1=cnS x/\sz (rnS x es n).1=sz x/\∀b lp,gS (rnP p) b lp (rnS x es n).1=gS p b lp x)/\(∀l:List St,SizeOf.sizeOf l<N->∀es n,cnL (rnB l es n).1=cnL l/\szL (rnB l es n).1=szL l/\∀b lp,gB (rnP p) b lp (rnB l es n).1=gB p b lp l)
 |0=>⟨λ_ h=>absurd h (Aj _),λ_ h=>absurd h (Aj _)⟩
 |N+1=>by
  obtain⟨h1,h2⟩:=yo1 p N;refine⟨λx hx es n=>?_,λl hl es n=>?_⟩
  ·obtain⟨k,ty,nm,args,thn,els⟩:=x;simp at hx;rw[rnS];obtain⟨t1,t2,t3⟩:=h2 thn oM0 (z1s es k nm n).2.1 (z1s es k nm n).2.2;obtain⟨e1,e2,e3⟩:=h2 els oM0 (z1s es k nm n).2.1 (rnB thn (z1s es k nm n).2.1 (z1s es k nm n).2.2).2;refine⟨by rw[cnS,cnS,t1,e1],by rw[sz,sz,t2,e2,(yn6 p es args).2],λb lp=>?_⟩;rw[gS,gS,gA_rn,gA_rn,t3,t3,e3];have hg:((args.map (rnX es)).getD 0 ex0).kind=(args.getD 0 ex0).kind:=by
    cases args with
    |nil=>rfl
    |cons a r=>exact rnX_kind es a
   rw[hg]
  ·match l with
   |[]=>exact⟨rfl,rfl,λ_ _=>rfl⟩
   |x::r =>
    simp at hl;obtain⟨a1,a2,a3⟩:=h1 x oM0 es n;obtain⟨b1,b2,b3⟩:=h2 r oM0 (z1s es x.kind x.name n).2.1 (rnS x es n).2;rw[rnB];refine⟨by rw[cnL,cnL,a1,b1],by rw[szL,szL,a2,b2],λb lp=>?_⟩;rw[gB,gB,a3,b3,rnS_kind]
theorem rn_cn(l:List St)(es:List (Value×PV))(n:Nat):cnL (rnB l es n).1=cnL l:=((yo1 pg0 _).2 l (Aa _) es n).1
theorem rn_sz(l:List St)(es:List (Value×PV))(n:Nat):szL (rnB l es n).1=szL l:=((yo1 pg0 _).2 l (Aa _) es n).2.1
theorem rn_gB(p:Pg)(l:List St)(es:List (Value×PV))(n:Nat)(b lp:Bool):gB (rnP p) b lp (rnB l es n).1=gB p b lp l:=((yo1 p _).2 l (Aa _) es n).2.2 b lp
theorem ySc_ne(l:List Pm):(!(ySc l).isEmpty) = !l.isEmpty:=by
 unfold ySc
 suffices ∀(l:List Pm)(s:Sc),(l.foldl (λs x=>(x.name,x.ty,(0:Int))::s) s).isEmpty=(s.isEmpty&&l.isEmpty) by rw[this];simp
 intro l
 induction l with
 |nil=>intro s;simp
 |cons x r ih=>intro s;rw[Dt,ih];simp
theorem yv1(l:List Pm)(es:List (Value×PV))(n:Nat):(rnPm l es n).1.isEmpty=l.isEmpty:=by cases l<;>rfl
theorem yz9{p:Pg}(hr:rPg p=true)(hy:(z95 p).1=0):∀f∈p.funcs,gB p (!f.params.isEmpty) false f.body=true:=by
 unfold z95 at hy;split at hy
 ·unfold rPg at hr;rw[A0]at hr;have hr:=Be.1 hr.2
  suffices ∀(l:List Fu)(i:Nat),(∀f∈l,rFu f=true)->(ya9 p l i).1=0->∀f∈l,gB p (!f.params.isEmpty) false f.body=true from this p.funcs 0 hr hy
  intro l
  induction l with
  |nil=>intro i _ _ f hf;cases hf
  |cons x r ih =>
   intro i hr hy f hf;rw[ya9]at hy;split at hy
   ·exact absurd (show(50:Int)=0 from hy) dC0
   ·split at hy
    ·rename_i h2;rcases Ao.1 hf with rfl|hf
     ·have hb:(z2h p f.ty f.body (ySc f.params) 1 false 0).1=0:=by
       unfold yFun at h2;dsimp only at h2;split at h2
       ·exact absurd h2 dC0
       ·exact h2
      have hR:=hr f (.head _);unfold rFu at hR;simp only[A0]at hR;have:=(gB_of p f.ty _).2 f.body (Aa _) 100 (ySc f.params) 1 false 0 hR.1.2 hb;rw[ySc_ne]at this;exact this
     ·exact ih (i+1) (λq hq=>hr q (.tail _ hq)) hy f hf
    ·rename_i h2;exact absurd hy h2
 ·exact absurd hy dC0
theorem rnF_gB{p:Pg}(hr:rPg p=true)(hy:(z95 p).1=0):∀f∈(rnP p).funcs,gB (rnP p) (!f.params.isEmpty) false f.body=true:=by
 intro f hf;obtain⟨g,hg,rfl⟩:=Cb.1 (show f∈p.funcs.map rnF from hf);have h1:=yz9 hr hy g hg;have h2:(rnF g).params.isEmpty=g.params.isEmpty:=yv1 g.params [] 0;rw[h2];show gB (rnP p) _ false (rnB g.body _ _).1=true;rw[rn_gB];exact h1
mutual
def nxX:Ex->Bool
 |.mk k _ _ nm args=>(k==3||decide (nm.size<=20))&&nxL args
def nxL:List Ex->Bool
 |[]=>true
 |x::r=>nxX x&&nxL r
end
mutual
def nxS:St->Bool
 |.mk k _ nm args thn els=>(k==1||k==2||decide (nm.size<=20))&&nxL args&&nxB thn&&nxB els
def nxB:List St->Bool
 |[]=>true
 |x::r=>nxS x&&nxB r
end
theorem y55{s:ByteArray}(h:s.toList=[]):s.size=0:=by
 rw[z2f]at h;show s.data.size=0;rw[<- Bq,h];rfl
theorem zl3{s:ByteArray}(h:z0l s=true):s.size<=20:=by
 unfold z0l at h;simp only[A0,Bj]at h;have:=h.1.1.1.2;omega
theorem nxX_of:∀N,(∀e:Ex,SizeOf.sizeOf e<N->∀m,rx e m=true->nxX e=true)/\(∀l:List Ex,SizeOf.sizeOf l<N->∀m,rxL l m=true->nxL l=true)
 |0=>⟨λ_ h=>absurd h (Aj _),λ_ h=>absurd h (Aj _)⟩
 |N+1=>by
  obtain⟨h1,h2⟩:=nxX_of N;refine⟨λe he m hr=>?_,λl hl m hr=>?_⟩
  ·obtain⟨k,o,n,nm,args⟩:=e;simp at he;rw[rx,A0]at hr;rw[nxX,h2 args oM0 m hr.1,Ck];have hr:=hr.2;unfold rOwn at hr;have e0:nm.toList=[]->(k==3||decide (nm.size<=20))=true:=λh=>by rw[Br];exact .inr (C9 (by rw[y55 h];omega))
   have e1:z0l nm=true->(k==3||decide (nm.size<=20))=true:=λh=>by rw[Br];exact .inr (C9 (zl3 h))
   repeat' split at hr
   all_goals (try (simp only[A0,Au]at hr))
   ·exact e0 hr.1.2
   ·exact e0 hr.1.2
   ·exact e1 hr.1.2
   ·exact e0 hr.1.2
   ·exact e0 hr.1.2
   ·exact e1 hr.1.2
   ·exact e1 hr.1.2
   ·exact e0 hr.1.2
   ·cases hr
  ·match l with
   |[]=>rfl
   |e::r =>
    simp at hl;rw[rxL,A0,A0]at hr;rw[nxL,h1 e oM0 _ hr.1.2,h2 r oM0 m hr.2];rfl
theorem nxL_of{l:List Ex}(h:∀e∈l,rx e 100=true):nxL l=true:=by
 induction l with
 |nil=>rfl
 |cons e r ih=>rw[nxL,(nxX_of _).1 e (Aa _) 100 (h e (.head _)),ih λq hq=>h q (.tail _ hq)];rfl
theorem nm_sz{b:Bool}{nm:ByteArray}(h:b=z0l nm/\(b=false->nm.toList=[])):nm.size<=20:=by
 cases b with
 |true=>exact zl3 h.1.symm
 |false=>rw[y55 (h.2 rfl)];omega
theorem nxB_of:∀N,(∀x:St,SizeOf.sizeOf x<N->∀m,rst x m=true->nxS x=true)/\(∀l:List St,SizeOf.sizeOf l<N->∀m,rsL l m=true->nxB l=true)
 |0=>⟨λ_ h=>absurd h (Aj _),λ_ h=>absurd h (Aj _)⟩
 |N+1=>by
  obtain⟨h1,h2⟩:=nxB_of N;refine⟨λx hx m hr=>?_,λl hl m hr=>?_⟩
  ·obtain⟨k,ty,nm,args,thn,els⟩:=x;simp at hx;obtain⟨_,r2,r3,r4,r5⟩:=y1t hr;rw[nxS,nxL_of r2,h2 thn oM0 _ r3,h2 els oM0 _ r4,Ck,Ck,Ck,Br];exact .inr (C9 (nm_sz r5))
  ·match l with
   |[]=>rfl
   |x::r =>
    simp at hl;rw[rsL,A0]at hr;rw[nxB,h1 x oM0 m hr.1,h2 r oM0 m hr.2];rfl
theorem nxX_rn(es:List (Value×PV)):∀N,(∀e:Ex,SizeOf.sizeOf e<N->nxX (rnX es e)=nxX e)/\(∀l:List Ex,SizeOf.sizeOf l<N->nxL (rnXL es l)=nxL l)
 |0=>⟨λ_ h=>absurd h (Aj _),λ_ h=>absurd h (Aj _)⟩
 |N+1=>by
  obtain⟨h1,h2⟩:=nxX_rn es N;refine⟨λe he=>?_,λl hl=>?_⟩
  ·obtain⟨k,o,n,nm,args⟩:=e;simp at he;rw[rnX,nxX,nxX,h2 args oM0]
   by_cases k3:k=3
   ·subst k3;rfl
   ·rw[if_neg k3]
  ·match l with
   |[]=>rfl
   |e::r =>
    simp at hl;rw[rnXL,nxL,nxL,h1 e oM0,h2 r oM0]
theorem nxL_rn(es:List (Value×PV))(l:List Ex):nxL (l.map (rnX es))=nxL l:=by rw[<- y1r];exact(nxX_rn es _).2 l (Aa _)
theorem nxB_rn:∀N,(∀x:St,SizeOf.sizeOf x<N->∀es n,nxS x=true->nxS (rnS x es n).1=true)/\(∀l:List St,SizeOf.sizeOf l<N->∀es n,nxB l=true->nxB (rnB l es n).1=true)
 |0=>⟨λ_ h=>absurd h (Aj _),λ_ h=>absurd h (Aj _)⟩
 |N+1=>by
  obtain⟨h1,h2⟩:=nxB_rn N;refine⟨λx hx es n h=>?_,λl hl es n h=>?_⟩
  ·obtain⟨k,ty,nm,args,thn,els⟩:=x;simp at hx;rw[nxS,A0,A0,A0]at h;rw[rnS,nxS,nxL_rn,h2 thn oM0 _ _ h.1.2,h2 els oM0 _ _ h.2,h.1.1.2,Ck,Ck,Ck];have h4:=h.1.1.1
   by_cases k1:k=1
   ·subst k1;rfl
   by_cases k2:k=2
   ·subst k2;rfl
   rw[show(z1s es k nm n).1=nm by unfold z1s;rw[if_neg k1,if_neg k2]];exact h4
  ·match l with
   |[]=>rfl
   |x::r =>
    simp at hl;rw[nxB,A0]at h;rw[rnB,nxB,h1 x oM0 _ _ h.1,h2 r oM0 _ _ h.2];rfl
theorem nxL_mem{l:List Ex}{e:Ex}(h:nxL l=true)(he:e∈l):nxX e=true:=by
 induction l with
 |nil=>cases he
 |cons x r ih =>
  rw[nxL,A0]at h;rcases Ao.1 he with rfl|he
  ·exact h.1
  ·exact ih h.2 he
theorem j4a(n:Nat)(h:n<=1000000000):(tVal n).size<=30:=by
 have:=Lib.itoa_length_le (n:Int) oM0 oM0;have e:(tVal n).size=1+(Lib.itoa (n:Int)).length:=by
  unfold tVal tNum;rw[A4];show 1+(Lib.itoa (n:Int)).toArray.size=_;rw[Et]
 omega
def Sh(es:List (Value×PV)):Prop:=∀e∈es,∃s:ByteArray,e.2=vStr s/\s.size<=30
theorem Sh.put{es:List (Value×PV)}(h:Sh es)(a:ByteArray){b:ByteArray}(hb:b.size<=30):Sh (z9m es a b):=λe he=>by
 rcases z45 he with rfl|he
 ·exact⟨b,rfl,hb⟩
 ·exact h e he
theorem Sh.get{es:List (Value×PV)}(h:Sh es)(a:ByteArray):(z8m es a).size<=30:=by
 unfold z8m;split
 ·rename_i s hf;obtain⟨a,ha⟩:=z7n hf;obtain⟨t,h1,h2⟩:=h _ ha;dsimp only at h1
  cases h1
  exact h2
 ·exact Ad _
theorem nt_rn:∀N,(∀x:St,SizeOf.sizeOf x<N->∀es n m,Sh es->n+cnS x<=1000000000->rst x m=true->ntS 30 (rnS x es n).1/\(rnS x es n).2<=n+cnS x/\Sh (z1s es x.kind x.name n).2.1)/\(∀l:List St,SizeOf.sizeOf l<N->∀es n m,Sh es->n+cnL l<=1000000000->rsL l m=true->ntL 30 (rnB l es n).1/\(rnB l es n).2<=n+cnL l)
 |0=>⟨λ_ h=>absurd h (Aj _),λ_ h=>absurd h (Aj _)⟩
 |N+1=>by
  obtain⟨h1,h2⟩:=nt_rn N;refine⟨λx hx es n m hs hn hr=>?_,λl hl es n m hs hn hr=>?_⟩
  ·obtain⟨k,ty,nm,args,thn,els⟩:=x;simp at hx;obtain⟨_,_,r3,r4,r5⟩:=y1t hr;rw[cnS]at hn;have hv:=j4a n oM0;have ho:(z1s es k nm n).1.size<=30/\(z1s es k nm n).2.2<=n+1/\Sh (z1s es k nm n).2.1:=by
    unfold z1s;split
    ·exact⟨(hs.put nm hv).get nm,Ae _,hs.put nm hv⟩
    ·split
     ·exact⟨hs.get nm,F9 _,hs⟩
     ·exact⟨B9 (nm_sz r5) oM0,F9 _,hs⟩
   obtain⟨o1,o2,o3⟩:=ho;obtain⟨t1,t2⟩:=h2 thn oM0 (z1s es k nm n).2.1 (z1s es k nm n).2.2 _ o3 oM0 r3;obtain⟨e1,e2⟩:=h2 els oM0 (z1s es k nm n).2.1 (rnB thn (z1s es k nm n).2.1 (z1s es k nm n).2.2).2 _ o3 oM0 r4;rw[rnS,ntS,cnS];exact⟨⟨o1,t1,e1⟩,by dsimp only;omega,o3⟩
  ·match l with
   |[]=>exact⟨Gb,Bi _ _⟩
   |x::r =>
    simp at hl;rw[rsL,A0]at hr;rw[cnL]at hn;obtain⟨a1,a2,a3⟩:=h1 x oM0 es n m hs oM0 hr.1;obtain⟨b1,b2⟩:=h2 r oM0 (z1s es x.kind x.name n).2.1 (rnS x es n).2 m a3 oM0 hr.2;rw[rnB,ntL,cnL];exact⟨⟨a1,b1⟩,by dsimp only;omega⟩
theorem j1i{a b:Nat}(hab:a<=b):∀N,(∀x:St,SizeOf.sizeOf x<N->ntS a x->ntS b x)/\(∀l:List St,SizeOf.sizeOf l<N->ntL a l->ntL b l)
 |0=>⟨λ_ h=>absurd h (Aj _),λ_ h=>absurd h (Aj _)⟩
 |N+1=>by
  obtain⟨h1,h2⟩:=j1i hab N;refine⟨λx hx h=>?_,λl hl h=>?_⟩
  ·obtain⟨k,ty,nm,args,thn,els⟩:=x;simp at hx;rw[ntS]at h⊢;exact⟨B9 h.1 hab,h2 thn oM0 h.2.1,h2 els oM0 h.2.2⟩
  ·match l with
   |[]=>trivial
   |x::r =>
    simp at hl;rw[ntL]at h⊢;exact⟨h1 x oM0 h.1,h2 r oM0 h.2⟩
theorem j2j:∀(l:List Pm) (es:List (Value×PV)) (n:Nat),Sh es->n+l.length<=1000000000->Sh (rnPm l es n).2.1/\(rnPm l es n).2.2=n+l.length
 |[],es,n,h,_=>⟨h,rfl⟩
 |x::r,es,n,h,hn=>by
  rw[A1]at hn;obtain⟨h1,h2⟩:=j2j r (z9m es x.name (tVal n)) (n+1) (h.put _ (j4a n oM0)) oM0;rw[rnPm,A1];exact⟨h1,by dsimp only;omega⟩
theorem z7u(a b:List Nd):z0x (a++b)=z0x a+z0x b:=by
 unfold z0x;rw[yj8,B5];omega
theorem z67(k o n:Int)(nm:ByteArray)(a b c:List Int)(ks:List (List Nd)):z0x [.mk k o n nm a b c ks]=1+a.length+b.length+c.length+nm.size+wtK ks:=by simp only[z0x,wtL,wtN,A1,A6];omega
theorem j5d(a:List Nd):wtK [a]=1+z0x a:=by simp only[wtK,z0x];omega
theorem yj7(a b:List Nd):wtK [a,b]=2+z0x a+z0x b:=by simp only[wtK,z0x];omega
theorem yj6:wtK []=0:=rfl
theorem z7v:z0x []=0:=rfl
theorem y3z:∀a b:List Nd,lsz (a++b)=lsz a+lsz b
 |[],b=>by simp[lsz]
 |x::r,b=>by simp only[Bb,lsz,y3z r b];omega
theorem zr4(k o n:Int)(nm:ByteArray)(a b c:List Int)(ks:List (List Nd)):lsz [.mk k o n nm a b c ks]=1+kdz ks:=by simp only[lsz,nsz];omega
theorem j15(a:List Nd):kdz [a]=lsz a:=by simp only[kdz];omega
theorem yc7(a b:List Nd):kdz [a,b]=lsz a+lsz b:=by simp only[kdz];omega
def tw(s:RiS):Nat:=s.ts.length+z0x s.ns
theorem sz0:(⟨#[]⟩:ByteArray).size=0:=rfl
theorem yq8(t k o n:Int)(nm:ByteArray)(args:List Int)(ks:List (List Nd))(s:RiS):tw (z6n t k o n nm args ks s).2=tw s+3+args.length+nm.size+wtK ks/\lsz (z6n t k o n nm args ks s).2.ns=lsz s.ns+1+kdz ks:=by
 unfold z6n tw;refine⟨?_,?_⟩
 ·dsimp only;rw[z7u,z67,B5];simp only[A1,A6];omega
 ·dsimp only;rw[y3z,zr4];omega
theorem tw_top(p:Pg)(k o n:Int)(nm:ByteArray)(l:List Int)(s:RiS)(hn:nm.size<=20):tw (zs5 p k o n nm l s).2<=tw s+23+l.length/\lsz (zs5 p k o n nm l s).2.ns<=lsz s.ns+1:=by
 unfold zs5
 repeat' split
 all_goals (rw[(yq8 ..).1,(yq8 ..).2];simp only[yj6,sz0,A6,kdz];omega)
theorem z22(k:Int)(nm:ByteArray)(args:List Int)(ns:List Nd):z0x (z6u k nm args ns)=z0x ns+1+args.length+nm.size/\lsz (z6u k nm args ns)=lsz ns+1:=by
 unfold z6u;refine⟨?_,?_⟩
 ·rw[z7u,z67];simp only[yj6,A6];omega
 ·rw[y3z,zr4];simp only[kdz]
theorem tw_sh(o a:Int)(ns:List Nd)(r:Int×RiS):tw (z6v o a ns r).2=tw r.2+z0x ns+13/\lsz (z6v o a ns r).2.ns=lsz ns+lsz r.2.ns+4:=by
 unfold z6v;split
 all_goals
  rw[(yq8 ..).1,(yq8 ..).2,yj7,yc7,(z22 ..).1,(z22 ..).2,(z22 ..).1,(z22 ..).2,z67,zr4];unfold tw;simp only[yj6,sz0,A6,A1,kdz,B5];omega
theorem riX_tw(p:Pg)(vs:List (Value×PV)):∀(N:Nat),(∀e:Ex,SizeOf.sizeOf e<N->nxX e=true->∀s,tw (riX p vs e s).2+1<=tw s+27*xz e/\lsz (riX p vs e s).2.ns<=lsz s.ns+4*xz e) /\
 (∀l:List Ex,SizeOf.sizeOf l<N->nxL l=true->∀s,tw (riXL p vs l s).2+l.length<=tw s+27*xzL l/\lsz (riXL p vs l s).2.ns<=lsz s.ns+4*xzL l/\(riXL p vs l s).1.length=l.length) /\
 (∀(o:Int)(l:List Ex),SizeOf.sizeOf l<N->nxL l=true->∀s,tw (riSh p vs o l s).2<=tw s+27*xzL l+13/\lsz (riSh p vs o l s).2.ns<=lsz s.ns+4*xzL l+4) /\
 (∀(o a:Int)(s:RiS)(l:List Ex),SizeOf.sizeOf l<N->nxL l=true->tw (zn1 p vs o a s l).2<=tw s+27*xzL l+13/\lsz (zn1 p vs o a s l).2.ns<=lsz s.ns+4*xzL l+4)
 |0=>⟨λ_ h=>absurd h (Aj _),λ_ h=>absurd h (Aj _),λ_ _ h=>absurd h (Aj _),λ_ _ _ _ h=>absurd h (Aj _)⟩
 |N+1=>by
  obtain⟨h1,h2,h3,h4⟩:=riX_tw p vs N;refine⟨λe he hn s=>?_,λl hl hn s=>?_,λo l hl hn s=>?_,λo a s l hl hn=>?_⟩
  ·obtain⟨k,o,n,nm,args⟩:=e;simp at he;rw[nxX,A0]at hn;rw[riX,xz];split
   ·exact⟨by dsimp only;omega,by dsimp only;omega⟩
   ·rename_i k3;split
    ·obtain⟨a1,a2⟩:=h3 o args oM0 hn.2 s;exact⟨by omega,by omega⟩
    ·obtain⟨a1,a2,a3⟩:=h2 args oM0 hn.2 s;have hnm:nm.size<=20:=by
      have:=hn.1;rw[Br]at this;rcases this with h|h
      ·exact absurd (eq_of_beq h) k3
      ·exact An h
     obtain⟨b1,b2⟩:=tw_top p k o n nm (riXL p vs args s).1 (riXL p vs args s).2 hnm;exact⟨by omega,by omega⟩
  ·match l with
   |[]=>rw[riXL];exact⟨Ae _,Ae _,rfl⟩
   |e::r =>
    simp at hl;rw[nxL,A0]at hn;rw[riXL,xzL];obtain⟨a1,a2⟩:=h1 e oM0 hn.1 s;obtain⟨b1,b2,b3⟩:=h2 r oM0 hn.2 (riX p vs e s).2;exact⟨by dsimp only[List.length_cons];omega,by dsimp only;omega,by dsimp only[List.length_cons];rw[b3]⟩
  ·match l with
   |[]=>rw[riSh];exact⟨by dsimp only;omega,by dsimp only;omega⟩
   |e::r =>
    simp at hl;rw[nxL,A0]at hn;rw[riSh,xzL];obtain⟨a1,a2⟩:=h1 e oM0 hn.1 s;obtain⟨b1,b2⟩:=h4 o (riX p vs e s).1 (riX p vs e s).2 r oM0 hn.2;exact⟨by omega,by omega⟩
  ·match l with
   |[]=>rw[zn1];exact⟨by dsimp only;omega,by dsimp only;omega⟩
   |e::r =>
    simp at hl;rw[nxL,A0]at hn;rw[zn1,xzL,(tw_sh ..).1,(tw_sh ..).2];obtain⟨a1,a2⟩:=h1 e oM0 hn.1 ⟨s.ts,[]⟩;have e1:tw ⟨s.ts,[]⟩=s.ts.length:=by unfold tw;rw[z7v];rfl
    have e2:lsz []=0:=rfl;dsimp only at a2;rw[e1]at a1;rw[e2]at a2;have e3:tw s=s.ts.length+z0x s.ns:=rfl;exact⟨by omega,by omega⟩
def zs4(l:List Pm):List (Value×PV)×List Int:=l.foldl (λa x=>(riSt a.1 x.name a.2.length,a.2++[x.ty])) ([],[])
def riT0(l:List Pm):RiT:=⟨(zs4 l).1,(zs4 l).2,[],[]⟩
def z7w(p:Pg)(f:Fu):Fl:=⟨f.name,f.ty,f.params.length,(riB p f.body [] (riT0 f.params)).2.ts,(riB p f.body [] (riT0 f.params)).2.ns⟩
theorem yu8(l:List Pm)(x:Pm):zs4 (l++[x])=(riSt (zs4 l).1 x.name (zs4 l).2.length,(zs4 l).2++[x.ty]):=by simp[zs4]
theorem y1o(l:List Pm):(zs4 l).2.length=l.length:=by
 suffices ∀(l:List Pm) (a:List (Value×PV)×List Int),(l.foldl (λa x=>(riSt a.1 x.name a.2.length,a.2++[x.ty])) a).2.length=a.2.length+l.length by
  have:=this l ([],[]);simpa[zs4]using this
 intro l
 induction l with
 |nil=>intro a;simp
 |cons x r ih=>intro a;simp only[Dt];rw[ih];simp;omega
theorem yn8(l:List Pm):RiI (zs4 l).1 (zs4 l).2.length (!l.isEmpty):=by
 suffices ∀(l:List Pm) (a:List (Value×PV)×List Int) (b:Bool),RiI a.1 a.2.length b->RiI (l.foldl (λa x=>(riSt a.1 x.name a.2.length,a.2++[x.ty])) a).1 (l.foldl (λa x=>(riSt a.1 x.name a.2.length,a.2++[x.ty])) a).2.length (b || !l.isEmpty)from by
  have h:=this l ([],[]) false ⟨Cnt.nil,(λe he=>by cases he),λh=>by cases h⟩;simpa[zs4]using h
 intro l
 induction l with
 |nil=>intro a b h;simpa using h
 |cons x r ih =>
  intro a b h;simp only[Dt];have:=ih (riSt a.1 x.name a.2.length,a.2++[x.ty]) true ((h.mono (m:=(a.2++[x.ty]).length) sI0).put x.name (v:=(a.2.length:Int)) oM0 (by simp;omega));exact this.weak λ_=>by simp
theorem j34(p:Pg)(f:Fu)(hl:f.params.length<=1000000000)(hB:scB p f.body [] (riT0 f.params) (riB p f.body [] (riT0 f.params))) :
 SC Tryz.prog 18 [.pv (.agg [arrs p.arrays,fus p.funcs]),.pv (.agg [vStr f.name,vInt f.ty,pms f.params,sts f.body])] [] (λk=>k∈[]) (.pv (.agg (z7w p f).enc)) []:=by
 refine SC.vc tb { pb:=[102,103,107],ids:=[(10,1),(11,5),(13,4)],gh:=[(2,[.growC 1 2 2 3 1,.growC 1 3 3 73 1,.spC 1 3 3,.growC 4 2 6 47 8]),(8,[.fzC 1 2 2,.fzC 4 2 6])] } [] Tryz.func18 rfl rfl ?_;refine⟨Nat,λi=>[(17,iInt ((i:Nat):Int))],λi=>riW p [] (riT0 (f.params.take i)),λi=>f.params.length-i,λi=>i<=f.params.length,[],0,Ad _,Gc,Gi,?_⟩;intro i hi;refine z00 (λhc=>?_) λhc=>?_
 ·have hlt:i<f.params.length:=z0z (f:=Pm.enc) rfl hc;obtain⟨x,x1,x2,x3,x4⟩:=z0p hlt;have hs:=yu8 (f.params.take i) x;rw[<- x2]at hs;have hn:=y1o (f.params.take i);have hk:=(yn8 (f.params.take i)).cnt;rw[Dg]at hn;have hs1:=Af Prod.fst hs;have hs2:=Af Prod.snd hs;dsimp only at hs1 hs2;exact⟨zv9 x1,rfl,[],zs9 p (zs4 (f.params.take i)).2 ⟨[],[]⟩ x.ty oM0,sR,Ge,rfl,rfl,hk.1,z01 rfl oM0,i+1,z03 hlt,hlt,Gc,⟨boq (by simp only[riT0,hs2]),rwq (by simp only[riT0,hs2]),rfl,rfl,mpq (by simp only[riT0,hs1];rfl),rfl,Gb⟩,rfl,rfl,rfl,rfl⟩
 ·have hge:f.params.length<=i:=z10 (f:=Pm.enc) rfl hc;rw[Av hge];unfold z7w;generalize riB p f.body [] (riT0 f.params)=r at hB⊢;exact⟨[],hB,sR,Gi,rfl,rfl,rfl,sE (by rw[Ac];rfl),Gb⟩
def un0:Un:=⟨[],[]⟩
def riUn(q:Pg):Un:=⟨q.arrays,q.funcs.map (z7w q)⟩
def yu9(p:Pg)(k:Int):Un×Int:=if (rnOf p).2=0 then(if k=0 then(riUn (rnOf p).1,0)else(un0,2))else(un0,(rnOf p).2)
theorem sc_Rise0(p:Pg)(hR:SC Tryz.prog 17 [.pv p.enc] [] (λk=>k∈[]) (.tup [.pv (rnOf p).1.enc,iInt (rnOf p).2]) [])(hfl:(rnOf p).1.funcs.length<=1000000000)
 (hF:(rnOf p).2=0->∀f∈(rnOf p).1.funcs,f.params.length<=1000000000/\scB (rnOf p).1 f.body [] (riT0 f.params) (riB (rnOf p).1 f.body [] (riT0 f.params))) (k1 k2:Int)
 (hK:(rnOf p).2=0->SC Tryz.prog 19 [.pv (riUn (rnOf p).1).enc] [] (λk=>k∈[]) (.tup [iInt k1,iInt k2]) []) :
 SC Tryz.prog 7 [.pv p.enc] [] (λk=>k∈[]) (.tup [.pv (yu9 p k1).1.enc,iInt (yu9 p k1).2]) []:=by
 refine SC.vc tb { pb:=[107],gh:=[(5,[.growC 105 1 9 59 5]),(10,[.fzC 105 1 9])] } [] Tryz.func7 rfl rfl ?_;unfold yu9;generalize rnOf p=q at hR hfl hF hK⊢;obtain⟨q,e⟩:=q;dsimp only at hR hfl hF hK⊢;refine⟨[],hR,sR,Gb,rfl,z00 (λh=>?_) λh=>?_⟩
 ·have h:¬e=0:=by simpa using h
  rw[if_neg h];exact⟨sT2 (sP (z0c _)),Gb⟩
 have h:e=0:=by simpa using h
 subst h;have hF:=hF rfl;have hK:=hK rfl;rw[if_pos rfl];refine⟨Nat,λi=>[(25,iInt ((i:Nat):Int))],λi=>[(105,.box [.pv (arrs q.arrays),.sl 9 ((q.funcs.take i).map λf=>(z7w q f).enc).length]),(9,.row ⟨59,5⟩ ((q.funcs.take i).map λf=>(z7w q f).enc))],λi=>q.funcs.length-i,λi=>i<=q.funcs.length,[],0,Ad _,Gc,Gd,?_⟩;intro i hi;refine z00 (λhc=>?_) λhc=>?_
 ·have hlt:i<q.funcs.length:=z0z (f:=Fu.enc) rfl hc;obtain⟨x,x1,x2,x3,x4⟩:=z0p hlt;obtain⟨f1,f2⟩:=hF x x4;exact⟨z9z x1,rfl,[],j34 q x f1 f2,sR,Gb,rfl,rfl,z3i rfl,by simp;omega,by simp,z01 rfl oM0,i+1,z03 hlt,hlt,Gc,⟨boq (by rw[x2];simp),rwq (by rw[x2];simp[Fl.enc]),Gb⟩,rfl,rfl,rfl,rfl⟩
 ·have hge:q.funcs.length<=i:=z10 (f:=Fu.enc) rfl hc;rw[Av hge];have he:(riUn q).enc=.agg [arrs q.arrays,.seq (q.funcs.map λf=>(z7w q f).enc)]:=by simp[riUn,Un.enc,flws]
  rw[he]at hK;refine⟨rfl,[],hK,sR,Gb,rfl,z00 (λh=>?_) λh=>?_⟩
  ·have h:¬k1=0:=by simpa using h
   rw[if_neg h];exact⟨sT2 (sP (z0c _)),Gb⟩
  ·have h:k1=0:=by simpa using h
   rw[if_pos h,he];exact⟨sI,Gb⟩
def twT(s:RiT):Nat:=s.ts.length+z0x s.ns
theorem z77(vs:List (Value×PV))(z04:List ByteArray):(riOf vs z04).length=z04.length:=by simp[riOf]
theorem yc3(vs:List (Value×PV))(z04:List ByteArray)(ts:List Int)(ns:List Nd)(jk:List (List ByteArray))(k:Int)(args params:List Int)(kids:List (List Nd)) :
 twT (z6m vs z04 ts ns jk k args params kids).2<=ts.length+z0x ns+2*z04.length+1+args.length+params.length+wtK kids/\lsz (z6m vs z04 ts ns jk k args params kids).2.ns=lsz ns+1+kdz kids:=by
 have hl:=z3g (riOf vs z04) ts;rw[z77]at hl;unfold z6m twT;split
 ·refine⟨?_,?_⟩
  ·dsimp only;rw[z7u,z67,sz0];simp only[A6];omega
  ·dsimp only;rw[y3z,zr4];omega
 ·refine⟨?_,?_⟩
  ·dsimp only;rw[z7u,z67,sz0];omega
  ·dsimp only;rw[y3z,zr4];omega
theorem yk2(k:Int)(z04:List ByteArray)(a:Bool×RiT):z0x (z5o k z04 a)<=z0x a.2.ns+1+z04.length/\lsz (z5o k z04 a)<=lsz a.2.ns+1:=by
 unfold z5o;split
 ·exact⟨by omega,by omega⟩
 ·rw[(z22 ..).1,(z22 ..).2,z77,sz0];exact⟨by omega,Ae _⟩
theorem X_tw(p:Pg)(vs:List (Value×PV))(e:Ex)(h:nxX e=true)(s:RiS):(riX p vs e s).2.ts.length+z0x (riX p vs e s).2.ns<=s.ts.length+z0x s.ns+27*xz e/\lsz (riX p vs e s).2.ns<=lsz s.ns+4*xz e:=by
 obtain⟨h1,h2⟩:=(riX_tw p vs _).1 e (Aa _) h s;unfold tw at h1;exact⟨by omega,h2⟩
theorem zr5{l:List Ex}{i:Nat}{e:Ex}(h:nxL l=true)(he:l[i]?=some e):nxX e=true:=nxL_mem h (Ag he)
theorem kid_ts(s:RiT)(z04:List ByteArray):(z2c s z04).ts.length=s.ts.length+z04.length:=by
 have hl:=z3g (riOf s.vs z04) s.ts;rw[z77]at hl;unfold z2c;dsimp only;omega
theorem ri_tw(p:Pg)(M:Nat):∀N,(∀x:St,SizeOf.sizeOf x<N->∀b lp lo s,gS p b lp x=true->nxS x=true->cnS x<=M->(∀l∈lo,l.length<=M)->twT (riS p x lo s).2<=twT s+27*sz x+(30+8*M)*cnS x/\lsz (riS p x lo s).2.ns<=lsz s.ns+4*sz x) /\
 (∀l:List St,SizeOf.sizeOf l<N->∀b lp lo s,gB p b lp l=true->nxB l=true->cnL l<=M->(∀q∈lo,q.length<=M)->twT (riB p l lo s).2<=twT s+27*szL l+(30+8*M)*cnL l/\lsz (riB p l lo s).2.ns<=lsz s.ns+4*szL l)
 |0=>⟨λ_ h=>absurd h (Aj _),λ_ h=>absurd h (Aj _)⟩
 |N+1=>by
  obtain⟨hS,hB⟩:=ri_tw p M N;refine⟨λx hx b lp lo s hg hn hc hlo=>?_,λl hl b lp lo s hg hn hc hlo=>?_⟩
  ·obtain⟨k,ty,nm,args,thn,els⟩:=x;simp at hx;rw[gS]at hg;rw[nxS,A0,A0,A0]at hn;obtain⟨⟨⟨n1,n2⟩,n3⟩,n4⟩:=hn;rw[cnS]at hc;rw[riS];simp only[cnS,sz];have hK:(30+8*M)*(1+cnL thn+cnL els)=(30+8*M)+(30+8*M)*cnL thn+(30+8*M)*cnL els:=by rw[Eu,Eu,Nat.mul_one]
   rw[hK]
   by_cases h4:k=4
   ·subst h4;rw[if_pos rfl,A0,A0]at hg;rw[if_pos rfl];obtain⟨e,i1,i2,i3,i4⟩:=za0 hg.1.1;rw[i2];obtain⟨j1,j2⟩:=X_tw p s.vs e (zr5 n2 i1) ⟨s.ts,s.ns⟩;generalize riX p s.vs e ⟨s.ts,s.ns⟩=c at j1 j2⊢;dsimp only at j1 j2;obtain⟨a1,a2⟩:=hB thn oM0 b lp lo ⟨s.vs,c.2.ts,[],s.jk⟩ hg.1.2 n3 oM0 hlo;generalize riB p thn lo ⟨s.vs,c.2.ts,[],s.jk⟩=a at a1 a2⊢;obtain⟨d1,d2⟩:=hB els oM0 b lp lo ⟨s.vs,a.2.ts,[],a.2.jk⟩ hg.2 n4 oM0 hlo;generalize riB p els lo ⟨s.vs,a.2.ts,[],a.2.jk⟩=d at d1 d2⊢;have hm:=zw4 s.vs thn els;generalize z0d s.vs [thn,els]=z04 at hm⊢;unfold ze8;obtain⟨r1,r2⟩:=yc3 s.vs z04 d.2.ts c.2.ns d.2.jk 10 [c.1] [] [z5o 12 z04 a,z5o 12 z04 d];obtain⟨w1,w2⟩:=yk2 12 z04 a;obtain⟨v1,v2⟩:=yk2 12 z04 d;rw[yj7]at r1;rw[yc7]at r2;unfold twT at a1 d1 r1⊢;simp only[z7v,A1,A6]at a1 d1 r1;rw[show lsz []=0 from rfl]at a2 d2;generalize(30+8*M)*cnL thn=Kt at a1⊢;generalize(30+8*M)*cnL els=Ke at d1⊢;exact⟨by omega,by omega⟩
   by_cases h5:k=5
   ·subst h5;rw[if_neg dC0,if_pos rfl,A0]at hg;rw[if_neg dC0,if_pos rfl];obtain⟨e,i1,i2,i3,i4⟩:=za0 hg.1;rw[i2];have hm:=z88 s.vs thn;generalize z0d s.vs [thn]=z04 at hm⊢;have hlo2:∀q∈lo++[z04],q.length<=M:=λq hq=>by
     rcases B4.1 hq with h|h
     ·exact hlo q h
     ·rw[Ak.1 h];omega
    have hk:=kid_ts s z04;have hl:=z3g (riOf s.vs z04) s.ts;have hkn:(z2c s z04).ns=[]:=rfl;rw[z77]at hl;split
    ·obtain⟨a1,a2⟩:=hB thn oM0 b true (lo++[z04]) (z2c s z04) hg.2 n3 oM0 hlo2;generalize riB p thn (lo++[z04]) (z2c s z04)=a at a1 a2⊢;unfold y6e;obtain⟨r1,r2⟩:=yc3 s.vs z04 a.2.ts s.ns (z04::a.2.jk) 11 (riOf s.vs z04) (z13 s.ts (riOf s.vs z04)).1 [z5o 13 z04 a];obtain⟨w1,w2⟩:=yk2 13 z04 a;rw[j5d,z77]at r1;rw[j15]at r2;unfold twT at a1 r1⊢;rw[hkn,z7v]at a1;rw[hkn,show lsz []=0 from rfl]at a2;generalize(30+8*M)*cnL thn=Kt at a1⊢;generalize(30+8*M)*cnL els=Ke;exact⟨by omega,by omega⟩
    ·obtain⟨j1,j2⟩:=X_tw p (z2c s z04).vs e (zr5 n2 i1) ⟨(z2c s z04).ts,[]⟩;generalize riX p (z2c s z04).vs e ⟨(z2c s z04).ts,[]⟩=c at j1 j2⊢;dsimp only at j1 j2;obtain⟨a1,a2⟩:=hB thn oM0 b true (lo++[z04]) ⟨(z2c s z04).vs,c.2.ts,[],s.jk.tail⟩ hg.2 n3 oM0 hlo2;generalize riB p thn (lo++[z04]) ⟨(z2c s z04).vs,c.2.ts,[],s.jk.tail⟩=a at a1 a2⊢;unfold y6f;obtain⟨r1,r2⟩:=yc3 s.vs z04 a.2.ts s.ns (z04::a.2.jk) 11 (riOf s.vs z04) (z13 s.ts (riOf s.vs z04)).1 [z9k z04 (z2c s z04).vs c a];obtain⟨w1,w2⟩:=yk2 13 z04 a;have hq:z0x (z9k z04 (z2c s z04).vs c a)=z0x c.2.ns+5+z0x (z5o 13 z04 a)+z04.length/\lsz (z9k z04 (z2c s z04).vs c a)=lsz c.2.ns+2+lsz (z5o 13 z04 a):=by
      unfold z9k;refine⟨?_,?_⟩
      ·rw[z7u,z67,yj7,(z22 ..).1,z77,sz0,z7v];simp only[A1,A6];omega
      ·rw[y3z,zr4,yc7,(z22 ..).2,show lsz []=0 from rfl];omega
     rw[j5d,z77,hq.1]at r1;rw[j15,hq.2]at r2;unfold twT at a1 r1⊢;simp only[z7v]at a1 j1;rw[show lsz []=0 from rfl]at a2 j2;generalize(30+8*M)*cnL thn=Kt at a1⊢;generalize(30+8*M)*cnL els=Ke;exact⟨by omega,by omega⟩
   rw[if_neg h4,if_neg h5]at hg;rw[if_neg h4,if_neg h5];have hlast:=y0m hlo;generalize(30+8*M)*cnL thn=Kt;generalize(30+8*M)*cnL els=Ke;unfold twT
   by_cases h6:k=6
   ·rw[if_pos h6];dsimp only;rw[(z22 ..).1,(z22 ..).2,z77,sz0];exact⟨by omega,by omega⟩
   by_cases h7:k=7
   ·rw[if_neg h6,if_pos h7];dsimp only;rw[(z22 ..).1,(z22 ..).2,z77,sz0];exact⟨by omega,by omega⟩
   rw[if_neg oM0]at hg;rw[if_neg h6,if_neg h7];have hnm:k=3->nm.size<=20:=λh=>by
    subst h;rw[Br,Br]at n1;rcases n1 with(n1|n1)|n1
    ·exact absurd n1 dC0
    ·exact absurd n1 dC0
    ·exact An n1
   by_cases h8:k=8
   ·subst h8;rw[if_neg dC0,A0]at hg;rw[if_pos rfl];obtain⟨e,i1,i2,i3,i4⟩:=za0 hg.1;rw[i2];obtain⟨j1,j2⟩:=X_tw p s.vs e (zr5 n2 i1) ⟨s.ts,s.ns⟩;dsimp only at j1 j2⊢;rw[(z22 ..).1,(z22 ..).2,sz0];simp only[A1,A6];exact⟨by omega,by omega⟩
   rw[if_neg h8];unfold ze9
   by_cases h3:k=3
   ·have hnm:=hnm h3;subst h3;rw[if_pos rfl]at hg;obtain⟨e,e2,i1,i2,i3,i4,i5,i6,i7⟩:=j0s hg;rw[if_neg dC0,if_pos rfl,i3,i4];obtain⟨j1,j2⟩:=X_tw p s.vs e (zr5 n2 i1) ⟨s.ts,s.ns⟩;obtain⟨m1,m2⟩:=X_tw p s.vs e2 (zr5 n2 i2) (riX p s.vs e ⟨s.ts,s.ns⟩).2;dsimp only at j1 j2⊢;rw[(z22 ..).1,(z22 ..).2];simp only[A1,A6];exact⟨by omega,by omega⟩
   rw[if_neg h3,A0]at hg;obtain⟨e,i1,i2,i3,i4⟩:=za0 hg.1;rw[i2];obtain⟨j1,j2⟩:=X_tw p s.vs e (zr5 n2 i1) ⟨s.ts,s.ns⟩;dsimp only at j1 j2
   by_cases h12:k=1∨k=2
   ·rw[if_pos h12];dsimp only;exact⟨by omega,by omega⟩
   ·rw[if_neg h12,if_neg h3];split
    ·dsimp only;rw[(z22 ..).1,(z22 ..).2,sz0];simp only[A1,A6];exact⟨by omega,by omega⟩
    ·dsimp only;exact⟨by omega,by omega⟩
  ·match l with
   |[]=>rw[riB];exact⟨Bi _ _,Bi _ _⟩
   |x::r =>
    simp at hl;rw[gB,A0]at hg;rw[nxB,A0]at hn;rw[cnL]at hc;obtain⟨a1,a2⟩:=hS x oM0 b lp lo s hg.1 hn.1 oM0 hlo;rw[riB];simp only[cnL,szL];rw[Eu (30+8*M) (cnS x) (cnL r)];generalize(30+8*M)*cnS x=Kx at a1⊢;split
    ·exact⟨by dsimp only;omega,by dsimp only;omega⟩
    ·obtain⟨d1,d2⟩:=hB r oM0 _ lp lo (riS p x lo s).2 hg.2 hn.2 oM0 hlo;exact⟨by omega,by omega⟩
theorem gr_le(M:Nat):∀N,(∀x:St,SizeOf.sizeOf x<N->cnS x<=M->grS x<=8*sz x+(2+2*M)*cnS x)/\(∀l:List St,SizeOf.sizeOf l<N->cnL l<=M->grL l<=8*szL l+(2+2*M)*cnL l)
 |0=>⟨λ_ h=>absurd h (Aj _),λ_ h=>absurd h (Aj _)⟩
 |N+1=>by
  obtain⟨hS,hB⟩:=gr_le M N;refine⟨λx hx hc=>?_,λl hl hc=>?_⟩
  ·obtain⟨k,ty,nm,args,thn,els⟩:=x;simp at hx;rw[cnS]at hc;have a:=hB thn oM0 oM0;have b:=hB els oM0 oM0;simp only[cnS,sz,grS];rw[show(2+2*M)*(1+cnL thn+cnL els)=(2+2*M)+(2+2*M)*cnL thn+(2+2*M)*cnL els by rw[Eu,Eu,Nat.mul_one]];generalize(2+2*M)*cnL thn=Kt at a⊢;generalize(2+2*M)*cnL els=Ke at b⊢;omega
  ·match l with
   |[]=>exact Ad _
   |x::r =>
    simp at hl;rw[cnL]at hc;have a:=hS x oM0 oM0;have b:=hB r oM0 oM0;simp only[cnL,szL,grL];rw[Eu (2+2*M) (cnS x) (cnL r)];generalize(2+2*M)*cnS x=Kt at a⊢;generalize(2+2*M)*cnL r=Ke at b⊢;omega
structure RnOk(q:Pg):Prop where
 pz:pz q.funcs<=300003
 ar:q.arrays.length<=300003
 cn:pcn q.funcs<=50000
 nmA:∀a∈q.arrays,a.name.size<=20
 nmF:∀f∈q.funcs,f.name.size<=20
 gB:∀f∈q.funcs,gB q (!f.params.isEmpty) false f.body=true
 nx:∀f∈q.funcs,nxB f.body=true
 nt:∀f∈q.funcs,ntL maxLen f.body
theorem y69{f:Fu}:∀{l:List Fu},f∈l->cnL f.body<=pcn l
 |x::r,h=>by
  rw[pcn];rcases Ao.1 h with rfl|h
  ·omega
  ·have:=y69 h;omega
theorem pz_rn:∀l:List Fu,pz (l.map rnF)=pz l/\pcn (l.map rnF)=pcn l
 |[]=>⟨rfl,rfl⟩
 |f::r=>by
  obtain⟨h1,h2⟩:=pz_rn r;rw[B3,pz,pz,pcn,pcn,h1,h2];have e1:(rnF f).params.length=f.params.length:=z9l _ _ _;have e2:szL (rnF f).body=szL f.body:=rn_sz _ _ _;have e3:cnL (rnF f).body=cnL f.body:=rn_cn _ _ _;rw[e1,e2,e3];exact⟨rfl,rfl⟩
theorem rnOk{p:Pg}(h1:pz p.funcs+p.arrays.length<=300003)(h2:pcn p.funcs<=50000)(hr:rPg p=true)(hy:(z95 p).1=0):RnOk (rnP p):=by
 have hr':=hr;unfold rPg at hr';rw[A0]at hr';obtain⟨ha,hf⟩:=hr';have ha:=Be.1 ha;have hf:=Be.1 hf;have hF:∀f∈p.funcs,z0l f.name=true/\rsL f.body 100=true:=λf h=>by
  have:=hf f h;unfold rFu at this;simp only[A0]at this;exact⟨this.1.1.1.1,this.1.2⟩
 obtain⟨e1,e2⟩:=pz_rn p.funcs;have sh0:Sh []:=λe he=>by cases he
 refine⟨?_,?_,?_,λa h=>?_,λf h=>?_,rnF_gB hr hy,λf h=>?_,λf h=>?_⟩
 ·show pz (p.funcs.map rnF)<=_;omega
 ·show p.arrays.length<=_;omega
 ·show pcn (p.funcs.map rnF)<=_;omega
 ·have:=ha a h;simp only[A0]at this;exact zl3 this.1.1
 all_goals obtain⟨g,hg,rfl⟩:=Cb.1 (show f∈p.funcs.map rnF from h)
 ·exact zl3 (hF g hg).1
 ·exact(nxB_rn _).2 g.body (Aa _) _ _ ((nxB_of _).2 g.body (Aa _) 100 (hF g hg).2)
 ·have hpl:=zw0 hg;have hcm:=y69 hg;obtain⟨s1,s2⟩:=j2j g.params [] 0 sh0 oM0;refine(j1i (show 30<=maxLen by decide) _).2 _ (Aa _) ?_;exact((nt_rn _).2 g.body (Aa _) (rnPm g.params [] 0).2.1 (rnPm g.params [] 0).2.2 100 s1 oM0 (hF g hg).2).1
theorem riFun{q:Pg}(h:RnOk q){f:Fu}(hf:f∈q.funcs):f.params.length<=1000000000/\scB q f.body [] (riT0 f.params) (riB q f.body [] (riT0 f.params)):=by
 have hpl:=zw0 hf;have hcm:=y69 hf;have h1:=h.pz;have h2:=h.cn;have h3:=zl8 q.funcs;have h4:=h.ar;have hg:=(gr_le 50000 _).2 f.body (Aa _) oM0;have ht:(riT0 f.params).ts.length=f.params.length:=y1o f.params;refine⟨by omega,(yp1 q ⟨by omega,by omega⟩ _).2 f.body (Aa _) (!f.params.isEmpty) false [] (riT0 f.params) (h.gB f hf) (h.nt f hf) oM0 (yn8 f.params) ⟨by omega,?_,?_,(λl hl=>by cases hl),λe=>by cases e⟩⟩
 ·show 0+_<=_;omega
 ·show 0+0+_<=_;omega
theorem j23{q:Pg}(h:RnOk q){f:Fu}(hf:f∈q.funcs):(z7w q f).types.length+z0x (z7w q f).body<=f.params.length+27*szL f.body+400030*cnL f.body/\lsz (z7w q f).body<=4*szL f.body:=by
 have hcm:=y69 hf;have h2:=h.cn;obtain⟨a,b⟩:=(ri_tw q 50000 _).2 f.body (Aa _) (!f.params.isEmpty) false [] (riT0 f.params) (h.gB f hf) (h.nx f hf) oM0 (λl hl=>by cases hl);have ht:twT (riT0 f.params)=f.params.length:=by
  unfold twT;rw[show(riT0 f.params).ts.length=f.params.length from y1o f.params];rfl
 rw[ht]at a;have hb:lsz (riT0 f.params).ns=0:=rfl;rw[hb]at b;unfold twT at a;exact⟨by simpa[z7w]using a,by simpa[z7w]using b⟩
theorem riUn_w{q:Pg}(h:RnOk q):z0g (riUn q)<=34000000000/\uSz (riUn q).flows<=4000000:=by
 have h1:=h.pz;have h2:=h.cn;have h4:=h.ar;have key:∀l:List Fu,(∀f∈l,f∈q.funcs)->wtF (l.map (z7w q))+l.length<=27*pz l+400030*pcn l/\uSz (l.map (z7w q))<=4*pz l:=by
  intro l
  induction l with
  |nil=>intro _;exact⟨Ae _,Ae _⟩
  |cons f r ih =>
   intro hm;obtain⟨i1,i2⟩:=ih λx hx=>hm x (.tail _ hx);have hf:=hm f (.head _);obtain⟨a,b⟩:=j23 h hf;have hn:=h.nmF f hf;rw[B3,wtF,uSz,pz,pcn,A1];have e:(z7w q f).name.size=f.name.size:=rfl;rw[e,Eu 400030];generalize 400030*cnL f.body=K1 at a⊢;generalize 400030*pcn r=K2 at i1⊢;exact⟨by omega,by omega⟩
 obtain⟨k1,k2⟩:=key q.funcs λf h=>h;have hA:∀l:List Ar,(∀a∈l,a.name.size<=20)->wtA l<=20*l.length:=by
  intro l
  induction l with
  |nil=>intro _;exact Ae _
  |cons a r ih =>
   intro hm;have:=ih λx hx=>hm x (.tail _ hx);have:=hm a (.head _);rw[wtA,A1];omega
 have hA:=hA q.arrays h.nmA;have hm:400030*pcn q.funcs<=400030*50000:=Nat.mul_le_mul_left _ h2;generalize 400030*pcn q.funcs=K at k1 hm;unfold z0g;have e1:(riUn q).arrays=q.arrays:=rfl;have e2:(riUn q).flows=q.funcs.map (z7w q):=rfl;rw[e1,e2,Ac];have h3:=zl8 q.funcs;exact⟨by omega,by omega⟩
def riU(s:ByteArray):Un×Int:=yu9 (z2b s).1 (z59 (riUn (rnOf (z2b s).1).1)).1
theorem rn_ok(s:ByteArray)(h:(rnOf (z2b s).1).2=0):RnOk (rnOf (z2b s).1).1:=by
 unfold rnOf at h⊢
 by_cases hy:(z95 (z2b s).1).1=0
 ·rw[if_pos hy];exact rnOk (y7z s) (j0t s) (zv0 s) hy
 ·rw[if_neg hy]at h;exact absurd h dC0
theorem sc_Rise(s:ByteArray):SC Tryz.prog 7 [.pv (z2b s).1.enc] [] (λk=>k∈[]) (.tup [.pv (riU s).1.enc,iInt (riU s).2]) []:=by
 have hz:=y7z s;refine sc_Rise0 (z2b s).1 (j2q (z2b s).1 oM0 oM0 (zv0 s)) ?_ (λh f hf=>riFun (rn_ok s h) hf) _ (z59 (riUn (rnOf (z2b s).1).1)).2 λh=>SC.anyR (y4w _ (B9 (riUn_w (rn_ok s h)).1 dC0))
 by_cases hy:(z95 (z2b s).1).1=0
 ·have h:(rnOf (z2b s).1).2=0:=by unfold rnOf;rw[if_pos hy]
  have:=(rn_ok s h).pz;have:=zl8 (rnOf (z2b s).1).1.funcs;omega
 ·unfold rnOf;rw[if_neg hy];exact Ad _
theorem un0_w:z0g un0<=34000000000/\uSz un0.flows<=4000000:=⟨by decide,by decide⟩
theorem riU_w(s:ByteArray):z0g (riU s).1<=34000000000/\uSz (riU s).1.flows<=4000000:=by
 unfold riU yu9;split
 ·rename_i h;split
  ·exact riUn_w (rn_ok s h)
  ·exact un0_w
 ·exact un0_w
theorem riU_ar(s:ByteArray):(riU s).1.arrays.length<=(z2b s).1.arrays.length:=by
 unfold riU yu9;split
 ·rename_i h;have e:(rnOf (z2b s).1).1.arrays=(z2b s).1.arrays:=by
   unfold rnOf at h⊢
   by_cases hy:(z95 (z2b s).1).1=0
   ·rw[if_pos hy];rfl
   ·rw[if_neg hy]at h;exact absurd h dC0
  split
  ·show(rnOf (z2b s).1).1.arrays.length<=_;rw[e];exact Ae _
  ·exact Ad _
 ·exact Ad _
section
variable {T:List Tk}
theorem yd2{w:ByteArray}{s:Ps}(h:(z0o T w s).over=false):(z0o T w s).at_=s.at_+1/\s.over=false:=by
 unfold z0o at h⊢;split at h
 ·rename_i c;rw[if_pos c];exact⟨rfl,(z4n c).1⟩
 ·rename_i c;rw[if_neg c];split at h
  ·rename_i d;simp[Ps.over,d]at h
  ·simp[Ps.over,Ps.setBad]at h
theorem j4c{k:Int}{s:Ps}(h:(z0m T k s).2.over=false):(z0m T k s).2.at_=s.at_+1/\s.over=false:=by
 unfold z0m at h⊢;split at h
 ·rename_i c;rw[c]at h;cases h
 ·rename_i c;rw[if_neg c];split at h
  ·rename_i d;rw[if_pos d];exact⟨rfl,by simpa using c⟩
  ·simp[Ps.over,Ps.setBad]at h
theorem typed_eq{s:Ps}(h:(z0r T s).2.over=false):(z0r T s).2.at_=s.at_+1/\s.over=false:=by
 unfold z0r at h⊢;split at h
 ·rename_i c;rw[if_pos c];exact⟨rfl,(z4n c).1⟩
 ·rename_i c;rw[if_neg c];exact yd2 h
theorem y7x:∀N p s,p.funcs≠[]->(z43 T N p s).1.arrays=p.arrays
 |0,_,_,_=>rfl
 |N+1,p,s,h=>by
  unfold z43;split
  ·rfl
  split
  ·rename_i c2;unfold qArr at c2;simp only[A0,Au]at c2;exact absurd (At c2.1.2) h
  ·exact y7x N _ _ sI0
theorem ps_eq{s:Ps}(h:s.over=false):s=⟨s.at_,false,false⟩:=by
 obtain⟨a,b,d⟩:=s;unfold Ps.over at h;simp only[C0]at h;obtain⟨rfl,rfl⟩:=h;rfl
theorem arr_le:∀(k N:Nat)(p:Pg)(s:Ps),pIs T sSo ⟨s.at_+6*k+2,false,false⟩=false->(z43 T N p s).1.arrays.length<=p.arrays.length+k
 |_,0,p,s,_=>Bi _ _
 |k,N+1,p,s,h=>by
  unfold z43;split
  ·exact Bi _ _
  split
  ·rename_i c2;have hc:pIs T sSo (z0m T 1 (z0r T s).2).2=true:=by unfold qArr at c2;simp only[A0]at c2;exact c2.2
   have ho:=(z4n hc).1;obtain⟨a1,o1⟩:=j4c ho;obtain⟨a2,o2⟩:=typed_eq o1
   match k,h with
   |0,h =>
    rw[ps_eq ho,a1,a2]at hc;rw[show s.at_+6*0+2=s.at_+1+1 by omega]at h;rw[h]at hc
    cases hc
   |k+1,h =>
    cases hs:(z0o T z5d (z0o T sSc (z0m T 0 (z0m T 1 (z0r T s).2).2.next).2)).over with
    |true =>
     cases N with
     |zero=>rw[z43];simp
     |succ N=>rw[z43,if_pos (by rw[hs];rfl)];simp
    |false =>
     obtain⟨a3,o3⟩:=yd2 hs;obtain⟨a4,o4⟩:=yd2 o3;obtain⟨a5,o5⟩:=j4c o4;have:=arr_le k N ⟨p.arrays++[⟨(z0m T 1 (z0r T s).2).1,zh3 (z0m T 0 (z0m T 1 (z0r T s).2).2.next).1⟩],p.funcs⟩ (z0o T z5d (z0o T sSc (z0m T 0 (z0m T 1 (z0r T s).2).2.next).2)) (by
      rw[a3,a4,a5,z0n,a1,a2,show s.at_+1+1+1+1+1+1+6*k+2=s.at_+6*(k+1)+2 by omega];exact h)
     rw[B5]at this;simp only[A1,A6]at this;omega
  ·rw[y7x N _ _ sI0];exact Bi _ _
theorem ys5(s:ByteArray)(k:Nat)(h:pIs (z1u s).1 sSo ⟨6*k+2,false,false⟩=false):(z2b s).1.arrays.length<=k:=by
 unfold z2b;split
 ·split
  ·exact Ad _
  ·split
   ·exact Ad _
   ·split
    ·have:=arr_le k (big (z1u s).1) ⟨[],[]⟩ ⟨0,false,false⟩ (by simpa using h);unfold z9c;simpa using this
    ·exact Ad _
 ·exact Ad _
theorem y76(s:ByteArray):∀(N line a:Nat)(out:List Tk),(toks s N line a out).1=[]∨∃r,(toks s N line a out).1=out++r
 |0,_,_,_=>.inl rfl
 |N+1,line,a,out=>by
  unfold toks;split
  ·exact .inr ⟨_,rfl⟩
  ·split
   ·exact y76 s N _ _ out
   ·rename_i t a2 _;rcases y76 s N line a2 (out++[t])with h|⟨r,h⟩
    ·exact .inl h
    ·exact .inr ⟨t::r,by rw[h,C2];rfl⟩
   ·exact .inl rfl
def pxOk(P:ByteArray)(a:Nat):Bool:=decide (a+3<=P.size)&&decide (a+z4e P a<P.size)&&P.data.toList[a]? != some 47
def px(P:ByteArray):Nat->Nat->Nat->List Tk->Option (Nat×Nat×List Tk)
 |0,line,a,out=>some (line,a,out)
 |k+1,line,a,out=>if pxOk P a then(match P.data.toList[a]? with
  |some b=>(match zt9 P line a b with
   |.skip l2 a2=>px P k l2 a2 out
   |.tok t a2=>px P k line a2 (out++[t])
   |.bad _=>none)
  |none=>none)else none
variable {P R:ByteArray} {a:Nat}
theorem yk3:(P++R).data.toList=P.data.toList++R.data.toList:=by rw[ByteArray.data_append,Dk]
theorem yl7(s:ByteArray):s.data.toList.length=s.size:=Bq
theorem bget_app(h:a<P.size):(P++R).data.toList[a]?=P.data.toList[a]?:=by rw[yk3,Aq (by rw[yl7];exact h)]
theorem run_app(h:a+z4e P a<P.size):z4e (P++R) a=z4e P a:=by
 unfold z4e at h⊢;have hl:=yl7 P;rw[yk3,List.drop_append_of_le_length oM0,List.takeWhile_append,if_neg];rw[Ei];omega
theorem j0l{n:Nat}(h:a+n<=P.size):(P++R).extract a (a+n)=P.extract a (a+n):=by
 apply ByteArray.ext;rw[Dp,Dp,ByteArray.data_append,Array.extract_append];have:a+n-P.data.size=0:=by have:P.data.size=P.size:=rfl;omega
 rw[this];simp
theorem j0m(s:ByteArray)(a n:Nat)(h:a+n<=s.size):(s.extract a s.size).extract 0 n=s.extract a (a+n):=by
 apply ByteArray.ext;rw[Dp,Dp,Dp,Array.extract_extract];rw[Bw,Db h]
theorem yp9:(P++R).size=P.size+R.size:=A4
theorem sgIs_app{w:ByteArray}(h:a+3<=P.size)(hw:w.size<=3):sgIs ((P++R).extract a (P++R).size) w=sgIs (P.extract a P.size) w:=by
 unfold sgIs;have h2:=@yp9 P R;rw[j0m _ _ _ oM0,j0m _ _ _ oM0,j0l oM0,Cj,Cj];rw[show decide (w.size<=min (P++R).size (P++R).size-a)=true from C9 oM0,show decide (w.size<=min P.size P.size-a)=true from C9 oM0]
theorem yp8(h:a+3<=P.size):∀l:List ByteArray,(∀w∈l,w.size<=3)->sgGo ((P++R).extract a (P++R).size) l=sgGo (P.extract a P.size) l
 |[],_=>rfl
 |w::r,hw=>by
  simp only[sgGo];rw[sgIs_app h (hw w (.head _)),yp8 h r λx hx=>hw x (.tail _ hx)]
theorem sgOf_app(h:a+3<=P.size):sgOf ((P++R).extract a (P++R).size)=sgOf (P.extract a P.size):=yp8 h sgL dC0
theorem j49(h:pxOk P a=true)(line:Nat){b:UInt8}(hb:P.data.toList[a]?=some b):zt9 (P++R) line a b=zt9 P line a b:=by
 unfold pxOk at h;simp only[A0,Bj,bne_iff_ne]at h;obtain⟨⟨h1,h2⟩,h3⟩:=h;have h4:b≠47:=λe=>h3 (by rw[hb,e]);unfold zt9;rw[run_app h2,j0l oM0,sgOf_app h1];simp only[h4,false_and,By]
theorem ye5(N:Nat):∀(k line a:Nat)(out:List Tk){l2 a2:Nat}{o2:List Tk},px P k line a out=some (l2,a2,o2)->toks (P++R) (N+k) line a out=toks (P++R) N l2 a2 o2
 |0,line,a,out,l2,a2,o2,h=>by cases h;rfl
 |k+1,line,a,out,l2,a2,o2,h=>by
  unfold px at h;split at h
  ·rename_i hk;have h1:a+3<=P.size:=by
    have:=hk;unfold pxOk at this;simp only[A0,Bj]at this;exact this.1.1
   rw[show N+(k+1)=(N+k)+1 from rfl]
   conv=>lhs;unfold toks
   rw[bget_app oM0];split at h
   ·rename_i b hb;rw[hb];dsimp only;rw[j49 hk line hb];split at h
    ·rename_i h5;rw[h5];exact ye5 N k _ _ _ h
    ·rename_i h5;rw[h5];exact ye5 N k _ _ _ h
    ·cases h
   ·cases h
  ·cases h
theorem px_is{k l2 a2 i:Nat}{o2:List Tk}(h:px P k 1 0 []=some (l2,a2,o2))(hk:k<=P.size)(hi:i<o2.length)(hq:pIs o2 sSo ⟨i,false,false⟩=false):pIs (z1u (P++R)).1 sSo ⟨i,false,false⟩=false:=by
 unfold z1u;have e:pIs ([]:List Tk) sSo ⟨i,false,false⟩=false:=by
  unfold pIs tkAt;simp
 split
 ·exact e
 ·have hs:=@yp9 P R;obtain⟨N,hN⟩:∃N,(P++R).size+1=N+k:=⟨(P++R).size+1-k,by omega⟩;rw[hN,ye5 N k 1 0 [] h];rcases y76 (P++R) N l2 a2 o2 with h1|⟨r,h1⟩
  ·rw[h1];exact e
  ·rw[h1];have:tkAt (o2++r) ⟨i,false,false⟩=tkAt o2 ⟨i,false,false⟩:=by
    unfold tkAt;rw[Ax,Ax,Aq hi]
   unfold pIs at hq⊢;rw[this];exact hq
end
theorem yz7{u:Un}(hz:(z17 u).1=0):y58 (z3s wB u)=true:=by have:=y4i u;rw[z66 wB hz]at this;exact this
theorem y2z(u:Un){n:Nat}(h:z0g u<=n):z0g (z3s wB u)<=n:=B9 (yr4 wB y44 u) h
theorem i64_two{n:Int}(hn:0<=n/\n<=255):z3c .mul .i64 2 (IntKind.i64.wrap n)=some (.int .i64 (2*n)):=by
 have hw:IntKind.i64.wrap n=n:=Cw n oM0;rw[hw];exact y5n rfl oM0
end Go.Proofs.YtdhllinkobindaaGreatDoor
