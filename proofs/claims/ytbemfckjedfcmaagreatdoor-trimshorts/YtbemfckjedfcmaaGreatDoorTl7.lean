/- PART 7 of 9 of a proof: see the last part. -/
import Derived.Test.YtbemfckjedfcmaaGreatDoorTl6
set_option maxRecDepth 20000
set_option maxHeartbeats 8000000
set_option linter.unusedSimpArgs false
set_option linter.unusedVariables false
set_option linter.unusedSectionVars false
namespace Go.Proofs.YtbemfckjedfcmaaGreatDoor
open Go
theorem j2w (u:Un) (f:Fl) (hg:∀ g∈u.flows,0<=g.params/\g.params<=g.types.length) (hp:0<=f.params/\f.params<=f.types.length) (hb:lsW f.body<=34359738368):SC Tryz.prog 40 [.pv u.enc,.pv (.agg f.enc)] [] (λ_=>False) (iBool (y1l u f)) []:=by
 refine SC.anyR (SC.vc tb { pb:=[102,103],ids:=[(26,4),(28,3)] } [] Tryz.func40 rfl rfl ?_);unfold y1l;have hl:((f.types.map eInt).length:Int)=f.types.length:=by rw [A5]
 refine z00 (λh1=>?_) λh1=>?_
 ·rw [show decide (f.params > 8)=true from h1];exact ⟨sI,G9⟩
 rw [show decide (f.params > 8)=false from h1,Bs];refine z00 (λh2=>?_) λh2=>?_
 ·have h2:decide (((f.types.map eInt).length:Int) > 20000)=true:=h2;rw [hl] at h2;rw [h2];exact ⟨sI,G9⟩
 have h2:decide (((f.types.map eInt).length:Int) > 20000)=false:=h2;rw [hl] at h2;rw [h2,Bs];have hT:=sc_hasIn 75 [] rfl (λt=>!isTy t) f.types λx _=>SC.anyR (sc_flow1 x);generalize (f.types.any λt=>!isTy t)=c at hT ⊢
 cases c
 ·have h2':=Al h2;refine ⟨[],hT,SubA.same sFn,G9,rfl,rfl,VNum.mk (n:=f.types.length) hl oM0 ?_⟩;refine ⟨by simp,Nat,λi=>[(31,iInt ((i:Nat):Int))],λi=>ckS u f 3 (zm6 i f.types.length),λi=>f.params.toNat - i,λi=>(i:Int)<=f.params,[],0,by show ((0:Nat):Int)<=_;omega,Ga,⟨boq (by simp [y4f,zm6];rfl),rwq (by simp [zm6,eInt];exact .inr rfl),G9⟩,?_⟩;intro i hi;have hsl:=zv3 (k:=i) (n:=f.types.length) oM0;refine z00 (λhc=>?_) λhc=>?_
  ·have hlt:(i:Int)<f.params:=An hc;have hss:=j3g (k:=i) (n:=f.types.length) oM0;exact ⟨rfl,VIdR.mk (i:=i) (by rw [A5];omega) rfl ⟨i,0,_,rfl,rfl,z02 (f:=eInt) (z3l (show i<(zm6 i f.types.length).length by omega)),by simp [eInt],z01 rfl oM0,i+1,(by show f.params.toNat - (i+1)<f.params.toNat - i;omega),(by show ((i+1:Nat):Int)<=f.params;omega),Ga,⟨boq (by rw [<- hss];simp [y4f]),rwq (by rw [<- hss];simp [eInt,C8]),G9⟩,rfl,rfl,rfl,rfl⟩⟩
  ·have hge:¬ (i:Int)<f.params:=Al hc;have hi2:i=f.params.toNat:=by omega
   subst hi2;have hL:=j2z u f hg f.body 1 ⟨by decide,by decide⟩ z3n (zm6 f.params.toNat f.types.length) oM0 hb;exact ⟨[],hL,SubA.same (SubA.same (SubA.cons (sP (z0d _)) (SubA.same SubA.nil))),Gb,rfl,sI,G9⟩
 ·exact ⟨[],hT,SubA.same sFn,G9,rfl,sI,G9⟩
theorem j2y (u:Un) (hW:z0g u<=34359738368):SC Tryz.prog 39 [.pv u.enc] [] (λ_=>False) (iBool (z8y u)) []:=by
 refine SC.anyR (SC.vc tb {} [] Tryz.func39 rfl rfl ?_);have hw1:u.arrays.length<=z0g u:=by unfold z0g;omega
 have hw2:u.flows.length<=z0g u:=by unfold z0g;omega
 refine ⟨Nat × List (Value × PV),λ(k,_)=>[(13,iInt k)],λ(_,es)=>[(109,.map es)],λ(k,_)=>u.arrays.length - k,λ(k,es)=>k<=u.arrays.length/\u.arrays.all zw2=(u.arrays.drop k).all zw2/\zz4 [] u.arrays=zz4 es (u.arrays.drop k)/\Cnt es,[],(0,[]),⟨A6 _,rfl,rfl,Cnt.nil⟩,Ga,Ga,?_⟩;rintro ⟨k,es⟩ ⟨hk,hA,hC,hes⟩;refine z00 (λhc=>?_) λhc=>?_
 ·have hlt:=z0y (f:=Ar.enc) rfl hc;obtain ⟨a,ha,_,hd,_⟩:=z0n hlt;rw [hd] at hA hC;rw [D5] at hA;obtain ⟨n,hn⟩:=hes.find (.string a.name);have bad:zw2 a=false->SubI (iBool false) (iBool (z8y u)):=λh=>sE (by unfold z8y;rw [hA,h];rfl);have hNm:=z7p a.name
  cases hN:z0j a.name with
  | false =>
   rw [hN] at hNm
   exact ⟨z02 (f:=Ar.enc) ha,rfl,VAsk.mk (p:=vInt n) (b:=(z1z (.string a.name) es).isSome) rfl hes.1 (E3 hn rfl) ⟨rfl,rfl,hes.1,[],hNm,sR,G9,rfl,bad (by unfold zw2;rw [hN];rfl),G9⟩⟩
  | true =>
   rw [hN] at hNm;refine ⟨z02 (f:=Ar.enc) ha,rfl,VAsk.mk (p:=vInt n) (b:=(z1z (.string a.name) es).isSome) rfl hes.1 (E3 hn rfl) ⟨rfl,rfl,hes.1,[],hNm,sR,G9,rfl,z00 (λh1=>⟨bad (by unfold zw2;rw [hN,show decide (a.size<1)=true from h1];rfl),G9⟩) λh1=>z00 (λh2=>⟨bad (by unfold zw2;rw [hN,show decide (a.size<1)=false from h1,show decide (a.size > 1000)=true from h2];rfl),G9⟩) λh2=>?_⟩⟩;have good:zw2 a=true:=by unfold zw2;rw [hN,show decide (a.size<1)=false from h1,show decide (a.size > 1000)=false from h2];rfl
   exact ⟨z01 rfl oM0,(k+1,bump a.name es),z04 hlt,⟨hlt,by rw [hA,good];rfl,hC,hes.bump _⟩,Ga,⟨mpq (zg2 hn).symm,G9⟩,rfl,rfl,rfl,rfl⟩
 ·have hge:=z0z (f:=Ar.enc) rfl hc;rw [A9 hge] at hA hC;refine ⟨Nat × List (Value × PV),λ(k,_)=>[(40,iInt k)],λ(_,es)=>[(109,.map es)],λ(k,_)=>u.flows.length - k,λ(k,es)=>k<=u.flows.length/\u.flows.all zm7=(u.flows.drop k).all zm7/\y2q (zz4 [] u.arrays) u.flows=y2q es (u.flows.drop k)/\Cnt es,[],(0,es),⟨A6 _,rfl,by rw [hC];rfl,hes⟩,Ga,Ga,?_⟩;rintro ⟨k,es⟩ ⟨hk,hF,hC,hes⟩;refine z00 (λhc=>?_) λhc=>?_
  ·have hlt:=z0y (f:=Fl.enc) rfl hc;obtain ⟨f,hf,_,hd,hm⟩:=z0n hlt;rw [hd] at hF hC;rw [D5] at hF;obtain ⟨n,hn⟩:=hes.find (.string f.name);have bad:zm7 f=false->SubI (iBool false) (iBool (z8y u)):=λh=>sE (by unfold z8y;rw [hA,hF,h];rfl);have hNm:=z7p f.name
   cases hN:z0j f.name with
   | false =>
    rw [hN] at hNm
    exact ⟨z02 (f:=Fl.enc) hf,rfl,VAsk.mk (p:=vInt n) (b:=(z1z (.string f.name) es).isSome) rfl hes.1 (E3 hn rfl) ⟨rfl,rfl,hes.1,[],hNm,sR,G9,rfl,bad (by unfold zm7;rw [hN];rfl),G9⟩⟩
   | true =>
    rw [hN] at hNm;have hT:=j2k f.ty
    cases hty:isTy f.ty with
    | false =>
     rw [hty] at hT
     exact ⟨z02 (f:=Fl.enc) hf,rfl,VAsk.mk (p:=vInt n) (b:=(z1z (.string f.name) es).isSome) rfl hes.1 (E3 hn rfl) ⟨rfl,rfl,hes.1,[],hNm,sR,G9,rfl,[],hT,sR,G9,rfl,bad (by unfold zm7;rw [hN,hty];rfl),G9⟩⟩
    | true =>
     rw [hty] at hT;refine ⟨z02 (f:=Fl.enc) hf,rfl,VAsk.mk (p:=vInt n) (b:=(z1z (.string f.name) es).isSome) rfl hes.1 (E3 hn rfl) ⟨rfl,rfl,hes.1,[],hNm,sR,G9,rfl,[],hT,sR,G9,rfl,z00 (λh1=>⟨bad (by unfold zm7;rw [hN,hty,show decide (f.params<0)=true from h1];rfl),G9⟩) λh1=>z00 (λh2=>⟨bad (by unfold zm7;rw [hN,hty,show decide (f.params<0)=false from h1,show decide (f.params > f.types.length)=true by simpa using h2];rfl),G9⟩) λh2=>?_⟩⟩;have good:zm7 f=true:=by unfold zm7;rw [hN,hty,show decide (f.params<0)=false from h1,show decide (f.params > f.types.length)=false by simpa using h2];rfl
     exact ⟨z01 rfl oM0,(k+1,bump f.name es),z04 hlt,⟨hlt,by rw [hF,good];rfl,hC,hes.bump _⟩,Ga,⟨mpq (zg2 hn).symm,G9⟩,rfl,rfl,rfl,rfl⟩
  ·have hge:=z0z (f:=Fl.enc) rfl hc;rw [A9 hge] at hF hC;have hG:z8y u=((es.length:Int)==u.arrays.length+u.flows.length&&z9w u):=by unfold z8y;rw [hA,hF,hC];rfl
   rw [hG];have N:∀ {P:Prop} {b:Bool},b=true->b=false->P:=λh g=>by rw [h] at g;cases g
   cases hb:((es.length:Int)==u.arrays.length+u.flows.length) with
   | false=>exact ⟨[],ze0 u z0x,sR,G9,rfl,z01 rfl (by simp;omega),z00 (λh=>N (show ((es.length:Int)==u.arrays.length+u.flows.length)=true by simpa using h) hb) λ_=>⟨sI,G9⟩⟩
   | true =>
    cases hp:decide (z06 z0x u.flows 0 ≥ 0) with
    | false=>exact ⟨[],ze0 u z0x,sR,G9,rfl,z01 rfl (by simp;omega),z00 (λ_=>z00 (λh=>N h hp) λ_=>⟨sE (by unfold z9w;rw [hp];rfl),G9⟩) λh=>N hb (by simpa using h)⟩
    | true =>
     have h0:z06 z0x u.flows 0 ≥ 0:=by simpa using hp
     obtain ⟨g,hg,_⟩:=zd5 h0;have hD:u.flows.getD (z06 z0x u.flows 0).toNat y70=g:=by rw [Ax,hg];rfl
     have hi:=z02 (f:=Fl.enc) hg;refine ⟨[],ze0 u z0x,sR,G9,rfl,z01 rfl (by simp;omega),z00 (λ_=>z00 (λ_=>⟨hi,by omega,z00 (λh1=>⟨hi,by omega,sE ?_,G9⟩) λh1=>⟨sE ?_,G9⟩⟩) λh=>N hp h) λh=>N hb (by simpa using h)⟩
     ·unfold z9w;rw [hp,hD,show (g.ty==1)=true from h1];rfl
     ·unfold z9w;rw [hp,hD,show (g.ty==1)=false from h1];rfl
theorem flow_leW {u:Un} {f:Fl} (hf:f∈u.flows):lsW f.body<=z0g u:=by
 have h1:=y6k hf;have h2:=y7k f.body;unfold z0g z0u at *
 omega
theorem y92 (u:Un) (l:List Fl) (i:Nat) {f:Fl} (h:l.drop i=f::l.drop (i+1)):z9m u (l.drop i) i=if y1l u f then z9m u (l.drop (i+1)) ((i+1:Nat):Int) else (80,(i:Int)):=by
 rw [h,z9m];rfl
theorem y3w (u:Un) (hW:z0g u<=34359738368):SC Tryz.prog 19 [.pv u.enc] [] (λ_=>False) (.tup [iInt (z65 u).1,iInt (z65 u).2]) []:=by
 refine SC.anyR (SC.vc tb { pb:=[101,105] } [] Tryz.func19 rfl rfl ?_);have hH:=j2y u hW;have hw2:u.flows.length<=z0g u:=by unfold z0g;omega
 unfold z65
 cases hh:z8y u
 ·rw [hh] at hH;exact ⟨[],hH,sR,G9,rfl,sI,G9⟩
 rw [hh] at hH;have hg:=y66 hh;rw [if_pos rfl];refine ⟨[],hH,sR,G9,rfl,Nat,λi=>[(12,iInt ((i:Nat):Int))],λ_=>[],λi=>u.flows.length - i,λi=>i<=u.flows.length/\z9m u u.flows 0=z9m u (u.flows.drop i) i,[],0,⟨A6 _,rfl⟩,Ga,G9,?_⟩;rintro i ⟨i1,i2⟩;refine z00 (λhc=>?_) λhc=>?_
 ·have hlt:i<u.flows.length:=z0y (f:=Fl.enc) rfl hc;obtain ⟨x,x1,x2,x3,x4⟩:=z0n hlt;have hF:=j2w u x hg (hg x x4) (Bf (flow_leW x4) hW);rw [y92 u u.flows i x3] at i2;generalize y1l u x=b at hF i2
  cases b
  ·rw [if_neg dC0] at i2;rw [i2];exact ⟨z02 (f:=Fl.enc) x1,rfl,[],hF,sR,G9,rfl,sI,G9⟩
  ·rw [if_pos rfl] at i2;exact ⟨z02 (f:=Fl.enc) x1,rfl,[],hF,sR,G9,rfl,z01 rfl oM0,i+1,z04 hlt,⟨hlt,i2⟩,Ga,G9,rfl,rfl,rfl,rfl⟩
 ·have hge:u.flows.length<=i:=z0z (f:=Fl.enc) rfl hc;rw [i2,A9 hge];exact ⟨sI,G9⟩
theorem j3a (l:List Int) (to:TT) (hb:l.length<=34359738368):SC Tryz.prog 49 [wV,.pv (ints l)] (tM to) (λk=>k∈[3001]) (.pv (ints (l.map (z0l to)))) (tM to):=by
 refine SC.vc tb { gh:=[(1,[.grow 4 104 3 1]),(9,[.fz 4 104])] } [3001] Tryz.func49 rfl rfl ?_;refine ⟨Nat × List Int,λ(k,acc)=>[(11,iInt k),(4,.sl 104 (acc.map eInt).length)],λ(_,acc)=>[(104,.row ⟨3,1⟩ (acc.map eInt))],λ(k,_)=>l.length - k,λ(k,acc)=>k<=l.length/\acc=(l.take k).map (z0l to),[],(0,[]),⟨A6 _,rfl⟩,Gb,Ga,?_⟩;rintro ⟨k,acc⟩ ⟨hk,rfl⟩;refine z00 (λhc=>?_) λhc=>?_
 ·have hlt:=z0y (f:=eInt) rfl hc;obtain ⟨x,hx,ht,_,_⟩:=z0n hlt;refine ⟨z02 (f:=eInt) hx,rfl,rfl,y7b _,j0k x to,z00 (λh2=>?_) λh2=>?_⟩
  ·exact ⟨rfl,z3s rfl,by simp;omega,z01 rfl oM0,(k+1,(l.take (k+1)).map (z0l to)),z04 hlt,⟨hlt,rfl⟩,⟨rfl,slq (by simp;omega),G9⟩,⟨rwq (by rw [yw1 h2];simp [ht,eInt]),G9⟩,rfl,rfl,rfl,rfl⟩
  ·exact ⟨rfl,z3s rfl,by simp;omega,z01 rfl oM0,(k+1,(l.take (k+1)).map (z0l to)),z04 hlt,⟨hlt,rfl⟩,⟨rfl,slq (by simp;omega),G9⟩,⟨rwq (by simp [ht,eInt,yw0 h2]),G9⟩,rfl,rfl,rfl,rfl⟩
 ·exact ⟨rfl,sE (by rw [Am (z0z (f:=eInt) rfl hc)];rfl),rfl,G9⟩
theorem y60 (l m:List Int) (to:TT) (h:l.length<=m.length) (hb:l.length<=34359738368):SC Tryz.prog 94 [wV,.pv (ints l),.pv (ints m)] (tM to) (λk=>k∈[]) (.tup []) (tM (z0h l m to)):=by
 refine SC.vc tb {} [] Tryz.func94 rfl rfl ?_;refine ⟨Nat × TT,λ(k,_)=>[(10,iInt k)],λ(_,t)=>[(3001,.map (inEs t))],λ(k,_)=>l.length - k,λ(k,t)=>k<=l.length/\z0h (l.drop k) (m.drop k) t=z0h l m to,[],(0,to),⟨A6 _,rfl⟩,Ga,Ga,?_⟩;rintro ⟨k,t⟩ ⟨hk,hs⟩;refine z00 (λhc=>?_) λhc=>?_
 ·have hlt:=z0y (f:=eInt) rfl hc;obtain ⟨x,hx,_,hd,_⟩:=z0n hlt;obtain ⟨y,hy,_,hd2,_⟩:=z0n (show k<m.length by omega);rw [hd,hd2] at hs;exact ⟨z02 (f:=eInt) hx,rfl,z02 (f:=eInt) hy,rfl,rfl,y7b _,z01 rfl oM0,(k+1,aPut x y t),z04 hlt,⟨hlt,hs⟩,Ga,⟨mpq (yi5 _ _ _),G9⟩,rfl,rfl,rfl,rfl⟩
 ·rw [A9 (z0z (f:=eInt) rfl hc),z0h] at hs
  ·exact ⟨sI,by rw [<- hs];exact Ga⟩
  ·simp
theorem j4g {x:Nd} (h:y6d x=true) (hk:x.kind=10):∃ a b,x.kids=[a,b]:=by
 rw [ze2] at h;simp only [A0,hk] at h;have h1:x.kids.length=2:=by simpa using h.1.1
 match x.kids,h1 with
 | [a,b],_=>exact ⟨a,b,rfl⟩
theorem yi8 {x:Nd} {a b:List Nd} (h:x.kids=[a,b]):(x.kids.map eKid)[0]? = some [z17 a]/\(x.kids.map eKid)[1]? = some [z17 b]/\a∈x.kids/\b∈x.kids:=by rw [h];exact ⟨rfl,rfl,.head _,.tail _ (.head _)⟩
theorem zy1 (k:Int):∀ (N:Nat) (l:List Nd),SizeOf.sizeOf l<N->zw3 l=true->l.length+wtL l<=34359738368->SC Tryz.prog 146 [.pv (z17 l),iInt k] [] (λk=>k∈[]) (iInt (kcL k l)) []
 | 0,_,h,_,_=>absurd h (Ae _)
 | N+1,l,hN,hok,hb=>by
  refine SC.vc tb {} [] Tryz.func146 rfl rfl ?_;refine ⟨Nat,λi=>[(9,iInt i),(4,iInt (kcL k (l.take i)))],λ_=>[],λi=>l.length - i,λi=>i<=l.length,[],0,A6 _,Gb,G9,?_⟩;intro i hi;have hle:kcL k l<=34359738368:=Bf (yi6 k l) hb;refine z00 (λhc=>?_) λhc=>?_
  ·have hlt:=z0y (f:=Nd.enc) rfl hc;obtain ⟨x,hx,ht,hd,hm⟩:=z0n hlt;have happ:kcL k l=kcL k (l.take i)+(cnN k x+kcL k (l.drop (i+1))):=by
    conv=>lhs;rw [<- Ck i l,hd]
    rw [z94];rfl
   have hone:kcL k (l.take (i+1))=kcL k (l.take i)+cnN k x:=by rw [ht,z94];rfl
   rw [z9o] at happ hone;have hxok:=y1x hok hm;have hw:=y48 hm;have hwa:=(zc7 x).2.2;have hif:x.kind=10->∃ a b,x.kids=[a,b]/\(x.kids.map eKid)[0]? = some [z17 a]/\(x.kids.map eKid)[1]? = some [z17 b]/\cnK k x.kids=kcL k a+kcL k b /\
    SC Tryz.prog 146 [.pv (z17 a),iInt k] [] (λk=>k∈[]) (iInt (kcL k a)) []/\SC Tryz.prog 146 [.pv (z17 b),iInt k] [] (λk=>k∈[]) (iInt (kcL k b)) []:=λhk=>by
    obtain ⟨a,b,hks⟩:=j4g hxok hk;obtain ⟨h0,h1,ha,hb'⟩:=yi8 hks;have hoa:=(zc6 (by rw [ze2] at hxok;simp only [A0] at hxok;exact hxok.2) ha).2;have hob:=(zc6 (by rw [ze2] at hxok;simp only [A0] at hxok;exact hxok.2) hb').2;have hwa':=y26 ha;have hwb':=y26 hb';exact ⟨a,b,hks,h0,h1,by rw [hks];simp [cnK],zy1 k N a (B4 (z79 hm rfl ha) (Bv hN)) hoa oM0,zy1 k N b (B4 (z79 hm rfl hb') (Bv hN)) hob oM0⟩
   refine ⟨z08 hx,rfl,z00 (λh1=>?_) λh1=>?_⟩
   ·rw [if_pos (show (x.kind==k)=true from h1)] at happ hone;refine ⟨z01 rfl oM0,z00 (λh2=>?_) λh2=>?_⟩
    ·rw [if_pos (show (x.kind==10)=true from h2)] at happ hone;obtain ⟨a,b,hks,h0,h1',hc2,sa,sb⟩:=hif (by simpa using h2);rw [hc2] at happ hone;exact ⟨h0,rfl,[],sa,sR,G9,rfl,h1',rfl,[],sb,sR,G9,rfl,z01 rfl oM0,z01 rfl oM0,z01 rfl oM0,i+1,z04 hlt,hlt,⟨rfl,ivq (by rw [hone];omega),G9⟩,G9,rfl,rfl,rfl,rfl⟩
    ·rw [if_neg (show ¬ (x.kind==10)=true by simpa using h2)] at happ hone;exact ⟨z01 rfl oM0,i+1,z04 hlt,hlt,⟨rfl,ivq (by rw [hone];omega),G9⟩,G9,rfl,rfl,rfl,rfl⟩
   ·rw [if_neg (show ¬ (x.kind==k)=true by simpa using h1)] at happ hone;refine z00 (λh2=>?_) λh2=>?_
    ·rw [if_pos (show (x.kind==10)=true from h2)] at happ hone;obtain ⟨a,b,hks,h0,h1',hc2,sa,sb⟩:=hif (by simpa using h2);rw [hc2] at happ hone;exact ⟨h0,rfl,[],sa,sR,G9,rfl,h1',rfl,[],sb,sR,G9,rfl,z01 rfl oM0,z01 rfl oM0,z01 rfl oM0,i+1,z04 hlt,hlt,⟨rfl,ivq (by rw [hone];omega),G9⟩,G9,rfl,rfl,rfl,rfl⟩
    ·rw [if_neg (show ¬ (x.kind==10)=true by simpa using h2)] at happ hone;exact ⟨z01 rfl oM0,i+1,z04 hlt,hlt,⟨rfl,ivq (by rw [hone];omega),G9⟩,G9,rfl,rfl,rfl,rfl⟩
  ·exact ⟨sE (by rw [Am (z0z (f:=Nd.enc) rfl hc)]),G9⟩
theorem sc_once (x:Nd) (a:List Nd) (r:List (List Nd)) (hk:x.kids=a::r) (hok:zw3 a=true) (hb:a.length+wtL a<=34359738368):SC Tryz.prog 93 [.pv (ndv x)] [] (λk=>k∈[]) (iBool (z2s a)) []:=by
 refine SC.vc tb {} [] Tryz.func93 rfl rfl ?_;have h0:(x.kids.map eKid)[0]? = some [z17 a]:=by rw [hk];rfl
 refine ⟨h0,rfl,[],zy1 14 _ a (A4 _) hok hb,sR,G9,rfl,[],zy1 13 _ a (A4 _) hok hb,sR,G9,rfl,z00 (λh1=>?_) λh1=>?_⟩
 ·have h13:kcL 13 a=0:=by have:=An h1;omega
  refine z00 (λh2=>?_) λh2=>?_
  ·have h14:kcL 14 a=0:=by have:=An h2;omega
   exact ⟨sE (by simp [z2s,h13,h14]),G9⟩
  ·have h14:kcL 14 a≠0:=by have:=Al h2;omega
   refine z00 (λh3=>?_) λh3=>?_
   ·have h15:kcL 14 a=1:=by have:=An h3;omega
    obtain ⟨A,e,he,_,hl,_⟩:=zh1 (l:=a) (by intro h;rw [h] at h14;simp [kcL] at h14);have hlen:a.length=A.length+1:=by rw [he];simp
    have hlen2:(a.map Nd.enc).length=A.length+1:=by simp [hlen]
    exact ⟨z2w (z:=(A.length:Int)) oM0 oM0,z08 (i:=A.length) (x:=e) (by rw [he];simp),rfl,sE (by simp [z2s,h13,h15,hl]),G9⟩
   ·have h15:kcL 14 a≠1:=by have:=Al h3;omega
    exact ⟨sE (by simp [z2s,h13,h14,h15]),G9⟩
 ·have h13:kcL 13 a≠0:=by have:=Al h1;omega
  exact ⟨sE (by simp [z2s,h13]),G9⟩
theorem j2g (l m:List Int):SC Tryz.prog 147 [.pv (ints l),.pv (ints m)] [] (λk=>k∈[]) (iBool (l==m)) []:=by
 refine SC.vc tb { gh:=[(0,[.len 0])] } [] Tryz.func147 rfl rfl ?_;intro hl;simp only [A5] at hl;refine z00 (λh1=>?_) λh1=>?_
 ·have hne:¬ (l.length:Int)=m.length:=by simpa using h1
  exact ⟨sE (by rw [yy4 hne]),G9⟩
 ·have hlm:l.length=m.length:=Int.ofNat.inj (by simpa using h1);refine ⟨Nat,λk=>[(13,iInt k)],λ_=>[],λk=>l.length - k,λk=>k<=l.length/\l.take k=m.take k,[],0,⟨A6 _,rfl⟩,Ga,G9,?_⟩;rintro k ⟨hk,he⟩;refine z00 (λhc=>?_) λhc=>?_
  ·have hlt:=z0y (f:=eInt) rfl hc;obtain ⟨x,hx,ht,hd,_⟩:=z0n hlt;obtain ⟨y,hy,ht2,hd2,_⟩:=z0n (show k<m.length by omega);refine ⟨z02 (f:=eInt) hx,rfl,z02 (f:=eInt) hy,rfl,z00 (λh2=>?_) λh2=>?_⟩
   ·have hxy:x≠y:=by simpa using h2
    exact ⟨sE (by
     have:l≠m:=λe=>by subst e;rw [hx] at hy;exact hxy (Bn hy)
     simp [this]),G9⟩
   ·have hxy:x=y:=by simpa using h2
    exact ⟨z01 rfl oM0,k+1,z04 hlt,⟨hlt,by rw [ht,ht2,he,hxy]⟩,Ga,G9,rfl,rfl,rfl,rfl⟩
  ·have hge:=z0z (f:=eInt) rfl hc;rw [Am hge,Am oM0] at he;exact ⟨sE (by simp [he]),G9⟩
theorem j37 (x:Nd) (a b:List Nd) (hk:x.kids=[a,b]):SC Tryz.prog 95 [.pv (ndv x)] [] (λk=>k∈[]) (iBool (z2v a b)) []:=by
 refine SC.vc tb {} [] Tryz.func95 rfl rfl ?_;obtain ⟨h0,h1,_,_⟩:=yi8 hk;have hno:(a.length≠1∨b.length≠1)->z2v a b=false:=λh=>by
  match a,b,h with
  | [],_,_=>rfl
  | [_],[],_=>rfl
  | [_],[_],h=>simp at h
  | [_],_::_::_,_=>rfl
  | _::_::_,_,_=>rfl
 refine ⟨h0,rfl,h1,rfl,z00 (λha=>?_) λha=>?_⟩
 ·refine z00 (λhb=>?_) λhb=>?_
  ·obtain ⟨y,rfl⟩:∃ y,a=[y]:=Br.1 (Int.ofNat.inj (by simpa using ha));obtain ⟨z,rfl⟩:∃ z,b=[z]:=Br.1 (Int.ofNat.inj (by simpa using hb));refine ⟨z08 (i:=0) (x:=y) rfl,rfl,z00 (λh2=>?_) λh2=>?_⟩
   ·have h2':(y.kind==12)=true:=h2;refine ⟨z08 (i:=0) (x:=z) rfl,rfl,z00 (λh3=>?_) λh3=>?_⟩
    ·have h3':(z.kind==12)=true:=h3;exact ⟨z08 (i:=0) (x:=y) rfl,rfl,z08 (i:=0) (x:=z) rfl,rfl,[],j2g y.args z.args,sR,G9,rfl,sE (by simp only [z2v,h2',h3',Av]),G9⟩
    ·have h3':(z.kind==12)=false:=h3;exact ⟨sE (by simp [z2v,h2',h3']),G9⟩
   ·have h2':(y.kind==12)=false:=h2;exact ⟨sE (by simp [z2v,h2']),G9⟩
  ·exact ⟨sE (by rw [hno (.inr (by intro h;rw [A5,h] at hb;cases hb))]),G9⟩
 ·exact ⟨sE (by rw [hno (.inl (by intro h;rw [A5,h] at ha;cases ha))]),G9⟩
theorem zj4 (x:Nd):z03 (z9v x)=z03 x:=by
 unfold z9v;split
 ·cases x;rfl
 ·rfl
theorem y7e {ks:List (List Nd)} {i:Nat} {q:List Nd} (h:ks.take (i+1)=ks.take i++[q]):tdK (ks.take (i+1))=tdK (ks.take i)++[tdL q]:=by
 rw [h];have:∀ a b:List (List Nd),tdK (a++b)=tdK a++tdK b:=by
  intro a b
  induction a with
  | nil=>rfl
  | cons x r ih=>simp only [B6,tdK,ih]
 rw [this];rfl
theorem j45:∀ ks:List (List Nd),(tdK ks).length=ks.length
 | []=>rfl
 | l::r=>by simp only [tdK,Ad,j45 r]
theorem y6l:∀ ks:List (List Nd),ks.length<=wtK ks
 | []=>A6 _
 | l::r=>by have:=y6l r;simp only [wtK,Ad];omega
theorem yc5:∀ (N:Nat) (l:List Nd),SizeOf.sizeOf l<N->l.length+wtL l<=34359738368->SC Tryz.prog 53 [.pv (z17 l)] [] (λk=>k∈[]) (.pv (z17 (tdL l))) []
 | 0,_,h,_=>absurd h (Ae _)
 | N+1,l,hN,hb=>by
  refine SC.vc tb { gh:=[(1,[.grow 2 102 46 8]),(5,[.grow 5 105 47 1]),(10,[.fz 5 105]),(14,[.niC 104 5]),(16,[.fz 2 102]),(18,[.fz 2 102])] } [] Tryz.func53 rfl rfl ?_;refine ⟨Nat × List Nd,λ(i,out)=>[(11,iInt i),(2,.sl 102 (out.map Nd.enc).length)],λ(_,out)=>[(102,.row ⟨46,8⟩ (out.map Nd.enc))],λ(i,_)=>l.length - i,λ(i,out)=>i<=l.length/\out.length=i/\out++tdL (l.drop i)=tdL l,[],(0,[]),⟨A6 _,rfl,rfl⟩,Gb,Ga,?_⟩;rintro ⟨i,out⟩ ⟨hi,hol,hout⟩;refine z00 (λhc=>?_) λhc=>?_
  ·have hlt:=z0y (f:=Nd.enc) rfl hc;obtain ⟨x,hx,ht,hd,hm⟩:=z0n hlt;have hw:=y48 hm;have hwa:=(zc7 x).2.2;have hkl:=y6l x.kids;rw [hd] at hout;refine ⟨z08 hx,rfl,Nat × List (List Nd),λ(j,acc)=>[(18,iInt j),(5,.sl 105 (acc.map eKid).length)],λ(_,acc)=>[(105,.row ⟨47,1⟩ (acc.map eKid))],λ(j,_)=>x.kids.length - j,λ(j,acc)=>j<=x.kids.length/\acc=tdK (x.kids.take j),[],(0,[]),⟨A6 _,rfl⟩,Gb,Ga,?_⟩;rintro ⟨j,acc⟩ ⟨hj,rfl⟩;refine z00 (λhc2=>?_) λhc2=>?_
   ·have hlt2:=z0y (f:=eKid) rfl hc2;obtain ⟨q,hq,ht2,_,hm2⟩:=z0n hlt2;have hwq:=y26 hm2;have hl2:(tdK (x.kids.take j)).length=j:=by rw [j45];simp;omega
    exact ⟨z02 (f:=eKid) hq,rfl,[],yc5 N q (B4 (z79 hm rfl hm2) (Bv hN)) oM0,sR,G9,rfl,rfl,z3s rfl,by simp;omega,z01 rfl oM0,(j+1,_),z04 hlt2,⟨hlt2,rfl⟩,⟨rfl,slq (by rw [y7e ht2];simp),G9⟩,⟨rwq (by rw [y7e ht2];simp [eKid]),G9⟩,rfl,rfl,rfl,rfl⟩
   ·rw [Am (z0z (f:=eKid) rfl hc2)];have hT:tdN x=z9v (.mk x.kind x.op x.n x.name x.args x.outs x.params (tdK x.kids)):=tdN_eq x;refine ⟨rfl,[],z7o (.mk x.kind x.op x.n x.name x.args x.outs x.params (tdK x.kids)),sR,G9,rfl,z00 (λh1=>?_) λh1=>?_⟩
    ·have hN:tdN x = .mk x.kind x.op x.n x.name x.args [] x.params (tdK x.kids):=by rw [hT,z9v,if_pos h1];rfl
     have hC:z03 (tdN x)=true:=by rw [hT,zj4];exact h1
     rw [tdL,if_pos hC,hN] at hout;exact ⟨rfl,z3s rfl,by simp;omega,z00 (λ_=>⟨by simp,sE (by rw [<- hout];simp only [z17,y4j];rfl),G9⟩) λh=>by rw [show z03 _=true from h1] at h;cases h⟩
    ·have hN:tdN x = .mk x.kind x.op x.n x.name x.args x.outs x.params (tdK x.kids):=by rw [hT,z9v,if_neg (by simpa using h1)]
     have hC:z03 (tdN x)=false:=by rw [hT,zj4];exact h1
     rw [tdL,if_neg (by simp [hC]),hN] at hout;exact ⟨rfl,z3s rfl,by simp;omega,z00 (λh=>by rw [show z03 _=false from h1] at h;cases h) λ_=>⟨z01 rfl oM0,(i+1,out++[.mk x.kind x.op x.n x.name x.args x.outs x.params (tdK x.kids)]),z04 hlt,⟨hlt,by simp;omega,by rw [Ca];exact hout⟩,⟨rfl,slq sI0,G9⟩,⟨rwq (by rw [y4j];rfl),G9⟩,rfl,rfl,rfl,rfl⟩⟩
  ·rw [A9 (z0z (f:=Nd.enc) rfl hc),tdL,Cn] at hout;exact ⟨rfl,sE (by rw [hout];rfl),G9⟩
def TrL (q:List Nd):Prop:=∀ to:TT,gdR [] to q=true->SC Tryz.prog 26 [wV,.pv (z17 q)] (tM to) (λk=>k∈[]) (.pv (z17 (trL to q).1)) (tM (trL to q).2)
theorem yi7 (a:List Nd) (r:List (List Nd)):kid0 (a::r)=a:=rfl
theorem kid1_c (a b:List Nd) (r:List (List Nd)):kid1 (a::b::r)=b:=rfl
theorem trL_wt (to:TT) (l:List Nd):(trL to l).1.length+wtL (trL to l).1<=l.length+wtL l:=by
 have h1:=y9e (trR [] to l).1;have h2:=yo9 l [] to;simp only [trL,At,wtL] at *
 omega
theorem j38 (x:Nd) (a:List Nd) (to:TT) (hk:x.kids=[a]) (hok:zw3 a=true) (hg:yi2 to x=true) (hb:wtN x<=34359738368) (ih:TrL a):SC Tryz.prog 50 [wV,.pv (ndv x)] (tM to) (λk=>k∈[]) (.pv (z17 (zc5 to x).1)) (tM (zc5 to x).2):=by
 refine SC.vc tb {} [] Tryz.func50 rfl rfl ?_;obtain ⟨h1,h2,h3⟩:=zc7 x;rw [hk] at h3;have ha:a.length+wtL a<=34359738368:=by simp only [wtK] at h3;omega
 have h0:(x.kids.map eKid)[0]? = some [z17 a]:=by rw [hk];rfl
 unfold yi2 at hg;simp only [hk,y6c,yi7,A0,B7] at hg;obtain ⟨⟨_,hpa⟩,hg⟩:=hg;refine ⟨[],sc_once x a [] hk hok ha,sR,G9,rfl,z00 (λhc=>?_) λhc=>?_⟩
 ·have ho:z2s a=false:=by simpa using hc
  rw [ho] at hg;simp only [Ag,Bj,gdKs,C7] at hg;have hT:zc5 to x=([.mk x.kind x.op x.n x.name x.args x.outs x.params [(trL to a).1]],(trL to a).2):=by
   unfold zc5;simp only [hk,yi7,ho,y6c,Ag,Bj]
  rw [hT];exact ⟨h0,rfl,[],ih to hg,sR,Ga,rfl,sE (A8 IV.pv (by simp only [z17,Az,Cr,Nd.enc_eq,Nd.cells_eta];rfl)),rfl,G9⟩
 ·have ho:z2s a=true:=by simpa using hc
  rw [ho] at hg;simp only [C1,gdKs,C7,A0,Bc] at hg;obtain ⟨⟨hg1,hne⟩,hg2⟩:=hg;have hwt:=trL_wt (z0h x.params x.args to) a;refine ⟨[],y60 x.params x.args to hpa oM0,sR,Ga,rfl,h0,rfl,[],ih _ hg1,sR,Ga,rfl,?_⟩;have hT0:zc5 to x=if z0f (trL (z0h x.params x.args to) a).1==14 then ((trL (z0h x.params x.args to) a).1.dropLast,z0h x.outs (z3m (trL (z0h x.params x.args to) a).1) (trL (z0h x.params x.args to) a).2) else ((trL (z0h x.params x.args to) a).1,(trL (z0h x.params x.args to) a).2):=by
   unfold zc5;simp only [hk,yi7,ho,y6c,C1]
  rw [hT0];generalize trL (z0h x.params x.args to) a=r at hne hg2 hwt;obtain ⟨l,to2⟩:=r;obtain ⟨A,e,rfl,hdl,hlk,hla⟩:=zh1 (l:=l) (by intro h;rw [h] at hne;cases hne);have hlen:((A++[e]).map Nd.enc).length=A.length+1:=by simp
  rw [hlk,hla] at hg2;simp only [hlk,hla,hdl];simp only [B3,Ad,At] at hwt;refine ⟨z2w (z:=(A.length:Int)) (by rw [hlen];omega) oM0,z08 (i:=A.length) (x:=e) sI0,rfl,z00 (λh14=>?_) λh14=>?_⟩
  ·have h14':(e.kind==14)=true:=h14;simp only [h14',C1];simp only [eq_of_beq h14',bne_self_eq_false,Bs,B7] at hg2;exact ⟨[],y60 x.outs e.args to2 hg2 oM0,sR,Ga,rfl,z2w (z:=(A.length:Int)) (by rw [hlen];omega) oM0,A.length,rfl,A6 _,by simp,hw_node,sE (A8 IV.pv (by simp [z17])),rfl,G9⟩
  ·have h14':(e.kind==14)=false:=h14;simp only [h14',Ag,Bj];exact ⟨sI,rfl,G9⟩
theorem ye5 (x:Nd) (a b:List Nd) (to:TT) (hk:x.kids=[a,b]) (hg:y4o to x=true) (hb:wtN x<=34359738368) (iha:TrL a) (ihb:TrL b):SC Tryz.prog 51 [wV,.pv (ndv x)] (tM to) (λk=>k∈[]) (.pv (z17 (z85 to x).1)) (tM (z85 to x).2):=by
 refine SC.vc tb {} [] Tryz.func51 rfl rfl ?_;obtain ⟨h1,h2,h3⟩:=zc7 x;obtain ⟨h0,h1',_,_⟩:=yi8 hk;unfold y4o at hg;unfold z85;simp only [hk,trKs_two,yi7,kid1_c,gdKs,A0,C7,B7] at hg ⊢;obtain ⟨⟨_,hga,hgb⟩,hg⟩:=hg;refine ⟨h0,rfl,[],iha to hga,sR,Ga,rfl,h1',rfl,[],ihb (trL to a).2 hgb,sR,Ga,rfl,?_⟩;generalize (trL (trL to a).2 b).2=to2 at hg ⊢;generalize (trL (trL to a).2 b).1=B at hg ⊢;generalize (trL to a).1=A at hg ⊢;refine ⟨[],j37 (.mk x.kind x.op x.n x.name x.args x.outs x.params [A,B]) A B rfl,sR,G9,rfl,z00 (λhi=>?_) λhi=>?_⟩
 ·have hi':z2v A B=true:=hi;simp only [hi',El,Bs,B7,C1] at hg ⊢;obtain ⟨y,rfl⟩:∃ y,A=[y]:=by
   match A,B,hi' with
   | [y],[_],_=>exact ⟨y,rfl⟩
  exact ⟨at0,rfl,z08 (i:=0) (x:=y) rfl,rfl,[],y60 x.outs y.args to2 hg oM0,sR,Ga,rfl,sN,rfl,G9⟩
 ·have hi':z2v A B=false:=hi;simp only [hi',Ag,Bj];exact ⟨sE (A8 IV.pv (by simp only [z17,Az,Cr,Nd.enc_eq,Nd.cells_eta];rfl)),rfl,G9⟩
theorem trA_wt (to:TT) (x:Nd):wtN (trA to x)=wtN x:=by rw [j56,j56 x];simp [trA,Nd.name,Nd.args,Nd.outs,Nd.params,Nd.kids]
theorem y8r:∀ (N:Nat) (l:List Nd),SizeOf.sizeOf l<N->zw3 l=true->l.length+wtL l<=34359738368->TrL l
 | 0,_,h,_,_=>absurd h (Ae _)
 | N+1,l,hN,hok,hb=>λto hg=>by
  refine SC.vc tb { gh:=[(1,[.grow 4 104 46 8]),(13,[.fz 4 104])],jn:=[11] } [] Tryz.func26 rfl rfl ?_;refine ⟨Nat × List Nd × TT,λ(i,out,_)=>[(9,iInt i),(4,.sl 104 (out.map Nd.enc).length)],λ(_,out,t)=>[(104,.row ⟨46,8⟩ (out.map Nd.enc)),(3001,.map (inEs t))],λ(i,_,_)=>l.length - i,λ(i,out,t)=>i<=l.length/\out.length+wtL out+((l.drop i).length+wtL (l.drop i))<=34359738368/\gdR out t (l.drop i)=true/\trR out t (l.drop i)=trR [] to l,[],(0,[],to),⟨A6 _,by simpa [wtL] using hb,hg,rfl⟩,Gb,Gb,?_⟩;rintro ⟨i,out,t⟩ ⟨hi,hw,hgd,hR⟩;have fin:∀ o t',trR [] to l=(o,t')->SubI (.pv (z17 (tdL o))) (.pv (z17 (trL to l).1))/\subH ((3001,some (.map (inEs t')))::[]) (tM (trL to l).2):=λo t' h=>by
   unfold trL;rw [h];exact ⟨sI,rfl,G9⟩
  refine z00 (λhc=>?_) λhc=>?_
  ·have hlt:=z0y (f:=Nd.enc) rfl hc;obtain ⟨x,hx,ht,hd,hm⟩:=z0n hlt;have hwx:=y48 hm;obtain ⟨hwa,_,_⟩:=zc7 x;have hxok:=y1x hok hm;rw [hd] at hw hgd hR;have hwt:=wt_trN x t;simp only [wtL,Ad] at hw;simp only [gdR,A0] at hgd;obtain ⟨hgx,hgr⟩:=hgd;have hb2:(out.map Nd.enc).length+(trN t x).1.length<=34359738368:=by simp;omega
   have kid:∀ q∈x.kids,TrL q:=λq hq=>by
    have h1:=y26 hq;have h2:=(zc7 x).2.2;exact y8r N q (B4 (z79 hm rfl hq) (Bv hN)) (zc6 (by rw [ze2] at hxok;simp only [A0] at hxok;exact hxok.2) hq).2 oM0
   refine ⟨z08 hx,rfl,[3001],j3a x.args t oM0,sR,Gb,rfl,List Nd × TT,λ(o,_)=>[(4,.sl 104 (o.map Nd.enc).length)],λ(o,t)=>[(104,.row ⟨46,8⟩ (o.map Nd.enc)),(3001,.map (inEs t))],λ(o,t')=>o=out++(trN t x).1/\t'=(trN t x).2,[104,106,3001],?_,?_⟩
   ·refine z00 (λh11=>?_) λh11=>?_
    ·have hk:x.kind=11:=by simpa using h11
     obtain ⟨a,hks⟩:∃ a,x.kids=[a]:=by
      rw [ze2] at hxok;simp only [hk,A0] at hxok;have h2:=hxok.1.2;simp only [bne_self_eq_false,Bs,A0,Ap] at h2;exact Br.1 h2.1
     have hN2:=trN_loop (to:=t) hk;refine ⟨[],j38 (trA t x) a t hks (zc6 (by rw [ze2] at hxok;simp only [A0] at hxok;exact hxok.2) (by rw [hks];exact .head _)).2 (by rw [<- gdN_loop hk];exact hgx) (by rw [trA_wt];omega) (kid a (by rw [hks];exact .head _)),sR,Ga,rfl,rfl,ze5 (λy _=>⟨y.enc_len,y.enc_one⟩),?_,(_,_),⟨rfl,rfl⟩,⟨slq (by rw [hN2];simp),G9⟩,⟨rwq (by rw [hN2];simp),by rw [hN2];rfl,G9⟩,rfl,rfl,rfl,rfl⟩;rw [<- hN2];simpa using (by omega:(out.map Nd.enc).length+(trN t x).1.length<=68719476736)
    ·refine z00 (λh10=>?_) λh10=>?_
     ·have hk:x.kind=10:=by simpa using h10
      obtain ⟨a,b,hks⟩:=j4g hxok hk;have hN2:=yw2 (to:=t) hk;refine ⟨[],ye5 (trA t x) a b t hks (by rw [<- yq1 hk];exact hgx) (by rw [trA_wt];omega) (kid a (by rw [hks];exact .head _)) (kid b (by rw [hks];exact .tail _ (.head _))),sR,Ga,rfl,rfl,ze5 (λy _=>⟨y.enc_len,y.enc_one⟩),?_,(_,_),⟨rfl,rfl⟩,⟨slq (by rw [hN2];simp),G9⟩,⟨rwq (by rw [hN2];simp),by rw [hN2];rfl,G9⟩,rfl,rfl,rfl,rfl⟩;rw [<- hN2];simpa using (by omega:(out.map Nd.enc).length+(trN t x).1.length<=68719476736)
     ·have hN2:=j4d (to:=t) (x:=x) h10 h11;exact ⟨rfl,z3s rfl,by simp;omega,(_,_),⟨rfl,rfl⟩,⟨slq (by rw [hN2];simp),G9⟩,⟨rwq (by rw [hN2,y4j];rfl),by rw [hN2];rfl,G9⟩,rfl,rfl,rfl,rfl⟩
   ·rintro ⟨o,t'⟩ ⟨rfl,rfl⟩;simp only [trR] at hR;generalize hO:out++(trN t x).1=o at hgr hR ⊢;generalize (trN t x).2=t' at hgr hR ⊢;have hol:o.length+wtL o<=out.length+wtL out+((trN t x).1.length+wtL (trN t x).1):=by rw [<- hO,y24];simp;omega
    have next:z1d o=false->gdR o t' (l.drop (i+1))=true/\trR o t' (l.drop (i+1))=trR [] to l:=λh=>by
     rw [h] at hgr hR;exact ⟨by simpa using hgr,by simpa using hR⟩
    refine ⟨rfl,z00 (λhp=>?_) λhp=>?_⟩
    ·have hpos:0<o.length:=by simpa using hp
     obtain ⟨A,e,rfl,_⟩:=zh1 (l:=o) (by intro h;rw [h] at hpos;cases hpos);have hlen:((A++[e]).map Nd.enc).length=A.length+1:=by simp
     have hlc:z1d (A++[e])=z03 e:=by simp [z1d]
     refine ⟨rfl,z2w (z:=(A.length:Int)) (by rw [hlen];omega) (by simp at hol;omega),rfl,(by rw [hlen];omega:A.length<_),rfl,rfl,rfl,z08 (i:=A.length) (x:=e) sI0,[],z7o e,sR,G9,rfl,z00 (λh1=>?_) λh1=>?_⟩
     ·have h1':z1d (A++[e])=true:=hlc.trans h1;rw [h1',if_pos rfl] at hR;exact ⟨rfl,[],yc5 _ (A++[e]) (A4 _) oM0,sR,G9,rfl,(fin _ _ hR.symm).1,(fin _ _ hR.symm).2⟩
     ·obtain ⟨n1,n2⟩:=next (hlc.trans h1)
      exact ⟨z01 rfl oM0,(i+1,A++[e],t'),z04 hlt,⟨hlt,by omega,n1,n2⟩,Gb,Gb,rfl,rfl,rfl,rfl⟩
    ·have hz:o=[]:=by
      have:¬ 0<o.length:=by simpa using hp
      exact List.length_eq_zero_iff.1 oM0
     obtain ⟨n1,n2⟩:=next (by rw [hz];rfl)
     exact ⟨z01 rfl oM0,(i+1,o,t'),z04 hlt,⟨hlt,by omega,n1,n2⟩,Gb,Gb,rfl,rfl,rfl,rfl⟩
  ·rw [A9 (z0z (f:=Nd.enc) rfl hc)] at hR hw;simp only [trR] at hR;exact ⟨rfl,[],yc5 _ out (A4 _) (by simp only [At,wtL] at hw;omega),sR,G9,rfl,(fin _ _ hR.symm).1,(fin _ _ hR.symm).2⟩
theorem sEmp:SubI (.pv (.agg [.val (.slice none 0 0),.val (.slice none 0 0)])) (.pv (Un.enc ⟨[],[]⟩)):=λ_ _ _ _ _ h=>yp7 h
theorem yy9 {u:Un} (h:z0g u<=34000000000) {f:Fl} (hf:f∈u.flows):f.body.length+wtL f.body<=34000000000:=by
 have h1:=y6k hf;unfold z0g z0u at *
 omega
theorem yc6 (u:Un) (hW:z0g u<=34000000000):SC Tryz.prog 10 [.pv u.enc] [] (λk=>k∈[]) (.tup [.pv (z7g trB u).1.enc,iInt (z7g trB u).2]) []:=by
 refine SC.vc tb { gh:=[(5,[.growC 106 1 199 59 5]),(11,[.fzC 106 1 199])],ids:=[(27,3001)] } [] Tryz.func10 rfl rfl ?_;have hW2:z0g u=u.arrays.length+u.flows.length+wtA u.arrays+wtF u.flows:=rfl;refine ⟨[],y3w u oM0,sR,G9,rfl,z00 (λhc=>?_) λhc=>?_⟩
 ·have hz:((z65 u).1==0)=false:=by simpa using hc
  have hH:z7g trB u=(⟨[],[]⟩,1):=by simp [z7g,hz]
  rw [hH];exact ⟨sT2 sEmp,G9⟩
 ·have hz:(z65 u).1=0:=by simpa using hc
  have hH:z7g trB u=(z47 trB u,0):=by simp [z7g,hz]
  rw [hH];refine ⟨Nat × List Fl,λ(k,_)=>[(23,iInt k)],λ(_,out)=>[(106,.box [.pv (arrs u.arrays),.sl 199 (out.map Fl.enc).length]),(199,.row ⟨59,5⟩ (out.map Fl.enc))],λ(k,_)=>u.flows.length - k,λ(k,out)=>k<=u.flows.length/\out=(u.flows.take k).map (z4t trB),[],(0,[]),⟨A6 _,rfl⟩,Ga,Gb,?_⟩;rintro ⟨k,out⟩ ⟨hk,rfl⟩;refine z00 (λhc=>?_) λhc=>?_
  ·have hlt:=z0y (f:=Fl.enc) rfl hc;obtain ⟨x,hx,ht,_,hm⟩:=z0n hlt;obtain ⟨ho,hg⟩:=yw5 hz x hm;have hb:=yy9 hW hm;have hl:((u.flows.take k).map (z4t trB)).length=k:=by simp;omega
   have henc:((u.flows.take (k+1)).map (z4t trB)).map Fl.enc=((u.flows.take k).map (z4t trB)).map Fl.enc++[[vStr x.name,vInt x.ty,vInt x.params,ints x.types,z17 (trB x.body)]]:=by
    rw [ht,Cf];exact j02 trB _ x
   exact ⟨z02 (f:=Fl.enc) hx,rfl,[],y8r _ x.body (A4 _) ho oM0 [] hg,sR,Ga,rfl,rfl,z3s rfl,by simp;omega,by simp,z01 rfl oM0,(k+1,(u.flows.take (k+1)).map (z4t trB)),z04 hlt,⟨hlt,rfl⟩,Ga,⟨by rw [henc];simp;rfl,by rw [henc];rfl,G9⟩,rfl,rfl,rfl,rfl⟩
  ·rw [Am (z0z (f:=Fl.enc) rfl hc)];exact ⟨rfl,sI,G9⟩
theorem y4g (k:Int):∀ a b:List (List Nd),cnK k (a++b)=cnK k a+cnK k b
 | [],b=>by simp [cnK]
 | x::r,b=>by simp only [B6,cnK,y4g k r b];omega
theorem y1c (k:Int):∀ (N:Nat) (l:List Nd),SizeOf.sizeOf l<N->l.length+wtL l<=34359738368->SC Tryz.prog 55 [.pv (z17 l),iInt k] [] (λk=>k∈[]) (iInt (kcL k l)) []
 | 0,_,h,_=>absurd h (Ae _)
 | N+1,l,hN,hb=>by
  refine SC.vc tb { jn:=[7] } [] Tryz.func55 rfl rfl ?_;have hle:kcL k l<=34359738368:=Bf (yi6 k l) hb;refine ⟨Nat,λi=>[(6,iInt i),(5,iInt (kcL k (l.take i)))],λ_=>[],λi=>l.length - i,λi=>i<=l.length,[],0,A6 _,Gb,G9,?_⟩;intro i hi;refine z00 (λhc=>?_) λhc=>?_
  ·have hlt:=z0y (f:=Nd.enc) rfl hc;obtain ⟨x,hx,ht,hd,hm⟩:=z0n hlt;have happ:kcL k l=kcL k (l.take i)+(cnN k x+kcL k (l.drop (i+1))):=by
    conv=>lhs;rw [<- Ck i l,hd]
    rw [z94];rfl
   have hone:kcL k (l.take (i+1))=kcL k (l.take i)+cnN k x:=by rw [ht,z94];rfl
   rw [z9o] at happ hone;have hw:=y48 hm;have hwa:=(zc7 x).2.2;have hkl:=y6l x.kids;refine ⟨Unit,λ_=>[(5,iInt ((kcL k (l.take i)+(if x.kind==k then 1 else 0):Nat):Int))],λ_=>[],λ_=>True,[],⟨z08 hx,rfl,z00 (λh1=>?_) λh1=>?_⟩,?_⟩
   ·have h1':(x.kind==k)=true:=h1;exact ⟨z01 rfl oM0,(),G9,⟨ivq (by simp [h1']),G9⟩,G9,rfl,rfl,rfl,rfl⟩
   ·have h1':(x.kind==k)=false:=h1;exact ⟨(),G9,⟨ivq (by simp [h1']),G9⟩,G9,rfl,rfl,rfl,rfl⟩
   ·rintro _ _;generalize (if x.kind==k then 1 else 0)=e at happ hone ⊢;have hfit:x.kind==10->∀ j,cnK k (x.kids.take j)<=cnK k x.kids:=λ_ j=>by
     conv=>rhs;rw [<- Ck j x.kids]
     rw [y4g];omega
    refine ⟨Nat,λj=>[(7,iInt j),(5,iInt ((kcL k (l.take i)+e+cnK k (x.kids.take j):Nat):Int))],λ_=>[],λj=>x.kids.length - j,λj=>j<=x.kids.length/\((x.kind==10)=false->j=0),[],0,⟨A6 _,λ_=>rfl⟩,Gb,G9,?_⟩;rintro j ⟨hj,hj0⟩;have last:(x.kind==10)=false∨x.kids.length<=j->kcL k (l.take i)+e+cnK k (x.kids.take j)=kcL k (l.take (i+1)):=λh=>by
     rcases h with h | h
     ·rw [hj0 h,hone,h];simp [cnK]
     ·by_cases h10:(x.kind==10)=true
      ·rw [hone,if_pos h10,Am h];omega
      ·have h10':(x.kind==10)=false:=by simpa using h10
       rw [hj0 h10',hone,h10'];simp [cnK]
    refine ⟨z08 hx,rfl,z00 (λhc2=>?_) λhc2=>?_⟩
    ·have hlt2:=z0y (f:=eKid) rfl hc2;obtain ⟨q,hq,ht2,_,hm2⟩:=z0n hlt2;refine ⟨z08 hx,rfl,z00 (λh10=>?_) λh10=>?_⟩
     ·have h10':(x.kind==10)=true:=h10;have h1:=hfit h10' (j+1);rw [if_pos h10'] at happ;rw [ht2,y4g] at h1;have hwq:=y26 hm2;have hs:cnK k [q]=kcL k q:=by simp [cnK]
      rw [hs] at h1;exact ⟨z08 hx,rfl,z02 (f:=eKid) hq,rfl,[],y1c k N q (B4 (z79 hm rfl hm2) (Bv hN)) oM0,sR,G9,rfl,z01 rfl oM0,z01 rfl oM0,j+1,z04 hlt2,⟨hlt2,λh=>by rw [h] at h10';cases h10'⟩,⟨rfl,ivq (by rw [ht2,y4g,hs];omega),G9⟩,G9,rfl,rfl,rfl,rfl⟩
     ·exact ⟨z01 rfl oM0,i+1,z04 hlt,hlt,⟨rfl,ivq (by rw [last (.inl h10)]),G9⟩,G9,rfl,rfl,rfl,rfl⟩
    ·exact ⟨z01 rfl oM0,i+1,z04 hlt,hlt,⟨rfl,ivq (by rw [last (.inr (z0z (f:=eKid) rfl hc2))]),G9⟩,G9,rfl,rfl,rfl,rfl⟩
  ·exact ⟨sE (by rw [Am (z0z (f:=Nd.enc) rfl hc)]),G9⟩
def run0 (ins:List Int) (fuel:Int):Rs:={ ins:=ins,ar:=[],st:=0,code:=0,out:=[],cost:=0,fuel:=if fuel<0 then 0 else fuel,spent:=false }
def mEnd (r:Int × Rs):Rs:=if z16 r.2 then r.2 else { r.2 with st:=1,code:=r.1 }
def runv (s:Rs):PV:=.agg [vInt s.st,vInt s.code,ints s.out,vInt s.cost,vInt s.fuel]
theorem j3w (fs:List Fl) (hW:z0g ⟨[],fs⟩<=34000000000) (hz:(z1b ⟨[],fs⟩).1=0) (ins:List Int) (fuel:Int) (d:Nat) (r:Int × Rs) (h:z4i ⟨[],fs⟩ d (z06 z0x fs 0) [] { run0 ins fuel with ar:=[] }=some r):SC Tryz.prog 16 [.pv (Un.enc ⟨[],fs⟩),.pv (ints ins),iInt fuel] [] (λ_=>False) (.pv (runv (mEnd r))) []:=by
 refine SC.anyR (SC.vc tb { gh:=[(5,[.growC 1001 6 1002 3 1]),(12,[.fzC 1001 6 1002])],ids:=[(26,1001),(45,1004),(47,1003)] } [] Tryz.func16 rfl rfl ?_);have hub:∀ f∈fs,lsW f.body<=34359738368:=λf hf=>Bf (zx0 (u:=⟨[],fs⟩) hf) (Bf hW oM0);have hcall:=(zs2 ⟨[],fs⟩ hub (d+1)).1 d (A4 d) _ _ _ _ h sI0;have hal:=yy3 h;have hC:=zr3 ⟨[],fs⟩ hW;rw [hz] at hC;have hP:=z5f ⟨[],fs⟩ z0x;obtain ⟨n,ins',ar',st',code',out',cost',fuel',spent'⟩:=r;obtain rfl:ar'=[]:=As hal;have hO:=z59 ⟨[],fs⟩ ⟨ins',[],st',code',out',cost',fuel',spent'⟩;obtain ⟨ov,hov⟩:∃ b,z16 ⟨ins',[],st',code',out',cost',fuel',spent'⟩=b:=⟨_,rfl⟩;rw [hov] at hO;have hend:mEnd (n,⟨ins',[],st',code',out',cost',fuel',spent'⟩)=if ov then (⟨ins',[],st',code',out',cost',fuel',spent'⟩:Rs) else ⟨ins',[],1,n,out',cost',fuel',spent'⟩:=by unfold mEnd;rw [hov]
 rw [hend];clear hend;refine ⟨[],hC,sR,G9,rfl,Unit,λ_=>[(10,iInt 0)],λ_=>[],λ_=>0,λ_=>True,[],(),G9,Ga,G9,λ_ _=>⟨[],hP,sR,G9,rfl,[],hcall,SubA.same (SubA.same (SubA.cons sN sR)),Gb,rfl,[],hO,sR,Gb,rfl,?_⟩⟩
 cases ov with
 | true=>exact ⟨rfl,sI,G9⟩
 | false=>exact ⟨rfl,sI,G9⟩
theorem sr_run1 (fs:List Fl) (A:Ar) (hW:z0g ⟨[A],fs⟩<=34000000000) (hz:(z1b ⟨[A],fs⟩).1=0) (ins:List Int) (fuel:Int) (d:Nat) (r:Int × Rs) (h:z4i ⟨[A],fs⟩ d (z06 z0x fs 0) [] { run0 ins fuel with ar:=[List.replicate A.size.toNat 0] }=some r) (hsz:0<=A.size/\A.size<=1000):SC Tryz.prog 16 [.pv (Un.enc ⟨[A],fs⟩),.pv (ints ins),iInt fuel] [] (λ_=>False) (.pv (runv (mEnd r))) []:=by
 refine SC.anyR (SC.vc tb { gh:=[(5,[.growC 1001 6 1002 3 1]),(12,[.fzC 1001 6 1002])],ids:=[(26,1001),(45,1004),(47,1003)] } [] Tryz.func16 rfl rfl ?_);have hub:∀ f∈fs,lsW f.body<=34359738368:=λf hf=>Bf (zx0 (u:=⟨[A],fs⟩) hf) (Bf hW oM0);have hcall:=(zs2 ⟨[A],fs⟩ hub (d+1)).1 d (A4 d) _ _ _ _ h sI0;have hal:=yy3 h;have hC:=zr3 ⟨[A],fs⟩ hW;rw [hz] at hC;have hP:=z5f ⟨[A],fs⟩ z0x;obtain ⟨n,ins',ar',st',code',out',cost',fuel',spent'⟩:=r;obtain ⟨q2,rfl⟩:∃ q2,ar'=[q2]:=Br.1 hal;have hO:=z59 ⟨[A],fs⟩ ⟨ins',[q2],st',code',out',cost',fuel',spent'⟩;obtain ⟨ov,hov⟩:∃ b,z16 ⟨ins',[q2],st',code',out',cost',fuel',spent'⟩=b:=⟨_,rfl⟩;rw [hov] at hO;have hend:mEnd (n,⟨ins',[q2],st',code',out',cost',fuel',spent'⟩)=if ov then (⟨ins',[q2],st',code',out',cost',fuel',spent'⟩:Rs) else ⟨ins',[q2],1,n,out',cost',fuel',spent'⟩:=by unfold mEnd;rw [hov]
 rw [hend];clear hend;have hTl:((A.size:Int))=(A.size.toNat:Nat):=by omega
 refine ⟨[],hC,sR,G9,rfl,Bool,λb=>[(10,iInt (if b then 1 else 0))],λb=>if b then [(1001,rBox ⟨[A],fs⟩ { run0 ins fuel with ar:=[List.replicate A.size.toNat 0] }),(1003,.box [.sl 1004 ((List.replicate A.size.toNat (0:Int)).map eInt).length]),(1004,rowI (List.replicate A.size.toNat 0))] else [(1001,rBox ⟨[A],fs⟩ { run0 ins fuel with ar:=[] })],λb=>if b then 0 else 1,λ_=>True,[],false,G9,Ga,Ga,λb _=>?_⟩
 cases b with
 | false =>
  exact ⟨at0 (a:=Ar.enc A),rfl,rfl,hTl,by omega,by simp,rfl,C0,by decide,z01 (m:=0) (n:=1) rfl dC0,true,C0,G9,Ga,⟨rfl,boq (show [IV.sl 1004 A.size.toNat]=_ by simp),rwq (by simp [eInt];exact .inr rfl),G9⟩,rfl,rfl,rfl,rfl⟩
 | true =>
  refine ⟨[],hP,sR,G9,rfl,[],hcall,SubA.same (SubA.same (SubA.cons sN sR)),Gd,rfl,[],hO,sR,Gd,rfl,?_⟩
  cases ov with
  | true=>exact ⟨rfl,sI,G9⟩
  | false=>exact ⟨rfl,sI,G9⟩
mutual
theorem nsz_W:∀ x:Nd,nsz x<=ndW x
 | .mk _ _ _ _ _ _ _ ks=>by have:=kdz_W ks;simp only [nsz,ndW];omega
theorem lsz_W:∀ l:List Nd,lsz l<=lsW l
 | []=>Aa _
 | x::r=>by have:=nsz_W x;have:=lsz_W r;simp only [lsz,lsW];omega
theorem kdz_W:∀ ks:List (List Nd),kdz ks<=kdW ks
 | []=>Aa _
 | l::r=>by have:=lsz_W l;have:=kdz_W r;simp only [kdz,kdW];omega
end
def szK:List Nd->Nat
 | []=>0
 | x::r=>kdz x.kids+szK r
theorem yf4:∀ a b:List Nd,szK (a++b)=szK a+szK b
 | [],b=>by simp [szK]
 | x::r,b=>by simp only [B6,szK,yf4 r b];omega
theorem y9z:∀ a b:List (List Nd),kdz (a++b)=kdz a+kdz b
 | [],b=>by simp [kdz]
 | x::r,b=>by simp only [B6,kdz,y9z r b];omega
theorem j0v:∀ l:List Nd,lsz l=l.length+szK l
 | []=>rfl
 | x::r=>by simp only [lsz,szK,Ad,y37,j0v r];omega
theorem j34:∀ (N:Nat) (l:List Nd),SizeOf.sizeOf l<N->lsW l<=34359738368->SC Tryz.prog 58 [.pv (z17 l)] [] (λk=>k∈[]) (iInt (lsz l)) []
 | 0,_,h,_=>absurd h (Ae _)
 | N+1,l,hN,hb=>by
  refine SC.vc tb {} [] Tryz.func58 rfl rfl ?_;have hl:=j0v l;have hw:=lsz_W l;refine ⟨Nat,λi=>[(4,iInt i),(3,iInt ((l.length+szK (l.take i):Nat)))],λ_=>[],λi=>l.length - i,λi=>i<=l.length,[],0,A6 _,⟨rfl,ivq (by simp [szK]),G9⟩,G9,?_⟩;intro i hi;refine z00 (λhc=>?_) λhc=>?_
  ·have hlt:=z0y (f:=Nd.enc) rfl hc;obtain ⟨x,hx,ht,hd,hm⟩:=z0n hlt;have happ:szK l=szK (l.take i)+(kdz x.kids+szK (l.drop (i+1))):=by
    conv=>lhs;rw [<- Ck i l,hd]
    rw [yf4];rfl
   have hone:szK (l.take (i+1))=szK (l.take i)+kdz x.kids:=by rw [ht,yf4];simp [szK]
   have hxw:=(@y34 l).2 x hm;have hxe:=zk9 x;refine ⟨Nat,λj=>[(5,iInt j),(3,iInt ((l.length+szK (l.take i)+kdz (x.kids.take j):Nat)))],λ_=>[],λj=>x.kids.length - j,λj=>j<=x.kids.length,[],0,A6 _,⟨rfl,ivq (by simp [kdz]),G9⟩,G9,?_⟩;intro j hj;refine ⟨z08 hx,rfl,z00 (λhc2=>?_) λhc2=>?_⟩
   ·have hlt2:=z0y (f:=eKid) rfl hc2;obtain ⟨q,hq,ht2,hd2,hm2⟩:=z0n hlt2;have happ2:kdz x.kids=kdz (x.kids.take j)+(lsz q+kdz (x.kids.drop (j+1))):=by
     conv=>lhs;rw [<- Ck j x.kids,hd2]
     rw [y9z];rfl
    have hone2:kdz (x.kids.take (j+1))=kdz (x.kids.take j)+lsz q:=by rw [ht2,y9z];simp [kdz]
    have hqw:=zg9 hm2;have hkl:=kd_len x.kids;exact ⟨z08 hx,rfl,z02 (f:=eKid) hq,rfl,[],j34 N q (B4 (z79 hm rfl hm2) (Bv hN)) oM0,sR,G9,rfl,z01 rfl oM0,z01 rfl oM0,j+1,z04 hlt2,hlt2,⟨rfl,ivq (by rw [hone2];omega),G9⟩,G9,rfl,rfl,rfl,rfl⟩
   ·have hge:=z0z (f:=eKid) rfl hc2;exact ⟨z01 rfl oM0,i+1,z04 hlt,hlt,⟨rfl,ivq (by rw [hone,Am hge];omega),G9⟩,G9,rfl,rfl,rfl,rfl⟩
  ·exact ⟨sE (by rw [Am (z0z (f:=Nd.enc) rfl hc),hl]),G9⟩
def uSz:List Fl->Nat
 | []=>0
 | f::r=>lsz f.body+uSz r
theorem yg1:∀ a b:List Fl,uSz (a++b)=uSz a+uSz b
 | [],b=>by simp [uSz]
 | x::r,b=>by simp only [B6,uSz,yg1 r b];omega
theorem uSz_W:∀ l:List Fl,uSz l<=wtF l
 | []=>Aa _
 | f::r=>by have:=uSz_W r;have:=lsz_W f.body;have:=y7k f.body;simp only [uSz,wtF,z0u];omega
theorem sc_nodes (u:Un) (hW:z0g u<=34000000000):SC Tryz.prog 29 [.pv u.enc] [] (λk=>k∈[]) (iInt (uSz u.flows)) []:=by
 refine SC.vc tb {} [] Tryz.func29 rfl rfl ?_;have hw:=uSz_W u.flows;have hw2:wtF u.flows<=z0g u:=by unfold z0g;omega
 have hw3:u.flows.length<=z0g u:=by unfold z0g;omega
 refine ⟨Nat,λi=>[(4,iInt i),(3,iInt (uSz (u.flows.take i)))],λ_=>[],λi=>u.flows.length - i,λi=>i<=u.flows.length,[],0,A6 _,Gb,G9,?_⟩;intro i hi;refine z00 (λhc=>?_) λhc=>?_
 ·have hlt:=z0y (f:=Fl.enc) rfl hc;obtain ⟨f,hf,ht,hd,hm⟩:=z0n hlt;have happ:uSz u.flows=uSz (u.flows.take i)+(lsz f.body+uSz (u.flows.drop (i+1))):=by
   conv=>lhs;rw [<- Ck i u.flows,hd]
   rw [yg1];rfl
  have hone:uSz (u.flows.take (i+1))=uSz (u.flows.take i)+lsz f.body:=by rw [ht,yg1];simp [uSz]
  exact ⟨z02 (f:=Fl.enc) hf,rfl,[],j34 _ f.body (A4 _) (Bf (zx0 hm) (Bf hW oM0)),sR,G9,rfl,z01 rfl oM0,z01 rfl oM0,i+1,z04 hlt,hlt,⟨rfl,ivq (by rw [hone];omega),G9⟩,G9,rfl,rfl,rfl,rfl⟩
 ·exact ⟨sE (by rw [Am (z0z (f:=Fl.enc) rfl hc)]),G9⟩
theorem sc_ins (l:List Int):SC Tryz.prog 13 [.pv (ints l)] [] (λk=>k∈[]) (.pv (ints (l.take 10))) []:=by
 refine SC.vc tb {} [] Tryz.func13 rfl rfl ?_;refine z00 (λh=>?_) λh=>?_
 ·have h2:(10:Int)<l.length:=by simpa using h
  exact ⟨10,rfl,by omega,by simp;omega,zt6,sE (by simp [ints]),G9⟩
 ·have h2:(l.length:Int)<=10:=by simpa using h
  have:l.length<=10:=by omega
  exact ⟨sE (by rw [Am this]),G9⟩
theorem y3v (l:List Int):SC Tryz.prog 56 [.pv (ints l),.pv (ints l)] [] (λk=>k∈[]) (iBool true) []:=by
 refine SC.vc tb { gh:=[(1,[.len 0])] } [] Tryz.func56 rfl rfl ?_;intro hl;simp only [A5] at hl;refine z00 (λh1=>absurd h1 sI0) λ_=>?_;refine ⟨Nat,λk=>[(5,iInt k)],λ_=>[],λk=>l.length - k,λk=>k<=l.length,[],0,A6 _,Ga,G9,?_⟩;intro k hk;refine z00 (λhc=>?_) λhc=>?_
 ·have hlt:=z0y (f:=eInt) rfl hc;obtain ⟨x,hx,ht,hd,_⟩:=z0n hlt;exact ⟨z02 (f:=eInt) hx,rfl,z02 (f:=eInt) hx,rfl,z00 (λh2=>absurd h2 sI0) λ_=>⟨z01 rfl oM0,k+1,z04 hlt,hlt,Ga,G9,rfl,rfl,rfl,rfl⟩⟩
 ·exact ⟨sI,G9⟩
theorem sc_alike (a b:Rs) (h1:b.st=a.st) (h2:b.code=a.code) (h3:b.out=a.out):SC Tryz.prog 57 [.pv (runv a),.pv (runv b)] [] (λk=>k∈[]) (iBool true) []:=by
 refine SC.vc tb {} [] Tryz.func57 rfl rfl ?_;have hS:=y3v a.out;obtain ⟨ins,ar,st,code,out,cost,fuel,spent⟩:=a;obtain ⟨ins',ar',st',code',out',cost',fuel',spent'⟩:=b;obtain rfl:st'=st:=h1;obtain rfl:code'=code:=h2;obtain rfl:out'=out:=h3;refine z00 (λ_=>?_) λh=>absurd h sI0;refine z00 (λ_=>?_) λh=>absurd h sI0;exact ⟨[],hS,sR,G9,rfl,sI,G9⟩
def Fol (a b:Rs):Prop:=(a.st=0/\a.out <+: b.out)∨(a.st≠0/\b.st=a.st/\b.code=a.code/\b.out=a.out)
theorem y3n (a b:Rs) (h:Fol a b) (hb:b.out.length<=1073741824):SC Tryz.prog 28 [.pv (runv a),.pv (runv b)] [] (λk=>k∈[]) (iBool true) []:=by
 refine SC.vc tb {} [] Tryz.func28 rfl rfl ?_;rcases h with ⟨h1,h2⟩ | ⟨h1,h2,h3,h4⟩
 ·have hS:=y3v a.out;obtain ⟨ins,ar,st,code,out,cost,fuel,spent⟩:=a;obtain ⟨ins',ar',st',code',out',cost',fuel',spent'⟩:=b;obtain rfl:st=0:=h1;obtain ⟨t,rfl⟩:∃ t,out++t=out':=h2;refine z00 (λ_=>?_) λh=>absurd h (by simp;omega);exact ⟨out.length,by simp,by omega,by simp,zt6,[],hS,SubA.same (SubA.cons (sE (by simp [ints])) sR),G9,rfl,sI,G9⟩
 ·have hA:=sc_alike a b h2 h3 h4;obtain ⟨ins,ar,st,code,out,cost,fuel,spent⟩:=a;refine z00 (λh=>absurd (by simpa using h) h1) λ_=>?_;exact ⟨[],hA,sR,G9,rfl,sI,G9⟩
def runA (u:Un) (ins:List Int) (fuel:Int):Rs:={ run0 ins fuel with ar:=u.arrays.map λa=>List.replicate a.size.toNat 0 }
theorem y5m (u:Un) (ins:List Int) {fuel:Int} (h0:0<=fuel) {B M:Int} (hB:fuel<=B) (hM:fuel<=M):Inv u.arrays.length B M (runA u ins fuel):=by
 have e:(runA u ins fuel).fuel=fuel:=by show (if fuel<0 then 0 else fuel)=fuel;rw [if_neg oM0]
 refine ⟨⟨by rw [e];exact h0,D4 _,by rw [e];show (0:Int)+fuel<=B;omega⟩,by rw [e];show ((0:Nat):Int)+fuel<=M;omega,by simp [runA]⟩
theorem main_ok {u:Un} (h:(z1b u).1=0):0<=z06 z0x u.flows 0/\∃ g,u.flows[(z06 z0x u.flows 0).toNat]? = some g/\g.params=0:=by
 obtain ⟨h1,_⟩:=(z6a u).1 h;unfold z1h at h1;simp only [A0] at h1;have h2:=h1.2;unfold z9w at h2;simp only [A0,B7,Ap] at h2;obtain ⟨⟨h3,h4⟩,h5⟩:=h2;obtain ⟨j,hj,hjl⟩:=zq3 z0x u.flows 0 oM0 h3;refine ⟨h3,_,A7 oM0,?_⟩;rw [Ax,A7 oM0] at h5;exact h5
theorem y5n {u:Un} (hz:(z1b u).1=0) (ins:List Int) {fuel:Int} (h0:0<=fuel) {B M:Int} (hB:B<=4611686018427387903) (hM:M<=1073741824) (hfB:fuel<=B) (hfM:fuel<=M) :
 ∃ d r,z4i u d (z06 z0x u.flows 0) [] (runA u ins fuel)=some r/\Inv u.arrays.length B M r.2:=by
 obtain ⟨m1,g,m2,m3⟩:=main_ok hz;have hi:=y5m u ins h0 hfB hfM;have e:(runA u ins fuel).fuel=fuel:=by show (if fuel<0 then 0 else fuel)=fuel;rw [if_neg oM0]
 obtain ⟨r,h1,h2⟩:=(j4c hB hM rfl (vf_of hz) (3*fuel.toNat+2)).2.2.1 _ [] _ m1 ⟨g,m2,by rw [m3];rfl⟩ hi (by rw [e];omega);exact ⟨_,r,h1,h2⟩
structure URel (u v:Un):Prop where
 ar:v.arrays=u.arrays
 pl:∀ name,z06 name v.flows 0=z06 name u.flows 0
 fl:∀ (i:Nat) f g,u.flows[i]? = some f->v.flows[i]? = some g->FRel (uSz u.flows) f g
theorem j4k:∀ {l:List Fl} {f:Fl},f∈l->lsz f.body<=uSz l
 | g::r,f,h=>by
  rcases Ah.1 h with rfl | h
  ·simp only [uSz];omega
  ·have:=j4k h;simp only [uSz];omega
theorem yk9 (m:Bool) {u v:Un} (R:URel u v) (ins:List Int) {F F':Int} (h0:0<=F) (h0':0<=F') {B M:Int} (hB:B<=4611686018427387903) (hfB:F<=B) (hfB':F'<=B) (hfM:F<=M) (hfM':F'<=M)
 (hG:G m (uSz u.flows) 0 (uSz u.flows+1) F F') {d d':Nat} {q q':Int × Rs} (h:z4i u d (z06 z0x u.flows 0) [] (runA u ins F)=some q) (h':z4i v d' (z06 z0x v.flows 0) [] (runA v ins F')=some q'):RC m (uSz u.flows) q q':=by
 have e:∀ (u:Un) {fuel:Int},0<=fuel->(runA u ins fuel).fuel=fuel:=λu fuel h0=>by show (if fuel<0 then 0 else fuel)=fuel;rw [if_neg oM0]
 rw [R.pl] at h';refine y6s (B:=B) hB R.ar R.pl R.fl (d+1) d d' _ [] _ _ _ _ (A4 _) h h' (y5m u ins h0 hfB hfM).ok (y5m v ins h0' hfB' hfM').ok ⟨⟨⟨rfl,rfl⟩,⟨rfl,rfl⟩,rfl,?_,rfl,rfl⟩,?_,?_⟩
 ·simp only [runA,R.ar]
 ·rw [e u h0,e v h0'];exact hG
 ·exact D4 _
theorem zd0 {q:Int × Rs} (h:z16 q.2=true):mEnd q=q.2:=if_pos h
theorem zw8 {q:Int × Rs} (h:Live q.2):mEnd q={ q.2 with st:=1,code:=q.1 }:=if_neg (by rw [z0t h];decide)
theorem zp0 (q:Int × Rs):(mEnd q).out=q.2.out:=by unfold mEnd;split<;>rfl
theorem rc_fol {N:Nat} {q q':Int × Rs} (h:RC true N q q'):Fol (mEnd q) (mEnd q')/\((mEnd q).st≠0->(mEnd q').cost<=(mEnd q).cost/\(mEnd q).fuel<=(mEnd q').fuel):=by
 cases h with
 | ok hv hr =>
  rw [zw8 hr.al.l,zw8 hr.al.l'];have hg:=hr.g;unfold G at hg;simp only [C1] at hg;have hc:=hr.co
  exact ⟨.inr ⟨show (1:Int)≠0 by decide,rfl,hv,hr.al.out⟩,λ_=>⟨by simpa using hc,by simpa using hg⟩⟩
 | halt hh =>
  obtain ⟨o1,o2⟩:=hh.over;rw [zd0 o1,zd0 o2]
  exact ⟨.inr ⟨hh.st,hh.st',hh.code,hh.out⟩,λ_=>⟨hh.co,hh.fu rfl⟩⟩
 | cut hc =>
  unfold Cut at hc;simp only [C1] at hc;have e:=zd0 (z76 hc.1);refine ⟨.inl ⟨by rw [e];exact hc.2.1,by rw [zp0,zp0];exact hc.2.2⟩,λh=>absurd (by rw [e];exact hc.2.1) h⟩
theorem rc_fol2 {N:Nat} {q q':Int × Rs} (h:RC false N q q'):Fol (mEnd q') (mEnd q):=by
 cases h with
 | ok hv hr =>
  rw [zw8 hr.al.l,zw8 hr.al.l']
  exact .inr ⟨show (1:Int)≠0 by decide,rfl,hv.symm,hr.al.out.symm⟩
 | halt hh =>
  obtain ⟨o1,o2⟩:=hh.over;rw [zd0 o1,zd0 o2]
  exact .inr ⟨by rw [hh.st'];exact hh.st,hh.st'.symm,hh.code.symm,hh.out.symm⟩
 | cut hc =>
  unfold Cut at hc;simp only [Ag,Bj] at hc;have e:=zd0 (z76 hc.1);exact .inl ⟨by rw [e];exact hc.2.1,by rw [zp0,zp0];exact hc.2.2⟩
section
structure Bd (a b:Nat) (g g':Gn):Prop where
 lf:g'.left<=g.left
 ps:g'.pos+60*g'.left<=g.pos+60*g.left+a
 t1:g.types.length<=g'.types.length
 t2:g'.types.length+10*g'.left<=g.types.length+10*g.left+b
section
variable (l:List UInt8)
end
section
variable (l:List UInt8)
end
end
theorem iota_mem {n:Nat} {v:Int} (h:v∈iota n):0<=v/\v<n:=by
 simp only [iota,C5,Ew] at h;obtain ⟨i,hi,rfl⟩:=h;omega
theorem simple_r (u:Un) (f:Fl) (x:Nd) (h10:x.kind≠10) (h11:x.kind≠11):NR u f x:=by
 intro deep w all all' to M to' hty nw hv p r K R' t0 S0 S1 y nx lv he hK h13 h14 h12 hL hC;have hb:=z1e u f deep _ all hv;have e10:(x.kind==10)=false:=by simpa using h10
 have e11:(x.kind==11)=false:=by simpa using h11
 rw [z1c u f deep w all hb e10 e11] at hv;obtain ⟨a1,ho1,a3,a4,a5⟩:=zi7 hv;have hrun:=zf9 to x;rw [if_neg (by simp [e11]),if_neg (by simp [e10]),p.run] at hrun;obtain ⟨rfl,rfl⟩:=Dh hrun;have mo:∀ v∈x.outs,v∈dN x:=λv h=>by rw [y28];simp [h]
 have cl:z03 x=z0q x.kind:=by unfold z03;rw [e10,e11];rfl
 have hof:∀ {a b q q':List Int},EqT to' all a b->mOf a x.args=some q->mOf b (trA to' x).args=some q'->q'=q:=λ{a b q q'} hI g g'=>by
  have e2:mOf b (x.args.map (z0l to'))=some q':=g';rw [hI.mof a1,g] at e2;exact (Bn e2).symm
 have so:∀ {a b a2 b2:List Int} {z:Int},EqT to' all a b->setO x.outs a z a2->setO x.outs b z b2->EqT to' (all++x.outs) a2 b2:=λ{a b a2 b2 z} hI g g' =>
  hI.seto ho1 g g' (λv hv hm=>nw.stv v hv _ (mo _ hm) rfl) λv hv=>nw.ft v (mo v hv)
 by_cases hE:12<=x.kind
 ·have hle:=a5 hE;have ce:z03 x=true:=by
   rw [cl];rcases (show x.kind=12∨x.kind=13∨x.kind=14∨x.kind=15 by omega) with e | e | e | e<;>rw [e]<;>rfl
  obtain ⟨rfl,rfl⟩:=hC ce;rw [Cn];have c1:∀ k,k=13∨k=14->x.kind=k->cnN k x≠0:=λk _ e=>by rw [z9o,e];simp
  refine .ender hE hle rfl ?_ λa b q q' hI g g'=>?_
  ·rcases (show x.kind=12∨x.kind=13∨x.kind=14∨x.kind=15 by omega) with e | e | e | e
   ·exact .inl (h12 e).1
   ·exact .inl (hK.resolve_right λh=>c1 13 (.inl rfl) e h.1)
   ·exact .inl (hK.resolve_right λh=>c1 14 (.inr rfl) e h.2)
   ·exact .inr e
  ·obtain rfl:=hof hI g g';rcases (show x.kind=12∨x.kind=13∨x.kind=14∨x.kind=15 by omega) with e | e | e | e
   ·exact .inl ⟨e,(h12 e).2,rfl,hI.sub λv hv=>he.s0 v hv⟩
   ·exact .inr (.inl ⟨e,h13 (c1 13 (.inl rfl) e),rfl,hI.sub λv hv=>he.s1 v hv⟩)
   ·exact .inr (.inr (.inl ⟨e,h14 (c1 14 (.inr rfl) e),rfl,hI.sub λv hv=>he.s1 v hv⟩))
   ·exact .inr (.inr (.inr ⟨e,rfl⟩))
 ·have ce:z03 x=false:=by
   rw [cl];simp [z0q];omega
  show LRel 0 0 (EqT to' all) (x::r) K (trA to' x::R') _
  cases hm:z9s x with
  | true =>
   obtain ⟨hHL,o,ho⟩:=a3 hm;have hHL':HL (trA to' x):=by cases x;exact hHL
   refine .both (J:=EqT to' (all++x.outs)) hHL hHL' (by cases x;exact Aa _) (λa b a2' b2' hI ha hb2=>?_) (hL ce);obtain ⟨q,z,o1,g1,g2,g3,g4⟩:=ha;obtain ⟨q',z',o1',g1',g2',g3',g4'⟩:=hb2;obtain rfl:=hof hI g1 g1';have g2'':y9w x q'=some z':=by cases x;exact g2'
   rw [g2''] at g2;cases g2
   have g3'':x.outs[0]? = some o1':=g3';obtain rfl:o1=o1':=by rw [g3] at g3'';exact Bn g3''
   rw [ho] at g3 so ⊢;obtain rfl:o=o1:=by simpa using g3
   exact so hI g4 g4'
  | false =>
   have n1:x.kind≠1:=λe=>by rw [z9s,e] at hm;cases hm
   have n2:x.kind≠2:=λe=>by rw [z9s,e] at hm;cases hm
   exact .eff (J:=EqT to' (all++x.outs)) ⟨n1,n2,h10,h11,by omega,by omega,by omega,by omega⟩ rfl rfl rfl rfl (λa b q q' hI g g'=>hof hI g g') (λa b a2' b2' z hI ha hb2=>so hI ha hb2) (hL ce)
theorem node_r (u:Un) (f:Fl) (x:Nd) (ih:∀ q∈x.kids,LA u f q/\LB u f q):NR u f x:=by
 by_cases h10:x.kind=10
 ·exact if_r u f x ih h10
 by_cases h11:x.kind=11
 ·exact loop_r u f x ih h11
 ·exact simple_r u f x h10 h11
theorem yx5 {u:Un} {f:Fl} {deep:Int} {w:Wh} {all:List Int} {x:Nd} (h:z4r u f deep w all x=true):inR f.types.length x.outs:=by
 have hb:=z1e u f deep _ all h
 by_cases h10:x.kind=10
 ·obtain ⟨a,b,hk⟩:=z34 hb h10;rw [z52 u f deep w all hb h10 hk] at h;simp only [A0] at h;exact z1o h.2
 by_cases h11:x.kind=11
 ·obtain ⟨a,hk⟩:=z1r hb h11;rw [z2y u f deep w all hb h11 hk] at h;simp only [A0] at h;exact z1o h.2
 rw [z1c u f deep w all hb (by simpa using h10) (by simpa using h11)] at h;exact ok_in h
theorem yh8:∀ {l:List Nd} {v:Int},v∈l.flatMap Nd.outs->v∈dL l
 | x::l,v,h=>by
  simp only [Dj,Ay] at h;rw [dL];rcases h with h | h
  ·exact Bp _ (by rw [y28];simp [h])
  ·exact Bz _ (yh8 h)
theorem yz9 {u:Un} {f:Fl} {x:Nd} {deep:Int} {w:Wh} {all all':List Int} {to to':TT} {N:List Nd} (hty:HT f) (nw:New f (dL [x]) all all' to) (hv:vGo u f deep w all [x]=true) (P:TPost u f deep w all' to [x] N to') :
 NPost u f deep w all all' to x N to'/\z03 x=true/\New f (dN x) all all' to/\z4r u f deep w all x=true:=by
 simp only [vGo,A0,Ap,List.isEmpty_nil] at hv;have hd:¬ deep > 100:=by simpa using hv.1.1.1
 have hdl:dL [x]=dN x:=by simp [dL]
 rw [hdl] at nw;obtain ⟨M,to1,p⟩:=yk3 u f x (λq _=>zn6 u f _ q (A4 _)) deep w all all' to hty hd nw.nd nw.fa nw.ft nw.rel hv.1.1.2;have h1:=P.raw;have h2:trR [] to [x]=(M,to1):=by
  simp only [trR,p.run,Do];split<;>rfl
 rw [h2] at h1;obtain ⟨rfl,rfl⟩:=Dh h1;exact ⟨p,hv.1.2,nw,hv.1.1.2⟩
theorem yh4 {u:Un} {f:Fl} {x z:Nd} {r:List Nd} {deep:Int} {w:Wh} {all all':List Int} {to to':TT} {N:List Nd} (hty:HT f) (nw:New f (dL (x::z::r)) all all' to) (hv:vGo u f deep w all (x::z::r)=true)
 (P:TPost u f deep w all' to (x::z::r) N to') :
 ∃ M to1 R,NPost u f deep w all all' to x M to1/\z03 x=false/\New f (dN x) all all' to/\z4r u f deep w all x=true/\TPost u f deep w (all'++M.flatMap Nd.outs) to1 (z::r) R to'/\N=M++R /\
  New f (dL (z::r)) (all++x.outs) (all'++M.flatMap Nd.outs) to1/\vGo u f deep w (all++x.outs) (z::r)=true:=by
 unfold vGo at hv;simp only [A0,Ap,List.isEmpty_cons] at hv;have hd:¬ deep > 100:=by simpa using hv.1.1.1
 have hdl:dL (x::z::r)=dN x++dL (z::r):=by rw [dL]
 rw [hdl] at nw;obtain ⟨n1,n2,n3⟩:=Co.1 nw.nd;have nwx:=nw.sub n1 λv h=>Bp _ h;obtain ⟨M,to1,p⟩:=yk3 u f x (λq _=>zn6 u f _ q (A4 _)) deep w all all' to hty hd n1 nwx.fa nwx.ft nw.rel hv.1.1.2;rcases p.post with ⟨c1,_⟩ | ⟨c1,c2,c3⟩
 ·rw [hv.1.2] at c1;cases c1
 have ho:inR f.types.length x.outs:=yx5 hv.1.1.2;have nwr:New f (dL (z::r)) (all++x.outs) (all'++M.flatMap Nd.outs) to1:=by
  refine ⟨n2,λv hm=>?_,λv hm hh=>?_,λv hm=>(p.keys v λhn=>n3 v hn v hm rfl).trans (nw.ft v (Bz _ hm)),c3,λv hh=>?_⟩
  ·rw [Ce,nw.fa v (Bz _ hm),Bs,<- Ds,List.contains_iff_mem];exact λho=>n3 v (by rw [y28];simp [ho]) v hm rfl
  ·rcases Ay.1 hh with h | h
   ·exact nw.fb v (Bz _ hm) h
   ·have h2:=(j4e x to).subset (by rw [p.run];exact yh8 h);exact n3 v h2 v hm rfl
  ·rcases Ay.1 hh with h | h
   ·exact nw.inr v h
   ·exact ho v h
 obtain ⟨R,to2,q⟩:=zn6 u f _ (z::r) (A4 _) deep w (all++x.outs) (all'++M.flatMap Nd.outs) to1 hty sI0 n2 nwr.fa nwr.ft c3 hv.2;have h1:=P.raw;have hop:z1d ([]++(trN to x).1)=false:=by rw [p.run];exact yk7 c2 rfl
 have h2:trR [] to (x::z::r)=(M++R,to2):=by
  rw [trR,if_neg (by rw [hop];simp),p.run];rw [p.run] at hop;rw [q.run _ hop];simp
 rw [h2] at h1;obtain ⟨rfl,rfl⟩:=Dh h1;exact ⟨M,to1,R,p,hv.1.2,nwx,hv.1.1.2,q,rfl,nwr,hv.2⟩
theorem go_A (u:Un) (f:Fl):∀ (l:List Nd),(∀ x∈l,NR u f x)->LA u f l
 | [],_=>λ_ _ _ _ _ _ _ _ h=>absurd rfl h
 | [x],ih=>λdeep w all all' to N to' hty _ nw hv P K t0 S0 S1 y nx lv he hK h13 h14 h12=>by
  obtain ⟨p,c,nwx,hvx⟩:=yz9 hty nw hv P;have e:∀ k,kcL k [x]=cnN k x:=λk=>by simp [kcL]
  rw [e,e] at hK;rw [e] at h13 h14;have:=ih x (.head _) deep w all all' to N to' hty nwx hvx p [] K [] t0 S0 S1 y nx lv he (hK.imp_right λh=>⟨h.1,h.2.1⟩) h13 h14 (λe12=>⟨hK.resolve_right (λh=>Bool.noConfusion (h.2.2.symm.trans (yk1 hvx e12).1)),h12 e12⟩) (λh=>by rw [c] at h;cases h) λ_=>⟨rfl,rfl⟩
  rwa [Cn] at this
 | x::z::r,ih=>λdeep w all all' to N to' hty _ nw hv P K t0 S0 S1 y nx lv he hK h13 h14 h12=>by
  obtain ⟨M,to1,R,p,c,nwx,hvx,q,rfl,nwr,hvr⟩:=yh4 hty nw hv P;have e:∀ k,kcL k (x::z::r)=cnN k x+kcL k (z::r):=λk=>by rw [kcL]
  rw [e,e] at hK;rw [e] at h13 h14;refine ih x (.head _) deep w all all' to M to1 hty nwx hvx p (z::r) K R t0 S0 S1 y nx lv he (hK.imp_right λh=>⟨by omega,by omega⟩) (λh=>h13 oM0) (λh=>h14 oM0) (λe12=>absurd e12 (zq1 c).1) (λ_=>?_) λh=>by rw [c] at h;cases h
  exact go_A u f (z::r) (λy hy=>ih y (.tail _ hy)) deep w _ _ to1 R to' hty sI0 nwr hvr q K t0 S0 S1 y nx lv (he.step (λv hv=>Bp _ hv) λv hv=>p.keys v λhm=>nwx.na hm hv)
   (hK.imp_right λh=>⟨by omega,by omega,h.2.2⟩) (λh=>h13 oM0) (λh=>h14 oM0) λh=>h12 (by rw [show x::z::r=[x]++(z::r) from rfl,z5c sI0];exact h)
theorem go_B (u:Un) (f:Fl):∀ (l:List Nd),(∀ x∈l,NR u f x)->LB u f l
 | [],_=>λ_ _ _ _ _ _ _ _ h=>absurd rfl h
 | [x],ih=>λdeep w all all' to N to' hty _ nw hv P g K R' t0 S0 S1 y nx lv tX SX he hk hk2 h13 h14 hX hL=>by
  obtain ⟨p,c,nwx,hvx⟩:=yz9 hty nw hv P;have hkx:x.kind=g.k:=hk;have e10:(x.kind==10)=false:=by rw [hkx];rcases hk2 with h | h<;>rw [h]<;>rfl
  have e11:(x.kind==11)=false:=by rw [hkx];rcases hk2 with h | h<;>rw [h]<;>rfl
  have hrun:=zf9 to x;rw [if_neg (by simp [e11]),if_neg (by simp [e10]),p.run] at hrun;obtain ⟨rfl,rfl⟩:=Dh hrun;rw [z1c u f deep w all (z1e u f deep _ all hvx) e10 e11] at hvx;have hse:=(zi7 hvx).1;refine .leave hkx hk2 (λa b p a2 hI g1 g2=>?_) hL
  exact hX a b p a2 hI (by show mOf b (x.args.map (z0l to'))=some p;rw [hI.mof hse];exact g1) g2
 | x::z::r,ih=>λdeep w all all' to N to' hty _ nw hv P g K R' t0 S0 S1 y nx lv tX SX he hk hk2 h13 h14 hX hL=>by
  obtain ⟨M,to1,R,p,c,nwx,hvx,q,rfl,nwr,hvr⟩:=yh4 hty nw hv P;have e:∀ k,kcL k (x::z::r)=cnN k x+kcL k (z::r):=λk=>by rw [kcL]
  rw [e] at h13 h14;have hkr:z0f (z::r)=g.k:=by rw [show x::z::r=[x]++(z::r) from rfl,z5c sI0] at hk;exact hk
  have c14:cnN 14 x=0:=by
   rcases h14 with h | ⟨h,h2⟩
   ·omega
   ·have:=zh0 (.inr rfl) (hkr.trans h);omega
  rw [List.dropLast_append_of_ne_nil q.ne,Ca];refine ih x (.head _) deep w all all' to M to1 hty nwx hvx p (z::r) (g::K) _ t0 S0 S1 y nx lv he (.inr ⟨by omega,c14⟩) (λh=>absurd oM0 h) (λh=>absurd c14 h) (λe12=>absurd e12 (zq1 c).1) (λ_=>?_) λh=>by rw [c] at h;cases h
  exact go_B u f (z::r) (λy hy=>ih y (.tail _ hy)) deep w _ _ to1 R to' hty sI0 nwr hvr q g K R' t0 S0 S1 y nx lv tX SX (he.step (λv hv=>Bp _ hv) λv hv=>p.keys v λhm=>nwx.na hm hv)
   hkr hk2 oM0 (h14.imp (λh=>by omega) λh=>⟨h.1,by omega⟩)
   (λa b p a2 hI g1 g2=>hX a b p a2 (hI.sub λv hv=>⟨Bp _ hv,rfl⟩) (by
    have:z3m (M++R)=z3m R:=by unfold z3m;rw [y4x q.ne]
    rw [this];exact g1) g2) hL
theorem j0q (u:Un) (f:Fl):∀ (N:Nat) (l:List Nd),SizeOf.sizeOf l<N->LA u f l/\LB u f l
 | 0,_,h=>absurd h (Ae _)
 | N+1,l,hN=>by
  have h:∀ x∈l,NR u f x:=λx hx=>node_r u f x λq hq=>j0q u f N q (B4 (z79 hx rfl hq) (Bv hN));exact ⟨go_A u f l h,go_B u f l h⟩
theorem j4i {u:Un} (hz:(z1b u).1=0) {f:Fl} (hf:f∈u.flows):FRel (uSz u.flows) f (z4t trB f):=by
 refine ⟨rfl,j4k hf,?_⟩;have hF:=((z6a u).1 hz).2 f hf;obtain ⟨N,to',P⟩:=zj2 hF;have h:=zj7 hF;have hp:=z92 hF;have hv:=h.1;simp only [z3z,A0] at hv;have hne:f.body≠[]:=by intro e;rw [e] at hv;simp at hv
 have fa:∀ v∈dL f.body,(iota f.params.toNat).contains v=false:=λv hm=>by
  have:=h.2.2 v hm
  cases hc:(iota f.params.toNat).contains v with
  | false=>rfl
  | true=>rw [y00 hp hc] at this;cases this
 have nw:New f (dL f.body) (iota f.params.toNat) (iota f.params.toNat) []:=⟨h.2.1,fa,λv hm hh=>Bool.noConfusion ((fa v hm).symm.trans (List.contains_iff_mem.2 hh)),λ_ _=>rfl,λv hv v0 v1=>⟨hv,v0,v1,rfl⟩,λv hv=>by
  have:=iota_mem hv;omega⟩
 have hA:=(j0q u f _ f.body (A4 _)).1 1 z3n _ _ [] N to' (j09 hF) hne nw hv.2 P [] [] [] [] true true true ⟨λv hv=>by simp at hv,λv hv=>by simp at hv⟩ (.inl rfl) (λ_=>rfl) (λ_=>rfl) λ_=>rfl;have eB:(z4t trB f).body=N:=by show (trL [] f.body).1=N;rw [P.tr]
 rw [eB];refine .weak (λa b h v hv=>by rw [h.1];rfl) (hA.monoE λn p p' a b h=>?_);unfold EF;rcases h with ⟨_,_,rfl,_⟩ | ⟨_,_,rfl,_⟩ | ⟨_,_,rfl,_⟩ | ⟨_,rfl⟩<;>rfl
theorem trim_rel {u:Un} (hz:(z1b u).1=0):URel u (z47 trB u):=by
 refine ⟨rfl,λname=>zq2 trB name u.flows 0,λi f g h h'=>?_⟩;have:(z47 trB u).flows[i]? = (u.flows[i]?).map (z4t trB):=B8 ..;rw [h',h] at this;obtain rfl:g=z4t trB f:=Bn this;exact j4i hz (Ai h)
theorem y4r {m n z:Int} (hn:n≠0) (h:m.tdiv n=z) (h1:-9223372036854775808<=z/\z<=9223372036854775807):z3g .quo .i64 m n=some (.int .i64 z):=by
 subst h;simp only [z3g];rw [if_neg hn,D0 _ h1]
theorem j2e (u v:Un) (hW:z0g u<=34000000000) (ins:List Int) (fuel q:Int) (hf:0<=fuel/\fuel<=1000000) (hq:fuel.tdiv 4=q) (a b c d:Rs)
 (hA:SC Tryz.prog 16 [.pv u.enc,.pv (ints ins),iInt fuel] [] (λ_=>False) (.pv (runv a)) [])
 (hB:SC Tryz.prog 16 [.pv v.enc,.pv (ints ins),iInt fuel] [] (λ_=>False) (.pv (runv b)) [])
 (hC:SC Tryz.prog 16 [.pv v.enc,.pv (ints ins),iInt q] [] (λ_=>False) (.pv (runv c)) [])
 (hD:SC Tryz.prog 16 [.pv u.enc,.pv (ints ins),iInt ((q+1)*((uSz u.flows:Int)+1))] [] (λ_=>False) (.pv (runv d)) [])
 (h1:Fol a b) (h2:a.st≠0->b.cost<=a.cost/\a.fuel<=b.fuel) (h3:Fol c d) (hb:b.out.length<=1073741824) (hd:d.out.length<=1073741824) :
 SC Tryz.prog 12 [.pv u.enc,.pv v.enc,.pv (ints ins),iInt fuel] [] (λk=>k∈[]) (iBool true) []:=by
 refine SC.vc tb {} [] Tryz.func12 rfl rfl ?_;have hF1:=y3n a b h1 hb;have hF2:=y3n c d h3 hd;have hN:=sc_nodes u hW;have hw:=uSz_W u.flows;have hw2:wtF u.flows<=z0g u:=by unfold z0g;omega
 have hqb:0<=q/\q<=1000000:=by
  rw [<- hq,Ec hf.1];omega
 have hm:-9223372036854775808<=(q+1)*((uSz u.flows:Int)+1)/\(q+1)*((uSz u.flows:Int)+1)<=9223372036854775807:=by
  have x1:0<=(q+1)*((uSz u.flows:Int)+1):=Fz oM0 oM0;have x2:(q+1)*((uSz u.flows:Int)+1)<=1000001*34000000001:=Int.mul_le_mul oM0 oM0 oM0 oM0;omega
 obtain ⟨ains,aar,ast,acode,aout,acost,afuel,asp⟩:=a;obtain ⟨bins,bar,bst,bcode,bout,bcost,bfuel,bsp⟩:=b;dsimp only at h2;refine ⟨[],hA,sR,G9,rfl,[],hB,sR,G9,rfl,[],hF1,sR,G9,rfl,?_⟩;refine z00 (λh5=>?_) λh5=>?_
 ·have hst:ast≠0:=by simpa using h5
  obtain ⟨c1,c2⟩:=h2 hst;refine z00 (λh6=>absurd h6 (by simp;omega)) λ_=>z00 (λh6=>absurd h6 (by simp;omega)) λ_=>?_;exact ⟨y4r dC0 hq oM0,[],hC,sR,G9,rfl,y4r dC0 hq oM0,z01 rfl oM0,[],hN,sR,G9,rfl,z01 rfl oM0,y4q rfl hm,[],hD,sR,G9,rfl,[],hF2,sR,G9,rfl,sI,G9⟩
 ·exact ⟨y4r dC0 hq oM0,[],hC,sR,G9,rfl,y4r dC0 hq oM0,z01 rfl oM0,[],hN,sR,G9,rfl,z01 rfl oM0,y4q rfl hm,[],hD,sR,G9,rfl,[],hF2,sR,G9,rfl,sI,G9⟩
theorem arr_size {u:Un} {A:Ar} (hz:(z1b u).1=0) (h:u.arrays=[A]):0<=A.size/\A.size<=1000:=by
 obtain ⟨h1,_⟩:=(z6a u).1 hz;unfold z1h at h1;simp only [A0] at h1;have h2:=h1.1.1;rw [h] at h2;simp only [r8gA,gArr,A0,Bc,C3] at h2;omega
theorem yn7 (u:Un) (h1:u.arrays.length<=1) (hW:z0g u<=34000000000) (hz:(z1b u).1=0) (ins:List Int) (fuel:Int) (d:Nat) (r:Int × Rs) (h:z4i u d (z06 z0x u.flows 0) [] (runA u ins fuel)=some r) :
 SC Tryz.prog 16 [.pv u.enc,.pv (ints ins),iInt fuel] [] (λ_=>False) (.pv (runv (mEnd r))) []:=by
 have hs:=@arr_size u;obtain ⟨ar,fs⟩:=u;rcases ar with _ | ⟨A,_ | ⟨A2,t⟩⟩
 ·exact j3w fs hW hz ins fuel d r h
 ·exact sr_run1 fs A hW hz ins fuel d r h (hs hz rfl)
 ·simp at h1
theorem yc7 {u v:Un} (R:URel u v) (h1:u.arrays.length<=1) (hW:z0g u<=34000000000) (hW':z0g v<=34000000000) (hz:(z1b u).1=0) (hz':(z1b v).1=0) (hN:uSz u.flows<=4000000) (ins:List Int) (fuel:Int) (hf:0<=fuel/\fuel<=510) :
 SC Tryz.prog 12 [.pv u.enc,.pv v.enc,.pv (ints ins),iInt fuel] [] (λk=>k∈[]) (iBool true) []:=by
 have hq:0<=fuel.tdiv 4/\fuel.tdiv 4<=127:=by rw [Ec hf.1];omega
 have hfD0:0<=(fuel.tdiv 4+1)*((uSz u.flows:Int)+1):=Fz oM0 oM0;have hfD:(fuel.tdiv 4+1)*((uSz u.flows:Int)+1)<=128*4000001:=Int.mul_le_mul oM0 oM0 oM0 oM0;have B:(1073741824:Int)<=4611686018427387903:=by decide
 have M:(1073741824:Int)<=1073741824:=by decide
 have hav:v.arrays.length<=1:=by rw [R.ar];exact h1
 obtain ⟨da,qa,ra,ia⟩:=y5n hz ins hf.1 B M oM0 oM0;obtain ⟨db,qb,rb,ib⟩:=y5n hz' ins hf.1 B M oM0 oM0;obtain ⟨dc,qc,rc,ic⟩:=y5n hz' ins hq.1 B M oM0 oM0;obtain ⟨dd,qd,rd,id⟩:=y5n hz ins hfD0 B M oM0 oM0;have k1:=rc_fol (yk9 true R ins hf.1 hf.1 B (M:=1073741824) oM0 oM0 oM0 oM0 (by unfold G;simp) ra rb);have k2:=rc_fol2 (yk9 false R ins hfD0 hq.1 B (M:=1073741824) oM0 oM0 oM0 oM0 (by
  unfold G;simp only [Ag,Bj];rw [Int.add_mul];generalize fuel.tdiv 4*((uSz u.flows:Int)+1)=P;omega) rd rc)
 have ob:qb.2.out.length<=1073741824:=by have:=ib.out;have:=ib.ok.1;omega
 have od:qd.2.out.length<=1073741824:=by have:=id.out;have:=id.ok.1;omega
 exact j2e u v hW ins fuel (fuel.tdiv 4) oM0 rfl _ _ _ _ (yn7 u h1 hW hz ins fuel da qa ra) (yn7 v hav hW' hz' ins fuel db qb rb) (yn7 v hav hW' hz' ins _ dc qc rc) (yn7 u h1 hW hz ins _ dd qd rd) k1.1 k1.2 k2 (by rw [zp0];exact ob) (by rw [zp0];exact od)
theorem sc_run0 (u:Un) (hu:u.arrays=[]) (hW:z0g u<=34000000000) (hz:(z1b u).1=0) (ins:List Int) (fuel:Int) (d:Nat) (r:Int × Rs) (h:z4i u d (z06 z0x u.flows 0) [] (run0 ins fuel)=some r):SC Tryz.prog 16 [.pv u.enc,.pv (ints ins),iInt fuel] [] (λ_=>False) (.pv (runv (mEnd r))) []:=by
 obtain ⟨ar,fs⟩:=u;obtain rfl:ar=[]:=hu;exact j3w fs hW hz ins fuel d r h
theorem intne {m n:Nat} (h:((m:Int) != n)=true):m≠n:=λe=>by subst e;simp at h
theorem inteq {m n:Nat} (h:((m:Int) != n)=false):m=n:=Int.ofNat.inj (by simpa using h)
theorem sc_lIdle (x:Nd):SC Tryz.prog 54 [.pv (ndv x)] [] (λk=>k∈[]) (iBool (y4s x.kids)) []:=by
 refine SC.vc tb { gh:=[(9,[.len 57])] } [] Tryz.func54 rfl rfl ?_;have no:∀ ks:List (List Nd),ks.length≠2->y4s ks=false:=λks h=>by
  match ks,h with
  | [],_=>rfl
  | [_],_=>rfl
  | [_,_],h=>exact absurd rfl h
  | _::_::_::_,_=>rfl
 have no2:∀ a b:List Nd,(a.length≠1∨b.length≠1)->z2v a b=false:=λa b h=>by
  match a,b,h with
  | [],_,_=>rfl
  | [_],[],_=>rfl
  | [_],[_],h=>simp at h
  | [_],_::_::_,_=>rfl
  | _::_::_,_,_=>rfl
 refine z00 (λh1=>?_) λh1=>?_
 ·exact ⟨sE (by rw [no _ (by have:=intne h1;simpa using this)]),G9⟩
 ·obtain ⟨a,b,hk⟩:∃ a b,x.kids=[a,b]:=by
   have h2:x.kids.length=2:=by have:=inteq h1;simpa using this
   match x.kids,h2 with
   | [a,b],_=>exact ⟨a,b,rfl⟩
  obtain ⟨h0,h1',_,_⟩:=yi8 hk;have hI:y4s x.kids=z2v a b:=by rw [hk];rfl
  rw [hI];refine ⟨h0,rfl,z00 (λha=>?_) λha=>?_⟩
  ·exact ⟨sE (by rw [no2 a b (.inl (by have:=intne ha;simpa using this))]),G9⟩
  ·obtain ⟨y,rfl⟩:∃ y,a=[y]:=Br.1 (by have:=inteq ha;simpa using this);refine ⟨h1',rfl,z00 (λhb=>?_) λhb=>?_⟩
   ·exact ⟨sE (by rw [no2 _ b (.inr (by have:=intne hb;simpa using this))]),G9⟩
   ·obtain ⟨z,rfl⟩:∃ z,b=[z]:=Br.1 (by have:=inteq hb;simpa using this);refine ⟨h0,rfl,z08 (i:=0) (x:=y) rfl,rfl,h1',rfl,z08 (i:=0) (x:=z) rfl,rfl,z00 (λhy=>?_) λhy=>?_⟩
    ·have hy':(y.kind==12)=false:=by simpa using hy
     exact ⟨sE (by simp [z2v,hy']),G9⟩
    ·have hy':(y.kind==12)=true:=by simpa using hy
     refine z00 (λhz=>?_) λhz=>?_
     ·have hz':(z.kind==12)=false:=by simpa using hz
      exact ⟨sE (by simp [z2v,hz']),G9⟩
     ·have hz':(z.kind==12)=true:=by simpa using hz
      have hT:z2v [y] [z]=(y.args==z.args):=by simp [z2v,hy',hz']
      rw [hT];refine z00 (λhn=>?_) λhn=>?_
      ·exact ⟨sE (by rw [yy4 (by have:=intne hn;simp at this;omega)]),G9⟩
      ·have hlm:y.args.length=z.args.length:=by have:=inteq hn;simpa using this
       refine ⟨Nat,λk=>[(5,iInt k)],λ_=>[],λk=>y.args.length - k,λk=>k<=y.args.length/\y.args.take k=z.args.take k,[],0,⟨A6 _,rfl⟩,Ga,G9,?_⟩;rintro k ⟨hk',he⟩;refine z00 (λhc=>?_) λhc=>?_
       ·have hlt:=z0y (f:=eInt) rfl hc;obtain ⟨v,hv,ht,_,_⟩:=z0n hlt;obtain ⟨u,hu,ht2,_,_⟩:=z0n (show k<z.args.length by omega);intro hl;simp only [A5] at hl;refine ⟨z02 (f:=eInt) hv,rfl,z02 (f:=eInt) hu,rfl,z00 (λh2=>?_) λh2=>?_⟩
        ·have hvu:v≠u:=by simpa using h2
         have hne:(y.args==z.args)=false:=by
          cases hq:y.args==z.args with
          | false=>rfl
          | true=>rw [eq_of_beq hq,hu] at hv;exact absurd (Bn hv).symm hvu
         exact ⟨sE (by rw [hne]),G9⟩
        ·have hvu:v=u:=by simpa using h2
         exact ⟨z01 rfl oM0,k+1,z04 hlt,⟨hlt,by rw [ht,ht2,he,hvu]⟩,Ga,G9,rfl,rfl,rfl,rfl⟩
       ·have hge:=z0z (f:=eInt) rfl hc;rw [Am hge,Am oM0] at he;exact ⟨sE (by rw [he];simp),G9⟩
theorem onceK_no {ks:List (List Nd)} (h:ks.length≠1):yr9 ks=false:=by
 match ks,h with
 | [],_=>rfl
 | [_],h=>exact absurd rfl h
 | _::_::_,_=>rfl
theorem j2h:∀ (N:Nat) (l:List Nd),SizeOf.sizeOf l<N->l.length+wtL l<=34359738368->SC Tryz.prog 27 [.pv (z17 l)] [] (λk=>k∈[]) (iBool (fiL l)) []
 | 0,_,h,_=>absurd h (Ae _)
 | N+1,l,hN,hb=>by
  refine SC.vc tb { jn:=[7,12] } [] Tryz.func27 rfl rfl ?_;refine ⟨Nat,λi=>[(3,iInt i)],λ_=>[],λi=>l.length - i,λi=>i<=l.length/\fiL l=fiL (l.drop i),[],0,⟨A6 _,rfl⟩,Ga,G9,?_⟩;rintro i ⟨hi,hI⟩;refine z00 (λhc=>?_) λhc=>?_
  ·have hlt:=z0y (f:=Nd.enc) rfl hc;obtain ⟨x,hx,ht,hd,hm⟩:=z0n hlt;have hw:=y48 hm;have hwa:=(zc7 x).2.2;have hkl:=y6l x.kids;rw [hd,fiL,yh7] at hI;have bad:(x.kind==10&&y4s x.kids)=true∨(x.kind==11&&yr9 x.kids)=true∨fiK x.kids=false->fiL l=false:=λh=>by
    rw [hI];rcases h with h | h | h<;>rw [h]<;>simp
   refine ⟨z08 hx,rfl,Unit,λ_=>[],λ_=>[],λ_=>(x.kind==10&&y4s x.kids)=false,[],?_,?_⟩
   ·refine z00 (λh1=>?_) λh1=>?_
    ·have h1':(x.kind==10)=true:=h1;refine ⟨[],sc_lIdle x,sR,G9,rfl,z00 (λh2=>?_) λh2=>?_⟩
     ·have h2':y4s x.kids=true:=h2;exact ⟨sE (by rw [bad (.inl (by rw [h1',h2'];rfl))]),G9⟩
     ·have h2':y4s x.kids=false:=h2;exact ⟨(),by rw [h2',Ct],G9,G9,rfl,rfl,rfl,rfl⟩
    ·have h1':(x.kind==10)=false:=h1;exact ⟨(),by rw [h1',Cl],G9,G9,rfl,rfl,rfl,rfl⟩
   ·intro _ hA;rw [hA] at hI;refine ⟨Unit,λ_=>[],λ_=>[],λ_=>(x.kind==11&&yr9 x.kids)=false,[],?_,?_⟩
    ·refine z00 (λh1=>?_) λh1=>?_
     ·have h1':(x.kind==11)=true:=h1;refine z00 (λh2=>?_) λh2=>?_
      ·obtain ⟨a,hks⟩:∃ a,x.kids=[a]:=Br.1 (Int.ofNat.inj (by simpa using h2));have h0:(x.kids.map eKid)[0]? = some [z17 a]:=by rw [hks];rfl
       have hO:yr9 x.kids=(!a.isEmpty&&z2s a):=by rw [hks];rfl
       have hal:a.length+wtL a<=34359738368:=by rw [hks] at hwa;simp only [wtK] at hwa;omega
       refine ⟨h0,rfl,z00 (λh3=>?_) λh3=>?_⟩
       ·have hpos:0<a.length:=by simpa using h3
        have hem:a.isEmpty=false:=by cases a with
         | nil=>cases hpos
         | cons _ _=>rfl
        rw [hem,D3,Av] at hO;refine ⟨h0,rfl,[],y1c 14 _ a (A4 _) hal,sR,G9,rfl,[],y1c 13 _ a (A4 _) hal,sR,G9,rfl,z00 (λh4=>?_) λh4=>?_⟩
        ·have h13:kcL 13 a=0:=by have:=An h4;omega
         refine z00 (λh5=>?_) λh5=>?_
         ·have h14:kcL 14 a=0:=by have:=An h5;omega
          exact ⟨sE (by rw [bad (.inr (.inl (by rw [h1',hO];simp [z2s,h13,h14])))]),G9⟩
         ·have h14:kcL 14 a≠0:=by have:=Al h5;omega
          refine z00 (λh6=>?_) λh6=>?_
          ·have h15:kcL 14 a=1:=by have:=An h6;omega
           obtain ⟨A,e,he,_,hl,_⟩:=zh1 (l:=a) (by intro h;rw [h] at hpos;cases hpos);have hlen2:(a.map Nd.enc).length=A.length+1:=by rw [he];simp
           refine ⟨z2w (z:=(A.length:Int)) (by rw [hlen2];omega) (by rw [he] at hal;simp at hal;omega),z08 (i:=A.length) (x:=e) (by rw [he];simp),rfl,z00 (λh7=>?_) λh7=>?_⟩
           ·have h7':(e.kind==14)=true:=h7;exact ⟨sE (by rw [bad (.inr (.inl (by rw [h1',hO];simp only [z2s,h13,h15,hl,h7'];rfl)))]),G9⟩
           ·have h7':(e.kind==14)=false:=h7;exact ⟨(),by rw [hO];simp only [z2s,h13,h15,hl,h7'];simp,G9,G9,rfl,rfl,rfl,rfl⟩
          ·have h15:kcL 14 a≠1:=by have:=Al h6;omega
           exact ⟨(),by rw [hO];simp [z2s,h13,h14,h15],G9,G9,rfl,rfl,rfl,rfl⟩
        ·have h13:kcL 13 a≠0:=by have:=Al h4;omega
         exact ⟨(),by rw [hO];simp [z2s,h13],G9,G9,rfl,rfl,rfl,rfl⟩
       ·have hem:a=[]:=by
         have:¬ 0<a.length:=by simpa using h3
         exact List.length_eq_zero_iff.1 oM0
        exact ⟨(),by rw [hO,hem];simp,G9,G9,rfl,rfl,rfl,rfl⟩
      ·have hne:x.kids.length≠1:=λe=>by
        simp only [A5,e] at h2;cases h2
       exact ⟨(),by rw [onceK_no hne,Ct],G9,G9,rfl,rfl,rfl,rfl⟩
     ·have h1':(x.kind==11)=false:=h1;exact ⟨(),by rw [h1',Cl],G9,G9,rfl,rfl,rfl,rfl⟩
    ·intro _ hB;rw [hB] at hI;simp only [D3,Av] at hI;refine ⟨Nat,λj=>[(7,iInt j)],λ_=>[],λj=>x.kids.length - j,λj=>j<=x.kids.length/\fiK x.kids=fiK (x.kids.drop j),[],0,⟨A6 _,rfl⟩,Ga,G9,?_⟩;rintro j ⟨hj,hJ⟩;refine z00 (λhc2=>?_) λhc2=>?_
     ·have hlt2:=z0y (f:=eKid) rfl hc2;obtain ⟨q,hq,_,hd2,hm2⟩:=z0n hlt2;have hwq:=y26 hm2;rw [hd2,fiK] at hJ;refine ⟨z02 (f:=eKid) hq,rfl,[],j2h N q (B4 (z79 hm rfl hm2) (Bv hN)) oM0,sR,G9,rfl,z00 (λh3=>?_) λh3=>?_⟩
      ·have h3':fiL q=false:=by simpa using h3
       exact ⟨sE (by rw [bad (.inr (.inr (by rw [hJ,h3',Cl])))]),G9⟩
      ·have h3':fiL q=true:=by simpa using h3
       exact ⟨z01 rfl oM0,j+1,z04 hlt2,⟨hlt2,by rw [hJ,h3',Av]⟩,Ga,G9,rfl,rfl,rfl,rfl⟩
     ·rw [A9 (z0z (f:=eKid) rfl hc2)] at hJ;have hk1:fiK x.kids=true:=hJ;exact ⟨z01 rfl oM0,i+1,z04 hlt,⟨hlt,by rw [hI,hk1,Av]⟩,Ga,G9,rfl,rfl,rfl,rfl⟩
  ·rw [A9 (z0z (f:=Nd.enc) rfl hc)] at hI;exact ⟨sE (by rw [hI];rfl),G9⟩
theorem yn0 (u:Un) (hW:z0g u<=34000000000):SC Tryz.prog 11 [.pv u.enc] [] (λk=>k∈[]) (iBool (y45 u)) []:=by
 refine SC.vc tb {} [] Tryz.func11 rfl rfl ?_;have hW2:z0g u=u.arrays.length+u.flows.length+wtA u.arrays+wtF u.flows:=rfl;refine ⟨Nat,λk=>[(3,iInt k)],λ_=>[],λk=>u.flows.length - k,λk=>k<=u.flows.length/\y45 u=(u.flows.drop k).all λf=>fiL f.body,[],0,⟨A6 _,rfl⟩,Ga,G9,?_⟩;rintro k ⟨hk,hI⟩;refine z00 (λhc=>?_) λhc=>?_
 ·have hlt:=z0y (f:=Fl.enc) rfl hc;obtain ⟨x,hx,_,hd,hm⟩:=z0n hlt;have hb:=yy9 hW hm;rw [hd,D5] at hI;refine ⟨z02 (f:=Fl.enc) hx,rfl,[],j2h _ x.body (A4 _) oM0,sR,G9,rfl,z00 (λh1=>?_) λh1=>?_⟩
  ·have h1':fiL x.body=false:=by simpa using h1
   exact ⟨sE (by rw [hI,h1',Cl]),G9⟩
  ·have h1':fiL x.body=true:=by simpa using h1
   exact ⟨z01 rfl oM0,k+1,z04 hlt,⟨hlt,by rw [hI,h1',Av]⟩,Ga,G9,rfl,rfl,rfl,rfl⟩
 ·rw [A9 (z0z (f:=Fl.enc) rfl hc)] at hI;exact ⟨sE (by rw [hI];rfl),G9⟩
theorem j3f (ts:List Int) (l:List Nd):SC Tryz.prog 15 [.pv (ints ts),.pv (z17 l)] [] (λk=>k∈[]) (.pv (.agg [.val (.slice none 0 0),flws [⟨z0x,1,0,ts,l⟩]])) []:=by
 refine SC.vc tb {} [] Tryz.func15 rfl rfl ?_;exact ⟨sI,G9⟩
theorem yb0 (l:List Nd):z0u (trB l)<=z0u l:=zp8 l
def wakeL:List Nd:=[.mk 8 0 0 ⟨#[]⟩ [] [0] [] [],.mk 11 0 0 ⟨#[]⟩ [] [1] [] [[.mk 9 0 0 ⟨#[]⟩ [0] [] [] [],.mk 14 0 0 ⟨#[]⟩ [0] [] [] []]],.mk 15 0 0 ⟨#[]⟩ [1] [] [] []]
def y6h:Un:=⟨[],[⟨z0x,1,0,[1,1],wakeL⟩]⟩
theorem ze3:(z1b y6h).1=0:=by decide +kernel
theorem y23:z0g y6h<=34000000000:=by decide +kernel
theorem j54:((z4i (z47 trB y6h) 20 (z06 z0x (z47 trB y6h).flows 0) [] (run0 [3] 5)).map λr=>(z16 r.2,r.1,r.2.out))=some (false,3,[3]):=by decide +kernel
theorem wake_run:∃ r,z4i (z47 trB y6h) 20 (z06 z0x (z47 trB y6h).flows 0) [] (run0 [3] 5)=some r/\(mEnd r).st=1/\(mEnd r).code=3/\(mEnd r).out=[3]:=by
 have h:=j54;rw [A1] at h;obtain ⟨r,h1,h2⟩:=h;simp only [Ea] at h2;refine ⟨r,h1,?_,?_,?_⟩
 ·simp only [mEnd,h2.1,Ag,Bj]
 ·simp only [mEnd,h2.1,Ag,Bj,h2.2.1]
 ·simp only [mEnd,h2.1,Ag,Bj,h2.2.2]
def rawN (k n:Int) (a o:PV) (ks:PV):List PV:=[vInt k,vInt 0,vInt n,vStr ⟨#[]⟩,a,o,.val (.slice none 0 0),ks]
def j53:PV:=.seq [rawN 8 0 (.val (.slice none 0 0)) (.seq [[vInt 0]]) (.val (.slice none 0 0)),rawN 11 0 (.val (.slice none 0 0)) (.seq [[vInt 1]]) (.seq [[.seq [rawN 9 0 (.seq [[vInt 0]]) (.val (.slice none 0 0)) (.val (.slice none 0 0)),rawN 14 0 (.seq [[vInt 0]]) (.val (.slice none 0 0)) (.val (.slice none 0 0))]]]),rawN 15 0 (.seq [[vInt 1]]) (.val (.slice none 0 0)) (.val (.slice none 0 0))]
theorem wake_sub:PSub j53 (z17 wakeL):=by
 show PSub _ (.seq [_,_,_])
 repeat' (first | exact PSub.nil | exact PSub.refl _ | exact trivial | refine And.intro ?_ ?_ | refine PSub.seq (ps:=[_,_,_]) (qs:=[_,_,_]) ?_ | refine PSub.seq (ps:=[_,_]) (qs:=[_,_]) ?_ | refine PSub.seq (ps:=[_]) (qs:=[_]) ?_)
theorem yp6:z7g trB ⟨[],[]⟩=(⟨[],[]⟩,1):=y3a trB (by decide +kernel)
theorem j2d (L:List Nd) (hL:PSub j53 (z17 L)) (V:Un) (hH:z7g trB ⟨[],[⟨z0x,1,0,[1,1],L⟩]⟩=(V,0)) (hW:z0g ⟨[],[⟨z0x,1,0,[1,1],L⟩]⟩<=34000000000) (hVa:V.arrays=[]) (hVl:V.flows.length=1) (hVr:y45 V=true) (hVW:z0g V<=34000000000) (hVz:(z1b V).1=0)
 (r:Int × Rs) (hr:z4i V 20 (z06 z0x V.flows 0) [] (run0 [3] 5)=some r) (h1:(mEnd r).st=1) (h2:(mEnd r).code=3) (h3:(mEnd r).out=[3]):SC Tryz.prog 6 [] [] (λk=>k∈[]) (iBool true) []:=by
 refine SC.vc tb {} [] Tryz.func6 rfl rfl ?_;have hsc:=yc6 ⟨[],[⟨z0x,1,0,[1,1],L⟩]⟩ hW;rw [hH] at hsc;have hse:=yc6 ⟨[],[]⟩ dC0;rw [yp6] at hse;refine ⟨[],j3f [1,1] L,SubA.same (SubA.cons (sP hL) SubA.nil),G9,rfl,?_⟩;refine ⟨[],hsc,SubA.cons (sP (PSub.agg ⟨PSub.nil,PSub.refl _,G9⟩)) SubA.nil,G9,rfl,?_⟩;have hrun:=sc_run0 V hVa hVW hVz [3] 5 20 r hr;rw [show runv (mEnd r) = .agg [vInt 1,vInt 3,.seq [[vInt 3]],vInt (mEnd r).cost,vInt (mEnd r).fuel] by simp only [runv,h1,h2,h3];rfl] at hrun;have hsr:=yn0 V hVW;rw [hVr] at hsr;refine ⟨[],hrun,sR,G9,rfl,z00 (λhl=>?_) λhl=>by simp [hVl] at hl⟩;exact ⟨[],hsr,sR,G9,rfl,at0,rfl,[],hse,SubA.cons sEmp SubA.nil,G9,rfl,sI,G9⟩
theorem sc_awake:SC Tryz.prog 6 [] [] (λk=>k∈[]) (iBool true) []:=by
 obtain ⟨r,hr,h1,h2,h3⟩:=wake_run;have hc:=y2n ze3;exact j2d wakeL wake_sub (z47 trB y6h) (z60 trB ze3) y23 rfl rfl (by have:=y3j y6h;rw [z60 trB ze3] at this;exact this) (by have:=y5d trB yb0 y6h;rw [z60 trB ze3] at this;exact Bf this y23) (by rw [hc]) r hr h1 h2 h3
def riH (p:Pg) (lo:Lo) (vs:List (Value × PV)) (s:RiS):List (Nat × HO):=riBx p s.ts lo++riLx vs s.ns
def j1p (k:Int) (n:Nat) (b:Bool):Bool:=if k=5 then n==2 else if k=1∨k=2∨k=3∨k=4∨k=6∨k=8 then true else b
mutual
def riOk (p:Pg):Ex->Bool
 | .mk k _ _ nm args=>j1p k args.length (decide (0<=z3j p nm))&&zl7 p args
def zl7 (p:Pg):List Ex->Bool
 | []=>true
 | x::r=>riOk p x&&zl7 p r
end
theorem zc2 {p:Pg} {x:Ex}:∀ {l:List Ex},zl7 p l=true->x∈l->riOk p x=true
 | y::r,h,hm=>by
  simp only [zl7,A0] at h;rcases Ah.1 hm with rfl | hm
  ·exact h.1
  ·exact zc2 h.2 hm
def fRX (p:Pg) (lo:Lo) (vs:List (Value × PV)) (e:Ex):Prop:=∀ s:RiS,s.ts.length+4*xz e<=34000000000->s.ns.length+4*xz e<=34000000000->SC Tryz.prog 124 [.ptr 4 0,.pv (exv e)] (riH p lo vs s) (λk=>k∈[]) (iInt (riX p vs e s).1) (riH p lo vs (riX p vs e s).2)
def riLe (s s':RiS) (n:Nat):Prop:=s'.ts.length<=s.ts.length+4*n/\s'.ns.length<=s.ns.length+4*n
theorem riTop_le (p:Pg) (k o n:Int) (nm:ByteArray) (l:List Int) (s:RiS):riLe s (zq9 p k o n nm l s).2 1:=by
 unfold zq9 riLe
 repeat' split
 all_goals simp [z6h]
theorem ys8 (o a:Int) (ns:List Nd) (r:Int × RiS):(z6o o a ns r).2.ts.length=r.2.ts.length+2/\(z6o o a ns r).2.ns.length=ns.length+1:=by
 unfold z6o;split<;>simp [z6h]
theorem zu9 (p:Pg) (vs:List (Value × PV)):∀ (N:Nat),(∀ e:Ex,SizeOf.sizeOf e<N->∀ s,riLe s (riX p vs e s).2 (xz e))/\(∀ l:List Ex,SizeOf.sizeOf l<N->∀ s,riLe s (riXL p vs l s).2 (xzL l))/\(∀ (o:Int) (l:List Ex),SizeOf.sizeOf l<N->∀ s,riLe s (riSh p vs o l s).2 (1+xzL l))/\(∀ (o a:Int) (s:RiS) (l:List Ex),SizeOf.sizeOf l<N->riLe s (zl9 p vs o a s l).2 (1+xzL l))
 | 0=>⟨λ_ h=>absurd h (Ae _),λ_ h=>absurd h (Ae _),λ_ _ h=>absurd h (Ae _),λ_ _ _ _ h=>absurd h (Ae _)⟩
 | N+1=>by
  obtain ⟨h1,h2,h3,h4⟩:=zu9 p vs N;refine ⟨λe he s=>?_,λl hl s=>?_,λo l hl s=>?_,λo a s l hl=>?_⟩
  ·obtain ⟨k,o,n,nm,args⟩:=e;simp at he;rw [riX];split
   ·exact ⟨Be _ _,Be _ _⟩
   ·split
    ·have:=h3 o args oM0 s;simp only [xz];exact this
    ·have g1:=h2 args oM0 s;have g2:=riTop_le p k o n nm (riXL p vs args s).1 (riXL p vs args s).2;simp only [xz];unfold riLe at g1 g2 ⊢;omega
  ·match l with
   | []=>rw [riXL];exact ⟨Be _ _,Be _ _⟩
   | e::r =>
    simp at hl;have g1:=h1 e oM0 s;have g2:=h2 r oM0 (riX p vs e s).2;rw [riXL];simp only [xzL];unfold riLe at g1 g2 ⊢;omega
  ·match l with
   | []=>rw [riSh];exact ⟨Be _ _,Be _ _⟩
   | e::r =>
    simp at hl;have g1:=h1 e oM0 s;have g2:=h4 o (riX p vs e s).1 (riX p vs e s).2 r oM0;rw [riSh];simp only [xzL];unfold riLe at g1 g2 ⊢;omega
  ·match l with
   | []=>rw [zl9];exact ⟨Be _ _,Be _ _⟩
   | e::r =>
    simp at hl;have g1:=h1 e oM0 ⟨s.ts,[]⟩;have g2:=ys8 o a s.ns (riX p vs e ⟨s.ts,[]⟩);rw [zl9];simp only [xzL];unfold riLe at g1 ⊢;dsimp only at g1;omega
def riLk (a b c:Nat) (vs:List (Value × PV)) (ns:List Nd):List (Nat × HO):=[(a,.box [.ptr 1 0,.mp b,.sl c (ns.map Nd.enc).length]),(b,.map vs),(c,.row ndRt (ns.map Nd.enc))]
theorem riK14 {f:FuncId} {p p':Pg} {ts ts':List Int} {lo lo':Lo} {vs vs':List (Value × PV)} {ns ns':List Nd} {x:PV} {r:PV} (h:SC Tryz.prog f [.ptr 4 0,.pv x] (riBx p ts lo++riLx vs ns) (λk=>k∈[]) (.pv r) (riBx p' ts' lo'++riLx vs' ns')) :
 SC Tryz.prog f [.ptr 14 0,.pv x] (riBx p ts lo++riLk 14 15 16 vs ns) (λk=>k∈[]) (.pv r) (riBx p' ts' lo'++riLk 14 15 16 vs' ns'):=SC.sameR (((h.sw 4 14).sw 5 15).sw 6 16) λk _ hk=>absurd hk C2
theorem y3t (p:Pg) (ts:List Int) (lo:Lo) (vs:List (Value × PV)) (ns:List Nd):SC Tryz.prog 173 [.ptr 4 0] (riBx p ts lo++riLx vs ns) (λk=>k∈[1,2,3,4,5,6]) (.ptr 24 0) ([(24,.box [.ptr 1 0,.mp 25,.pv (.val (.slice none 0 0))]),(25,.map vs)]++(riBx p ts lo++riLx vs ns)) :=
 SC.sameR (((zd9 p ts lo vs ns).sw 14 24).sw 15 25) λk _ hk=>by
  simp only [Ah,C2,Fx] at hk;rcases hk with rfl | rfl | rfl | rfl | rfl | rfl<;>decide
theorem riP24 (p:Pg) (ts:List Int) (lo:Lo) (vs:List (Value × PV)) (ns:List Nd) (t k o n:Int) (nm:ByteArray) (args:List Int) (ks:List (List Nd)) (ht:ts.length<=34359738368) (hb:ns.length<=34359738368) :
 SC Tryz.prog 176 [.ptr 24 0,.pv (.val (.int .i64 t)),.pv (.agg [vInt k,vInt o,vInt n,vStr nm,ints args,ints [],ints [],kids ks])] (riBx p ts lo++riLk 24 25 26 vs ns) (λk=>k∈[]) (iInt (z6h t k o n nm args ks ⟨ts,ns⟩).1) (riBx p (z6h t k o n nm args ks ⟨ts,ns⟩).2.ts lo++riLk 24 25 26 vs (z6h t k o n nm args ks ⟨ts,ns⟩).2.ns) :=
 SC.sameR ((((z68 p ts lo vs ns t k o n nm args ks ht hb).sw 4 24).sw 5 25).sw 6 26) λk _ hk=>absurd hk C2
theorem riA14 (p:Pg) (ts:List Int) (lo:Lo) (vs:List (Value × PV)) (ns:List Nd) (x:Nd) (hb:ns.length<=34359738368):SC Tryz.prog 122 [.ptr 14 0,.pv (.agg [vInt x.kind,vInt x.op,vInt x.n,vStr x.name,ints x.args,ints x.outs,ints x.params,kids x.kids])] (riBx p ts lo++riLk 14 15 16 vs ns) (λk=>k∈[]) (.tup []) (riBx p ts lo++riLk 14 15 16 vs (ns++[x])) :=
 SC.sameR ((((z3y p ts lo vs ns x hb).sw 4 14).sw 5 15).sw 6 16) λk _ hk=>absurd hk C2
theorem riA24 (p:Pg) (ts:List Int) (lo:Lo) (vs:List (Value × PV)) (ns:List Nd) (x:Nd) (hb:ns.length<=34359738368):SC Tryz.prog 122 [.ptr 24 0,.pv (.agg [vInt x.kind,vInt x.op,vInt x.n,vStr x.name,ints x.args,ints x.outs,ints x.params,kids x.kids])] (riBx p ts lo++riLk 24 25 26 vs ns) (λk=>k∈[]) (.tup []) (riBx p ts lo++riLk 24 25 26 vs (ns++[x])) :=
 SC.sameR ((((z3y p ts lo vs ns x hb).sw 4 24).sw 5 25).sw 6 26) λk _ hk=>absurd hk C2
theorem y8l (p:Pg) (lo:Lo) (vs:List (Value × PV)) (n:Int) (nm:ByteArray) (e1 e2:Ex) (s:RiS) (h1:fRX p lo vs e1) (h2:fRX p lo vs e2) (hts:s.ts.length+4*(1+xz e1+xz e2)<=34000000000) (hns:s.ns.length+4*(1+xz e1+xz e2)<=34000000000) :
 SC Tryz.prog 175 [.ptr 4 0,.pv (.agg [vInt 5,vInt 18,vInt n,vStr nm,exs [e1,e2]])] (riH p lo vs s) (λk=>k∈[]) (iInt (riSh p vs 18 [e1,e2] s).1) (riH p lo vs (riSh p vs 18 [e1,e2] s).2):=by
 refine SC.vc tb { pb:=[103],ids:=[(35,30),(43,31)],ob:=[30,31],gh:=[(3,[.growC 14 2 16 46 8]),(5,[.fzC 14 2 16]),(9,[.growC 24 2 26 46 8]),(10,[.fzC 24 2 26]),(11,[.fz 9 30])] } [] Tryz.func175 rfl rfl ?_;have g1:=h1 s oM0 oM0;have l1:=(zu9 p vs _).1 e1 (A4 _) s;rw [riSh,zl9];generalize riX p vs e1 s=r1 at g1 l1 ⊢;obtain ⟨a,s1⟩:=r1;unfold riLe at l1;dsimp only at g1 l1 ⊢;have g2:=riK14 (h2 ⟨s1.ts,[]⟩ (by dsimp only;omega) (by simp;omega));have l2:=(zu9 p vs _).1 e2 (A4 _) ⟨s1.ts,[]⟩;generalize riX p vs e2 ⟨s1.ts,[]⟩=r2 at g2 l2 ⊢;obtain ⟨b,s2⟩:=r2;unfold riLe at l2;dsimp only at g2 l2;have g3:=riA14 p s2.ts lo vs s2.ns (.mk 12 0 0 ⟨#[]⟩ [b] [] [] []) (by simp at l2;omega);refine ⟨z1f (i:=0) rfl,rfl,[],g1,sR,Gf,rfl,[1,2,3,4,5,6],zd9 p s1.ts lo vs s1.ns,sR,⟨rfl,rfl,rfl,rfl,rfl,rfl,rfl,rfl,rfl,rfl,rfl,rfl,G9⟩,rfl,[1,2,3,4,5,6],y3t p s1.ts lo vs s1.ns,sR,⟨rfl,rfl,rfl,rfl,rfl,rfl,rfl,rfl,rfl,rfl,rfl,rfl,G9⟩,rfl,?_⟩;refine ⟨z1f (i:=1) rfl,rfl,[],g2,sR,Gf,rfl,[],g3,SubA.same (SubA.cons (sP (z0d _)) SubA.nil),Gf,rfl,?_⟩;have g4:=riP24 p s2.ts lo vs [] 2 2 0 0 ⟨#[]⟩ [] [] oM0 sI0;have g5:=riA24 p (s2.ts++[2]) lo vs [.mk 2 0 0 ⟨#[]⟩ [] [(s2.ts.length:Int)] [] []] (.mk 12 0 0 ⟨#[]⟩ [(s2.ts.length:Int)] [] [] []) sI0;have g6:=z68 p (s2.ts++[2]) lo vs s1.ns 2 10 0 0 ⟨#[]⟩ [a] [z6n 12 ⟨#[]⟩ [b] s2.ns,z6n 12 ⟨#[]⟩ [(s2.ts.length:Int)] [.mk 2 0 0 ⟨#[]⟩ [] [(s2.ts.length:Int)] [] []]] (by simp;omega) oM0;refine ⟨rfl,[],g4,SubA.same (SubA.same (SubA.cons (sP (z0d _)) SubA.nil)),Gf,rfl,[],g5,SubA.same (SubA.cons (sP (z0d _)) SubA.nil),Gf,rfl,?_⟩;refine ⟨rfl,rfl,(by decide:1<2),rfl,1,0,_,rfl,rfl,rfl,C0,rfl,?_⟩;exact ⟨[],g6,SubA.same (SubA.same (SubA.cons (sP (z0d _)) SubA.nil)),Gf,rfl,sI,rfl,rfl,rfl,rfl,rfl,rfl,G9⟩
theorem y8m (p:Pg) (lo:Lo) (vs:List (Value × PV)) (n:Int) (nm:ByteArray) (e1 e2:Ex) (s:RiS) (h1:fRX p lo vs e1) (h2:fRX p lo vs e2) (hts:s.ts.length+4*(1+xz e1+xz e2)<=34000000000) (hns:s.ns.length+4*(1+xz e1+xz e2)<=34000000000) :
 SC Tryz.prog 175 [.ptr 4 0,.pv (.agg [vInt 5,vInt 19,vInt n,vStr nm,exs [e1,e2]])] (riH p lo vs s) (λk=>k∈[]) (iInt (riSh p vs 19 [e1,e2] s).1) (riH p lo vs (riSh p vs 19 [e1,e2] s).2):=by
 refine SC.vc tb { pb:=[103],ids:=[(35,30),(43,31)],ob:=[30,31],gh:=[(3,[.growC 14 2 16 46 8]),(5,[.fzC 14 2 16]),(9,[.growC 24 2 26 46 8]),(10,[.fzC 24 2 26]),(11,[.fz 9 31])] } [] Tryz.func175 rfl rfl ?_;have g1:=h1 s oM0 oM0;have l1:=(zu9 p vs _).1 e1 (A4 _) s;rw [riSh,zl9];generalize riX p vs e1 s=r1 at g1 l1 ⊢;obtain ⟨a,s1⟩:=r1;unfold riLe at l1;dsimp only at g1 l1 ⊢;have g2:=riK14 (h2 ⟨s1.ts,[]⟩ (by dsimp only;omega) (by simp;omega));have l2:=(zu9 p vs _).1 e2 (A4 _) ⟨s1.ts,[]⟩;generalize riX p vs e2 ⟨s1.ts,[]⟩=r2 at g2 l2 ⊢;obtain ⟨b,s2⟩:=r2;unfold riLe at l2;dsimp only at g2 l2;have g3:=riA14 p s2.ts lo vs s2.ns (.mk 12 0 0 ⟨#[]⟩ [b] [] [] []) (by simp at l2;omega);refine ⟨z1f (i:=0) rfl,rfl,[],g1,sR,Gf,rfl,[1,2,3,4,5,6],zd9 p s1.ts lo vs s1.ns,sR,⟨rfl,rfl,rfl,rfl,rfl,rfl,rfl,rfl,rfl,rfl,rfl,rfl,G9⟩,rfl,[1,2,3,4,5,6],y3t p s1.ts lo vs s1.ns,sR,⟨rfl,rfl,rfl,rfl,rfl,rfl,rfl,rfl,rfl,rfl,rfl,rfl,G9⟩,rfl,?_⟩;refine ⟨z1f (i:=1) rfl,rfl,[],g2,sR,Gf,rfl,[],g3,SubA.same (SubA.cons (sP (z0d _)) SubA.nil),Gf,rfl,?_⟩;have g4:=riP24 p s2.ts lo vs [] 2 2 0 1 ⟨#[]⟩ [] [] oM0 sI0;have g5:=riA24 p (s2.ts++[2]) lo vs [.mk 2 0 1 ⟨#[]⟩ [] [(s2.ts.length:Int)] [] []] (.mk 12 0 0 ⟨#[]⟩ [(s2.ts.length:Int)] [] [] []) sI0;have g6:=z68 p (s2.ts++[2]) lo vs s1.ns 2 10 0 0 ⟨#[]⟩ [a] [z6n 12 ⟨#[]⟩ [(s2.ts.length:Int)] [.mk 2 0 1 ⟨#[]⟩ [] [(s2.ts.length:Int)] [] []],z6n 12 ⟨#[]⟩ [b] s2.ns] (by simp;omega) oM0;refine ⟨rfl,[],g4,SubA.same (SubA.same (SubA.cons (sP (z0d _)) SubA.nil)),Gf,rfl,[],g5,SubA.same (SubA.cons (sP (z0d _)) SubA.nil),Gf,rfl,?_⟩;refine ⟨rfl,rfl,(by decide:0<2),rfl,0,0,_,rfl,rfl,rfl,C0,rfl,?_⟩;exact ⟨[],g6,SubA.same (SubA.same (SubA.cons (sP (z0d _)) SubA.nil)),Gf,rfl,sI,rfl,rfl,rfl,rfl,rfl,rfl,G9⟩
theorem y85 (p:Pg) (vs:List (Value × PV)):∀ (l:List Ex) (e:Ex) (s:RiS),riXL p vs (l++[e]) s=((riXL p vs l s).1++[(riX p vs e (riXL p vs l s).2).1],(riX p vs e (riXL p vs l s).2).2)
 | [],e,s=>by simp [riXL]
 | x::r,e,s=>by
  have:=y85 p vs r e (riX p vs x s).2;simp only [B6,riXL,this]
theorem yl5 (p:Pg) (vs:List (Value × PV)):∀ (l:List Ex) (s:RiS),(riXL p vs l s).1.length=l.length
 | [],_=>by rw [riXL];rfl
 | x::r,s=>by rw [riXL];simp [yl5 p vs r]
theorem yp0:∀ (l:List Ex) (i:Nat),xzL (l.take i)+xzL (l.drop i)=xzL l
 | [],i=>by simp [xzL]
 | _::_,0=>by simp [xzL]
 | x::r,i+1=>by have:=yp0 r i;simp only [F9,F7,xzL];omega
theorem ym9 (p:Pg) (hp:szP p) (lo:Lo) (vs:List (Value × PV)) (hv:Cnt vs):∀ (N:Nat) (e:Ex),SizeOf.sizeOf e<N->xz e<=100000000->riOk p e=true->fRX p lo vs e
 | 0,_,h,_,_=>absurd h (Ae _)
 | N+1,.mk k o n nm args,hN,hx,hok=>by
  intro s hts hns;have hx0:=hx;simp only [xz] at hx hts hns;have hl:=za7 args;rw [riOk,A0] at hok;have ih:∀ x∈args,fRX p lo vs x:=λx hm=>ym9 p hp lo vs hv N x (by have:=Bl hm;simp at hN;omega) (by have:=zg1 hm;omega) (zc2 hok.2 hm)
  by_cases hs:k=5/\(o=18∨o=19)
  ·obtain ⟨rfl,ho⟩:=hs;have h2:args.length=2:=by have:=hok.1;unfold j1p at this;rw [if_pos rfl] at this;exact eq_of_beq this
   obtain ⟨e1,e2,rfl⟩:∃ e1 e2,args=[e1,e2]:=by
    match args,h2 with
    | [a,b],_=>exact ⟨a,b,rfl⟩
   simp only [xzL] at hts hns;rw [riX,if_neg dC0,if_pos ⟨rfl,ho⟩];rcases ho with rfl | rfl
   ·refine SC.vc tb { pb:=[103] } [] Tryz.func124 rfl rfl ?_;exact ⟨[],y8l p lo vs n nm e1 e2 s (ih e1 sI0) (ih e2 sI0) oM0 oM0,sR,Gf,rfl,sI,rfl,rfl,rfl,rfl,rfl,rfl,G9⟩
   ·refine SC.vc tb { pb:=[103] } [] Tryz.func124 rfl rfl ?_;exact ⟨[],y8m p lo vs n nm e1 e2 s (ih e1 sI0) (ih e2 sI0) oM0 oM0,sR,Gf,rfl,sI,rfl,rfl,rfl,rfl,rfl,rfl,G9⟩
  by_cases h3:k=3
  ·subst h3;rw [riX,if_pos rfl];refine SC.vc tb { pb:=[103] } [] Tryz.func124 rfl rfl ?_;exact VAsk.mk (p:=vInt (y2e vs nm)) (b:=(z1z (.string nm) vs).isSome) rfl hv.1 (E3 (hv.getI nm) rfl) ⟨sI,rfl,rfl,rfl,rfl,rfl,rfl,G9⟩
  rw [riX,if_neg h3,if_neg hs];refine SC.vc tb { pb:=[103],jn:=[5],gh:=[(6,[.grow 5 1001 3 1]),(11,[.fz 5 1001])] } [] Tryz.func124 rfl rfl ?_;refine ⟨Unit,λ_=>[],λ_=>[],λ_=>True,[],?_,?_⟩
  ·refine z00 (λc=>absurd (eq_of_beq c) h3) λ_=>z00 (λc=>?_) λc=>?_
   ·have c:k=5:=eq_of_beq c;exact z00 (λc2=>absurd ⟨c,.inl (eq_of_beq c2)⟩ hs) λ_=>z00 (λc2=>absurd ⟨c,.inr (eq_of_beq c2)⟩ hs) λ_=>⟨(),G9,G9,G9,rfl,rfl,rfl,rfl⟩
   ·exact ⟨(),G9,G9,G9,rfl,rfl,rfl,rfl⟩
  rintro _ _;have hle0:=(zu9 p vs _).2.1 args (A4 _) s;unfold riLe at hle0;have h00:riXL p vs (args.take 0) s=([],s):=by rw [List.take_zero,riXL]
  refine ⟨Nat,λi=>[(40,iInt ((i:Nat):Int)),(5,.sl 1001 ((riXL p vs (args.take i) s).1.map eInt).length)],λi=>(1001,.row inRt ((riXL p vs (args.take i) s).1.map eInt))::riH p lo vs (riXL p vs (args.take i) s).2,λi=>args.length - i,λi=>i<=args.length,[],0,A6 _,⟨rfl,(by simp only [h00];rfl),G9⟩,(by simp only [h00];exact Gg),?_⟩;clear h00 hs;intro i hi;have hle:=(zu9 p vs _).2.1 (args.take i) (A4 _) s;unfold riLe at hle;have hxt:=yp0 args i;have hlen:=yl5 p vs (args.take i) s;refine z00 (λhc=>?_) λhc=>?_
  ·have hlt:i<args.length:=z0y (f:=Ex.enc) rfl hc;obtain ⟨x,x1,x2,x3,x4⟩:=z0n hlt;rw [x3] at hxt;simp only [xzL] at hxt;have hsn:=y85 p vs (args.take i) x s;rw [<- x2] at hsn;generalize riXL p vs (args.take i) s=L at hle hlen hsn ⊢;obtain ⟨L1,q⟩:=L;dsimp only at hle hlen hsn;have hX:=ih x x4 q oM0 oM0;generalize riX p vs x q=W at hX hsn;obtain ⟨w1,w2⟩:=W;dsimp only at hX hsn;exact ⟨z1f x1,rfl,[],hX,sR,Gf,rfl,rfl,z3s rfl,by simp at hlen ⊢;omega,z01 rfl oM0,i+1,z04 hlt,hlt,⟨rfl,slq (by rw [hsn];simp),G9⟩,⟨rwq (by rw [hsn];simp [eInt]),by rw [hsn];rfl,by rw [hsn];rfl,rfl,by rw [hsn];rfl,rfl,by rw [hsn];rfl,G9⟩,rfl,rfl,rfl,rfl⟩
  ·have hge:args.length<=i:=z0z (f:=Ex.enc) rfl hc;rw [Am hge] at hlen ⊢;clear hle hxt;generalize riXL p vs args s=L at hle0 hlen ⊢;obtain ⟨l,q⟩:=L;dsimp only at hle0 hlen ⊢;have hpl:k≠1->k≠2->k≠4->k≠5->k≠6->k≠8->0<=z3j p nm:=λa b c d e f=>by
    have:=hok.1;unfold j1p at this;rw [if_neg d,if_neg oM0] at this;exact An this
   clear hok ih;generalize hT:zq9 p k o n nm l q=T;unfold zq9 at hT;refine ⟨rfl,z00 (λc=>?_) λc1=>z00 (λc=>?_) λc2=>z00 (λc=>?_) λc4=>z00 (λc=>?_) λc5=>z00 (λc=>?_) λc6=>z00 (λc=>?_) λc8=>?_⟩
   ·have c:k=1:=eq_of_beq c;rw [if_pos c] at hT;subst hT;exact ⟨[],z68 p q.ts lo vs q.ns 1 1 0 n ⟨#[]⟩ [] [] oM0 oM0,SubA.same (SubA.same (SubA.cons (sP (z0d _)) SubA.nil)),Gf,rfl,sI,rfl,rfl,rfl,rfl,rfl,rfl,G9⟩
   ·have c1:¬ k=1:=Ab.1 c1;have c:k=2:=eq_of_beq c;rw [if_neg c1,if_pos c] at hT;subst hT;exact ⟨[],z68 p q.ts lo vs q.ns 2 2 0 n ⟨#[]⟩ [] [] oM0 oM0,SubA.same (SubA.same (SubA.cons (sP (z0d _)) SubA.nil)),Gf,rfl,sI,rfl,rfl,rfl,rfl,rfl,rfl,G9⟩
   ·have c1:¬ k=1:=Ab.1 c1;have c2:¬ k=2:=Ab.1 c2;have c:k=4:=eq_of_beq c;rw [if_neg c1,if_neg c2,if_pos c] at hT;subst hT;exact ⟨[],y8j o,sR,G9,rfl,[],z68 p q.ts lo vs q.ns (y10 o) 3 o 0 ⟨#[]⟩ l [] oM0 oM0,SubA.same (SubA.same (SubA.cons (sP (z0d _)) SubA.nil)),Gf,rfl,sI,rfl,rfl,rfl,rfl,rfl,rfl,G9⟩
   ·have c1:¬ k=1:=Ab.1 c1;have c2:¬ k=2:=Ab.1 c2;have c4:¬ k=4:=Ab.1 c4;have c:k=5:=eq_of_beq c;rw [if_neg c1,if_neg c2,if_neg c4,if_pos c] at hT;subst hT;exact ⟨[],y8j o,sR,G9,rfl,[],z68 p q.ts lo vs q.ns (y10 o) 4 o 0 ⟨#[]⟩ l [] oM0 oM0,SubA.same (SubA.same (SubA.cons (sP (z0d _)) SubA.nil)),Gf,rfl,sI,rfl,rfl,rfl,rfl,rfl,rfl,G9⟩
   ·have c1:¬ k=1:=Ab.1 c1;have c2:¬ k=2:=Ab.1 c2;have c4:¬ k=4:=Ab.1 c4;have c5:¬ k=5:=Ab.1 c5;have c:k=6:=eq_of_beq c;rw [if_neg c1,if_neg c2,if_neg c4,if_neg c5,if_pos c] at hT;subst hT;exact ⟨[],z68 p q.ts lo vs q.ns 1 5 0 0 nm l [] oM0 oM0,SubA.same (SubA.same (SubA.cons (sP (z0d _)) SubA.nil)),Gf,rfl,sI,rfl,rfl,rfl,rfl,rfl,rfl,G9⟩
   ·have c1:¬ k=1:=Ab.1 c1;have c2:¬ k=2:=Ab.1 c2;have c4:¬ k=4:=Ab.1 c4;have c5:¬ k=5:=Ab.1 c5;have c6:¬ k=6:=Ab.1 c6;have c:k=8:=eq_of_beq c;rw [if_neg c1,if_neg c2,if_neg c4,if_neg c5,if_neg c6,if_pos c] at hT;subst hT;exact ⟨[],z68 p q.ts lo vs q.ns 1 8 0 0 ⟨#[]⟩ [] [] oM0 oM0,SubA.same (SubA.same (SubA.cons (sP (z0d _)) SubA.nil)),Gf,rfl,sI,rfl,rfl,rfl,rfl,rfl,rfl,G9⟩
   ·have c1:¬ k=1:=Ab.1 c1;have c2:¬ k=2:=Ab.1 c2;have c4:¬ k=4:=Ab.1 c4;have c5:¬ k=5:=Ab.1 c5;have c6:¬ k=6:=Ab.1 c6;have c8:¬ k=8:=Ab.1 c8;rw [if_neg c1,if_neg c2,if_neg c4,if_neg c5,if_neg c6,if_neg c8] at hT;subst hT;obtain ⟨j,j1,j2⟩:=zx2 (hpl c1 c2 c4 c5 c6 c8);exact ⟨[],ze1 p nm hp.1,sR,G9,rfl,z9q j2,j1,[],z68 p q.ts lo vs q.ns (fuAt p (z3j p nm)).ty 7 0 0 nm l [] oM0 oM0,SubA.same (SubA.same (SubA.cons (sP (z0d _)) SubA.nil)),Gf,rfl,sI,rfl,rfl,rfl,rfl,rfl,rfl,G9⟩
def riW (p:Pg) (lo:List (List ByteArray)) (s:RiT):List (Nat × HO):=riBx p s.ts ⟨lo,s.jk⟩++riLx s.vs s.ns
def scB (p:Pg) (l:List St) (lo:List (List ByteArray)) (s:RiT) (a:Bool × RiT):Prop:=SC Tryz.prog 38 [.ptr 4 0,.pv (sts l)] (riW p lo s) (λk=>k∈[]) (iBool a.1) (riW p lo a.2)
theorem scB14 {p:Pg} {l:List St} {lo:List (List ByteArray)} {s:RiT} {a:Bool × RiT} (h:scB p l lo s a):SC Tryz.prog 38 [.ptr 14 0,.pv (sts l)] (riBx p s.ts ⟨lo,s.jk⟩++riLk 14 15 16 s.vs s.ns) (λk=>k∈[]) (iBool a.1) (riBx p a.2.ts ⟨lo,a.2.jk⟩++riLk 14 15 16 a.2.vs a.2.ns):=SC.sameR (((h.sw 4 14).sw 5 15).sw 6 16) λk _ hk=>absurd hk C2
theorem y8k (vs:List (Value × PV)) (hv:Cnt vs) (l:List ByteArray) (hl:l.length<=34359738368):SC Tryz.prog 123 [.mp 15,.pv (txs l)] [(15,.map vs)] (λk=>k∈[15]) (.pv (ints (riOf vs l))) [(15,.map vs)]:=SC.sameR ((zi2 vs hv l hl).sw 5 15) λk _ hk=>by rw [Aj.1 hk];exact Dg
theorem ym8 (p:Pg) (l:List St) (z05:List ByteArray) (lo:List (List ByteArray)) (vs:List (Value × PV)) (ts:List Int) (jk:List (List ByteArray)) (ns:List Nd) (a:Bool × RiT) (hB:scB p l lo ⟨vs,ts,[],jk⟩ a) (hv:Cnt a.2.vs) (hnm:z05.length<=34359738368) (hns:a.2.ns.length<=34359738368) :
 SC Tryz.prog 170 [.ptr 4 0,.pv (sts l),.pv (txs z05)] (riW p lo ⟨vs,ts,ns,jk⟩) (λk=>k∈[]) (.pv (z17 (z5r 12 z05 a))) (riW p lo ⟨vs,a.2.ts,ns,a.2.jk⟩):=by
 refine SC.vc tb { ids:=[(9,14)],gh:=[(2,[.growC 14 2 16 46 8]),(4,[.fzC 14 2 16])] } [] Tryz.func170 rfl rfl ?_;have hK:=zd9 p ts ⟨lo,jk⟩ vs ns;have hB:=scB14 hB;obtain ⟨b,q⟩:=a;dsimp only at hv hns hB ⊢;refine ⟨[1,2,3,4,5,6],hK,sR,⟨rfl,rfl,rfl,rfl,rfl,rfl,rfl,rfl,rfl,rfl,rfl,rfl,G9⟩,rfl,[],hB,sR,Gf,rfl,?_⟩
 cases b
 ·exact ⟨[15],y8k q.vs hv z05 hnm,sR,Gb,rfl,[],riA14 p q.ts ⟨lo,q.jk⟩ q.vs q.ns (.mk 12 0 0 ⟨#[]⟩ (riOf q.vs z05) [] [] []) hns,SubA.same (SubA.cons (sP (z0d _)) SubA.nil),Gf,rfl,rfl,sI,rfl,rfl,rfl,rfl,rfl,rfl,G9⟩
 ·exact ⟨rfl,sI,rfl,rfl,rfl,rfl,rfl,rfl,G9⟩
structure NmOk (vs:List (Value × PV)) (ls:List (List St)) (n:Nat):Prop where
 sz:∀ l∈ls,szL l<=1073741824
 tx:∀ e∈z8g vs ls,(z6w e.1).size<=maxLen
 len:(z8g vs ls).length<=1073741824
 at_:∀ v∈riOf vs (z0a vs ls),0<=v/\v<n
theorem z9b (vs:List (Value × PV)) (ls:List (List St)):(z0a vs ls).length=(z8g vs ls).length:=by simp [z0a,zn0]
theorem yd7 (p:Pg) (x:St) (lo:List (List ByteArray)) (s:RiT) (hv:Cnt s.vs) (e:Ex) (he:x.args[0]? = some e) (c:Int × RiS)
 (hX:SC Tryz.prog 124 [.ptr 4 0,.pv (exv e)] (riH p ⟨lo,s.jk⟩ s.vs ⟨s.ts,s.ns⟩) (λk=>k∈[]) (iInt c.1) (riH p ⟨lo,s.jk⟩ s.vs c.2)) (a b:Bool × RiT)
 (hA:scB p x.thn lo ⟨s.vs,c.2.ts,[],s.jk⟩ a) (hB:scB p x.els lo ⟨s.vs,a.2.ts,[],a.2.jk⟩ b) (ha:Cnt a.2.vs) (hb:Cnt b.2.vs) (han:a.2.ns.length<=34000000000) (hbn:b.2.ns.length<=34000000000)
 (hN:NmOk s.vs [x.thn,x.els] b.2.ts.length) (hcn:c.2.ns.length<=34000000000) (hbt:b.2.ts.length<=33000000000) :
 SC Tryz.prog 120 [.ptr 4 0,.pv (stv x)] (riW p lo s) (λk=>k∈[]) (iBool (zd7 s (z0a s.vs [x.thn,x.els]) c a b).1) (riW p lo (zd7 s (z0a s.vs [x.thn,x.els]) c a b).2):=by
 refine SC.vc tb { pb:=[103] } [] Tryz.func120 rfl rfl ?_;have hC:=zv1 s.vs hv [x.thn,x.els] sI0 hN.sz hN.tx hN.len;have hln:=z9b s.vs [x.thn,x.els];have hl1:=hN.len;have hat:=hN.at_;generalize z0a s.vs [x.thn,x.els]=z05 at hC hln hat ⊢;have hA:=ym8 p x.thn z05 lo s.vs c.2.ts s.jk c.2.ns a hA ha oM0 oM0;have hB:=ym8 p x.els z05 lo s.vs a.2.ts a.2.jk c.2.ns b hB hb oM0 oM0;have hK:=zr1 (.mk 10 0 0 ⟨#[]⟩ [c.1] [] [] [z5r 12 z05 a,z5r 12 z05 b]);obtain ⟨c1,c2⟩:=c;obtain ⟨a1,a2⟩:=a;obtain ⟨b1,b2⟩:=b;unfold zd7 z6g;dsimp only at hX hA hB hK hcn hbt hat ⊢;refine ⟨z1f he,rfl,[],hX,sR,Gf,rfl,[5],hC,sR,Gb,rfl,[],hA,sR,Gf,rfl,[],hB,sR,Gf,rfl,?_⟩;refine ⟨[],hK,SubA.cons (sP (z0d _)) SubA.nil,G9,rfl,?_⟩;generalize z03 (.mk 10 0 0 ⟨#[]⟩ [c1] [] [] [z5r 12 z05 (a1,a2),z5r 12 z05 (b1,b2)])=k
 cases k
 ·have hO:=zi2 s.vs hv z05 oM0;have hlen:(riOf s.vs z05).length=z05.length:=by simp [riOf]
  have hL:=y1f p b2.ts ⟨lo,b2.jk⟩ (riOf s.vs z05) hat oM0;have hl2:=z3e (riOf s.vs z05) b2.ts;have hS:=y5w s.vs hv z05 (z15 b2.ts (riOf s.vs z05)).1 oM0 oM0;have hD:=z3y p (z15 b2.ts (riOf s.vs z05)).2 ⟨lo,b2.jk⟩ (zl8 s.vs z05 (z15 b2.ts (riOf s.vs z05)).1) c2.ns (.mk 10 0 0 ⟨#[]⟩ [c1] (z15 b2.ts (riOf s.vs z05)).1 [] [z5r 12 z05 (a1,a2),z5r 12 z05 (b1,b2)]) oM0;exact ⟨[5],hO,sR,Gb,rfl,[],hL,sR,Gc,rfl,[],hS,sR,Ga,rfl,[],hD,SubA.same (SubA.cons (sP (z0d _)) SubA.nil),Gf,rfl,sI,rfl,rfl,rfl,rfl,rfl,rfl,G9⟩
 ·have hD:=z3y p b2.ts ⟨lo,b2.jk⟩ s.vs c2.ns (.mk 10 0 0 ⟨#[]⟩ [c1] [] [] [z5r 12 z05 (a1,a2),z5r 12 z05 (b1,b2)]) oM0;exact ⟨[],hD,SubA.same (SubA.cons (sP (z0d _)) SubA.nil),Gf,rfl,sI,rfl,rfl,rfl,rfl,rfl,rfl,G9⟩
theorem yd9 (p:Pg) (x:St) (z05:List ByteArray) (lo:List (List ByteArray)) (s:RiT) (e:Ex) (he:x.args[0]? = some e) (ht:zc3 e=true) (a:Bool × RiT) (hA:scB p x.thn lo s a) (ha:Cnt a.2.vs) (hnm:z05.length<=34359738368) (han:a.2.ns.length<=34000000000) :
 SC Tryz.prog 174 [.ptr 4 0,.pv (stv x),.pv (txs z05)] (riW p lo s) (λk=>k∈[]) (.tup []) (riW p lo ⟨a.2.vs,a.2.ts,z5r 13 z05 a,a.2.jk⟩):=by
 refine SC.vc tb { pb:=[104,106] } [] Tryz.func174 rfl rfl ?_;unfold zc3 at ht;rw [A0] at ht;refine ⟨z1f he,rfl,z00 (λh1=>z00 (λh2=>?_) λh2=>absurd (ht.2.symm.trans h2) dC0) λh1=>absurd (ht.1.symm.trans h1) dC0⟩;obtain ⟨b,q⟩:=a;unfold z5r;dsimp only at hA ha han ⊢;refine ⟨[],hA,sR,Gf,rfl,?_⟩
 cases b
 ·exact ⟨[5],zi2 q.vs ha z05 hnm,sR,Gb,rfl,[],z3y p q.ts ⟨lo,q.jk⟩ q.vs q.ns (.mk 13 0 0 ⟨#[]⟩ (riOf q.vs z05) [] [] []) oM0,SubA.same (SubA.cons (sP (z0d _)) SubA.nil),Gf,rfl,sI,rfl,rfl,rfl,rfl,rfl,rfl,G9⟩
 ·exact ⟨sI,rfl,rfl,rfl,rfl,rfl,rfl,G9⟩
theorem ye0 (p:Pg) (x:St) (z05:List ByteArray) (lo:List (List ByteArray)) (s:RiT) (hv:Cnt s.vs) (e:Ex) (he:x.args[0]? = some e) (ht:zc3 e=false) (c:Int × RiS)
 (hX:SC Tryz.prog 124 [.ptr 4 0,.pv (exv e)] (riH p ⟨lo,s.jk⟩ s.vs ⟨s.ts,s.ns⟩) (λk=>k∈[]) (iInt c.1) (riH p ⟨lo,s.jk⟩ s.vs c.2)) (a:Bool × RiT)
 (hA:scB p x.thn lo ⟨s.vs,c.2.ts,[],s.jk⟩ a) (ha:Cnt a.2.vs) (hnm:z05.length<=34359738368) (han:a.2.ns.length<=34000000000) (hcn:c.2.ns.length<=34000000000) :
 SC Tryz.prog 174 [.ptr 4 0,.pv (stv x),.pv (txs z05)] (riW p lo s) (λk=>k∈[]) (.tup []) (riW p lo ⟨s.vs,a.2.ts,z9c z05 s.vs c a,a.2.jk⟩):=by
 refine SC.vc tb { pb:=[104,106],ids:=[(43,14)],gh:=[(7,[.growC 14 2 16 46 8]),(9,[.fzC 14 2 16])] } [] Tryz.func174 rfl rfl ?_;have hA:=scB14 hA;have hK:=zd9 p c.2.ts ⟨lo,s.jk⟩ s.vs c.2.ns;have hD:=z3y p a.2.ts ⟨lo,a.2.jk⟩ s.vs c.2.ns (.mk 10 0 0 ⟨#[]⟩ [c.1] [] [] [z5r 13 z05 a,z6n 14 ⟨#[]⟩ (riOf s.vs z05) []]) oM0;unfold z9c;obtain ⟨c1,c2⟩:=c;obtain ⟨b,q⟩:=a;unfold z5r at hD ⊢;dsimp only at hX hA hK hD ha han hcn ⊢;have hS:∀ (l:List Nd),SubI (.pv (.agg [vInt 10,vInt 0,vInt 0,vStr ⟨#[]⟩,ints [c1],.val (.slice none 0 0),.val (.slice none 0 0),.seq [[z17 l],[.seq [[vInt 14,vInt 0,vInt 0,vStr ⟨#[]⟩,ints (riOf s.vs z05),.val (.slice none 0 0),.val (.slice none 0 0),.val (.slice none 0 0)]]]]])) (.pv (.agg [vInt 10,vInt 0,vInt 0,vStr ⟨#[]⟩,ints [c1],ints [],ints [],kids [l,z6n 14 ⟨#[]⟩ (riOf s.vs z05) []]])):=λl=>sP (PSub.agg ⟨PSub.refl _,PSub.refl _,PSub.refl _,PSub.refl _,PSub.refl _,PSub.nil,PSub.nil,PSub.seq ⟨⟨PSub.refl _,G9⟩,⟨PSub.seq ⟨y0e _,G9⟩,G9⟩,G9⟩,G9⟩)
 cases b
 ·refine ⟨z1f he,rfl,z00 (λh1=>z00 (λh2=>absurd (show zc3 e=true by unfold zc3;rw [show (e.kind==2)=true from h1,show (e.n==1)=true from h2];rfl) (by rw [ht];decide)) λh2=>?_) λh1=>?_⟩
  all_goals exact ⟨z1f he,rfl,[],hX,sR,Gf,rfl,[1,2,3,4,5,6],hK,sR,⟨rfl,rfl,rfl,rfl,rfl,rfl,rfl,rfl,rfl,rfl,rfl,rfl,G9⟩,rfl,[],hA,sR,Gf,rfl,[15],y8k q.vs ha z05 hnm,sR,Gb,rfl,[],riA14 p q.ts ⟨lo,q.jk⟩ q.vs q.ns (.mk 13 0 0 ⟨#[]⟩ (riOf q.vs z05) [] [] []) oM0,SubA.same (SubA.cons (sP (z0d _)) SubA.nil),Gf,rfl,rfl,[5],zi2 s.vs hv z05 hnm,sR,Gb,rfl,[],hD,SubA.same (SubA.cons (hS _) SubA.nil),Gf,rfl,sI,rfl,rfl,rfl,rfl,rfl,rfl,G9⟩
 ·refine ⟨z1f he,rfl,z00 (λh1=>z00 (λh2=>absurd (show zc3 e=true by unfold zc3;rw [show (e.kind==2)=true from h1,show (e.n==1)=true from h2];rfl) (by rw [ht];decide)) λh2=>?_) λh1=>?_⟩
  all_goals exact ⟨z1f he,rfl,[],hX,sR,Gf,rfl,[1,2,3,4,5,6],hK,sR,⟨rfl,rfl,rfl,rfl,rfl,rfl,rfl,rfl,rfl,rfl,rfl,rfl,G9⟩,rfl,[],hA,sR,Gf,rfl,rfl,[5],zi2 s.vs hv z05 hnm,sR,Gb,rfl,[],hD,SubA.same (SubA.cons (hS _) SubA.nil),Gf,rfl,sI,rfl,rfl,rfl,rfl,rfl,rfl,G9⟩
def scR (p:Pg) (x:St) (z05:List ByteArray) (lo:List (List ByteArray)) (s r:RiT):Prop:=SC Tryz.prog 174 [.ptr 4 0,.pv (stv x),.pv (txs z05)] (riW p lo s) (λk=>k∈[]) (.tup []) (riW p lo r)
theorem scR14 {p:Pg} {x:St} {z05:List ByteArray} {lo:List (List ByteArray)} {s r:RiT} (h:scR p x z05 lo s r):SC Tryz.prog 174 [.ptr 14 0,.pv (stv x),.pv (txs z05)] (riBx p s.ts ⟨lo,s.jk⟩++riLk 14 15 16 s.vs s.ns) (λk=>k∈[]) (.tup []) (riBx p r.ts ⟨lo,r.jk⟩++riLk 14 15 16 r.vs r.ns):=SC.sameR (((h.sw 4 14).sw 5 15).sw 6 16) λk _ hk=>absurd hk C2
theorem yu6 (vs:List (Value × PV)) (hv:Cnt vs) (l:List ByteArray) (q:List Int) (hq:l.length=q.length) (hl:l.length<=34359738368):SC Tryz.prog 172 [.mp 15,.pv (txs l),.pv (ints q)] [(15,.map vs)] (λk=>k∈[]) (.tup []) [(15,.map (zl8 vs l q))]:=SC.sameR ((y5w vs hv l q hq hl).sw 5 15) λk _ hk=>absurd hk C2
theorem tail_app {α:Type} (a b:List α) (x:α):(b=[]/\a++[x]++b.tail=a++b++[x])∨(b≠[]/\a++[x]++b.tail=(a++b).set a.length x):=by
 cases b with
 | nil=>exact .inl ⟨rfl,by simp⟩
 | cons y r=>exact .inr ⟨by simp,by simp⟩
theorem y8i (p:Pg) (x:St) (lo:List (List ByteArray)) (s:RiT) (hv:Cnt s.vs) (r:RiT) (hR:scR p x (z0a s.vs [x.thn]) (lo++[z0a s.vs [x.thn]]) (z2a s (z0a s.vs [x.thn])) r)
 (hN:NmOk s.vs [x.thn] s.ts.length) (hts:s.ts.length<=33000000000) (hns:s.ns.length<=34000000000) (hrt:s.ts.length<=r.ts.length) (hrt2:r.ts.length<=33000000000) (hlo:lo.length<=1000000000) (hjk:s.jk.length<=1000000000) :
 SC Tryz.prog 121 [.ptr 4 0,.pv (stv x)] (riW p lo s) (λk=>k∈[])
  (iBool (z6g s.vs (z0a s.vs [x.thn]) r.ts s.ns (z0a s.vs [x.thn]::r.jk) 11 (riOf s.vs (z0a s.vs [x.thn])) (z15 s.ts (riOf s.vs (z0a s.vs [x.thn]))).1 [r.ns]).1)
  (riW p lo (z6g s.vs (z0a s.vs [x.thn]) r.ts s.ns (z0a s.vs [x.thn]::r.jk) 11 (riOf s.vs (z0a s.vs [x.thn])) (z15 s.ts (riOf s.vs (z0a s.vs [x.thn]))).1 [r.ns]).2):=by
 refine SC.vc tb { pb:=[103],ids:=[(32,14)],gh:=[(5,[.growC 14 2 16 46 8]),(9,[.fzC 14 2 16])] } [] Tryz.func121 rfl rfl ?_;have hC:=zv1 s.vs hv [x.thn] sI0 hN.sz hN.tx hN.len;have hln:=z9b s.vs [x.thn];have hl1:=hN.len;have hat:=hN.at_;generalize z0a s.vs [x.thn]=z05 at hC hln hat hR ⊢;have hO:=zi2 s.vs hv z05 oM0;have hlen:(riOf s.vs z05).length=z05.length:=by simp [riOf]
 have hL:=y1f p s.ts ⟨lo,s.jk⟩ (riOf s.vs z05) hat oM0;have hl2:=z3e (riOf s.vs z05) s.ts;have hK:=zd9 p (z15 s.ts (riOf s.vs z05)).2 ⟨lo,s.jk⟩ s.vs s.ns;have hS:=yu6 s.vs hv z05 (z15 s.ts (riOf s.vs z05)).1 oM0 oM0;have hR:=scR14 hR;unfold z2a at hR;have hQ:=zr1 (.mk 11 0 0 ⟨#[]⟩ (riOf s.vs z05) [] (z15 s.ts (riOf s.vs z05)).1 [r.ns]);unfold z6g;refine ⟨[5],hC,sR,Gb,rfl,[5],hO,sR,Gb,rfl,[],hL,sR,Gc,rfl,?_⟩;refine ⟨[1,2,3,4,5,6],hK,sR,⟨rfl,rfl,rfl,rfl,rfl,rfl,rfl,rfl,rfl,rfl,rfl,rfl,G9⟩,rfl,[],hS,sR,Ga,rfl,?_⟩;refine VApp1.mk (m':=((lo++[z05]++s.jk.tail).map eTxs).length) (els':=(lo++[z05]++s.jk.tail).map eTxs) rfl (z3s rfl) (by simp;omega) ?_ ?_
 ·rcases tail_app lo s.jk z05 with ⟨h1,h2⟩ | ⟨h1,h2⟩
  ·rw [h2,h1];exact .inr ⟨by simp,by simp [eTxs];rfl,by simp⟩
  ·have:=D2.2 h1;rw [h2];exact .inl ⟨by simp;omega,by simp [C8];rfl,by simp⟩
 refine ⟨rfl,[],hR,sR,⟨boq sI0,rfl,rfl,rfl,rfl,rfl,G9⟩,rfl,?_⟩;refine ⟨rfl,z2w (z:=(lo.length:Int)) sI0 oM0,rfl,lo.length,rfl,by simp,rfl,?_⟩;refine ⟨rfl,[],hQ,SubA.cons (sP (z0d _)) SubA.nil,G9,rfl,?_⟩;generalize z03 (.mk 11 0 0 ⟨#[]⟩ (riOf s.vs z05) [] (z15 s.ts (riOf s.vs z05)).1 [r.ns])=k
 cases k
 ·have hL2:=y1f p r.ts ⟨lo,z05::r.jk⟩ (riOf s.vs z05) (λv hv=>⟨(hat v hv).1,by have:=(hat v hv).2;omega⟩) oM0;have hl3:=z3e (riOf s.vs z05) r.ts;have hS2:=y5w s.vs hv z05 (z15 r.ts (riOf s.vs z05)).1 oM0 oM0;have hD:=z3y p (z15 r.ts (riOf s.vs z05)).2 ⟨lo,z05::r.jk⟩ (zl8 s.vs z05 (z15 r.ts (riOf s.vs z05)).1) s.ns (.mk 11 0 0 ⟨#[]⟩ (riOf s.vs z05) (z15 r.ts (riOf s.vs z05)).1 (z15 s.ts (riOf s.vs z05)).1 [r.ns]) oM0;exact ⟨[5],hO,sR,Gb,rfl,[],hL2,sR,⟨boq sI0,rfl,rwq sI0,G9⟩,rfl,[],hS2,sR,Ga,rfl,[],hD,sR,Gf,rfl,sI,rfl,rfl,rfl,rfl,rfl,rfl,G9⟩
 ·have hD:=z3y p r.ts ⟨lo,z05::r.jk⟩ s.vs s.ns (.mk 11 0 0 ⟨#[]⟩ (riOf s.vs z05) [] (z15 s.ts (riOf s.vs z05)).1 [r.ns]) oM0;exact ⟨[],hD,SubA.same (SubA.cons (sP (z0d _)) SubA.nil),⟨boq sI0,rfl,rwq sI0,rfl,rfl,rfl,G9⟩,rfl,sI,rfl,rfl,rfl,rfl,rfl,rfl,G9⟩
abbrev scX (p:Pg) (e:Ex) (lo:List (List ByteArray)) (vs:List (Value × PV)) (jk:List (List ByteArray)) (s:RiS) (c:Int × RiS):Prop:=SC Tryz.prog 124 [.ptr 4 0,.pv (exv e)] (riH p ⟨lo,jk⟩ vs s) (λk=>k∈[]) (iInt c.1) (riH p ⟨lo,jk⟩ vs c.2)
theorem y1g (p:Pg) (k ty:Int) (nm:ByteArray) (args:List Ex) (thn els:List St) (lo:List (List ByteArray)) (s:RiT) (hv:Cnt s.vs) (e:Ex) (he:args[0]? = some e) (hX:scX p e lo s.vs s.jk ⟨s.ts,s.ns⟩ (riX p s.vs e ⟨s.ts,s.ns⟩)) (hn:(riX p s.vs e ⟨s.ts,s.ns⟩).2.ns.length<=34000000000)
 (h3:k=3->∃ e2,args[1]? = some e2/\scX p e2 lo s.vs s.jk (riX p s.vs e ⟨s.ts,s.ns⟩).2 (riX p s.vs e2 (riX p s.vs e ⟨s.ts,s.ns⟩).2)/\(riX p s.vs e2 (riX p s.vs e ⟨s.ts,s.ns⟩).2).2.ns.length<=34000000000) :
 SC Tryz.prog 125 [.ptr 4 0,.pv (stv (.mk k ty nm args thn els))] (riW p lo s) (λk=>k∈[]) (.tup []) (riW p lo (zd8 p k nm args s)):=by
 refine SC.vc tb { pb:=[103] } [] Tryz.func125 rfl rfl ?_;have g0:args.getD 0 ex0=e:=by rw [Ax,he];rfl
 unfold zd8;rw [g0];generalize riX p s.vs e ⟨s.ts,s.ns⟩=c at hX hn h3 ⊢;obtain ⟨c1,c2⟩:=c;dsimp only at hX hn h3 ⊢;refine ⟨z1f he,rfl,[],hX,sR,Gf,rfl,?_⟩;rcases (show k=1∨k=2∨k=3∨k=9∨(k≠1/\k≠2/\k≠3/\k≠9) by omega) with rfl | rfl | rfl | rfl | ⟨k1,k2,k3,k9⟩
 ·exact ⟨rfl,hv.1,sI,rfl,rfl,rfl,rfl,rfl,rfl,G9⟩
 ·exact ⟨rfl,hv.1,sI,rfl,rfl,rfl,rfl,rfl,rfl,G9⟩
 ·obtain ⟨e2,i1,i2,i3⟩:=h3 rfl;have g1:args.getD 1 ex0=e2:=by rw [Ax,i1];rfl
  rw [g1];generalize riX p s.vs e2 c2=d at i2 i3 ⊢;obtain ⟨d1,d2⟩:=d;dsimp only at i2 i3 ⊢;exact ⟨z1f i1,rfl,[],i2,sR,Gf,rfl,[],z3y p d2.ts ⟨lo,s.jk⟩ s.vs d2.ns (.mk 6 0 0 nm [c1,d1] [] [] []) oM0,SubA.same (SubA.cons (sP (z0d _)) SubA.nil),Gf,rfl,sI,rfl,rfl,rfl,rfl,rfl,rfl,G9⟩
 ·exact ⟨[],z3y p c2.ts ⟨lo,s.jk⟩ s.vs c2.ns (.mk 9 0 0 ⟨#[]⟩ [c1] [] [] []) oM0,SubA.same (SubA.cons (sP (z0d _)) SubA.nil),Gf,rfl,sI,rfl,rfl,rfl,rfl,rfl,rfl,G9⟩
 ·rw [if_neg oM0,if_neg k3,if_neg k9];have no:∀ {i:Int},k≠i->(k==i)=true->False:=λh e=>h (eq_of_beq e);exact z00 (λh=>(no k1 h).elim) λ_=>z00 (λh=>(no k2 h).elim) λ_=>z00 (λh=>(no k3 h).elim) λ_=>z00 (λh=>(no k9 h).elim) λ_=>⟨sI,rfl,rfl,rfl,rfl,rfl,rfl,G9⟩
def scS (p:Pg) (x:St) (lo:List (List ByteArray)) (s:RiT) (a:Bool × RiT):Prop:=SC Tryz.prog 70 [.ptr 4 0,.pv (stv x)] (riW p lo s) (λk=>k∈[]) (iBool a.1) (riW p lo a.2)
theorem yu4 (p:Pg) (ty:Int) (nm:ByteArray) (args:List Ex) (thn els:List St) (lo:List (List ByteArray)) (s:RiT) (a:Bool × RiT)
 (h:SC Tryz.prog 120 [.ptr 4 0,.pv (stv (.mk 4 ty nm args thn els))] (riW p lo s) (λk=>k∈[]) (iBool a.1) (riW p lo a.2)):scS p (.mk 4 ty nm args thn els) lo s a:=by
 refine SC.vc tb { pb:=[103] } [] Tryz.func70 rfl rfl ?_;exact ⟨[],h,sR,Gf,rfl,sI,rfl,rfl,rfl,rfl,rfl,rfl,G9⟩
theorem y3s (p:Pg) (ty:Int) (nm:ByteArray) (args:List Ex) (thn els:List St) (lo:List (List ByteArray)) (s:RiT) (a:Bool × RiT)
 (h:SC Tryz.prog 121 [.ptr 4 0,.pv (stv (.mk 5 ty nm args thn els))] (riW p lo s) (λk=>k∈[]) (iBool a.1) (riW p lo a.2)):scS p (.mk 5 ty nm args thn els) lo s a:=by
 refine SC.vc tb { pb:=[103] } [] Tryz.func70 rfl rfl ?_;exact ⟨[],h,sR,Gf,rfl,sI,rfl,rfl,rfl,rfl,rfl,rfl,G9⟩
theorem yd8 (p:Pg) (k ty:Int) (hk:k=6∨k=7) (nm:ByteArray) (args:List Ex) (thn els:List St) (lo:List (List ByteArray)) (hlo:lo≠[]) (s:RiT) (hv:Cnt s.vs) (hl:lo.length<=1000000000) (hln:(lo.getLastD []).length<=1000000000) (hn:s.ns.length<=34000000000):scS p (.mk k ty nm args thn els) lo s (riS p (.mk k ty nm args thn els) lo s):=by
 have hO:=zi2 s.vs hv (lo.getLastD []) oM0;have hpos:=D2.2 hlo;have hg:((lo++s.jk).map eTxs)[lo.length - 1]? = some (eTxs (lo.getLastD [])):=by
  rw [B8,Aq oM0,<- Ee]
  cases lo with
  | nil=>exact absurd rfl hlo
  | cons y r=>simp [List.getLast?_cons,List.getLastD_eq_getLast?]
 rw [riS];refine SC.vc tb { pb:=[103] } [] Tryz.func70 rfl rfl ?_;rcases hk with rfl | rfl
 ·refine ⟨rfl,z2w (z:=((lo.length:Nat):Int) - 1) sI0 oM0,rfl,VIdR.mk (i:=lo.length - 1) (by simp;omega) oM0 (VRow.mk (i:=lo.length - 1) (j:=0) rfl rfl hg rfl ?_)⟩;exact ⟨[5],hO,sR,Gb,rfl,[],z3y p s.ts ⟨lo,s.jk⟩ s.vs s.ns (.mk 14 0 0 ⟨#[]⟩ (riOf s.vs (lo.getLastD [])) [] [] []) oM0,SubA.same (SubA.cons (sP (z0d _)) SubA.nil),Gf,rfl,sI,rfl,rfl,rfl,rfl,rfl,rfl,G9⟩
 ·refine ⟨rfl,z2w (z:=((lo.length:Nat):Int) - 1) sI0 oM0,rfl,VIdR.mk (i:=lo.length - 1) (by simp;omega) oM0 (VRow.mk (i:=lo.length - 1) (j:=0) rfl rfl hg rfl ?_)⟩;exact ⟨[5],hO,sR,Gb,rfl,[],z3y p s.ts ⟨lo,s.jk⟩ s.vs s.ns (.mk 13 0 0 ⟨#[]⟩ (riOf s.vs (lo.getLastD [])) [] [] []) oM0,SubA.same (SubA.cons (sP (z0d _)) SubA.nil),Gf,rfl,sI,rfl,rfl,rfl,rfl,rfl,rfl,G9⟩
theorem yu5 (p:Pg) (ty:Int) (nm:ByteArray) (args:List Ex) (thn els:List St) (lo:List (List ByteArray)) (s:RiT) (e:Ex) (he:args[0]? = some e) (hX:scX p e lo s.vs s.jk ⟨s.ts,s.ns⟩ (riX p s.vs e ⟨s.ts,s.ns⟩)) (hn:(riX p s.vs e ⟨s.ts,s.ns⟩).2.ns.length<=34000000000):scS p (.mk 8 ty nm args thn els) lo s (riS p (.mk 8 ty nm args thn els) lo s):=by
 have g0:args.getD 0 ex0=e:=by rw [Ax,he];rfl
 rw [riS,if_neg dC0,if_neg dC0,if_neg dC0,if_neg dC0,if_pos rfl,g0];refine SC.vc tb { pb:=[103] } [] Tryz.func70 rfl rfl ?_;generalize riX p s.vs e ⟨s.ts,s.ns⟩=c at hX hn ⊢;obtain ⟨c1,c2⟩:=c;dsimp only at hX hn ⊢;exact ⟨z1f he,rfl,[],hX,sR,Gf,rfl,[],z3y p c2.ts ⟨lo,s.jk⟩ s.vs c2.ns (.mk 15 0 0 ⟨#[]⟩ [c1] [] [] []) oM0,SubA.same (SubA.cons (sP (z0d _)) SubA.nil),Gf,rfl,sI,rfl,rfl,rfl,rfl,rfl,rfl,G9⟩
theorem y3r (p:Pg) (k ty:Int) (h4:k≠4) (h5:k≠5) (h6:k≠6) (h7:k≠7) (h8:k≠8) (nm:ByteArray) (args:List Ex) (thn els:List St) (lo:List (List ByteArray)) (s:RiT)
 (h:SC Tryz.prog 125 [.ptr 4 0,.pv (stv (.mk k ty nm args thn els))] (riW p lo s) (λk=>k∈[]) (.tup []) (riW p lo (zd8 p k nm args s))):scS p (.mk k ty nm args thn els) lo s (riS p (.mk k ty nm args thn els) lo s):=by
 rw [riS,if_neg h4,if_neg h5,if_neg h6,if_neg h7,if_neg h8];refine SC.vc tb { pb:=[103] } [] Tryz.func70 rfl rfl ?_;have no:∀ {i:Int},k≠i->(k==i)=true->False:=λh e=>h (eq_of_beq e);exact z00 (λh=>(no h4 h).elim) λ_=>z00 (λh=>(no h5 h).elim) λ_=>z00 (λh=>(no h6 h).elim) λ_=>z00 (λh=>(no h7 h).elim) λ_=>z00 (λh=>(no h8 h).elim) λ_=>⟨[],h,sR,Gf,rfl,sI,rfl,rfl,rfl,rfl,rfl,rfl,G9⟩
def riIx (p:Pg) (lo:List (List ByteArray)):List St->Int->RiT->Int
 | [],_,_=>-1
 | x::r,j,s=>if (riS p x lo s).1 then j else riIx p lo r (j+1) (riS p x lo s).2
theorem j1r (p:Pg) (lo:List (List ByteArray)):∀ (l:List St) (j:Int) (s:RiT),0<=j->decide (riIx p lo l j s ≥ 0)=(riB p l lo s).1
 | [],_,_,_=>by rw [riIx,riB];rfl
 | x::r,j,s,hj=>by
  rw [riIx,riB];split
  ·simp [hj]
  ·exact j1r p lo r (j+1) _ oM0
theorem sc_riIdx (p:Pg) (lo:List (List ByteArray)) (l:List St) (s0:RiT) (I:Nat->RiT->Prop) (h0:I 0 s0) (hS:∀ i x s,l[i]? = some x->I i s->scS p x lo s (riS p x lo s)/\((riS p x lo s).1=false->I (i+1) (riS p x lo s).2)) :
 SC Tryz.prog 119 [.pv (sts l),.fn (.func 70) [.ptr 4 0] []] (riW p lo s0) (λk=>k∈[]) (iInt (riIx p lo l 0 s0)) (riW p lo (riB p l lo s0).2):=by
 refine SC.vc tb { gh:=[(0,[.len 0])] } [] Tryz.func119 rfl rfl ?_;intro hl;simp only [A5] at hl;have hl:l.length<=9223372036854775807:=hl;refine ⟨Nat × RiT,λa=>[(8,iInt ((a.1:Nat):Int))],λa=>riW p lo a.2,λa=>l.length - a.1,λa=>a.1<=l.length/\I a.1 a.2/\riIx p lo l 0 s0=riIx p lo (l.drop a.1) a.1 a.2/\riB p l lo s0=riB p (l.drop a.1) lo a.2,[],(0,s0),⟨A6 _,h0,rfl,rfl⟩,Ga,Gf,?_⟩;rintro ⟨i,s⟩ ⟨i1,i2,i3,i4⟩;dsimp only at i1 i2 i3 i4;refine z00 (λhc=>?_) λhc=>?_
 ·have hlt:i<l.length:=z0y (f:=St.enc) rfl hc;obtain ⟨x,x1,x2,x3,x4⟩:=z0n hlt;obtain ⟨hx,hI⟩:=hS i x s x1 i2;rw [x3,riIx] at i3;rw [x3,riB] at i4;unfold scS at hx;generalize riS p x lo s=a at hx hI i3 i4;obtain ⟨b,q⟩:=a;dsimp only at hx hI i3 i4
  cases b
  ·simp only [Ag,Bj] at i3 i4;exact ⟨zi8 x1,rfl,hx,sR,Gf,λk hk=>hk,rfl,rfl,z01 rfl oM0,(i+1,q),z04 hlt,⟨hlt,hI rfl,i3,i4⟩,Ga,Gf,rfl,rfl,rfl,rfl⟩
  ·simp only [C1] at i3 i4;rw [i3,i4];exact ⟨zi8 x1,rfl,hx,sR,Gf,λk hk=>hk,rfl,rfl,sI,rfl,rfl,rfl,rfl,rfl,rfl,G9⟩
 ·have hge:l.length<=i:=z0z (f:=St.enc) rfl hc;rw [i3,i4,A9 hge,riIx,riB];exact ⟨sI,rfl,rfl,rfl,rfl,rfl,rfl,G9⟩
theorem sc_riHas (p:Pg) (lo:List (List ByteArray)) (l:List St) (s0:RiT) (I:Nat->RiT->Prop) (h0:I 0 s0) (hS:∀ i x s,l[i]? = some x->I i s->scS p x lo s (riS p x lo s)/\((riS p x lo s).1=false->I (i+1) (riS p x lo s).2)) :
 SC Tryz.prog 69 [.pv (sts l),.fn (.func 70) [.ptr 4 0] []] (riW p lo s0) (λk=>k∈[]) (iBool (riB p l lo s0).1) (riW p lo (riB p l lo s0).2):=by
 refine SC.vc tb {} [] Tryz.func69 rfl rfl ?_;exact ⟨[],sc_riIdx p lo l s0 I h0 hS,sR,Gf,rfl,sE (A8 iBool (j1r p lo l 0 s0 dC0)),rfl,rfl,rfl,rfl,rfl,rfl,G9⟩
theorem yu7 (p:Pg) (lo:List (List ByteArray)) (l:List St) (s0:RiT) (I:Nat->RiT->Prop) (h0:I 0 s0) (hS:∀ i x s,l[i]? = some x->I i s->scS p x lo s (riS p x lo s)/\((riS p x lo s).1=false->I (i+1) (riS p x lo s).2)):scB p l lo s0 (riB p l lo s0):=by
 refine SC.vc tb {} [] Tryz.func38 rfl rfl ?_;exact ⟨[],sc_riHas p lo l s0 I h0 hS,sR,Gf,rfl,sI,rfl,rfl,rfl,rfl,rfl,rfl,G9⟩
mutual
def cnS:St->Nat
 | .mk _ _ _ _ thn els=>1+cnL thn+cnL els
def cnL:List St->Nat
 | []=>0
 | x::r=>cnS x+cnL r
end
mutual
def grS:St->Nat
 | .mk _ _ _ args thn els=>2+8*xzL args+2*(cnL thn+cnL els)+grL thn+grL els
def grL:List St->Nat
 | []=>0
 | x::r=>grS x+grL r
end
def gA (p:Pg) (n:Nat) (args:List Ex):Bool:=decide (n<=args.length)&&zl7 p args
mutual
def gS (p:Pg) (b lp:Bool):St->Bool
 | .mk k _ _ args thn els =>
  if k=4 then gA p 1 args&&gB p b lp thn&&gB p b lp els
  else if k=5 then gA p 1 args&&gB p b true thn
  else if k=6∨k=7 then lp
  else if k=3 then gA p 2 args
  else gA p 1 args&&(b||(args.getD 0 ex0).kind != 3)
def gB (p:Pg) (b lp:Bool):List St->Bool
 | []=>true
 | x::r=>gS p b lp x&&gB p (b||x.kind==1) lp r
end
structure RiI (vs:List (Value × PV)) (n:Nat) (b:Bool):Prop where
 cnt:Cnt vs
 rng:∀ e∈vs,∃ v:Int,e.2=vInt v/\0<=v/\v<n
 ne:b=true->vs≠[]
theorem RiI.get {vs:List (Value × PV)} {n:Nat} {b:Bool} (h:RiI vs n b) (nm:ByteArray) (hb:b=true∨(z1z (.string nm) vs).isSome=true):0<=y2e vs nm/\y2e vs nm<n:=by
 unfold y2e
 cases hf:z1z (.string nm) vs with
 | none =>
  rcases hb with hb | hb
  ·obtain ⟨e,r,he⟩:=Cd (h.ne hb);obtain ⟨v,_,h1,h2⟩:=h.rng e (he ▸ .head _);exact ⟨D4 _,by dsimp only;omega⟩
  ·rw [hf] at hb;cases hb
 | some q =>
  obtain ⟨a,ha⟩:=z8p hf;obtain ⟨v,h1,h2,h3⟩:=h.rng _ ha;dsimp only at h1;subst h1;exact ⟨h2,h3⟩
theorem RiI.mono {vs:List (Value × PV)} {n m:Nat} {b:Bool} (h:RiI vs n b) (hm:n<=m):RiI vs m b:=⟨h.cnt,λe he=>by obtain ⟨v,h1,h2,h3⟩:=h.rng e he;exact ⟨v,h1,h2,by omega⟩,h.ne⟩
theorem RiI.weak {vs:List (Value × PV)} {n:Nat} {b c:Bool} (h:RiI vs n b) (hc:c=true->b=true):RiI vs n c:=⟨h.cnt,h.rng,λe=>h.ne (hc e)⟩
theorem mput_ne {k:Value} {v:PV}:∀ {es:List (Value × PV)},mput k v es≠[]
 | [],h=>by simp [mput] at h
 | (a,q)::r,h=>by
  simp only [mput] at h;split at h<;>cases h
theorem RiI.put {vs:List (Value × PV)} {n:Nat} {b:Bool} (h:RiI vs n b) (nm:ByteArray) {v:Int} (h0:0<=v) (h1:v<n):RiI (riSt vs nm v) n true :=
 ⟨h.cnt.putI nm v,λe he=>by
  rcases z50 he with rfl | he
  ·exact ⟨v,rfl,h0,h1⟩
  ·exact h.rng e he,λ_=>mput_ne⟩
theorem RiI.set {n:Nat} {b:Bool}:∀ (l:List ByteArray) (q:List Int) {vs:List (Value × PV)},RiI vs n b->(∀ v∈q,0<=v/\v<n)->RiI (zl8 vs l q) n b
 | [],[],_,h,_=>h
 | [],_::_,_,h,_=>h
 | _::_,[],_,h,_=>h
 | x::a,y::c,_,h,hq=>RiI.set a c ((h.put x (hq y (.head _)).1 (hq y (.head _)).2).weak λ_=>rfl) λv hv=>hq v (.tail _ hv)
theorem zq7:∀ (l ts:List Int),∀ v∈(z15 ts l).1,0<=v/\v<(z15 ts l).2.length
 | [],ts,v,h=>by cases h
 | x::r,ts,v,h=>by
  have hl:=z3e r (ts++[ts.getD x.toNat 0]);simp only [z15,Ah] at h ⊢;rcases h with rfl | h
  ·have:=hl.2;rw [B3] at this;simp only [Ad,At] at this;omega
  ·exact zq7 r _ v h
theorem zl6 (vs:List (Value × PV)) (Q:Value->Prop) (hQ:∀ nm,(z1z (.string nm) vs).isSome=true->Q (.string nm)):∀ (N:Nat) (l:List St),SizeOf.sizeOf l<N->∀ out:List (Value × PV),(∀ e∈out,Q e.1)->∀ e∈z4k vs l out,Q e.1
 | 0,_,h,_,_=>absurd h (Ae _)
 | N+1,[],_,out,h=>by rw [z4k];exact h
 | N+1,x::r,hN,out,h=>by
  have hx:=zs1 x;simp at hN;rw [z4k,zc1];refine zl6 vs Q hQ N r oM0 _ (zl6 vs Q hQ N x.els oM0 _ (zl6 vs Q hQ N x.thn oM0 _ ?_));split
  ·rename_i hc;rw [A0] at hc;intro e he;rcases z50 he with rfl | he
   ·exact hQ _ hc.1
   ·exact h e he
  ·exact h
theorem yj9 (k:Value) (v:PV):∀ es:List (Value × PV),(mput k v es).length<=es.length+1
 | []=>by simp [mput]
 | (a,q)::r=>by
  simp only [mput];split
  ·simp
  ·have:=yj9 k v r;simp;omega
theorem z8x (vs:List (Value × PV)):∀ (N:Nat) (l:List St),SizeOf.sizeOf l<N->∀ out:List (Value × PV),(z4k vs l out).length<=out.length+cnL l
 | 0,_,h,_=>absurd h (Ae _)
 | N+1,[],_,out=>by rw [z4k];simp [cnL]
 | N+1,x::r,hN,out=>by
  have hx:=zs1 x;simp at hN;rw [z4k,zc1];have h1:(if (z1z (.string x.name) vs).isSome&&x.kind==2 then mput (.string x.name) (.agg []) out else out).length<=out.length+1:=by
   split
   ·exact yj9 _ _ _
   ·omega
  generalize (if (z1z (.string x.name) vs).isSome&&x.kind==2 then mput (.string x.name) (.agg []) out else out)=o1 at h1;have h2:=z8x vs N x.thn oM0 o1;have h3:=z8x vs N x.els oM0 (z4k vs x.thn o1);have h4:=z8x vs N r oM0 (z4k vs x.els (z4k vs x.thn o1));have h5:cnS x=1+cnL x.thn+cnL x.els:=by cases x;rw [cnS];rfl
  rw [cnL];omega
theorem j1u (vs:List (Value × PV)) (Q:Value->Prop) (hQ:∀ nm,(z1z (.string nm) vs).isSome=true->Q (.string nm)) (ls:List (List St)):∀ e∈z8g vs ls,Q e.1:=by
 suffices ∀ (ls:List (List St)) (o:List (Value × PV)),(∀ e∈o,Q e.1)->∀ e∈ls.foldl (λo l=>z4k vs l o) o,Q e.1 from this ls [] λe he=>by cases he
 intro ls
 induction ls with
 | nil=>exact λo h=>h
 | cons l r ih=>exact λo h=>ih _ (zl6 vs Q hQ _ l (A4 _) o h)
theorem y3g (vs:List (Value × PV)) (l:List St):(z8g vs [l]).length<=cnL l:=by
 have:=z8x vs _ l (A4 _) [];simpa [z8g] using this
theorem y3h (vs:List (Value × PV)) (l m:List St):(z8g vs [l,m]).length<=cnL l+cnL m:=by
 have h1:=z8x vs _ l (A4 _) [];have h2:=z8x vs _ m (A4 _) (z4k vs l []);simp [z8g] at h1 ⊢;omega
theorem y3f {vs:List (Value × PV)} {n:Nat} {b:Bool} (h:RiI vs n b) (ls:List (List St)):∀ v∈riOf vs (z0a vs ls),0<=v/\v<n:=by
 intro v hv;obtain ⟨nm,h1,rfl⟩:=C5.1 hv;refine h.get nm (.inr ?_);have hq:=j1u vs (λk=>∀ s,k = .string s->(z1z (.string s) vs).isSome=true) (λnm h s e=>by cases e;exact h) ls;obtain ⟨l,h2,rfl⟩:=C5.1 h1;have h3:l∈((z8g vs ls).map λe=>z6w e.1).map λs=>s.data.toList:=List.mem_mergeSort.1 h2;obtain ⟨s,h4,rfl⟩:=C5.1 h3;obtain ⟨e,h5,rfl⟩:=C5.1 h4;have h6:=y11 vs ls e h5;have h7:=hq e h5
 cases hk:e.1<;>rw [hk] at h6<;>simp [z1x] at h6
 rename_i t;exact h7 t hk
structure RiR (b:Bool) (s r:RiT) (n g:Nat):Prop where
 I:RiI r.vs r.ts.length b
 lo:s.ts.length<=r.ts.length
 hi:r.ts.length<=s.ts.length+g
 ns:r.ns.length<=s.ns.length+g
 jk:r.jk.length<=s.jk.length+n
theorem j1v (t k o n:Int) (nm:ByteArray) (args:List Int) (kids:List (List Nd)) (s:RiS):0<=(z6h t k o n nm args kids s).1/\(z6h t k o n nm args kids s).1<(z6h t k o n nm args kids s).2.ts.length/\s.ts.length<=(z6h t k o n nm args kids s).2.ts.length:=by
 simp [z6h];omega
theorem y13 (p:Pg) (k o n:Int) (nm:ByteArray) (l:List Int) (s:RiS):0<=(zq9 p k o n nm l s).1/\(zq9 p k o n nm l s).1<(zq9 p k o n nm l s).2.ts.length/\s.ts.length<=(zq9 p k o n nm l s).2.ts.length:=by
 unfold zq9
 repeat' split
 all_goals exact j1v _ _ _ _ _ _ _ _
theorem zh8 (o a:Int) (ns:List Nd) (r:Int × RiS):0<=(z6o o a ns r).1/\(z6o o a ns r).1<(z6o o a ns r).2.ts.length/\r.2.ts.length<=(z6o o a ns r).2.ts.length:=by
 unfold z6o;split<;>(simp [z6h];omega)
theorem riX_ge (p:Pg) (vs:List (Value × PV)):∀ (N:Nat),(∀ e:Ex,SizeOf.sizeOf e<N->∀ s,s.ts.length<=(riX p vs e s).2.ts.length)/\(∀ l:List Ex,SizeOf.sizeOf l<N->∀ s,s.ts.length<=(riXL p vs l s).2.ts.length)/\(∀ (o:Int) (l:List Ex),SizeOf.sizeOf l<N->∀ s,s.ts.length<=(riSh p vs o l s).2.ts.length)/\(∀ (o a:Int) (s:RiS) (l:List Ex),SizeOf.sizeOf l<N->s.ts.length<=(zl9 p vs o a s l).2.ts.length)
 | 0=>⟨λ_ h=>absurd h (Ae _),λ_ h=>absurd h (Ae _),λ_ _ h=>absurd h (Ae _),λ_ _ _ _ h=>absurd h (Ae _)⟩
 | N+1=>by
  obtain ⟨h1,h2,h3,h4⟩:=riX_ge p vs N;refine ⟨λe he s=>?_,λl hl s=>?_,λo l hl s=>?_,λo a s l hl=>?_⟩
  ·obtain ⟨k,o,n,nm,args⟩:=e;simp at he;rw [riX];split
   ·exact Aa _
   ·split
    ·exact h3 o args oM0 s
    ·exact Bf (h2 args oM0 s) (y13 p k o n nm _ _).2.2
  ·match l with
   | []=>rw [riXL];exact Aa _
   | e::r =>
    simp at hl;rw [riXL];exact Bf (h1 e oM0 s) (h2 r oM0 _)
  ·match l with
   | []=>rw [riSh];exact Aa _
   | e::r =>
    simp at hl;rw [riSh];exact Bf (h1 e oM0 s) (h4 o _ _ r oM0)
  ·match l with
   | []=>rw [zl9];exact Aa _
   | e::r =>
    simp at hl;rw [zl9];exact Bf (h1 e oM0 ⟨s.ts,[]⟩) (zh8 o a s.ns _).2.2
theorem riX_rng (p:Pg) {vs:List (Value × PV)} {b:Bool} (e:Ex) (s:RiS) (h:RiI vs s.ts.length b) (hb:b=true∨e.kind≠3) (hok:riOk p e=true):0<=(riX p vs e s).1/\(riX p vs e s).1<(riX p vs e s).2.ts.length:=by
 obtain ⟨k,o,n,nm,args⟩:=e;rw [riX]
 by_cases h3:k=3
 ·rw [if_pos h3];rcases hb with hb | hb
  ·exact h.get nm (.inl hb)
  ·exact absurd h3 hb
 ·rw [if_neg h3]
  by_cases hs:k=5/\(o=18∨o=19)
  ·rw [if_pos hs];rw [riOk,A0] at hok;have h2:args.length=2:=by have:=hok.1;unfold j1p at this;rw [if_pos hs.1] at this;exact eq_of_beq this
   match args,h2 with
   | [e1,e2],_ =>
    rw [riSh,zl9];exact ⟨(zh8 _ _ _ _).1,(zh8 _ _ _ _).2.1⟩
  ·rw [if_neg hs];exact ⟨(y13 _ _ _ _ _ _ _).1,(y13 _ _ _ _ _ _ _).2.1⟩
theorem zq6 {b:Bool} {vs:List (Value × PV)} {z05:List ByteArray} {n0:Nat} (h:RiI vs n0 b) (ts:List Int) (ns:List Nd) (jk:List (List ByteArray)) (k:Int) (args params:List Int) (kids:List (List Nd)) (hts:n0<=ts.length) :
 RiI (z6g vs z05 ts ns jk k args params kids).2.vs (z6g vs z05 ts ns jk k args params kids).2.ts.length b/\ts.length<=(z6g vs z05 ts ns jk k args params kids).2.ts.length/\(z6g vs z05 ts ns jk k args params kids).2.ts.length<=ts.length+z05.length/\(z6g vs z05 ts ns jk k args params kids).2.ns.length=ns.length+1/\(z6g vs z05 ts ns jk k args params kids).2.jk=jk:=by
 unfold z6g;split
 ·exact ⟨h.mono hts,Aa _,Be _ _,by simp,rfl⟩
 ·have hl:=z3e (riOf vs z05) ts;have hn:(riOf vs z05).length=z05.length:=by simp [riOf]
  refine ⟨RiI.set _ _ (h.mono (by dsimp only;omega)) λv hv=>zq7 _ _ v hv,by dsimp only;omega,by dsimp only;omega,by simp,rfl⟩
theorem z9r {p:Pg} {args:List Ex} (h:gA p 1 args=true):∃ e,args[0]? = some e/\args.getD 0 ex0=e/\riOk p e=true/\xz e<=xzL args:=by
 unfold gA at h;rw [A0] at h;have h1:=An h.1
 match args,h1 with
 | e::r,_=>exact ⟨e,rfl,rfl,zc2 h.2 (.head _),zg1 (.head _)⟩
theorem j0d {p:Pg} {args:List Ex} (h:gA p 2 args=true):∃ e e2,args[0]? = some e/\args[1]? = some e2/\args.getD 0 ex0=e/\args.getD 1 ex0=e2/\riOk p e=true/\riOk p e2=true/\xz e+xz e2<=xzL args:=by
 unfold gA at h;rw [A0] at h;have h1:=An h.1
 match args,h1 with
 | e::e2::r,_=>exact ⟨e,e2,rfl,rfl,rfl,rfl,zc2 h.2 (.head _),zc2 h.2 (.tail _ (.head _)),by simp only [xzL];omega⟩
theorem z81 (vs:List (Value × PV)) (l:List St):(z0a vs [l]).length<=cnL l:=(z9b vs [l]).symm ▸ y3g vs l
theorem zu8 (vs:List (Value × PV)) (l m:List St):(z0a vs [l,m]).length<=cnL l+cnL m:=(z9b vs [l,m]).symm ▸ y3h vs l m
theorem z5s (p:Pg) (vs:List (Value × PV)) (e:Ex) (s:RiS):s.ts.length<=(riX p vs e s).2.ts.length/\(riX p vs e s).2.ts.length<=s.ts.length+4*xz e/\(riX p vs e s).2.ns.length<=s.ns.length+4*xz e :=
 ⟨(riX_ge p vs _).1 e (A4 _) s,(zu9 p vs _).1 e (A4 _) s⟩
theorem y0y {s:RiT} {b:Bool} (h:RiI s.vs s.ts.length b) (z05:List ByteArray):RiI (z2a s z05).vs (z2a s z05).ts.length b/\(z2a s z05).ts.length=s.ts.length+z05.length:=by
 have hl:=z3e (riOf s.vs z05) s.ts;have hn:(riOf s.vs z05).length=z05.length:=by simp [riOf]
 unfold z2a;refine ⟨RiI.set _ _ (h.mono (by dsimp only;omega)) λv hv=>zq7 _ _ v hv,by dsimp only;omega⟩
theorem j1w (p:Pg):∀ N,(∀ x:St,SizeOf.sizeOf x<N->∀ b lp lo s,gS p b lp x=true->RiI s.vs s.ts.length b->RiR (b||x.kind==1) s (riS p x lo s).2 (cnS x) (grS x))/\(∀ l:List St,SizeOf.sizeOf l<N->∀ b lp lo s,gB p b lp l=true->RiI s.vs s.ts.length b->RiR b s (riB p l lo s).2 (cnL l) (grL l))
 | 0=>⟨λ_ h=>absurd h (Ae _),λ_ h=>absurd h (Ae _)⟩
 | N+1=>by
  obtain ⟨hS,hB⟩:=j1w p N;refine ⟨λx hx b lp lo s hg hI=>?_,λl hl b lp lo s hg hI=>?_⟩
  ·obtain ⟨k,ty,nm,args,thn,els⟩:=x;simp at hx;rw [gS] at hg;rw [riS];simp only [cnS,grS,St.kind]
   by_cases h4:k=4
   ·subst h4;rw [if_pos rfl,A0,A0] at hg;rw [if_pos rfl,show (b||(4:Int)==1)=b by simp];obtain ⟨e,i1,i2,i3,i4⟩:=z9r hg.1.1;rw [i2];obtain ⟨j1,j2,j3⟩:=z5s p s.vs e ⟨s.ts,s.ns⟩;generalize riX p s.vs e ⟨s.ts,s.ns⟩=c at j1 j2 j3 ⊢;dsimp only at j1 j2 j3;have hA:=hB thn oM0 b lp lo ⟨s.vs,c.2.ts,[],s.jk⟩ hg.1.2 (hI.mono j1);generalize riB p thn lo ⟨s.vs,c.2.ts,[],s.jk⟩=a at hA ⊢;have hE:=hB els oM0 b lp lo ⟨s.vs,a.2.ts,[],a.2.jk⟩ hg.2 (hI.mono (Bf j1 hA.lo));generalize riB p els lo ⟨s.vs,a.2.ts,[],a.2.jk⟩=d at hE ⊢;have hn:=zu8 s.vs thn els;generalize z0a s.vs [thn,els]=z05 at hn ⊢;obtain ⟨a1,a2,a3,a4,a5⟩:=hA;obtain ⟨d1,d2,d3,d4,d5⟩:=hE;dsimp only at a2 a3 a4 a5 d2 d3 d4 d5;unfold zd7;obtain ⟨r1,r2,r3,r4,r5⟩:=zq6 (z05:=z05) hI d.2.ts c.2.ns d.2.jk 10 [c.1] [] [z5r 12 z05 a,z5r 12 z05 d] oM0;exact ⟨r1,by omega,by omega,by omega,by rw [r5];omega⟩
   by_cases h5:k=5
   ·subst h5;rw [if_neg dC0,if_pos rfl,A0] at hg;rw [if_neg dC0,if_pos rfl,show (b||(5:Int)==1)=b by simp];obtain ⟨e,i1,i2,i3,i4⟩:=z9r hg.1;rw [i2];have hn:=z81 s.vs thn;generalize z0a s.vs [thn]=z05 at hn ⊢;obtain ⟨k1,k2⟩:=y0y hI z05;have ht:s.jk.tail.length<=s.jk.length:=by simp
    split
    ·have hA:=hB thn oM0 b true (lo++[z05]) (z2a s z05) hg.2 k1;generalize riB p thn (lo++[z05]) (z2a s z05)=a at hA ⊢;obtain ⟨a1,a2,a3,a4,a5⟩:=hA;have a5:a.2.jk.length<=s.jk.tail.length+cnL thn:=a5;unfold y5j;obtain ⟨r1,r2,r3,r4,r5⟩:=zq6 (z05:=z05) hI a.2.ts s.ns (z05::a.2.jk) 11 (riOf s.vs z05) (z15 s.ts (riOf s.vs z05)).1 [z5r 13 z05 a] oM0;exact ⟨r1,by omega,by omega,by omega,by rw [r5,Ad];omega⟩
    ·obtain ⟨j1,j2,j3⟩:=z5s p (z2a s z05).vs e ⟨(z2a s z05).ts,[]⟩;generalize riX p (z2a s z05).vs e ⟨(z2a s z05).ts,[]⟩=c at j1 j2 j3 ⊢;dsimp only at j1 j2 j3;have hA:=hB thn oM0 b true (lo++[z05]) ⟨(z2a s z05).vs,c.2.ts,[],s.jk.tail⟩ hg.2 (k1.mono j1);generalize riB p thn (lo++[z05]) ⟨(z2a s z05).vs,c.2.ts,[],s.jk.tail⟩=a at hA ⊢;obtain ⟨a1,a2,a3,a4,a5⟩:=hA;dsimp only at a2 a3 a4 a5;unfold y5k;obtain ⟨r1,r2,r3,r4,r5⟩:=zq6 (z05:=z05) hI a.2.ts s.ns (z05::a.2.jk) 11 (riOf s.vs z05) (z15 s.ts (riOf s.vs z05)).1 [z9c z05 (z2a s z05).vs c a] oM0;exact ⟨r1,by omega,by omega,by omega,by rw [r5,Ad];omega⟩
   rw [if_neg h4,if_neg h5] at hg;rw [if_neg h4,if_neg h5]
   by_cases h6:k=6
   ·subst h6;rw [if_pos rfl,show (b||(6:Int)==1)=b by simp];exact ⟨hI,Aa _,Be _ _,by simp [z6n];omega,Be _ _⟩
   by_cases h7:k=7
   ·subst h7;rw [if_neg dC0,if_pos rfl,show (b||(7:Int)==1)=b by simp];exact ⟨hI,Aa _,Be _ _,by simp [z6n];omega,Be _ _⟩
   rw [if_neg oM0] at hg;rw [if_neg h6,if_neg h7]
   by_cases h8:k=8
   ·subst h8;rw [if_neg dC0,A0] at hg;rw [if_pos rfl,show (b||(8:Int)==1)=b by simp];obtain ⟨e,i1,i2,i3,i4⟩:=z9r hg.1;rw [i2];obtain ⟨j1,j2,j3⟩:=z5s p s.vs e ⟨s.ts,s.ns⟩;dsimp only at j1 j2 j3;exact ⟨hI.mono j1,j1,by dsimp only;omega,by simp [z6n];omega,Be _ _⟩
   rw [if_neg h8];unfold zd8
   by_cases h3:k=3
   ·subst h3;rw [if_pos rfl] at hg;obtain ⟨e,e2,i1,i2,i3,i4,i5,i6,i7⟩:=j0d hg;rw [if_neg dC0,if_pos rfl,i3,i4,show (b||(3:Int)==1)=b by simp];obtain ⟨j1,j2,j3⟩:=z5s p s.vs e ⟨s.ts,s.ns⟩;obtain ⟨m1,m2,m3⟩:=z5s p s.vs e2 (riX p s.vs e ⟨s.ts,s.ns⟩).2;dsimp only at j1 j2 j3;exact ⟨hI.mono (Bf j1 m1),Bf j1 m1,by dsimp only;omega,by simp [z6n];omega,Be _ _⟩
   rw [if_neg h3,A0] at hg;obtain ⟨e,i1,i2,i3,i4⟩:=z9r hg.1;have hg2:=hg.2;rw [i2] at hg2 ⊢;obtain ⟨j1,j2,j3⟩:=z5s p s.vs e ⟨s.ts,s.ns⟩;dsimp only at j1 j2 j3
   by_cases h12:k=1∨k=2
   ·rw [if_pos h12];have hr:=riX_rng p e ⟨s.ts,s.ns⟩ hI (by
     rw [Bk] at hg2;rcases hg2 with h | h
     ·exact .inl h
     ·exact .inr (by simpa using h)) i3
    exact ⟨((hI.mono j1).put nm hr.1 hr.2).weak λ_=>rfl,j1,by dsimp only;omega,by dsimp only;omega,Be _ _⟩
   ·rw [if_neg h12,if_neg h3,show (b||k==1)=b by rw [show (k==1)=false from Ab.2 λe=>h12 (.inl e)];simp];split
    ·exact ⟨hI.mono j1,j1,by dsimp only;omega,by simp [z6n];omega,Be _ _⟩
    ·exact ⟨hI.mono j1,j1,by dsimp only;omega,by dsimp only;omega,Be _ _⟩
  ·match l with
   | []=>rw [riB];exact ⟨hI,Aa _,Be _ _,Be _ _,Be _ _⟩
   | x::r =>
    simp at hl;rw [gB,A0] at hg;have h1:=hS x oM0 b lp lo s hg.1 hI;rw [riB];simp only [cnL,grL];obtain ⟨a1,a2,a3,a4,a5⟩:=h1;split
    ·exact ⟨a1.weak λh=>by rw [h];rfl,a2,by dsimp only;omega,by dsimp only;omega,by dsimp only;omega⟩
    ·obtain ⟨d1,d2,d3,d4,d5⟩:=hB r oM0 _ lp lo (riS p x lo s).2 hg.2 a1;exact ⟨d1.weak λh=>by rw [h];rfl,by omega,by omega,by omega,by omega⟩
mutual
def ntS (n:Nat):St->Prop
 | .mk _ _ nm _ thn els=>nm.size<=n/\ntL n thn/\ntL n els
def ntL (n:Nat):List St->Prop
 | []=>True
 | x::r=>ntS n x/\ntL n r
end
theorem ntS_eq {n:Nat} {x:St}:ntS n x↔x.name.size<=n/\ntL n x.thn/\ntL n x.els:=by cases x;rw [ntS];exact Iff.rfl
theorem zy0 (vs:List (Value × PV)) (n:Nat):∀ (N:Nat) (l:List St),SizeOf.sizeOf l<N->ntL n l->∀ out:List (Value × PV),(∀ e∈out,(z6w e.1).size<=n)->∀ e∈z4k vs l out,(z6w e.1).size<=n
 | 0,_,h,_,_,_=>absurd h (Ae _)
 | N+1,[],_,_,out,h=>by rw [z4k];exact h
 | N+1,x::r,hN,hm,out,h=>by
  have hx:=zs1 x;simp at hN;rw [ntL,ntS_eq] at hm;rw [z4k,zc1];refine zy0 vs n N r oM0 hm.2 _ (zy0 vs n N x.els oM0 hm.1.2.2 _ (zy0 vs n N x.thn oM0 hm.1.2.1 _ ?_));split
  ·intro e he;rcases z50 he with rfl | he
   ·exact hm.1.1
   ·exact h e he
  ·exact h
theorem yl3 (vs:List (Value × PV)) (n:Nat) (ls:List (List St)) (hm:∀ l∈ls,ntL n l):∀ e∈z8g vs ls,(z6w e.1).size<=n:=by
 suffices ∀ (ls:List (List St)) (_:∀ l∈ls,ntL n l) (o:List (Value × PV)),(∀ e∈o,(z6w e.1).size<=n)->∀ e∈ls.foldl (λo l=>z4k vs l o) o,(z6w e.1).size<=n from this ls hm [] λe he=>by cases he
 intro ls
 induction ls with
 | nil=>exact λ_ o h=>h
 | cons l r ih=>exact λhm o h=>ih (λq hq=>hm q (.tail _ hq)) _ (zy0 vs n _ l (A4 _) (hm l (.head _)) o h)
theorem cn_le:∀ N,(∀ x:St,SizeOf.sizeOf x<N->cnS x<=sz x)/\(∀ l:List St,SizeOf.sizeOf l<N->cnL l<=szL l)
 | 0=>⟨λ_ h=>absurd h (Ae _),λ_ h=>absurd h (Ae _)⟩
 | N+1=>by
  obtain ⟨h1,h2⟩:=cn_le N;refine ⟨λx hx=>?_,λl hl=>?_⟩
  ·obtain ⟨k,ty,nm,args,thn,els⟩:=x;simp at hx;have:=h2 thn oM0;have:=h2 els oM0;rw [cnS,sz];omega
  ·match l with
   | []=>rw [cnL];omega
   | x::r =>
    simp at hl;have:=h1 x oM0;have:=h2 r oM0;rw [cnL,szL];omega
theorem yz7 (l:List St):cnL l<=szL l:=(cn_le _).2 l (A4 _)
structure RiB (lp:Bool) (lo:List (List ByteArray)) (s:RiT) (n g:Nat):Prop where
 ts:s.ts.length+g<=32000000000
 ns:s.ns.length+g<=32000000000
 jk:lo.length+s.jk.length+n<=1000000000
 lens:∀ l∈lo,l.length<=1000000000
 inl:lp=true->lo≠[]
theorem nmOk1 {vs:List (Value × PV)} {n:Nat} {b:Bool} (h:RiI vs n b) {l:List St} (hs:szL l<=100000000) (hm:ntL maxLen l):NmOk vs [l] n :=
 ⟨λq hq=>by rw [Aj.1 hq];omega,yl3 vs maxLen [l] λq hq=>by rw [Aj.1 hq];exact hm,by have:=y3g vs l;have:=yz7 l;omega,y3f h [l]⟩
theorem nmOk2 {vs:List (Value × PV)} {n:Nat} {b:Bool} (h:RiI vs n b) {l m:List St} (hs:szL l<=100000000) (hs2:szL m<=100000000) (hm:ntL maxLen l) (hm2:ntL maxLen m):NmOk vs [l,m] n :=
 ⟨λq hq=>by
  simp only [Ah,C2,Fx] at hq;rcases hq with rfl | rfl<;>omega,yl3 vs maxLen [l,m] λq hq=>by
  simp only [Ah,C2,Fx] at hq;rcases hq with rfl | rfl<;>assumption,by have:=y3h vs l m;have:=yz7 l;have:=yz7 m;omega,y3f h [l,m]⟩
theorem y05 {lo:List (List ByteArray)} {n:Nat} (h:∀ l∈lo,l.length<=n):(lo.getLastD []).length<=n:=by
 rw [List.getLastD_eq_getLast?]
 cases hl:lo.getLast? with
 | none=>simp
 | some q=>exact h q (List.mem_of_getLast? hl)
def ihB (p:Pg) (l:List St):Prop:=∀ b lp lo s,gB p b lp l=true->ntL maxLen l->szL l<=100000000->RiI s.vs s.ts.length b->RiB lp lo s (cnL l) (grL l)->scB p l lo s (riB p l lo s)
theorem resB (p:Pg) (l:List St) (b lp:Bool) (lo:List (List ByteArray)) (s:RiT) (hg:gB p b lp l=true) (hI:RiI s.vs s.ts.length b):RiR b s (riB p l lo s).2 (cnL l) (grL l):=(j1w p _).2 l (A4 _) b lp lo s hg hI
theorem sc_ri4 (p:Pg) (hp:szP p) (ty:Int) (nm:ByteArray) (args:List Ex) (thn els:List St) (hT:ihB p thn) (hE:ihB p els) (b lp:Bool) (lo:List (List ByteArray)) (s:RiT) (hg:gS p b lp (.mk 4 ty nm args thn els)=true) (hm:ntS maxLen (.mk 4 ty nm args thn els)) (hz:sz (.mk 4 ty nm args thn els)<=100000000) (hI:RiI s.vs s.ts.length b) (hb:RiB lp lo s (cnS (.mk 4 ty nm args thn els)) (grS (.mk 4 ty nm args thn els))):scS p (.mk 4 ty nm args thn els) lo s (riS p (.mk 4 ty nm args thn els) lo s):=by
 rw [gS,if_pos rfl,A0,A0] at hg;rw [ntS] at hm;rw [sz] at hz;obtain ⟨b1,b2,b3,b4,b5⟩:=hb;rw [grS] at b1 b2;rw [cnS] at b3;rw [riS,if_pos rfl];obtain ⟨e,i1,i2,i3,i4⟩:=z9r hg.1.1;rw [i2];obtain ⟨j1,j2,j3⟩:=z5s p s.vs e ⟨s.ts,s.ns⟩;have hX:=ym9 p hp ⟨lo,s.jk⟩ s.vs hI.cnt _ e (A4 _) oM0 i3 ⟨s.ts,s.ns⟩ (by dsimp only;omega) (by dsimp only;omega);generalize riX p s.vs e ⟨s.ts,s.ns⟩=c at hX j1 j2 j3 ⊢;dsimp only at j1 j2 j3;have q1:=hI.mono j1;have hA:=hT b lp lo ⟨s.vs,c.2.ts,[],s.jk⟩ hg.1.2 hm.2.1 oM0 q1 ⟨by dsimp only;omega,by simp;omega,by dsimp only;omega,b4,b5⟩;have rA:=resB p thn b lp lo ⟨s.vs,c.2.ts,[],s.jk⟩ hg.1.2 q1;generalize riB p thn lo ⟨s.vs,c.2.ts,[],s.jk⟩=a at hA rA ⊢;obtain ⟨a1,a2,a3,a4,a5⟩:=rA;simp only [At,Bu] at a2 a3 a4 a5;have q2:=hI.mono (Bf j1 a2);have hD:=hE b lp lo ⟨s.vs,a.2.ts,[],a.2.jk⟩ hg.2 hm.2.2 oM0 q2 ⟨by dsimp only;omega,by simp;omega,by dsimp only;omega,b4,b5⟩;have rE:=resB p els b lp lo ⟨s.vs,a.2.ts,[],a.2.jk⟩ hg.2 q2;generalize riB p els lo ⟨s.vs,a.2.ts,[],a.2.jk⟩=d at hD rE ⊢;obtain ⟨d1,d2,d3,d4,d5⟩:=rE;simp only [At,Bu] at d2 d3 d4 d5;have hN:=nmOk2 (hI.mono (show s.ts.length<=d.2.ts.length by omega)) (l:=thn) (m:=els) oM0 oM0 hm.2.1 hm.2.2;have z1:a.2.ns.length<=34000000000:=by omega
 have z2:d.2.ns.length<=34000000000:=by omega
 have z3:c.2.ns.length<=34000000000:=by omega
 have z4:d.2.ts.length<=33000000000:=by omega
 exact yu4 p ty nm args thn els lo s _ (yd7 p (.mk 4 ty nm args thn els) lo s hI.cnt e i1 c hX a d hA hD a1.cnt d1.cnt z1 z2 hN z3 z4)
theorem yj1 (lo:List (List ByteArray)) (z05:List ByteArray):(lo++[z05]).length=lo.length+1:=by simp
theorem yj3 {lo:List (List ByteArray)} {z05:List ByteArray} (h:∀ l∈lo,l.length<=1000000000) (hn:z05.length<=1000000000):∀ l∈lo++[z05],l.length<=1000000000:=λl hl=>by
 rcases Ay.1 hl with g | g
 ·exact h l g
 ·rw [Aj.1 g];exact hn
theorem sc_ri5t (p:Pg) (ty:Int) (nm:ByteArray) (args:List Ex) (thn els:List St) (hT:ihB p thn) (b lp:Bool) (lo:List (List ByteArray)) (s:RiT) (hg:gS p b lp (.mk 5 ty nm args thn els)=true) (hm:ntS maxLen (.mk 5 ty nm args thn els)) (hz:sz (.mk 5 ty nm args thn els)<=100000000) (hI:RiI s.vs s.ts.length b) (hb:RiB lp lo s (cnS (.mk 5 ty nm args thn els)) (grS (.mk 5 ty nm args thn els))) (ht:zc3 (args.getD 0 ex0)=true):scS p (.mk 5 ty nm args thn els) lo s (riS p (.mk 5 ty nm args thn els) lo s):=by
 rw [gS,if_neg dC0,if_pos rfl,A0] at hg;rw [ntS] at hm;rw [sz] at hz;obtain ⟨b1,b2,b3,b4,b5⟩:=hb;rw [grS] at b1 b2;rw [cnS] at b3;rw [riS,if_neg dC0,if_pos rfl,if_pos ht];obtain ⟨e,i1,i2,i3,i4⟩:=z9r hg.1;rw [i2] at ht;have hn:=z81 s.vs thn;have hO:=nmOk1 hI (l:=thn) oM0 hm.2.1;have htl:s.jk.tail.length<=s.jk.length:=by simp
 refine y3s p ty nm args thn els lo s _ ?_;obtain ⟨k1,k2⟩:=y0y hI (z0a s.vs [thn]);have kn:(z2a s (z0a s.vs [thn])).ns.length=0:=rfl;have kj:(z2a s (z0a s.vs [thn])).jk.length=s.jk.tail.length:=rfl;have hA:=hT b true (lo++[z0a s.vs [thn]]) (z2a s (z0a s.vs [thn])) hg.2 hm.2.1 oM0 k1 ⟨by omega,by omega,by rw [yj1];omega,yj3 b4 oM0,λ_=>by simp⟩;have rA:=resB p thn b true (lo++[z0a s.vs [thn]]) (z2a s (z0a s.vs [thn])) hg.2 k1;generalize riB p thn (lo++[z0a s.vs [thn]]) (z2a s (z0a s.vs [thn]))=a at hA rA ⊢;obtain ⟨a1,a2,a3,a4,a5⟩:=rA;have z1:(z0a s.vs [thn]).length<=34359738368:=by omega
 have z2:a.2.ns.length<=34000000000:=by omega
 have hRd:=yd9 p (.mk 5 ty nm args thn els) (z0a s.vs [thn]) (lo++[z0a s.vs [thn]]) (z2a s (z0a s.vs [thn])) e i1 ht a hA a1.cnt z1 z2;have y1:s.ts.length<=33000000000:=by omega
 have y2:s.ns.length<=34000000000:=by omega
 have y3:s.ts.length<=a.2.ts.length:=by omega
 have y4:a.2.ts.length<=33000000000:=by omega
 have y5:lo.length<=1000000000:=by omega
 have y6:s.jk.length<=1000000000:=by omega
 unfold y5j;exact y8i p (.mk 5 ty nm args thn els) lo s hI.cnt ⟨a.2.vs,a.2.ts,z5r 13 (z0a s.vs [thn]) a,a.2.jk⟩ hRd hO y1 y2 y3 y4 y5 y6
theorem sc_ri5f (p:Pg) (hp:szP p) (ty:Int) (nm:ByteArray) (args:List Ex) (thn els:List St) (hT:ihB p thn) (b lp:Bool) (lo:List (List ByteArray)) (s:RiT) (hg:gS p b lp (.mk 5 ty nm args thn els)=true) (hm:ntS maxLen (.mk 5 ty nm args thn els)) (hz:sz (.mk 5 ty nm args thn els)<=100000000) (hI:RiI s.vs s.ts.length b) (hb:RiB lp lo s (cnS (.mk 5 ty nm args thn els)) (grS (.mk 5 ty nm args thn els))) (ht:zc3 (args.getD 0 ex0)=false):scS p (.mk 5 ty nm args thn els) lo s (riS p (.mk 5 ty nm args thn els) lo s):=by
 rw [gS,if_neg dC0,if_pos rfl,A0] at hg;rw [ntS] at hm;rw [sz] at hz;obtain ⟨b1,b2,b3,b4,b5⟩:=hb;rw [grS] at b1 b2;rw [cnS] at b3;rw [riS,if_neg dC0,if_pos rfl,if_neg (by rw [ht];decide)];obtain ⟨e,i1,i2,i3,i4⟩:=z9r hg.1;rw [i2] at ht ⊢;have hn:=z81 s.vs thn;have hO:=nmOk1 hI (l:=thn) oM0 hm.2.1;have htl:s.jk.tail.length<=s.jk.length:=by simp
 refine y3s p ty nm args thn els lo s _ ?_;obtain ⟨k1,k2⟩:=y0y hI (z0a s.vs [thn]);obtain ⟨j1,j2,j3⟩:=z5s p (z2a s (z0a s.vs [thn])).vs e ⟨(z2a s (z0a s.vs [thn])).ts,[]⟩;have hX:=ym9 p hp ⟨lo++[z0a s.vs [thn]],s.jk.tail⟩ (z2a s (z0a s.vs [thn])).vs k1.cnt _ e (A4 _) oM0 i3 ⟨(z2a s (z0a s.vs [thn])).ts,[]⟩ (by dsimp only;omega) (by simp;omega);generalize riX p (z2a s (z0a s.vs [thn])).vs e ⟨(z2a s (z0a s.vs [thn])).ts,[]⟩=c at hX j1 j2 j3 ⊢;simp only [At,Bu] at j1 j2 j3;have q1:=k1.mono j1;have hA:=hT b true (lo++[z0a s.vs [thn]]) ⟨(z2a s (z0a s.vs [thn])).vs,c.2.ts,[],s.jk.tail⟩ hg.2 hm.2.1 oM0 q1 ⟨by dsimp only;omega,by simp only [At];omega,by rw [yj1];dsimp only;omega,yj3 b4 oM0,λ_=>by simp⟩;have rA:=resB p thn b true (lo++[z0a s.vs [thn]]) ⟨(z2a s (z0a s.vs [thn])).vs,c.2.ts,[],s.jk.tail⟩ hg.2 q1;generalize riB p thn (lo++[z0a s.vs [thn]]) ⟨(z2a s (z0a s.vs [thn])).vs,c.2.ts,[],s.jk.tail⟩=a at hA rA ⊢;obtain ⟨a1,a2,a3,a4,a5⟩:=rA;simp only [At,Bu] at a2 a3 a4 a5;have z1:(z0a s.vs [thn]).length<=34359738368:=by omega
 have z2:a.2.ns.length<=34000000000:=by omega
 have z3:c.2.ns.length<=34000000000:=by omega
 have hRd:=ye0 p (.mk 5 ty nm args thn els) (z0a s.vs [thn]) (lo++[z0a s.vs [thn]]) (z2a s (z0a s.vs [thn])) k1.cnt e i1 ht c hX a hA a1.cnt z1 z2 z3;have y1:s.ts.length<=33000000000:=by omega
 have y2:s.ns.length<=34000000000:=by omega
 have y3:s.ts.length<=a.2.ts.length:=by omega
 have y4:a.2.ts.length<=33000000000:=by omega
 have y5:lo.length<=1000000000:=by omega
 have y6:s.jk.length<=1000000000:=by omega
 unfold y5k;exact y8i p (.mk 5 ty nm args thn els) lo s hI.cnt ⟨(z2a s (z0a s.vs [thn])).vs,a.2.ts,z9c (z0a s.vs [thn]) (z2a s (z0a s.vs [thn])).vs c a,a.2.jk⟩ hRd hO y1 y2 y3 y4 y5 y6
theorem ym7 (p:Pg) (hp:szP p):∀ N,(∀ x:St,SizeOf.sizeOf x<N->∀ b lp lo s,gS p b lp x=true->ntS maxLen x->sz x<=100000000->RiI s.vs s.ts.length b->RiB lp lo s (cnS x) (grS x)->scS p x lo s (riS p x lo s)) /\
 (∀ l:List St,SizeOf.sizeOf l<N->∀ b lp lo s,gB p b lp l=true->ntL maxLen l->szL l<=100000000->RiI s.vs s.ts.length b->RiB lp lo s (cnL l) (grL l)->scB p l lo s (riB p l lo s))
 | 0=>⟨λ_ h=>absurd h (Ae _),λ_ h=>absurd h (Ae _)⟩
 | N+1=>by
  obtain ⟨hS,hB⟩:=ym7 p hp N;have hR:=j1w p;refine ⟨λx hx b lp lo s hg hm hz hI hb=>?_,λl hl b lp lo s hg hm hz hI hb=>?_⟩
  ·obtain ⟨k,ty,nm,args,thn,els⟩:=x;simp at hx;have hg0:=hg;have hm0:=hm;have hz0:=hz;have hb0:=hb;rw [gS] at hg;rw [ntS] at hm;rw [sz] at hz;obtain ⟨b1,b2,b3,b4,b5⟩:=hb;rw [grS] at b1 b2;rw [cnS] at b3;have hXX:∀ (e:Ex) (vs:List (Value × PV)) (t:RiS) (jk:List (List ByteArray)),Cnt vs->riOk p e=true->xz e<=xzL args->t.ts.length+4*xz e<=34000000000->t.ns.length+4*xz e<=34000000000->scX p e lo vs jk t (riX p vs e t):=λe vs t jk hv ho hx h1 h2=>ym9 p hp ⟨lo,jk⟩ vs hv _ e (A4 _) oM0 ho t h1 h2;have hTh:ihB p thn:=λb lp lo s=>hB thn oM0 b lp lo s;have hEl:ihB p els:=λb lp lo s=>hB els oM0 b lp lo s
   by_cases h4:k=4
   ·subst h4;exact sc_ri4 p hp ty nm args thn els hTh hEl b lp lo s hg0 hm0 hz0 hI hb0
   by_cases h5:k=5
   ·subst h5
    by_cases ht:zc3 (args.getD 0 ex0)=true
    ·exact sc_ri5t p ty nm args thn els hTh b lp lo s hg0 hm0 hz0 hI hb0 ht
    ·exact sc_ri5f p hp ty nm args thn els hTh b lp lo s hg0 hm0 hz0 hI hb0 (by simpa using ht)
   rw [if_neg h4,if_neg h5] at hg
   by_cases h67:k=6∨k=7
   ·rw [if_pos h67] at hg;exact yd8 p k ty h67 nm args thn els lo (b5 hg) s hI.cnt oM0 (y05 b4) oM0
   rw [if_neg h67] at hg;have h6:k≠6:=λe=>h67 (.inl e);have h7:k≠7:=λe=>h67 (.inr e)
   by_cases h3:k=3
   ·subst h3;rw [if_pos rfl] at hg;obtain ⟨e,e2,i1,i2,i3,i4,i5,i6,i7⟩:=j0d hg;obtain ⟨j1,j2,j3⟩:=z5s p s.vs e ⟨s.ts,s.ns⟩;obtain ⟨m1,m2,m3⟩:=z5s p s.vs e2 (riX p s.vs e ⟨s.ts,s.ns⟩).2;dsimp only at j1 j2 j3;have hX:=hXX e s.vs ⟨s.ts,s.ns⟩ s.jk hI.cnt i5 oM0 (by dsimp only;omega) (by dsimp only;omega);have hX2:=hXX e2 s.vs (riX p s.vs e ⟨s.ts,s.ns⟩).2 s.jk hI.cnt i6 oM0 oM0 oM0;exact y3r p 3 ty dC0 dC0 dC0 dC0 dC0 nm args thn els lo s (y1g p 3 ty nm args thn els lo s hI.cnt e i1 hX oM0 λ_=>⟨e2,i2,hX2,by omega⟩)
   rw [if_neg h3,A0] at hg;obtain ⟨e,i1,i2,i3,i4⟩:=z9r hg.1;obtain ⟨j1,j2,j3⟩:=z5s p s.vs e ⟨s.ts,s.ns⟩;dsimp only at j1 j2 j3;have hX:=hXX e s.vs ⟨s.ts,s.ns⟩ s.jk hI.cnt i3 i4 (by dsimp only;omega) (by dsimp only;omega)
   by_cases h8:k=8
   ·subst h8;exact yu5 p ty nm args thn els lo s e i1 hX oM0
   ·exact y3r p k ty h4 h5 h6 h7 h8 nm args thn els lo s (y1g p k ty nm args thn els lo s hI.cnt e i1 hX oM0 λe=>absurd e h3)
  ·refine yu7 p lo l s (λi t=>∃ c,RiI t.vs t.ts.length c/\gB p c lp (l.drop i)=true/\ntL maxLen (l.drop i)/\t.ts.length+grL (l.drop i)<=s.ts.length+grL l/\t.ns.length+grL (l.drop i)<=s.ns.length+grL l/\t.jk.length+cnL (l.drop i)<=s.jk.length+cnL l) ⟨b,hI,hg,hm,Aa _,Aa _,Aa _⟩ ?_;rintro i x t hx ⟨c,c1,c2,c3,c4,c5,c6⟩;have hd:l.drop i=x::l.drop (i+1):=by
    obtain ⟨h1,h2⟩:=A3.1 hx;rw [<- h2];exact D1 h1
   have hmem:=Ai hx;have hsz:=zv6 hmem;have hso:=Bl hmem;rw [hd,gB,A0] at c2;rw [hd,ntL] at c3;rw [hd,grL] at c4 c5;rw [hd,cnL] at c6;obtain ⟨b1,b2,b3,b4,b5⟩:=hb;have r:=(hR _).1 x (A4 _) c lp lo t c2.1 c1;obtain ⟨r1,r2,r3,r4,r5⟩:=r;exact ⟨hS x oM0 c lp lo t c2.1 c3.1 oM0 c1 ⟨by omega,by omega,by omega,b4,b5⟩,λ_=>⟨_,r1,c2.2,c3.2,by omega,by omega,by omega⟩⟩
section
variable {T:List Tk}
theorem za4 (k t:Int) (s:ByteArray) (a:List Ex) (x y:List St):cnS (.mk k t s a x y)=1+cnL x+cnL y:=by simp only [cnS]
theorem cnL_one (a:St):cnL [a]=cnS a:=by simp [cnL]
theorem yz6:∀ a b:List St,cnL (a++b)=cnL a+cnL b
 | [],b=>by simp [cnL]
 | x::r,b=>by simp only [B6,cnL,yz6 r b];omega
attribute [local irreducible] mE z7u
theorem let_cn (hT:TkOk T) {s:Ps} (h:(mLet T s).2.over=false):2*cnS (mLet T s).1+s.at_<=(mLet T s).2.at_:=by
 unfold mLet at h ⊢;dsimp only at h ⊢;have b1:=(z56 hT).back h;have b2:=(z09 hT (w:=sEq)).back b1;have b3:=(z1v hT (k:=1) dC0).back b2;have a1:=(z56 hT (s:=z0o T sEq (z0k T 1 (z0r T s).2).2)).at_;have a2:=zg6.lt b1;have a3:=z6l.lt b2;have a4:=zk2.lt b3;simp only [za4,cnL];omega
theorem named_cn (hT:TkOk T) {s:Ps} (h:(z5n T s).2.over=false):2*cnS (z5n T s).1+s.at_<=(z5n T s).2.at_:=by
 unfold z5n at h ⊢;split at h
 ·rename_i h1;rw [if_pos h1];dsimp only at h ⊢;have h2:=yj6 hT 2 (z0k T 1 s).2.next;have h3:=((z4y hT (big T)).2.2.2.2.1 2 (z0k T 1 s).2.next).at_;have b1:=(z4j h1).1;have a1:=z6l.lt b1;rw [z0m] at h3;simp only [za4,cnL];omega
 rename_i h1;rw [if_neg h1];split at h
 ·rename_i h2;rw [if_pos h2];dsimp only at h ⊢;have b1:=(z4j h2).1;have a1:=z6l.lt b1;have d1:=(z56 hT (s:=(z0k T 1 s).2.next)).at_;rw [z0m] at d1;generalize (mE T (z0k T 1 s).2.next)=e at h d1 ⊢;have d2:=(z09 hT (w:=sSc) (s:=e.2)).at_;have d3:=(z09 hT (w:=sEq) (s:=z0o T sSc e.2)).at_;have d4:=(z56 hT (s:=z0o T sEq (z0o T sSc e.2))).at_;simp only [za4,cnL];omega
 ·rename_i h2;rw [if_neg h2];dsimp only at h ⊢;have b1:=(z56 hT).back h;have b2:=(z09 hT (w:=sEq)).back b1;have a1:=z6l.lt b2;have a2:=zg6.lt b1;have a3:=(z56 hT (s:=z0o T sEq (z0k T 1 s).2)).at_;simp only [za4,cnL];omega
theorem flat_cn (hT:TkOk T) {s:Ps} (h:(zf0 T s).2.over=false):2*cnS (zf0 T s).1+s.at_<=(zf0 T s).2.at_+1:=by
 unfold zf0 at h ⊢;split at h
 ·rename_i h1;rw [if_pos h1];simp only [za4,cnL,z0m];omega
 rename_i h1;rw [if_neg h1];split at h
 ·rename_i h1;rw [if_pos h1];simp only [za4,cnL,z0m];omega
 rename_i h1;rw [if_neg h1];split at h
 ·rename_i h1;rw [if_pos h1];have a1:=(z56 hT (s:=s.next)).at_;rw [z0m] at a1;simp only [za4,cnL];omega
 rename_i h1;rw [if_neg h1];split at h
 ·rename_i h1;rw [if_pos h1];have a1:=(z2t hT (s:=s.next)).at_;rw [z0m] at a1;simp only [za4,cnL];omega
 rename_i h1;rw [if_neg h1];have:=named_cn hT h;omega
theorem y06 (hT:TkOk T) {s:Ps} (h:(z1w T s).2.over=false):s.at_+1<=(z1w T s).2.at_:=by
 unfold z1w at h ⊢;dsimp only at h ⊢;have b1:=(z09 hT (w:=sRc)).back h;have b2:=(z56 hT).back b1;have a1:=zg6.lt b2;have a2:=(z56 hT (s:=z0o T sRo s)).at_;have a3:=(z09 hT (w:=sRc) (s:=(mE T (z0o T sRo s)).2)).at_;omega
theorem stmt_cn (hT:TkOk T) (N:Nat) (iB:∀ d s,(z1y T N d s).2.over=false->2*cnL (z1y T N d s).1+s.at_<=(z1y T N d s).2.at_) (d:Int) (s:Ps) (h:(z5y T (N+1) d s).2.over=false):2*cnS (z5y T (N+1) d s).1+s.at_<=(z5y T (N+1) d s).2.at_:=by
 have e:=y1r d s;unfold z5y at h ⊢;generalize z3a d s=s at e h ⊢;rw [<- e];split at h
 ·rename_i h1;rw [if_pos h1];have b1:=(z09 hT (w:=z5g)).back h;have h2:=let_cn hT b1;have h3:=(z09 hT (w:=z5g) (s:=(mLet T s).2)).at_;dsimp only at h3 ⊢;omega
 rename_i h1;rw [if_neg h1];split at h
 ·rename_i h1;rw [if_pos h1];split at h
  ·rename_i h2;rw [if_pos h2];have b2:=iB _ _ h;have b0:=(z4j h2).1;have b3:=iB _ _ b0;have b4:=y06 hT (((z5l hT N).2.1 _ _).back b0);rw [z0m] at b2 b4;simp only [za4];omega
  ·rename_i h2;rw [if_neg h2];have b3:=iB _ _ h;have b4:=y06 hT (((z5l hT N).2.1 _ _).back h);rw [z0m] at b4;simp only [za4,cnL];omega
 rename_i h1;rw [if_neg h1];split at h
 ·rename_i h1;rw [if_pos h1];have b3:=iB _ _ h;have b4:=y06 hT (((z5l hT N).2.1 _ _).back h);rw [z0m] at b4;simp only [za4,cnL];omega
 rename_i h1;rw [if_neg h1];have b1:=(z09 hT (w:=z5g)).back h;have h2:=flat_cn hT b1;have h3:=zg6.lt h;dsimp only at h3 ⊢;omega
theorem yn8 (hT:TkOk T):∀ N,(∀ d s,(z5y T N d s).2.over=false->2*cnS (z5y T N d s).1+s.at_<=(z5y T N d s).2.at_)/\(∀ d s,(z1y T N d s).2.over=false->2*cnL (z1y T N d s).1+s.at_<=(z1y T N d s).2.at_) /\
 (∀ d out s,(z7y T N d out s).2.over=false->2*cnL (z7y T N d out s).1+s.at_<=2*cnL out+(z7y T N d out s).2.at_)
 | 0=>⟨λd s h=>absurd h (by simp [z5y,Ps.over,Ps.setBad]),λd s _=>by show 0+s.at_<=s.at_;omega,λd out s _=>by show 2*cnL out+s.at_<=2*cnL out+s.at_;omega⟩
 | N+1=>by
  obtain ⟨iS,iB,iL⟩:=yn8 hT N;refine ⟨λd s h=>stmt_cn hT N iB d s h,λd s h=>?_,λd out s h=>?_⟩
  ·unfold z1y at h ⊢;have h1:=iL d [] (z0o T sBo s) h;have h2:=(z09 hT (w:=sBo) (s:=s)).at_;simp only [cnL] at h1;omega
  ·unfold z7y at h ⊢;split at h
   ·rename_i h1;rw [if_pos h1];exact Aa _
   rename_i h1;rw [if_neg h1];split at h
   ·rename_i h1;rw [if_pos h1];simp only [z0m];omega
   rename_i h1;rw [if_neg h1];have b1:=((z5l hT N).2.2 _ _ _).back h;have h2:=iL _ _ _ h;have h3:=iS _ _ b1;rw [yz6,cnL_one] at h2;omega
def pcn:List Fu->Nat
 | []=>0
 | f::r=>cnL f.body+pcn r
theorem j1c:∀ a b:List Fu,pcn (a++b)=pcn a+pcn b
 | [],b=>by simp [pcn]
 | x::r,b=>by simp only [B6,pcn,j1c r b];omega
theorem func_cn (hT:TkOk T) {t:Int} {n:ByteArray} {s:Ps} (h:(z6y T t n s).2.over=false):2*cnL (z6y T t n s).1.body+s.at_<=(z6y T t n s).2.at_:=by
 unfold z6y at h ⊢;dsimp only at h ⊢;have h1:=(yn8 hT (big T)).2.1 1 _ h;have h2:=(z09 hT (w:=sRo) (s:=s)).at_;have h6:=(zj8 hT (s:=z0o T sRo s)).at_;omega
theorem yb9 (hT:TkOk T):∀ N p s,(z3w T N p s).2.over=false->2*pcn (z3w T N p s).1.funcs+s.at_<=2*pcn p.funcs+(z3w T N p s).2.at_
 | 0,_,_,_=>Aa _
 | N+1,p,s,h=>by
  unfold z3w at h ⊢;split
  ·exact Aa _
  rename_i c1;rw [if_neg c1] at h;have a1:=(z5m hT (s:=s)).at_;have a2:=(z1v hT (k:=1) dC0 (s:=(z0r T s).2)).at_;split
  ·rename_i c2;rw [if_pos c2] at h;have h1:=yb9 hT N _ _ h;have a3:=(z1v hT (k:=0) dC0 (s:=(z0k T 1 (z0r T s).2).2.next)).at_;have a4:=(z09 hT (w:=sSc) (s:=(z0k T 0 (z0k T 1 (z0r T s).2).2.next).2)).at_;have a5:=(z09 hT (w:=z5g) (s:=z0o T sSc (z0k T 0 (z0k T 1 (z0r T s).2).2.next).2)).at_;rw [z0m] at a3;dsimp only at h1;omega
  ·rename_i c2;rw [if_neg c2] at h;have h1:=yb9 hT N _ _ h;have b1:(z6y T (z0r T s).1 (z0k T 1 (z0r T s).2).1 (z0k T 1 (z0r T s).2).2).2.over=false:=(z93 hT N _ _).back h;have h2:=func_cn hT b1;rw [j1c] at h1;simp only [pcn] at h1;omega
theorem j0e (s:ByteArray):pcn (z2p s).1.funcs<=50000:=by
 unfold z2p;split
 ·rename_i h0;obtain ⟨hT,hl⟩:=y1w h0;split
  ·exact A6 _
  ·rename_i h1;split
   ·exact A6 _
   ·rename_i h2;split
    ·have ho:(z95 (z1t s).1).2.over=false:=by unfold Ps.over;rw [Es.2 h1,Es.2 h2];rfl
     have hp:0<(z1t s).1.length:=by obtain ⟨i,e,h,_⟩:=hT;rw [h];simp
     have h3:=yb9 hT (big (z1t s).1) ⟨[],[]⟩ ⟨0,false,false⟩ ho;have h4:=(z93 hT (big (z1t s).1) ⟨[],[]⟩ ⟨0,false,false⟩).lt hp;unfold z95;simp only [pcn] at h3;dsimp only at h3 h4 ⊢;omega
    ·exact A6 _
 ·exact A6 _
end
theorem yx8 {p:Pg} {s:Sc} {e:Ex} {r:List Ex} (h:(z6t p s (e::r)).2=0):(z5b p s e).2=0/\(z6t p s r).2=0:=by
 rw [z6t] at h
 by_cases h1:(z5b p s e).2=0
 ·rw [if_pos h1] at h
  by_cases h2:(z6t p s r).2=0
  ·exact ⟨h1,h2⟩
  ·rw [if_neg h2] at h;exact absurd h h2
 ·rw [if_neg h1] at h;exact absurd h h1
theorem yp1 {p:Pg} {s:Sc} {k o n:Int} {nm:ByteArray} {args:List Ex} (h:(z5b p s (.mk k o n nm args)).2=0):z86 p s k nm args.length=0/\(z6t p s args).2=0:=by
 rw [z5b] at h
 by_cases h1:z86 p s k nm args.length=0
 ·rw [if_pos h1] at h
  by_cases h2:(z6t p s args).2=0
  ·exact ⟨h1,h2⟩
  ·rw [if_neg h2] at h;exact absurd h h2
 ·rw [if_neg h1] at h;exact absurd h h1
theorem yFine_ok {b:Bool} {e:Int} (he:e≠0) (h:zw5 b e=0):b=true:=by
 unfold zw5 at h
 cases b with
 | true=>rfl
 | false=>exact absurd h he
theorem j1s (p:Pg) (s:Sc):∀ N,(∀ e:Ex,SizeOf.sizeOf e<N->∀ m,rx e m=true->(z5b p s e).2=0->riOk p e=true)/\(∀ l:List Ex,SizeOf.sizeOf l<N->∀ m,rxL l m=true->(z6t p s l).2=0->zl7 p l=true)
 | 0=>⟨λ_ h=>absurd h (Ae _),λ_ h=>absurd h (Ae _)⟩
 | N+1=>by
  obtain ⟨h1,h2⟩:=j1s p s N;refine ⟨λe he m hr hy=>?_,λl hl m hr hy=>?_⟩
  ·obtain ⟨k,o,n,nm,args⟩:=e;simp at he;rw [rx,A0] at hr;obtain ⟨y1,y2⟩:=yp1 hy;rw [riOk,h2 args oM0 m hr.1 y2,C7];have hr2:=hr.2;unfold rOwn at hr2;unfold j1p
   by_cases k5:k=5
   ·subst k5;simp at hr2;simp [hr2.2]
   rw [if_neg k5]
   by_cases k7:k=7
   ·subst k7;rw [if_neg dC0];unfold z86 at y1;rw [if_neg dC0,if_neg dC0,if_pos rfl] at y1
    by_cases c:z3j p nm<0
    ·rw [if_pos c] at y1;exact absurd y1 dC0
    ·exact By oM0
   ·by_cases kk:k=1∨k=2∨k=3∨k=4∨k=6∨k=8
    ·rw [if_pos kk]
    ·simp only [not_or] at kk;obtain ⟨q1,q2,q3,q4,q6,q8⟩:=kk;rw [if_neg q1,if_neg q2,if_neg q3,if_neg q4,if_neg k5,if_neg q6,if_neg k7,if_neg q8] at hr2
     cases hr2
  ·match l with
   | []=>rfl
   | e::r =>
    simp at hl;rw [rxL,A0,A0] at hr;obtain ⟨y1,y2⟩:=yx8 hy;rw [zl7,h1 e oM0 _ hr.1.2 y1,h2 r oM0 m hr.2 y2];rfl
theorem ok_riX {p:Pg} {s:Sc} {e:Ex} {m:Int} (hr:rx e m=true) (hy:(z5b p s e).2=0):riOk p e=true:=(j1s p s _).1 e (A4 _) m hr hy
theorem z87 {p:Pg} {s:Sc} {e:Ex} {t:Int} (h:zc8 p s e t=0):(z5b p s e).2=0:=by
 unfold zc8 at h;split at h
 ·assumption
 ·exact h
theorem j5b {p:Pg} {e:Ex} (h:(z5b p [] e).2=0):e.kind≠3:=by
 obtain ⟨k,o,n,nm,args⟩:=e;intro hk;have hk:k=3:=hk;subst hk;have:=(yp1 h).1;simp [z86,z9z,zw5] at this
theorem shp_len {k:Int} {n:Nat} (h:((n:Int) != (shp k).2.2.1)=false):(k=1∨k=2∨k=4∨k=5∨k=8∨k=9∨k=10)/\n=1∨k=3/\n=2∨(k=6∨k=7)/\n=0:=by
 have h:(n:Int)=(shp k).2.2.1:=by simpa using h
 unfold shp at h
 by_cases h1:k=1
 ·rw [if_pos h1] at h;dsimp only at h;omega
 rw [if_neg h1] at h
 by_cases h2:k=2
 ·rw [if_pos h2] at h;dsimp only at h;omega
 rw [if_neg h2] at h
 by_cases h3:k=3
 ·rw [if_pos h3] at h;dsimp only at h;omega
 rw [if_neg h3] at h
 by_cases h4:k=4
 ·rw [if_pos h4] at h;dsimp only at h;omega
 rw [if_neg h4] at h
 by_cases h5:k=5
 ·rw [if_pos h5] at h;dsimp only at h;omega
 rw [if_neg h5] at h
 by_cases h6:k=6∨k=7
 ·rw [if_pos h6] at h;dsimp only at h;omega
 rw [if_neg h6] at h
 by_cases h8:k=8∨k=9∨k=10
 ·rw [if_pos h8] at h;dsimp only at h;omega
 rw [if_neg h8] at h;dsimp only at h;omega
theorem y17 {k ty:Int} {nm:ByteArray} {args:List Ex} {thn els:List St} {m:Int} (h:rst (.mk k ty nm args thn els) m=true) :
 ((k=1∨k=2∨k=4∨k=5∨k=8∨k=9∨k=10)/\args.length=1∨k=3/\args.length=2∨(k=6∨k=7)/\args.length=0)/\(∀ e∈args,rx e 100=true)/\rsL thn (m - 1)=true/\rsL els (m - 1)=true/\((shp k).2.1=z0j nm/\((shp k).2.1=false->nm.toList=[])):=by
 rw [rst] at h;simp only [A0,Bc,Ba] at h;obtain ⟨⟨⟨⟨h1,h2⟩,h3⟩,h4⟩,h5⟩:=h;unfold ys2 at h1;simp only [Bt] at h1;obtain ⟨⟨⟨⟨⟨_,h12⟩,_⟩,_⟩,h15⟩,h16⟩:=h1;refine ⟨shp_len h12,h2,h4,h5,by simpa using h15,λe=>?_⟩;rw [e] at h16;simpa using h16
theorem y7c (s:Sc) (k ty:Int) (nm:ByteArray) (d:Int):(!(z6j s k ty nm d).isEmpty)=(!s.isEmpty||k==1):=by
 unfold z6j
 by_cases h:k=1
 ·rw [if_pos h,h];simp
 ·rw [if_neg h,show (k==1)=false from Ab.2 h,E9]
theorem gA_of {p:Pg} {s:Sc} {args:List Ex} (n:Nat) (hl:n<=args.length) (hr:∀ e∈args,rx e 100=true) (hy:∀ e∈args,(z5b p s e).2=0):gA p n args=true:=by
 unfold gA;rw [A0];refine ⟨By hl,?_⟩;clear hl
 induction args with
 | nil=>rfl
 | cons e r ih=>rw [zl7,ok_riX (hr e (.head _)) (hy e (.head _)),ih (λq hq=>hr q (.tail _ hq)) λq hq=>hy q (.tail _ hq)];rfl
theorem yh0 {p:Pg} {res:Int} {x:St} {r:List St} {s:Sc} {d:Int} {lp:Bool} {n:Nat} (h:(z2f p res (x::r) s d lp n).1=0):(yOne p res x s d lp n).1=0/\(z2f p res r (z6j s x.kind x.ty x.name d) d lp (yOne p res x s d lp n).2).1=0:=by
 rw [z2f] at h
 by_cases h1:(yOne p res x s d lp n).1=0
 ·rw [if_pos h1] at h;exact ⟨h1,h⟩
 ·rw [if_neg h1] at h;exact absurd h h1
theorem yOne_ok {p:Pg} {res k ty:Int} {nm:ByteArray} {args:List Ex} {thn els:List St} {s:Sc} {d:Int} {lp:Bool} {n:Nat} (h:(yOne p res (.mk k ty nm args thn els) s d lp n).1=0) :
 zw6 p res s k ty nm args d lp=0/\(z2f p res thn (z6j s k ty nm d) (d+1) (lp||k==5) (n+1)).1=0/\(z2f p res els (z6j s k ty nm d) (d+1) lp (z2f p res thn (z6j s k ty nm d) (d+1) (lp||k==5) (n+1)).2).1=0:=by
 rw [yOne] at h
 by_cases h1:zw6 p res s k ty nm args d lp=0
 ·rw [if_pos h1] at h
  by_cases h2:(z2f p res thn (z6j s k ty nm d) (d+1) (lp||k==5) (n+1)).1=0
  ·rw [if_pos h2] at h;exact ⟨h1,h2,h⟩
  ·rw [if_neg h2] at h;exact absurd h h2
 ·rw [if_neg h1] at h;exact absurd h h1
theorem yy1 {p:Pg} {res k ty:Int} {nm:ByteArray} {args:List Ex} {s:Sc} {d:Int} {lp:Bool} (h:zw6 p res s k ty nm args d lp=0) (hl:(k=1∨k=2∨k=4∨k=5∨k=8∨k=9∨k=10)/\args.length=1∨k=3/\args.length=2∨(k=6∨k=7)/\args.length=0):∀ e∈args,(z5b p s e).2=0:=by
 unfold zw6 at h;rcases hl with ⟨hk,hl⟩ | ⟨hk,hl⟩ | ⟨hk,hl⟩
 ·obtain ⟨e,rfl⟩:=Br.1 hl;intro q hq;obtain rfl:=Aj.1 hq;rw [show ([q]:List Ex).getD 0 ex0=q from rfl] at h
  by_cases c1:k=4∨k=5
  ·rw [if_pos c1] at h;exact z87 h
  rw [if_neg c1] at h
  by_cases c2:k=8
  ·rw [if_pos c2] at h;exact z87 h
  rw [if_neg c2] at h
  by_cases c3:k=9
  ·rw [if_pos c3] at h;exact z87 h
  rw [if_neg c3] at h
  by_cases c4:k=10
  ·rw [if_pos c4] at h;exact h
  rw [if_neg c4,if_neg oM0] at h;unfold y9h at h;rw [show ([q]:List Ex).getD 0 ex0=q from rfl] at h
  by_cases c5:k=1
  ·rw [if_pos c5] at h;split at h
   ·rename_i h1;exact z87 h1
   ·exact z87 h
  rw [if_neg c5,if_pos oM0] at h;split at h
  ·exact absurd h dC0
  ·exact z87 h
 ·subst hk;rw [if_neg dC0,if_neg dC0,if_neg dC0,if_neg dC0,if_neg dC0] at h;unfold y9h at h;rw [if_neg dC0,if_neg dC0] at h
  match args,hl with
  | [a,b],_ =>
   rw [show ([a,b]:List Ex).getD 0 ex0=a from rfl,show ([a,b]:List Ex).getD 1 ex0=b from rfl] at h;split at h
   ·exact absurd h dC0
   ·split at h
    ·rename_i h1;intro q hq;simp only [Ah,C2,Fx] at hq;rcases hq with rfl | rfl
     ·exact z87 h1
     ·exact z87 h
    ·rename_i h1;exact absurd h h1
 ·obtain rfl:=As hl;intro q hq
  cases hq
theorem gB_of (p:Pg) (res:Int):∀ N,(∀ x:St,SizeOf.sizeOf x<N->∀ m s d lp n,rst x m=true->(yOne p res x s d lp n).1=0->gS p (!s.isEmpty) lp x=true)/\(∀ l:List St,SizeOf.sizeOf l<N->∀ m s d lp n,rsL l m=true->(z2f p res l s d lp n).1=0->gB p (!s.isEmpty) lp l=true)
 | 0=>⟨λ_ h=>absurd h (Ae _),λ_ h=>absurd h (Ae _)⟩
 | N+1=>by
  obtain ⟨h1,h2⟩:=gB_of p res N;refine ⟨λx hx m s d lp n hr hy=>?_,λl hl m s d lp n hr hy=>?_⟩
  ·obtain ⟨k,ty,nm,args,thn,els⟩:=x;simp at hx;obtain ⟨r1,r2,r3,r4,_⟩:=y17 hr;obtain ⟨y1,y2,y3⟩:=yOne_ok hy;have ya:=yy1 y1 r1;rw [gS]
   by_cases k4:k=4
   ·subst k4;rw [show z6j s 4 ty nm d=s from rfl,show (lp||(4:Int)==5)=lp by simp] at y2 y3;rw [if_pos rfl,gA_of 1 oM0 r2 ya,h2 thn oM0 _ _ _ _ _ r3 y2,h2 els oM0 _ _ _ _ _ r4 y3];rfl
   rw [if_neg k4]
   by_cases k5:k=5
   ·subst k5;rw [show z6j s 5 ty nm d=s from rfl,show (lp||(5:Int)==5)=true by simp] at y2;rw [if_pos rfl,gA_of 1 oM0 r2 ya,h2 thn oM0 _ _ _ _ _ r3 y2];rfl
   rw [if_neg k5]
   by_cases k67:k=6∨k=7
   ·rw [if_pos k67];unfold zw6 at y1;rw [if_neg oM0,if_neg oM0,if_neg oM0,if_neg oM0,if_pos k67] at y1;exact yFine_ok dC0 y1
   rw [if_neg k67]
   by_cases k3:k=3
   ·rw [if_pos k3];exact gA_of 2 oM0 r2 ya
   rw [if_neg k3,gA_of 1 oM0 r2 ya,Av]
   cases s with
   | cons a b=>rfl
   | nil =>
    match args,r1 with
    | [],r1=>simp only [At] at r1;omega
    | e::r,_ =>
     have:=j5b (ya e (.head _));show (false||(((e::r).getD 0 ex0).kind != 3))=true;rw [Bs];exact bne_iff_ne.2 this
  ·match l with
   | []=>rfl
   | x::r =>
    simp at hl;rw [rsL,A0] at hr;obtain ⟨y1,y2⟩:=yh0 hy;have hh:=h2 r oM0 m _ d lp _ hr.2 y2;rw [y7c] at hh;rw [gB,h1 x oM0 m s d lp n hr.1 y1,hh];rfl
theorem yi4 {α:Type} (f g:α -> Bool) (h:α -> α) (e:∀ x,f (h x)=g x):∀ (l:List α) (i:Int),idxP f (l.map h) i=idxP g l i
 | [],i=>rfl
 | x::r,i=>by simp only [Az,idxP,e,yi4 f g h e r]
theorem j5d (p:Pg) (nm:ByteArray):z3j (rnP p) nm=z3j p nm:=by
 unfold z3j;exact yi4 _ _ rnF (λ_=>rfl) p.funcs 0
theorem j1t (p:Pg) (es:List (Value × PV)):∀ N,(∀ e:Ex,SizeOf.sizeOf e<N->riOk (rnP p) (rnX es e)=riOk p e/\xz (rnX es e)=xz e)/\(∀ l:List Ex,SizeOf.sizeOf l<N->zl7 (rnP p) (rnXL es l)=zl7 p l/\xzL (rnXL es l)=xzL l)
 | 0=>⟨λ_ h=>absurd h (Ae _),λ_ h=>absurd h (Ae _)⟩
 | N+1=>by
  obtain ⟨h1,h2⟩:=j1t p es N;refine ⟨λe he=>?_,λl hl=>?_⟩
  ·obtain ⟨k,o,n,nm,args⟩:=e;simp at he;have hl:(rnXL es args).length=args.length:=by rw [y15,A5]
   rw [rnX,riOk,riOk,(h2 args oM0).1,xz,xz,(h2 args oM0).2,hl,j5d];refine ⟨?_,rfl⟩
   by_cases k3:k=3
   ·subst k3;rfl
   ·rw [if_neg k3]
  ·match l with
   | []=>exact ⟨rfl,rfl⟩
   | e::r =>
    simp at hl;rw [rnXL,zl7,zl7,xzL,xzL,(h1 e oM0).1,(h2 r oM0).1,(h1 e oM0).2,(h2 r oM0).2];exact ⟨rfl,rfl⟩
theorem yl2 (p:Pg) (es:List (Value × PV)) (l:List Ex):zl7 (rnP p) (l.map (rnX es))=zl7 p l/\xzL (l.map (rnX es))=xzL l:=by rw [<- y15];exact (j1t p es _).2 l (A4 _)
theorem rnX_kind (es:List (Value × PV)) (e:Ex):(rnX es e).kind=e.kind:=by rw [rnX_eq];rfl
theorem gA_rn (p:Pg) (es:List (Value × PV)) (n:Nat) (l:List Ex):gA (rnP p) n (l.map (rnX es))=gA p n l:=by unfold gA;rw [(yl2 p es l).1,A5]
theorem rnS_kind (x:St) (es:List (Value × PV)) (n:Nat):(rnS x es n).1.kind=x.kind:=by cases x;rw [rnS];rfl
theorem yl7 (p:Pg):∀ N,(∀ x:St,SizeOf.sizeOf x<N->∀ es n,cnS (rnS x es n).1=cnS x/\sz (rnS x es n).1=sz x/\∀ b lp,gS (rnP p) b lp (rnS x es n).1=gS p b lp x)/\(∀ l:List St,SizeOf.sizeOf l<N->∀ es n,cnL (rnB l es n).1=cnL l/\szL (rnB l es n).1=szL l/\∀ b lp,gB (rnP p) b lp (rnB l es n).1=gB p b lp l)
 | 0=>⟨λ_ h=>absurd h (Ae _),λ_ h=>absurd h (Ae _)⟩
 | N+1=>by
  obtain ⟨h1,h2⟩:=yl7 p N;refine ⟨λx hx es n=>?_,λl hl es n=>?_⟩
  ·obtain ⟨k,ty,nm,args,thn,els⟩:=x;simp at hx;rw [rnS];obtain ⟨t1,t2,t3⟩:=h2 thn oM0 (z1q es k nm n).2.1 (z1q es k nm n).2.2;obtain ⟨e1,e2,e3⟩:=h2 els oM0 (z1q es k nm n).2.1 (rnB thn (z1q es k nm n).2.1 (z1q es k nm n).2.2).2;refine ⟨by rw [cnS,cnS,t1,e1],by rw [sz,sz,t2,e2,(yl2 p es args).2],λb lp=>?_⟩;rw [gS,gS,gA_rn,gA_rn,t3,t3,e3];have hg:((args.map (rnX es)).getD 0 ex0).kind=(args.getD 0 ex0).kind:=by
    cases args with
    | nil=>rfl
    | cons a r=>exact rnX_kind es a
   rw [hg]
  ·match l with
   | []=>exact ⟨rfl,rfl,λ_ _=>rfl⟩
   | x::r =>
    simp at hl;obtain ⟨a1,a2,a3⟩:=h1 x oM0 es n;obtain ⟨b1,b2,b3⟩:=h2 r oM0 (z1q es x.kind x.name n).2.1 (rnS x es n).2;rw [rnB];refine ⟨by rw [cnL,cnL,a1,b1],by rw [szL,szL,a2,b2],λb lp=>?_⟩;rw [gB,gB,a3,b3,rnS_kind]
theorem rn_cn (l:List St) (es:List (Value × PV)) (n:Nat):cnL (rnB l es n).1=cnL l:=((yl7 pg0 _).2 l (A4 _) es n).1
theorem rn_sz (l:List St) (es:List (Value × PV)) (n:Nat):szL (rnB l es n).1=szL l:=((yl7 pg0 _).2 l (A4 _) es n).2.1
theorem rn_gB (p:Pg) (l:List St) (es:List (Value × PV)) (n:Nat) (b lp:Bool):gB (rnP p) b lp (rnB l es n).1=gB p b lp l:=((yl7 p _).2 l (A4 _) es n).2.2 b lp
theorem ySc_ne (l:List Pm):(!(ySc l).isEmpty) = !l.isEmpty:=by
 unfold ySc
 suffices ∀ (l:List Pm) (s:Sc),(l.foldl (λs x=>(x.name,x.ty,(0:Int))::s) s).isEmpty=(s.isEmpty&&l.isEmpty) by rw [this];simp
 intro l
 induction l with
 | nil=>intro s;simp
 | cons x r ih=>intro s;rw [Dv,ih];simp
theorem ys9 (l:List Pm) (es:List (Value × PV)) (n:Nat):(rnPm l es n).1.isEmpty=l.isEmpty:=by cases l<;>rfl
theorem yx9 {p:Pg} (hr:rPg p=true) (hy:(z8z p).1=0):∀ f∈p.funcs,gB p (!f.params.isEmpty) false f.body=true:=by
 unfold z8z at hy;split at hy
 ·unfold rPg at hr;rw [A0] at hr;have hr:=Ba.1 hr.2
  suffices ∀ (l:List Fu) (i:Nat),(∀ f∈l,rFu f=true)->(y9i p l i).1=0->∀ f∈l,gB p (!f.params.isEmpty) false f.body=true from this p.funcs 0 hr hy
  intro l
  induction l with
  | nil=>intro i _ _ f hf;cases hf
  | cons x r ih =>
   intro i hr hy f hf;rw [y9i] at hy;split at hy
   ·exact absurd (show (50:Int)=0 from hy) dC0
   ·split at hy
    ·rename_i h2;rcases Ah.1 hf with rfl | hf
     ·have hb:(z2f p f.ty f.body (ySc f.params) 1 false 0).1=0:=by
       unfold yFun at h2;dsimp only at h2;split at h2
       ·exact absurd h2 dC0
       ·exact h2
      have hR:=hr f (.head _);unfold rFu at hR;simp only [A0] at hR;have:=(gB_of p f.ty _).2 f.body (A4 _) 100 (ySc f.params) 1 false 0 hR.1.2 hb;rw [ySc_ne] at this;exact this
     ·exact ih (i+1) (λq hq=>hr q (.tail _ hq)) hy f hf
    ·rename_i h2;exact absurd hy h2
 ·exact absurd hy dC0
theorem rnF_gB {p:Pg} (hr:rPg p=true) (hy:(z8z p).1=0):∀ f∈(rnP p).funcs,gB (rnP p) (!f.params.isEmpty) false f.body=true:=by
 intro f hf;obtain ⟨g,hg,rfl⟩:=C5.1 (show f∈p.funcs.map rnF from hf);have h1:=yx9 hr hy g hg;have h2:(rnF g).params.isEmpty=g.params.isEmpty:=ys9 g.params [] 0;rw [h2];show gB (rnP p) _ false (rnB g.body _ _).1=true;rw [rn_gB];exact h1
mutual
def nxX:Ex->Bool
 | .mk k _ _ nm args=>(k==3||decide (nm.size<=20))&&nxL args
def nxL:List Ex->Bool
 | []=>true
 | x::r=>nxX x&&nxL r
end
mutual
def nxS:St->Bool
 | .mk k _ nm args thn els=>(k==1||k==2||decide (nm.size<=20))&&nxL args&&nxB thn&&nxB els
def nxB:List St->Bool
 | []=>true
 | x::r=>nxS x&&nxB r
end
theorem y46 {s:ByteArray} (h:s.toList=[]):s.size=0:=by
 rw [z2c] at h;show s.data.size=0;rw [<- Bq,h];rfl
theorem zk3 {s:ByteArray} (h:z0j s=true):s.size<=20:=by
 unfold z0j at h;simp only [A0,B7] at h;have:=h.1.1.1.2;omega
theorem nxX_of:∀ N,(∀ e:Ex,SizeOf.sizeOf e<N->∀ m,rx e m=true->nxX e=true)/\(∀ l:List Ex,SizeOf.sizeOf l<N->∀ m,rxL l m=true->nxL l=true)
 | 0=>⟨λ_ h=>absurd h (Ae _),λ_ h=>absurd h (Ae _)⟩
 | N+1=>by
  obtain ⟨h1,h2⟩:=nxX_of N;refine ⟨λe he m hr=>?_,λl hl m hr=>?_⟩
  ·obtain ⟨k,o,n,nm,args⟩:=e;simp at he;rw [rx,A0] at hr;rw [nxX,h2 args oM0 m hr.1,C7];have hr:=hr.2;unfold rOwn at hr;have e0:nm.toList=[]->(k==3||decide (nm.size<=20))=true:=λh=>by rw [Bk];exact .inr (By (by rw [y46 h];omega))
   have e1:z0j nm=true->(k==3||decide (nm.size<=20))=true:=λh=>by rw [Bk];exact .inr (By (zk3 h))
   repeat' split at hr
   all_goals (try (simp only [A0,Ap] at hr))
   ·exact e0 hr.1.2
   ·exact e0 hr.1.2
   ·exact e1 hr.1.2
   ·exact e0 hr.1.2
   ·exact e0 hr.1.2
   ·exact e1 hr.1.2
   ·exact e1 hr.1.2
   ·exact e0 hr.1.2
   ·cases hr
  ·match l with
   | []=>rfl
   | e::r =>
    simp at hl;rw [rxL,A0,A0] at hr;rw [nxL,h1 e oM0 _ hr.1.2,h2 r oM0 m hr.2];rfl
theorem nxL_of {l:List Ex} (h:∀ e∈l,rx e 100=true):nxL l=true:=by
 induction l with
 | nil=>rfl
 | cons e r ih=>rw [nxL,(nxX_of _).1 e (A4 _) 100 (h e (.head _)),ih λq hq=>h q (.tail _ hq)];rfl
theorem nm_sz {b:Bool} {nm:ByteArray} (h:b=z0j nm/\(b=false->nm.toList=[])):nm.size<=20:=by
 cases b with
 | true=>exact zk3 h.1.symm
 | false=>rw [y46 (h.2 rfl)];omega
theorem nxB_of:∀ N,(∀ x:St,SizeOf.sizeOf x<N->∀ m,rst x m=true->nxS x=true)/\(∀ l:List St,SizeOf.sizeOf l<N->∀ m,rsL l m=true->nxB l=true)
 | 0=>⟨λ_ h=>absurd h (Ae _),λ_ h=>absurd h (Ae _)⟩
 | N+1=>by
  obtain ⟨h1,h2⟩:=nxB_of N;refine ⟨λx hx m hr=>?_,λl hl m hr=>?_⟩
  ·obtain ⟨k,ty,nm,args,thn,els⟩:=x;simp at hx;obtain ⟨_,r2,r3,r4,r5⟩:=y17 hr;rw [nxS,nxL_of r2,h2 thn oM0 _ r3,h2 els oM0 _ r4,C7,C7,C7,Bk];exact .inr (By (nm_sz r5))
  ·match l with
   | []=>rfl
   | x::r =>
    simp at hl;rw [rsL,A0] at hr;rw [nxB,h1 x oM0 m hr.1,h2 r oM0 m hr.2];rfl
theorem nxX_rn (es:List (Value × PV)):∀ N,(∀ e:Ex,SizeOf.sizeOf e<N->nxX (rnX es e)=nxX e)/\(∀ l:List Ex,SizeOf.sizeOf l<N->nxL (rnXL es l)=nxL l)
 | 0=>⟨λ_ h=>absurd h (Ae _),λ_ h=>absurd h (Ae _)⟩
 | N+1=>by
  obtain ⟨h1,h2⟩:=nxX_rn es N;refine ⟨λe he=>?_,λl hl=>?_⟩
  ·obtain ⟨k,o,n,nm,args⟩:=e;simp at he;rw [rnX,nxX,nxX,h2 args oM0]
   by_cases k3:k=3
   ·subst k3;rfl
   ·rw [if_neg k3]
  ·match l with
   | []=>rfl
   | e::r =>
    simp at hl;rw [rnXL,nxL,nxL,h1 e oM0,h2 r oM0]
theorem nxL_rn (es:List (Value × PV)) (l:List Ex):nxL (l.map (rnX es))=nxL l:=by rw [<- y15];exact (nxX_rn es _).2 l (A4 _)
theorem nxB_rn:∀ N,(∀ x:St,SizeOf.sizeOf x<N->∀ es n,nxS x=true->nxS (rnS x es n).1=true)/\(∀ l:List St,SizeOf.sizeOf l<N->∀ es n,nxB l=true->nxB (rnB l es n).1=true)
 | 0=>⟨λ_ h=>absurd h (Ae _),λ_ h=>absurd h (Ae _)⟩
 | N+1=>by
  obtain ⟨h1,h2⟩:=nxB_rn N;refine ⟨λx hx es n h=>?_,λl hl es n h=>?_⟩
  ·obtain ⟨k,ty,nm,args,thn,els⟩:=x;simp at hx;rw [nxS,A0,A0,A0] at h;rw [rnS,nxS,nxL_rn,h2 thn oM0 _ _ h.1.2,h2 els oM0 _ _ h.2,h.1.1.2,C7,C7,C7];have h4:=h.1.1.1
   by_cases k1:k=1
   ·subst k1;rfl
   by_cases k2:k=2
   ·subst k2;rfl
   rw [show (z1q es k nm n).1=nm by unfold z1q;rw [if_neg k1,if_neg k2]];exact h4
  ·match l with
   | []=>rfl
   | x::r =>
    simp at hl;rw [nxB,A0] at h;rw [rnB,nxB,h1 x oM0 _ _ h.1,h2 r oM0 _ _ h.2];rfl
theorem nxL_mem {l:List Ex} {e:Ex} (h:nxL l=true) (he:e∈l):nxX e=true:=by
 induction l with
 | nil=>cases he
 | cons x r ih =>
  rw [nxL,A0] at h;rcases Ah.1 he with rfl | he
  ·exact h.1
  ·exact ih h.2 he
theorem j43 (n:Nat) (h:n<=1000000000):(tVal n).size<=30:=by
 have:=Lib.itoa_length_le (n:Int) oM0 oM0;have e:(tVal n).size=1+(Lib.itoa (n:Int)).length:=by
  unfold tVal tNum;rw [Da];show 1+(Lib.itoa (n:Int)).toArray.size=_;rw [Et]
 omega
def Sh (es:List (Value × PV)):Prop:=∀ e∈es,∃ s:ByteArray,e.2=vStr s/\s.size<=30
theorem Sh.put {es:List (Value × PV)} (h:Sh es) (a:ByteArray) {b:ByteArray} (hb:b.size<=30):Sh (z9e es a b):=λe he=>by
 rcases z50 he with rfl | he
 ·exact ⟨b,rfl,hb⟩
 ·exact h e he
theorem Sh.get {es:List (Value × PV)} (h:Sh es) (a:ByteArray):(z8h es a).size<=30:=by
 unfold z8h;split
 ·rename_i s hf;obtain ⟨a,ha⟩:=z8p hf;obtain ⟨t,h1,h2⟩:=h _ ha;dsimp only at h1
  cases h1
  exact h2
 ·exact A6 _
theorem nt_rn:∀ N,(∀ x:St,SizeOf.sizeOf x<N->∀ es n m,Sh es->n+cnS x<=1000000000->rst x m=true->ntS 30 (rnS x es n).1/\(rnS x es n).2<=n+cnS x/\Sh (z1q es x.kind x.name n).2.1)/\(∀ l:List St,SizeOf.sizeOf l<N->∀ es n m,Sh es->n+cnL l<=1000000000->rsL l m=true->ntL 30 (rnB l es n).1/\(rnB l es n).2<=n+cnL l)
 | 0=>⟨λ_ h=>absurd h (Ae _),λ_ h=>absurd h (Ae _)⟩
 | N+1=>by
  obtain ⟨h1,h2⟩:=nt_rn N;refine ⟨λx hx es n m hs hn hr=>?_,λl hl es n m hs hn hr=>?_⟩
  ·obtain ⟨k,ty,nm,args,thn,els⟩:=x;simp at hx;obtain ⟨_,_,r3,r4,r5⟩:=y17 hr;rw [cnS] at hn;have hv:=j43 n oM0;have ho:(z1q es k nm n).1.size<=30/\(z1q es k nm n).2.2<=n+1/\Sh (z1q es k nm n).2.1:=by
    unfold z1q;split
    ·exact ⟨(hs.put nm hv).get nm,Aa _,hs.put nm hv⟩
    ·split
     ·exact ⟨hs.get nm,Fa _,hs⟩
     ·exact ⟨Bf (nm_sz r5) oM0,Fa _,hs⟩
   obtain ⟨o1,o2,o3⟩:=ho;obtain ⟨t1,t2⟩:=h2 thn oM0 (z1q es k nm n).2.1 (z1q es k nm n).2.2 _ o3 oM0 r3;obtain ⟨e1,e2⟩:=h2 els oM0 (z1q es k nm n).2.1 (rnB thn (z1q es k nm n).2.1 (z1q es k nm n).2.2).2 _ o3 oM0 r4;rw [rnS,ntS,cnS];exact ⟨⟨o1,t1,e1⟩,by dsimp only;omega,o3⟩
  ·match l with
   | []=>exact ⟨G9,Be _ _⟩
   | x::r =>
    simp at hl;rw [rsL,A0] at hr;rw [cnL] at hn;obtain ⟨a1,a2,a3⟩:=h1 x oM0 es n m hs oM0 hr.1;obtain ⟨b1,b2⟩:=h2 r oM0 (z1q es x.kind x.name n).2.1 (rnS x es n).2 m a3 oM0 hr.2;rw [rnB,ntL,cnL];exact ⟨⟨a1,b1⟩,by dsimp only;omega⟩
theorem j12 {a b:Nat} (hab:a<=b):∀ N,(∀ x:St,SizeOf.sizeOf x<N->ntS a x->ntS b x)/\(∀ l:List St,SizeOf.sizeOf l<N->ntL a l->ntL b l)
 | 0=>⟨λ_ h=>absurd h (Ae _),λ_ h=>absurd h (Ae _)⟩
 | N+1=>by
  obtain ⟨h1,h2⟩:=j12 hab N;refine ⟨λx hx h=>?_,λl hl h=>?_⟩
  ·obtain ⟨k,ty,nm,args,thn,els⟩:=x;simp at hx;rw [ntS] at h ⊢;exact ⟨Bf h.1 hab,h2 thn oM0 h.2.1,h2 els oM0 h.2.2⟩
  ·match l with
   | []=>trivial
   | x::r =>
    simp at hl;rw [ntL] at h ⊢;exact ⟨h1 x oM0 h.1,h2 r oM0 h.2⟩
theorem j26:∀ (l:List Pm) (es:List (Value × PV)) (n:Nat),Sh es->n+l.length<=1000000000->Sh (rnPm l es n).2.1/\(rnPm l es n).2.2=n+l.length
 | [],es,n,h,_=>⟨h,rfl⟩
 | x::r,es,n,h,hn=>by
  rw [Ad] at hn;obtain ⟨h1,h2⟩:=j26 r (z9e es x.name (tVal n)) (n+1) (h.put _ (j43 n oM0)) oM0;rw [rnPm,Ad];exact ⟨h1,by dsimp only;omega⟩
theorem z7k (a b:List Nd):z0u (a++b)=z0u a+z0u b:=by
 unfold z0u;rw [y24,B3];omega
theorem z61 (k o n:Int) (nm:ByteArray) (a b c:List Int) (ks:List (List Nd)):z0u [.mk k o n nm a b c ks]=1+a.length+b.length+c.length+nm.size+wtK ks:=by simp only [z0u,wtL,wtN,Ad,At];omega
theorem j55 (a:List Nd):wtK [a]=1+z0u a:=by simp only [wtK,z0u];omega
theorem yg9 (a b:List Nd):wtK [a,b]=2+z0u a+z0u b:=by simp only [wtK,z0u];omega
theorem yg8:wtK []=0:=rfl
theorem z7l:z0u []=0:=rfl
theorem y35:∀ a b:List Nd,lsz (a++b)=lsz a+lsz b
 | [],b=>by simp [lsz]
 | x::r,b=>by simp only [B6,lsz,y35 r b];omega
theorem zp6 (k o n:Int) (nm:ByteArray) (a b c:List Int) (ks:List (List Nd)):lsz [.mk k o n nm a b c ks]=1+kdz ks:=by simp only [lsz,nsz];omega
theorem j0n (a:List Nd):kdz [a]=lsz a:=by simp only [kdz];omega
theorem ya0 (a b:List Nd):kdz [a,b]=lsz a+lsz b:=by simp only [kdz];omega
def tw (s:RiS):Nat:=s.ts.length+z0u s.ns
theorem sz0:(⟨#[]⟩:ByteArray).size=0:=rfl
theorem yo4 (t k o n:Int) (nm:ByteArray) (args:List Int) (ks:List (List Nd)) (s:RiS):tw (z6h t k o n nm args ks s).2=tw s+3+args.length+nm.size+wtK ks/\lsz (z6h t k o n nm args ks s).2.ns=lsz s.ns+1+kdz ks:=by
 unfold z6h tw;refine ⟨?_,?_⟩
 ·dsimp only;rw [z7k,z61,B3];simp only [Ad,At];omega
 ·dsimp only;rw [y35,zp6];omega
theorem tw_top (p:Pg) (k o n:Int) (nm:ByteArray) (l:List Int) (s:RiS) (hn:nm.size<=20):tw (zq9 p k o n nm l s).2<=tw s+23+l.length/\lsz (zq9 p k o n nm l s).2.ns<=lsz s.ns+1:=by
 unfold zq9
 repeat' split
 all_goals (rw [(yo4 ..).1,(yo4 ..).2];simp only [yg8,sz0,At,kdz];omega)
theorem z21 (k:Int) (nm:ByteArray) (args:List Int) (ns:List Nd):z0u (z6n k nm args ns)=z0u ns+1+args.length+nm.size/\lsz (z6n k nm args ns)=lsz ns+1:=by
 unfold z6n;refine ⟨?_,?_⟩
 ·rw [z7k,z61];simp only [yg8,At];omega
 ·rw [y35,zp6];simp only [kdz]
theorem tw_sh (o a:Int) (ns:List Nd) (r:Int × RiS):tw (z6o o a ns r).2=tw r.2+z0u ns+13/\lsz (z6o o a ns r).2.ns=lsz ns+lsz r.2.ns+4:=by
 unfold z6o;split
 all_goals
  rw [(yo4 ..).1,(yo4 ..).2,yg9,ya0,(z21 ..).1,(z21 ..).2,(z21 ..).1,(z21 ..).2,z61,zp6];unfold tw;simp only [yg8,sz0,At,Ad,kdz,B3];omega
theorem riX_tw (p:Pg) (vs:List (Value × PV)):∀ (N:Nat),(∀ e:Ex,SizeOf.sizeOf e<N->nxX e=true->∀ s,tw (riX p vs e s).2+1<=tw s+27*xz e/\lsz (riX p vs e s).2.ns<=lsz s.ns+4*xz e) /\
 (∀ l:List Ex,SizeOf.sizeOf l<N->nxL l=true->∀ s,tw (riXL p vs l s).2+l.length<=tw s+27*xzL l/\lsz (riXL p vs l s).2.ns<=lsz s.ns+4*xzL l/\(riXL p vs l s).1.length=l.length) /\
 (∀ (o:Int) (l:List Ex),SizeOf.sizeOf l<N->nxL l=true->∀ s,tw (riSh p vs o l s).2<=tw s+27*xzL l+13/\lsz (riSh p vs o l s).2.ns<=lsz s.ns+4*xzL l+4) /\
 (∀ (o a:Int) (s:RiS) (l:List Ex),SizeOf.sizeOf l<N->nxL l=true->tw (zl9 p vs o a s l).2<=tw s+27*xzL l+13/\lsz (zl9 p vs o a s l).2.ns<=lsz s.ns+4*xzL l+4)
 | 0=>⟨λ_ h=>absurd h (Ae _),λ_ h=>absurd h (Ae _),λ_ _ h=>absurd h (Ae _),λ_ _ _ _ h=>absurd h (Ae _)⟩
 | N+1=>by
  obtain ⟨h1,h2,h3,h4⟩:=riX_tw p vs N;refine ⟨λe he hn s=>?_,λl hl hn s=>?_,λo l hl hn s=>?_,λo a s l hl hn=>?_⟩
  ·obtain ⟨k,o,n,nm,args⟩:=e;simp at he;rw [nxX,A0] at hn;rw [riX,xz];split
   ·exact ⟨by dsimp only;omega,by dsimp only;omega⟩
   ·rename_i k3;split
    ·obtain ⟨a1,a2⟩:=h3 o args oM0 hn.2 s;exact ⟨by omega,by omega⟩
    ·obtain ⟨a1,a2,a3⟩:=h2 args oM0 hn.2 s;have hnm:nm.size<=20:=by
      have:=hn.1;rw [Bk] at this;rcases this with h | h
      ·exact absurd (eq_of_beq h) k3
      ·exact An h
     obtain ⟨b1,b2⟩:=tw_top p k o n nm (riXL p vs args s).1 (riXL p vs args s).2 hnm;exact ⟨by omega,by omega⟩
  ·match l with
   | []=>rw [riXL];exact ⟨Aa _,Aa _,rfl⟩
   | e::r =>
    simp at hl;rw [nxL,A0] at hn;rw [riXL,xzL];obtain ⟨a1,a2⟩:=h1 e oM0 hn.1 s;obtain ⟨b1,b2,b3⟩:=h2 r oM0 hn.2 (riX p vs e s).2;exact ⟨by dsimp only [List.length_cons];omega,by dsimp only;omega,by dsimp only [List.length_cons];rw [b3]⟩
  ·match l with
   | []=>rw [riSh];exact ⟨by dsimp only;omega,by dsimp only;omega⟩
   | e::r =>
    simp at hl;rw [nxL,A0] at hn;rw [riSh,xzL];obtain ⟨a1,a2⟩:=h1 e oM0 hn.1 s;obtain ⟨b1,b2⟩:=h4 o (riX p vs e s).1 (riX p vs e s).2 r oM0 hn.2;exact ⟨by omega,by omega⟩
  ·match l with
   | []=>rw [zl9];exact ⟨by dsimp only;omega,by dsimp only;omega⟩
   | e::r =>
    simp at hl;rw [nxL,A0] at hn;rw [zl9,xzL,(tw_sh ..).1,(tw_sh ..).2];obtain ⟨a1,a2⟩:=h1 e oM0 hn.1 ⟨s.ts,[]⟩;have e1:tw ⟨s.ts,[]⟩=s.ts.length:=by unfold tw;rw [z7l];rfl
    have e2:lsz []=0:=rfl;dsimp only at a2;rw [e1] at a1;rw [e2] at a2;have e3:tw s=s.ts.length+z0u s.ns:=rfl;exact ⟨by omega,by omega⟩
def zq8 (l:List Pm):List (Value × PV) × List Int:=l.foldl (λa x=>(riSt a.1 x.name a.2.length,a.2++[x.ty])) ([],[])
def riT0 (l:List Pm):RiT:=⟨(zq8 l).1,(zq8 l).2,[],[]⟩
def z7m (p:Pg) (f:Fu):Fl:=⟨f.name,f.ty,f.params.length,(riB p f.body [] (riT0 f.params)).2.ts,(riB p f.body [] (riT0 f.params)).2.ns⟩
theorem ys6 (l:List Pm) (x:Pm):zq8 (l++[x])=(riSt (zq8 l).1 x.name (zq8 l).2.length,(zq8 l).2++[x.ty]):=by simp [zq8]
theorem y12 (l:List Pm):(zq8 l).2.length=l.length:=by
 suffices ∀ (l:List Pm) (a:List (Value × PV) × List Int),(l.foldl (λa x=>(riSt a.1 x.name a.2.length,a.2++[x.ty])) a).2.length=a.2.length+l.length by
  have:=this l ([],[]);simpa [zq8] using this
 intro l
 induction l with
 | nil=>intro a;simp
 | cons x r ih=>intro a;simp only [Dv];rw [ih];simp;omega
theorem yl4 (l:List Pm):RiI (zq8 l).1 (zq8 l).2.length (!l.isEmpty):=by
 suffices ∀ (l:List Pm) (a:List (Value × PV) × List Int) (b:Bool),RiI a.1 a.2.length b->RiI (l.foldl (λa x=>(riSt a.1 x.name a.2.length,a.2++[x.ty])) a).1 (l.foldl (λa x=>(riSt a.1 x.name a.2.length,a.2++[x.ty])) a).2.length (b || !l.isEmpty) from by
  have h:=this l ([],[]) false ⟨Cnt.nil,(λe he=>by cases he),λh=>by cases h⟩;simpa [zq8] using h
 intro l
 induction l with
 | nil=>intro a b h;simpa using h
 | cons x r ih =>
  intro a b h;simp only [Dv];have:=ih (riSt a.1 x.name a.2.length,a.2++[x.ty]) true ((h.mono (m:=(a.2++[x.ty]).length) sI0).put x.name (v:=(a.2.length:Int)) oM0 (by simp;omega));exact this.weak λ_=>by simp
theorem j2s (p:Pg) (f:Fu) (hl:f.params.length<=1000000000) (hB:scB p f.body [] (riT0 f.params) (riB p f.body [] (riT0 f.params))) :
 SC Tryz.prog 18 [.pv (.agg [arrs p.arrays,fus p.funcs]),.pv (.agg [vStr f.name,vInt f.ty,pms f.params,sts f.body])] [] (λk=>k∈[]) (.pv (.agg (z7m p f).enc)) []:=by
 refine SC.vc tb { pb:=[102,103,107],ids:=[(10,1),(11,5),(13,4)],gh:=[(2,[.growC 1 2 2 3 1,.growC 1 3 3 76 1,.spC 1 3 3,.growC 4 2 6 46 8]),(8,[.fzC 1 2 2,.fzC 4 2 6])] } [] Tryz.func18 rfl rfl ?_;refine ⟨Nat,λi=>[(17,iInt ((i:Nat):Int))],λi=>riW p [] (riT0 (f.params.take i)),λi=>f.params.length - i,λi=>i<=f.params.length,[],0,A6 _,Ga,Gf,?_⟩;intro i hi;refine z00 (λhc=>?_) λhc=>?_
 ·have hlt:i<f.params.length:=z0y (f:=Pm.enc) rfl hc;obtain ⟨x,x1,x2,x3,x4⟩:=z0n hlt;have hs:=ys6 (f.params.take i) x;rw [<- x2] at hs;have hn:=y12 (f.params.take i);have hk:=(yl4 (f.params.take i)).cnt;rw [Dt] at hn;have hs1:=A8 Prod.fst hs;have hs2:=A8 Prod.snd hs;dsimp only at hs1 hs2;exact ⟨zu3 x1,rfl,[],zr4 p (zq8 (f.params.take i)).2 ⟨[],[]⟩ x.ty oM0,sR,Gc,rfl,rfl,hk.1,z01 rfl oM0,i+1,z04 hlt,hlt,Ga,⟨boq (by simp only [riT0,hs2]),rwq (by simp only [riT0,hs2]),rfl,rfl,mpq (by simp only [riT0,hs1];rfl),rfl,G9⟩,rfl,rfl,rfl,rfl⟩
 ·have hge:f.params.length<=i:=z0z (f:=Pm.enc) rfl hc;rw [Am hge];unfold z7m;generalize riB p f.body [] (riT0 f.params)=r at hB ⊢;exact ⟨[],hB,sR,Gf,rfl,rfl,rfl,sE (by rw [A5];rfl),G9⟩
def un0:Un:=⟨[],[]⟩
def riUn (q:Pg):Un:=⟨q.arrays,q.funcs.map (z7m q)⟩
def ys7 (p:Pg) (k:Int):Un × Int:=if (rnOf p).2=0 then (if k=0 then (riUn (rnOf p).1,0) else (un0,2)) else (un0,(rnOf p).2)
theorem sc_Rise0 (p:Pg) (hR:SC Tryz.prog 17 [.pv p.enc] [] (λk=>k∈[]) (.tup [.pv (rnOf p).1.enc,iInt (rnOf p).2]) []) (hfl:(rnOf p).1.funcs.length<=1000000000)
 (hF:(rnOf p).2=0->∀ f∈(rnOf p).1.funcs,f.params.length<=1000000000/\scB (rnOf p).1 f.body [] (riT0 f.params) (riB (rnOf p).1 f.body [] (riT0 f.params))) (k1 k2:Int)
 (hK:(rnOf p).2=0->SC Tryz.prog 19 [.pv (riUn (rnOf p).1).enc] [] (λk=>k∈[]) (.tup [iInt k1,iInt k2]) []) :
 SC Tryz.prog 7 [.pv p.enc] [] (λk=>k∈[]) (.tup [.pv (ys7 p k1).1.enc,iInt (ys7 p k1).2]) []:=by
 refine SC.vc tb { pb:=[107],gh:=[(5,[.growC 105 1 9 59 5]),(10,[.fzC 105 1 9])] } [] Tryz.func7 rfl rfl ?_;unfold ys7;generalize rnOf p=q at hR hfl hF hK ⊢;obtain ⟨q,e⟩:=q;dsimp only at hR hfl hF hK ⊢;refine ⟨[],hR,sR,G9,rfl,z00 (λh=>?_) λh=>?_⟩
 ·have h:¬ e=0:=by simpa using h
  rw [if_neg h];exact ⟨sT2 (sP (z0d _)),G9⟩
 have h:e=0:=by simpa using h
 subst h;have hF:=hF rfl;have hK:=hK rfl;rw [if_pos rfl];refine ⟨Nat,λi=>[(25,iInt ((i:Nat):Int))],λi=>[(105,.box [.pv (arrs q.arrays),.sl 9 ((q.funcs.take i).map λf=>(z7m q f).enc).length]),(9,.row ⟨59,5⟩ ((q.funcs.take i).map λf=>(z7m q f).enc))],λi=>q.funcs.length - i,λi=>i<=q.funcs.length,[],0,A6 _,Ga,Gb,?_⟩;intro i hi;refine z00 (λhc=>?_) λhc=>?_
 ·have hlt:i<q.funcs.length:=z0y (f:=Fu.enc) rfl hc;obtain ⟨x,x1,x2,x3,x4⟩:=z0n hlt;obtain ⟨f1,f2⟩:=hF x x4;exact ⟨z9q x1,rfl,[],j2s q x f1 f2,sR,G9,rfl,rfl,z3s rfl,by simp;omega,by simp,z01 rfl oM0,i+1,z04 hlt,hlt,Ga,⟨boq (by rw [x2];simp),rwq (by rw [x2];simp [Fl.enc]),G9⟩,rfl,rfl,rfl,rfl⟩
 ·have hge:q.funcs.length<=i:=z0z (f:=Fu.enc) rfl hc;rw [Am hge];have he:(riUn q).enc = .agg [arrs q.arrays,.seq (q.funcs.map λf=>(z7m q f).enc)]:=by simp [riUn,Un.enc,flws]
  rw [he] at hK;refine ⟨rfl,[],hK,sR,G9,rfl,z00 (λh=>?_) λh=>?_⟩
  ·have h:¬ k1=0:=by simpa using h
   rw [if_neg h];exact ⟨sT2 (sP (z0d _)),G9⟩
  ·have h:k1=0:=by simpa using h
   rw [if_pos h,he];exact ⟨sI,G9⟩
def twT (s:RiT):Nat:=s.ts.length+z0u s.ns
theorem z70 (vs:List (Value × PV)) (z05:List ByteArray):(riOf vs z05).length=z05.length:=by simp [riOf]
theorem y9y (vs:List (Value × PV)) (z05:List ByteArray) (ts:List Int) (ns:List Nd) (jk:List (List ByteArray)) (k:Int) (args params:List Int) (kids:List (List Nd)) :
 twT (z6g vs z05 ts ns jk k args params kids).2<=ts.length+z0u ns+2*z05.length+1+args.length+params.length+wtK kids/\lsz (z6g vs z05 ts ns jk k args params kids).2.ns=lsz ns+1+kdz kids:=by
 have hl:=z3e (riOf vs z05) ts;rw [z70] at hl;unfold z6g twT;split
 ·refine ⟨?_,?_⟩
  ·dsimp only;rw [z7k,z61,sz0];simp only [At];omega
  ·dsimp only;rw [y35,zp6];omega
 ·refine ⟨?_,?_⟩
  ·dsimp only;rw [z7k,z61,sz0];omega
  ·dsimp only;rw [y35,zp6];omega
theorem yh3 (k:Int) (z05:List ByteArray) (a:Bool × RiT):z0u (z5r k z05 a)<=z0u a.2.ns+1+z05.length/\lsz (z5r k z05 a)<=lsz a.2.ns+1:=by
 unfold z5r;split
 ·exact ⟨by omega,by omega⟩
 ·rw [(z21 ..).1,(z21 ..).2,z70,sz0];exact ⟨by omega,Aa _⟩
theorem X_tw (p:Pg) (vs:List (Value × PV)) (e:Ex) (h:nxX e=true) (s:RiS):(riX p vs e s).2.ts.length+z0u (riX p vs e s).2.ns<=s.ts.length+z0u s.ns+27*xz e/\lsz (riX p vs e s).2.ns<=lsz s.ns+4*xz e:=by
 obtain ⟨h1,h2⟩:=(riX_tw p vs _).1 e (A4 _) h s;unfold tw at h1;exact ⟨by omega,h2⟩
theorem zp9 {l:List Ex} {i:Nat} {e:Ex} (h:nxL l=true) (he:l[i]? = some e):nxX e=true:=nxL_mem h (Ai he)
theorem kid_ts (s:RiT) (z05:List ByteArray):(z2a s z05).ts.length=s.ts.length+z05.length:=by
 have hl:=z3e (riOf s.vs z05) s.ts;rw [z70] at hl;unfold z2a;dsimp only;omega
theorem ri_tw (p:Pg) (M:Nat):∀ N,(∀ x:St,SizeOf.sizeOf x<N->∀ b lp lo s,gS p b lp x=true->nxS x=true->cnS x<=M->(∀ l∈lo,l.length<=M)->twT (riS p x lo s).2<=twT s+27*sz x+(30+8*M)*cnS x/\lsz (riS p x lo s).2.ns<=lsz s.ns+4*sz x) /\
 (∀ l:List St,SizeOf.sizeOf l<N->∀ b lp lo s,gB p b lp l=true->nxB l=true->cnL l<=M->(∀ q∈lo,q.length<=M)->twT (riB p l lo s).2<=twT s+27*szL l+(30+8*M)*cnL l/\lsz (riB p l lo s).2.ns<=lsz s.ns+4*szL l)
 | 0=>⟨λ_ h=>absurd h (Ae _),λ_ h=>absurd h (Ae _)⟩
 | N+1=>by
  obtain ⟨hS,hB⟩:=ri_tw p M N;refine ⟨λx hx b lp lo s hg hn hc hlo=>?_,λl hl b lp lo s hg hn hc hlo=>?_⟩
  ·obtain ⟨k,ty,nm,args,thn,els⟩:=x;simp at hx;rw [gS] at hg;rw [nxS,A0,A0,A0] at hn;obtain ⟨⟨⟨n1,n2⟩,n3⟩,n4⟩:=hn;rw [cnS] at hc;rw [riS];simp only [cnS,sz];have hK:(30+8*M)*(1+cnL thn+cnL els)=(30+8*M)+(30+8*M)*cnL thn+(30+8*M)*cnL els:=by rw [Eu,Eu,Nat.mul_one]
   rw [hK]
   by_cases h4:k=4
   ·subst h4;rw [if_pos rfl,A0,A0] at hg;rw [if_pos rfl];obtain ⟨e,i1,i2,i3,i4⟩:=z9r hg.1.1;rw [i2];obtain ⟨j1,j2⟩:=X_tw p s.vs e (zp9 n2 i1) ⟨s.ts,s.ns⟩;generalize riX p s.vs e ⟨s.ts,s.ns⟩=c at j1 j2 ⊢;dsimp only at j1 j2;obtain ⟨a1,a2⟩:=hB thn oM0 b lp lo ⟨s.vs,c.2.ts,[],s.jk⟩ hg.1.2 n3 oM0 hlo;generalize riB p thn lo ⟨s.vs,c.2.ts,[],s.jk⟩=a at a1 a2 ⊢;obtain ⟨d1,d2⟩:=hB els oM0 b lp lo ⟨s.vs,a.2.ts,[],a.2.jk⟩ hg.2 n4 oM0 hlo;generalize riB p els lo ⟨s.vs,a.2.ts,[],a.2.jk⟩=d at d1 d2 ⊢;have hm:=zu8 s.vs thn els;generalize z0a s.vs [thn,els]=z05 at hm ⊢;unfold zd7;obtain ⟨r1,r2⟩:=y9y s.vs z05 d.2.ts c.2.ns d.2.jk 10 [c.1] [] [z5r 12 z05 a,z5r 12 z05 d];obtain ⟨w1,w2⟩:=yh3 12 z05 a;obtain ⟨v1,v2⟩:=yh3 12 z05 d;rw [yg9] at r1;rw [ya0] at r2;unfold twT at a1 d1 r1 ⊢;simp only [z7l,Ad,At] at a1 d1 r1;rw [show lsz []=0 from rfl] at a2 d2;generalize (30+8*M)*cnL thn=Kt at a1 ⊢;generalize (30+8*M)*cnL els=Ke at d1 ⊢;exact ⟨by omega,by omega⟩
   by_cases h5:k=5
   ·subst h5;rw [if_neg dC0,if_pos rfl,A0] at hg;rw [if_neg dC0,if_pos rfl];obtain ⟨e,i1,i2,i3,i4⟩:=z9r hg.1;rw [i2];have hm:=z81 s.vs thn;generalize z0a s.vs [thn]=z05 at hm ⊢;have hlo2:∀ q∈lo++[z05],q.length<=M:=λq hq=>by
     rcases Ay.1 hq with h | h
     ·exact hlo q h
     ·rw [Aj.1 h];omega
    have hk:=kid_ts s z05;have hl:=z3e (riOf s.vs z05) s.ts;have hkn:(z2a s z05).ns=[]:=rfl;rw [z70] at hl;split
    ·obtain ⟨a1,a2⟩:=hB thn oM0 b true (lo++[z05]) (z2a s z05) hg.2 n3 oM0 hlo2;generalize riB p thn (lo++[z05]) (z2a s z05)=a at a1 a2 ⊢;unfold y5j;obtain ⟨r1,r2⟩:=y9y s.vs z05 a.2.ts s.ns (z05::a.2.jk) 11 (riOf s.vs z05) (z15 s.ts (riOf s.vs z05)).1 [z5r 13 z05 a];obtain ⟨w1,w2⟩:=yh3 13 z05 a;rw [j55,z70] at r1;rw [j0n] at r2;unfold twT at a1 r1 ⊢;rw [hkn,z7l] at a1;rw [hkn,show lsz []=0 from rfl] at a2;generalize (30+8*M)*cnL thn=Kt at a1 ⊢;generalize (30+8*M)*cnL els=Ke;exact ⟨by omega,by omega⟩
    ·obtain ⟨j1,j2⟩:=X_tw p (z2a s z05).vs e (zp9 n2 i1) ⟨(z2a s z05).ts,[]⟩;generalize riX p (z2a s z05).vs e ⟨(z2a s z05).ts,[]⟩=c at j1 j2 ⊢;dsimp only at j1 j2;obtain ⟨a1,a2⟩:=hB thn oM0 b true (lo++[z05]) ⟨(z2a s z05).vs,c.2.ts,[],s.jk.tail⟩ hg.2 n3 oM0 hlo2;generalize riB p thn (lo++[z05]) ⟨(z2a s z05).vs,c.2.ts,[],s.jk.tail⟩=a at a1 a2 ⊢;unfold y5k;obtain ⟨r1,r2⟩:=y9y s.vs z05 a.2.ts s.ns (z05::a.2.jk) 11 (riOf s.vs z05) (z15 s.ts (riOf s.vs z05)).1 [z9c z05 (z2a s z05).vs c a];obtain ⟨w1,w2⟩:=yh3 13 z05 a;have hq:z0u (z9c z05 (z2a s z05).vs c a)=z0u c.2.ns+5+z0u (z5r 13 z05 a)+z05.length/\lsz (z9c z05 (z2a s z05).vs c a)=lsz c.2.ns+2+lsz (z5r 13 z05 a):=by
      unfold z9c;refine ⟨?_,?_⟩
      ·rw [z7k,z61,yg9,(z21 ..).1,z70,sz0,z7l];simp only [Ad,At];omega
      ·rw [y35,zp6,ya0,(z21 ..).2,show lsz []=0 from rfl];omega
     rw [j55,z70,hq.1] at r1;rw [j0n,hq.2] at r2;unfold twT at a1 r1 ⊢;simp only [z7l] at a1 j1;rw [show lsz []=0 from rfl] at a2 j2;generalize (30+8*M)*cnL thn=Kt at a1 ⊢;generalize (30+8*M)*cnL els=Ke;exact ⟨by omega,by omega⟩
   rw [if_neg h4,if_neg h5] at hg;rw [if_neg h4,if_neg h5];have hlast:=y05 hlo;generalize (30+8*M)*cnL thn=Kt;generalize (30+8*M)*cnL els=Ke;unfold twT
   by_cases h6:k=6
   ·rw [if_pos h6];dsimp only;rw [(z21 ..).1,(z21 ..).2,z70,sz0];exact ⟨by omega,by omega⟩
   by_cases h7:k=7
   ·rw [if_neg h6,if_pos h7];dsimp only;rw [(z21 ..).1,(z21 ..).2,z70,sz0];exact ⟨by omega,by omega⟩
   rw [if_neg oM0] at hg;rw [if_neg h6,if_neg h7];have hnm:k=3->nm.size<=20:=λh=>by
    subst h;rw [Bk,Bk] at n1;rcases n1 with (n1 | n1) | n1
    ·exact absurd n1 dC0
    ·exact absurd n1 dC0
    ·exact An n1
   by_cases h8:k=8
   ·subst h8;rw [if_neg dC0,A0] at hg;rw [if_pos rfl];obtain ⟨e,i1,i2,i3,i4⟩:=z9r hg.1;rw [i2];obtain ⟨j1,j2⟩:=X_tw p s.vs e (zp9 n2 i1) ⟨s.ts,s.ns⟩;dsimp only at j1 j2 ⊢;rw [(z21 ..).1,(z21 ..).2,sz0];simp only [Ad,At];exact ⟨by omega,by omega⟩
   rw [if_neg h8];unfold zd8
   by_cases h3:k=3
   ·have hnm:=hnm h3;subst h3;rw [if_pos rfl] at hg;obtain ⟨e,e2,i1,i2,i3,i4,i5,i6,i7⟩:=j0d hg;rw [if_neg dC0,if_pos rfl,i3,i4];obtain ⟨j1,j2⟩:=X_tw p s.vs e (zp9 n2 i1) ⟨s.ts,s.ns⟩;obtain ⟨m1,m2⟩:=X_tw p s.vs e2 (zp9 n2 i2) (riX p s.vs e ⟨s.ts,s.ns⟩).2;dsimp only at j1 j2 ⊢;rw [(z21 ..).1,(z21 ..).2];simp only [Ad,At];exact ⟨by omega,by omega⟩
   rw [if_neg h3,A0] at hg;obtain ⟨e,i1,i2,i3,i4⟩:=z9r hg.1;rw [i2];obtain ⟨j1,j2⟩:=X_tw p s.vs e (zp9 n2 i1) ⟨s.ts,s.ns⟩;dsimp only at j1 j2
   by_cases h12:k=1∨k=2
   ·rw [if_pos h12];dsimp only;exact ⟨by omega,by omega⟩
   ·rw [if_neg h12,if_neg h3];split
    ·dsimp only;rw [(z21 ..).1,(z21 ..).2,sz0];simp only [Ad,At];exact ⟨by omega,by omega⟩
    ·dsimp only;exact ⟨by omega,by omega⟩
  ·match l with
   | []=>rw [riB];exact ⟨Be _ _,Be _ _⟩
   | x::r =>
    simp at hl;rw [gB,A0] at hg;rw [nxB,A0] at hn;rw [cnL] at hc;obtain ⟨a1,a2⟩:=hS x oM0 b lp lo s hg.1 hn.1 oM0 hlo;rw [riB];simp only [cnL,szL];rw [Eu (30+8*M) (cnS x) (cnL r)];generalize (30+8*M)*cnS x=Kx at a1 ⊢;split
    ·exact ⟨by dsimp only;omega,by dsimp only;omega⟩
    ·obtain ⟨d1,d2⟩:=hB r oM0 _ lp lo (riS p x lo s).2 hg.2 hn.2 oM0 hlo;exact ⟨by omega,by omega⟩
theorem gr_le (M:Nat):∀ N,(∀ x:St,SizeOf.sizeOf x<N->cnS x<=M->grS x<=8*sz x+(2+2*M)*cnS x)/\(∀ l:List St,SizeOf.sizeOf l<N->cnL l<=M->grL l<=8*szL l+(2+2*M)*cnL l)
 | 0=>⟨λ_ h=>absurd h (Ae _),λ_ h=>absurd h (Ae _)⟩
 | N+1=>by
  obtain ⟨hS,hB⟩:=gr_le M N;refine ⟨λx hx hc=>?_,λl hl hc=>?_⟩
  ·obtain ⟨k,ty,nm,args,thn,els⟩:=x;simp at hx;rw [cnS] at hc;have a:=hB thn oM0 oM0;have b:=hB els oM0 oM0;simp only [cnS,sz,grS];rw [show (2+2*M)*(1+cnL thn+cnL els)=(2+2*M)+(2+2*M)*cnL thn+(2+2*M)*cnL els by rw [Eu,Eu,Nat.mul_one]];generalize (2+2*M)*cnL thn=Kt at a ⊢;generalize (2+2*M)*cnL els=Ke at b ⊢;omega
  ·match l with
   | []=>exact A6 _
   | x::r =>
    simp at hl;rw [cnL] at hc;have a:=hS x oM0 oM0;have b:=hB r oM0 oM0;simp only [cnL,szL,grL];rw [Eu (2+2*M) (cnS x) (cnL r)];generalize (2+2*M)*cnS x=Kt at a ⊢;generalize (2+2*M)*cnL r=Ke at b ⊢;omega
structure RnOk (q:Pg):Prop where
 pz:pz q.funcs<=300003
 ar:q.arrays.length<=300003
 cn:pcn q.funcs<=50000
 nmA:∀ a∈q.arrays,a.name.size<=20
 nmF:∀ f∈q.funcs,f.name.size<=20
 gB:∀ f∈q.funcs,gB q (!f.params.isEmpty) false f.body=true
 nx:∀ f∈q.funcs,nxB f.body=true
 nt:∀ f∈q.funcs,ntL maxLen f.body
theorem y5e {f:Fu}:∀ {l:List Fu},f∈l->cnL f.body<=pcn l
 | x::r,h=>by
  rw [pcn];rcases Ah.1 h with rfl | h
  ·omega
  ·have:=y5e h;omega
theorem pz_rn:∀ l:List Fu,pz (l.map rnF)=pz l/\pcn (l.map rnF)=pcn l
 | []=>⟨rfl,rfl⟩
 | f::r=>by
  obtain ⟨h1,h2⟩:=pz_rn r;rw [Az,pz,pz,pcn,pcn,h1,h2];have e1:(rnF f).params.length=f.params.length:=z9d _ _ _;have e2:szL (rnF f).body=szL f.body:=rn_sz _ _ _;have e3:cnL (rnF f).body=cnL f.body:=rn_cn _ _ _;rw [e1,e2,e3];exact ⟨rfl,rfl⟩
theorem rnOk {p:Pg} (h1:pz p.funcs+p.arrays.length<=300003) (h2:pcn p.funcs<=50000) (hr:rPg p=true) (hy:(z8z p).1=0):RnOk (rnP p):=by
 have hr':=hr;unfold rPg at hr';rw [A0] at hr';obtain ⟨ha,hf⟩:=hr';have ha:=Ba.1 ha;have hf:=Ba.1 hf;have hF:∀ f∈p.funcs,z0j f.name=true/\rsL f.body 100=true:=λf h=>by
  have:=hf f h;unfold rFu at this;simp only [A0] at this;exact ⟨this.1.1.1.1,this.1.2⟩
 obtain ⟨e1,e2⟩:=pz_rn p.funcs;have sh0:Sh []:=λe he=>by cases he
 refine ⟨?_,?_,?_,λa h=>?_,λf h=>?_,rnF_gB hr hy,λf h=>?_,λf h=>?_⟩
 ·show pz (p.funcs.map rnF)<=_;omega
 ·show p.arrays.length<=_;omega
 ·show pcn (p.funcs.map rnF)<=_;omega
 ·have:=ha a h;simp only [A0] at this;exact zk3 this.1.1
 all_goals obtain ⟨g,hg,rfl⟩:=C5.1 (show f∈p.funcs.map rnF from h)
 ·exact zk3 (hF g hg).1
 ·exact (nxB_rn _).2 g.body (A4 _) _ _ ((nxB_of _).2 g.body (A4 _) 100 (hF g hg).2)
 ·have hpl:=zu4 hg;have hcm:=y5e hg;obtain ⟨s1,s2⟩:=j26 g.params [] 0 sh0 oM0;refine (j12 (show 30<=maxLen by decide) _).2 _ (A4 _) ?_;exact ((nt_rn _).2 g.body (A4 _) (rnPm g.params [] 0).2.1 (rnPm g.params [] 0).2.2 100 s1 oM0 (hF g hg).2).1
theorem riFun {q:Pg} (h:RnOk q) {f:Fu} (hf:f∈q.funcs):f.params.length<=1000000000/\scB q f.body [] (riT0 f.params) (riB q f.body [] (riT0 f.params)):=by
 have hpl:=zu4 hf;have hcm:=y5e hf;have h1:=h.pz;have h2:=h.cn;have h3:=zk5 q.funcs;have h4:=h.ar;have hg:=(gr_le 50000 _).2 f.body (A4 _) oM0;have ht:(riT0 f.params).ts.length=f.params.length:=y12 f.params;refine ⟨by omega,(ym7 q ⟨by omega,by omega⟩ _).2 f.body (A4 _) (!f.params.isEmpty) false [] (riT0 f.params) (h.gB f hf) (h.nt f hf) oM0 (yl4 f.params) ⟨by omega,?_,?_,(λl hl=>by cases hl),λe=>by cases e⟩⟩
 ·show 0+_<=_;omega
 ·show 0+0+_<=_;omega
theorem j1q {q:Pg} (h:RnOk q) {f:Fu} (hf:f∈q.funcs):(z7m q f).types.length+z0u (z7m q f).body<=f.params.length+27*szL f.body+400030*cnL f.body/\lsz (z7m q f).body<=4*szL f.body:=by
 have hcm:=y5e hf;have h2:=h.cn;obtain ⟨a,b⟩:=(ri_tw q 50000 _).2 f.body (A4 _) (!f.params.isEmpty) false [] (riT0 f.params) (h.gB f hf) (h.nx f hf) oM0 (λl hl=>by cases hl);have ht:twT (riT0 f.params)=f.params.length:=by
  unfold twT;rw [show (riT0 f.params).ts.length=f.params.length from y12 f.params];rfl
 rw [ht] at a;have hb:lsz (riT0 f.params).ns=0:=rfl;rw [hb] at b;unfold twT at a;exact ⟨by simpa [z7m] using a,by simpa [z7m] using b⟩
theorem riUn_w {q:Pg} (h:RnOk q):z0g (riUn q)<=34000000000/\uSz (riUn q).flows<=4000000:=by
 have h1:=h.pz;have h2:=h.cn;have h4:=h.ar;have key:∀ l:List Fu,(∀ f∈l,f∈q.funcs)->wtF (l.map (z7m q))+l.length<=27*pz l+400030*pcn l/\uSz (l.map (z7m q))<=4*pz l:=by
  intro l
  induction l with
  | nil=>intro _;exact ⟨Aa _,Aa _⟩
  | cons f r ih =>
   intro hm;obtain ⟨i1,i2⟩:=ih λx hx=>hm x (.tail _ hx);have hf:=hm f (.head _);obtain ⟨a,b⟩:=j1q h hf;have hn:=h.nmF f hf;rw [Az,wtF,uSz,pz,pcn,Ad];have e:(z7m q f).name.size=f.name.size:=rfl;rw [e,Eu 400030];generalize 400030*cnL f.body=K1 at a ⊢;generalize 400030*pcn r=K2 at i1 ⊢;exact ⟨by omega,by omega⟩
 obtain ⟨k1,k2⟩:=key q.funcs λf h=>h;have hA:∀ l:List Ar,(∀ a∈l,a.name.size<=20)->wtA l<=20*l.length:=by
  intro l
  induction l with
  | nil=>intro _;exact Aa _
  | cons a r ih =>
   intro hm;have:=ih λx hx=>hm x (.tail _ hx);have:=hm a (.head _);rw [wtA,Ad];omega
 have hA:=hA q.arrays h.nmA;have hm:400030*pcn q.funcs<=400030*50000:=Nat.mul_le_mul_left _ h2;generalize 400030*pcn q.funcs=K at k1 hm;unfold z0g;have e1:(riUn q).arrays=q.arrays:=rfl;have e2:(riUn q).flows=q.funcs.map (z7m q):=rfl;rw [e1,e2,A5];have h3:=zk5 q.funcs;exact ⟨by omega,by omega⟩
def riU (s:ByteArray):Un × Int:=ys7 (z2p s).1 (z65 (riUn (rnOf (z2p s).1).1)).1
theorem rn_ok (s:ByteArray) (h:(rnOf (z2p s).1).2=0):RnOk (rnOf (z2p s).1).1:=by
 unfold rnOf at h ⊢
 by_cases hy:(z8z (z2p s).1).1=0
 ·rw [if_pos hy];exact rnOk (y75 s) (j0e s) (zt4 s) hy
 ·rw [if_neg hy] at h;exact absurd h dC0
theorem sc_Rise (s:ByteArray):SC Tryz.prog 7 [.pv (z2p s).1.enc] [] (λk=>k∈[]) (.tup [.pv (riU s).1.enc,iInt (riU s).2]) []:=by
 have hz:=y75 s;refine sc_Rise0 (z2p s).1 (j2b (z2p s).1 oM0 oM0 (zt4 s)) ?_ (λh f hf=>riFun (rn_ok s h) hf) _ (z65 (riUn (rnOf (z2p s).1).1)).2 λh=>SC.anyR (y3w _ (Bf (riUn_w (rn_ok s h)).1 dC0))
 by_cases hy:(z8z (z2p s).1).1=0
 ·have h:(rnOf (z2p s).1).2=0:=by unfold rnOf;rw [if_pos hy]
  have:=(rn_ok s h).pz;have:=zk5 (rnOf (z2p s).1).1.funcs;omega
 ·unfold rnOf;rw [if_neg hy];exact A6 _
theorem un0_w:z0g un0<=34000000000/\uSz un0.flows<=4000000:=⟨by decide,by decide⟩
theorem riU_w (s:ByteArray):z0g (riU s).1<=34000000000/\uSz (riU s).1.flows<=4000000:=by
 unfold riU ys7;split
 ·rename_i h;split
  ·exact riUn_w (rn_ok s h)
  ·exact un0_w
 ·exact un0_w
theorem riU_ar (s:ByteArray):(riU s).1.arrays.length<=(z2p s).1.arrays.length:=by
 unfold riU ys7;split
 ·rename_i h;have e:(rnOf (z2p s).1).1.arrays=(z2p s).1.arrays:=by
   unfold rnOf at h ⊢
   by_cases hy:(z8z (z2p s).1).1=0
   ·rw [if_pos hy];rfl
   ·rw [if_neg hy] at h;exact absurd h dC0
  split
  ·show (rnOf (z2p s).1).1.arrays.length<=_;rw [e];exact Aa _
  ·exact A6 _
 ·exact A6 _
end Go.Proofs.YtbemfckjedfcmaaGreatDoor
