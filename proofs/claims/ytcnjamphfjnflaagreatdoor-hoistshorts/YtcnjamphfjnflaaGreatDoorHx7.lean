/- PART 7 of 8 of a proof: see the last part. -/
import Derived.Test.YtcnjamphfjnflaaGreatDoorHx6
set_option maxRecDepth 20000
set_option maxHeartbeats 8000000
set_option linter.unusedSimpArgs false
set_option linter.unusedVariables false
set_option linter.unusedSectionVars false
namespace Go.Proofs.YtcnjamphfjnflaaGreatDoor
open Go
mutual
theorem nsz_W:∀ x:Nd,nsz x<=ndW x
 | .mk _ _ _ _ _ _ _ ks=>by have:=kdz_W ks;simp only [nsz,ndW];omega
theorem lsz_W:∀ l:List Nd,lsz l<=lsW l
 | []=>Ab _
 | x::r=>by have:=nsz_W x;have:=lsz_W r;simp only [lsz,lsW];omega
theorem kdz_W:∀ ks:List (List Nd),kdz ks<=kdW ks
 | []=>Ab _
 | l::r=>by have:=lsz_W l;have:=kdz_W r;simp only [kdz,kdW];omega
end
def szK:List Nd->Nat
 | []=>0
 | x::r=>kdz x.kids+szK r
theorem yd4:∀ a b:List Nd,szK (a++b)=szK a+szK b
 | [],b=>by simp [szK]
 | x::r,b=>by simp only [B8,szK,yd4 r b];omega
theorem y9d:∀ a b:List (List Nd),kdz (a++b)=kdz a+kdz b
 | [],b=>by simp [kdz]
 | x::r,b=>by simp only [B8,kdz,y9d r b];omega
theorem yz5:∀ l:List Nd,lsz l=l.length+szK l
 | []=>rfl
 | x::r=>by simp only [lsz,szK,Ah,y30,yz5 r];omega
theorem j20:∀ (N:Nat) (l:List Nd),SizeOf.sizeOf l<N->lsW l<=34359738368->SC Tryz.prog 54 [.pv (z1n l)] [] (λk=>k∈[]) (iInt (lsz l)) []
 | 0,_,h,_=>absurd h (Ae _)
 | N+1,l,hN,hb=>by
  refine SC.vc tb {} [] Tryz.func54 rfl rfl ?_
  have hl:=yz5 l
  have hw:=lsz_W l
  refine ⟨Nat,λi=>[(4,iInt i),(3,iInt ((l.length+szK (l.take i):Nat)))],λ_=>[],λi=>l.length - i,λi=>i<=l.length,[],0,A8 _,⟨rfl,ivq (by simp [szK]),Gc⟩,Gc,?_⟩
  intro i hi
  refine z00 (λhc=>?_) λhc=>?_
  ·have hlt:=z0x (f:=Nd.enc) rfl hc
   obtain ⟨x,hx,ht,hd,hm⟩:=z0m hlt
   have happ:szK l=szK (l.take i)+(kdz x.kids+szK (l.drop (i+1))):=by
    conv=>lhs;rw [<- Co i l,hd]
    rw [yd4];rfl
   have hone:szK (l.take (i+1))=szK (l.take i)+kdz x.kids:=by rw [ht,yd4];simp [szK]
   have hxw:=(@y2x l).2 x hm
   have hxe:=z9l x
   refine ⟨Nat,λj=>[(5,iInt j),(3,iInt ((l.length+szK (l.take i)+kdz (x.kids.take j):Nat)))],λ_=>[],λj=>x.kids.length - j,λj=>j<=x.kids.length,[],0,A8 _,⟨rfl,ivq (by simp [kdz]),Gc⟩,Gc,?_⟩
   intro j hj
   refine ⟨z08 hx,rfl,z00 (λhc2=>?_) λhc2=>?_⟩
   ·have hlt2:=z0x (f:=eKid) rfl hc2
    obtain ⟨q,hq,ht2,hd2,hm2⟩:=z0m hlt2
    have happ2:kdz x.kids=kdz (x.kids.take j)+(lsz q+kdz (x.kids.drop (j+1))):=by
     conv=>lhs;rw [<- Co j x.kids,hd2]
     rw [y9d];rfl
    have hone2:kdz (x.kids.take (j+1))=kdz (x.kids.take j)+lsz q:=by rw [ht2,y9d];simp [kdz]
    have hqw:=z86 hm2
    have hkl:=yg5 x.kids
    exact ⟨z08 hx,rfl,z02 (f:=eKid) hq,rfl,[],j20 N q (Ba (z9i hm rfl hm2) (C2 hN)) oM0,sR,Gc,rfl,z01 rfl oM0,z01 rfl oM0,j+1,z04 hlt2,hlt2,⟨rfl,ivq (by rw [hone2];omega),Gc⟩,Gc,rfl,rfl,rfl,rfl⟩
   ·have hge:=z0y (f:=eKid) rfl hc2
    exact ⟨z01 rfl oM0,i+1,z04 hlt,hlt,⟨rfl,ivq (by rw [hone,Al hge];omega),Gc⟩,Gc,rfl,rfl,rfl,rfl⟩
  ·exact ⟨sE (by rw [Al (z0y (f:=Nd.enc) rfl hc),hl]),Gc⟩
def uSz:List Fl->Nat
 | []=>0
 | f::r=>lsz f.body+uSz r
theorem yd9:∀ a b:List Fl,uSz (a++b)=uSz a+uSz b
 | [],b=>by simp [uSz]
 | x::r,b=>by simp only [B8,uSz,yd9 r b];omega
theorem uSz_W:∀ l:List Fl,uSz l<=wtF l
 | []=>Ab _
 | f::r=>by have:=uSz_W r;have:=lsz_W f.body;have:=y6s f.body;simp only [uSz,wtF,z18];omega
theorem sc_nodes (u:Un) (hW:z0g u<=34000000000):SC Tryz.prog 29 [.pv u.enc] [] (λk=>k∈[]) (iInt (uSz u.flows)) []:=by
 refine SC.vc tb {} [] Tryz.func29 rfl rfl ?_
 have hw:=uSz_W u.flows
 have hw2:wtF u.flows<=z0g u:=by unfold z0g;omega
 have hw3:u.flows.length<=z0g u:=by unfold z0g;omega
 refine ⟨Nat,λi=>[(4,iInt i),(3,iInt (uSz (u.flows.take i)))],λ_=>[],λi=>u.flows.length - i,λi=>i<=u.flows.length,[],0,A8 _,Ge,Gc,?_⟩
 intro i hi
 refine z00 (λhc=>?_) λhc=>?_
 ·have hlt:=z0x (f:=Fl.enc) rfl hc
  obtain ⟨f,hf,ht,hd,hm⟩:=z0m hlt
  have happ:uSz u.flows=uSz (u.flows.take i)+(lsz f.body+uSz (u.flows.drop (i+1))):=by
   conv=>lhs;rw [<- Co i u.flows,hd]
   rw [yd9];rfl
  have hone:uSz (u.flows.take (i+1))=uSz (u.flows.take i)+lsz f.body:=by rw [ht,yd9];simp [uSz]
  exact ⟨z02 (f:=Fl.enc) hf,rfl,[],j20 _ f.body (A5 _) (Bm (zc3 hm) (Bm hW oM0)),sR,Gc,rfl,z01 rfl oM0,z01 rfl oM0,i+1,z04 hlt,hlt,⟨rfl,ivq (by rw [hone];omega),Gc⟩,Gc,rfl,rfl,rfl,rfl⟩
 ·exact ⟨sE (by rw [Al (z0y (f:=Fl.enc) rfl hc)]),Gc⟩
theorem sc_ins (l:List Int):SC Tryz.prog 13 [.pv (ints l)] [] (λk=>k∈[]) (.pv (ints (l.take 10))) []:=by
 refine SC.vc tb {} [] Tryz.func13 rfl rfl ?_
 refine z00 (λh=>?_) λh=>?_
 ·have h2:(10:Int)<l.length:=by simpa using h
  exact ⟨10,rfl,by omega,by simp;omega,zs5,sE (by simp [ints]),Gc⟩
 ·have h2:(l.length:Int)<=10:=by simpa using h
  have:l.length<=10:=by omega
  exact ⟨sE (by rw [Al this]),Gc⟩
theorem y3n (l:List Int):SC Tryz.prog 52 [.pv (ints l),.pv (ints l)] [] (λk=>k∈[]) (iBool true) []:=by
 refine SC.vc tb { gh:=[(1,[.len 0])] } [] Tryz.func52 rfl rfl ?_
 intro hl
 simp only [A4] at hl
 refine z00 (λh1=>absurd h1 sI0) λ_=>?_
 refine ⟨Nat,λk=>[(5,iInt k)],λ_=>[],λk=>l.length - k,λk=>k<=l.length,[],0,A8 _,Gd,Gc,?_⟩
 intro k hk
 refine z00 (λhc=>?_) λhc=>?_
 ·have hlt:=z0x (f:=eInt) rfl hc
  obtain ⟨x,hx,ht,hd,_⟩:=z0m hlt
  exact ⟨z02 (f:=eInt) hx,rfl,z02 (f:=eInt) hx,rfl,z00 (λh2=>absurd h2 sI0) λ_=>⟨z01 rfl oM0,k+1,z04 hlt,hlt,Gd,Gc,rfl,rfl,rfl,rfl⟩⟩
 ·exact ⟨sI,Gc⟩
theorem sc_alike (a b:Rs) (h1:b.st=a.st) (h2:b.code=a.code) (h3:b.out=a.out):SC Tryz.prog 53 [.pv (runv a),.pv (runv b)] [] (λk=>k∈[]) (iBool true) []:=by
 refine SC.vc tb {} [] Tryz.func53 rfl rfl ?_
 have hS:=y3n a.out
 obtain ⟨ins,ar,st,code,out,cost,fuel,spent⟩:=a
 obtain ⟨ins',ar',st',code',out',cost',fuel',spent'⟩:=b
 obtain rfl:st'=st:=h1
 obtain rfl:code'=code:=h2
 obtain rfl:out'=out:=h3
 refine z00 (λ_=>?_) λh=>absurd h sI0
 refine z00 (λ_=>?_) λh=>absurd h sI0
 exact ⟨[],hS,sR,Gc,rfl,sI,Gc⟩
def Fol (a b:Rs):Prop:=(a.st=0/\a.out <+: b.out)∨(a.st≠0/\b.st=a.st/\b.code=a.code/\b.out=a.out)
theorem y3f (a b:Rs) (h:Fol a b) (hb:b.out.length<=1073741824):SC Tryz.prog 28 [.pv (runv a),.pv (runv b)] [] (λk=>k∈[]) (iBool true) []:=by
 refine SC.vc tb {} [] Tryz.func28 rfl rfl ?_
 rcases h with ⟨h1,h2⟩ | ⟨h1,h2,h3,h4⟩
 ·have hS:=y3n a.out
  obtain ⟨ins,ar,st,code,out,cost,fuel,spent⟩:=a
  obtain ⟨ins',ar',st',code',out',cost',fuel',spent'⟩:=b
  obtain rfl:st=0:=h1
  obtain ⟨t,rfl⟩:∃ t,out++t=out':=h2
  refine z00 (λ_=>?_) λh=>absurd h (by simp;omega)
  exact ⟨out.length,by simp,by omega,by simp,zs5,[],hS,SubA.same (SubA.cons (sE (by simp [ints])) sR),Gc,rfl,sI,Gc⟩
 ·have hA:=sc_alike a b h2 h3 h4
  obtain ⟨ins,ar,st,code,out,cost,fuel,spent⟩:=a
  refine z00 (λh=>absurd (by simpa using h) h1) λ_=>?_
  exact ⟨[],hA,sR,Gc,rfl,sI,Gc⟩
def runA (u:Un) (ins:List Int) (fuel:Int):Rs:={ run0 ins fuel with ar:=u.arrays.map λa=>List.replicate a.size.toNat 0 }
theorem y54 (u:Un) (ins:List Int) {fuel:Int} (h0:0<=fuel) {B M:Int} (hB:fuel<=B) (hM:fuel<=M):Inv u.arrays.length B M (runA u ins fuel):=by
 have e:(runA u ins fuel).fuel=fuel:=by show (if fuel<0 then 0 else fuel)=fuel;rw [if_neg oM0]
 refine ⟨⟨by rw [e];exact h0,D3 _,by rw [e];show (0:Int)+fuel<=B;omega⟩,by rw [e];show ((0:Nat):Int)+fuel<=M;omega,by simp [runA]⟩
theorem main_ok {u:Un} (h:(z1g u).1=0):0<=z05 z0v u.flows 0/\∃ g,u.flows[(z05 z0v u.flows 0).toNat]? = some g/\g.params=0:=by
 obtain ⟨h1,_⟩:=(z73 u).1 h
 unfold z1a at h1
 simp only [A0] at h1
 have h2:=h1.2
 unfold z9m at h2
 simp only [A0,Be,As] at h2
 obtain ⟨⟨h3,h4⟩,h5⟩:=h2
 obtain ⟨j,hj,hjl⟩:=zp3 z0v u.flows 0 oM0 h3
 refine ⟨h3,_,A9 oM0,?_⟩
 rw [Ay,A9 oM0] at h5
 exact h5
theorem y55 {u:Un} (hz:(z1g u).1=0) (ins:List Int) {fuel:Int} (h0:0<=fuel) {B M:Int} (hB:B<=4611686018427387903) (hM:M<=1073741824) (hfB:fuel<=B) (hfM:fuel<=M) :
 ∃ d r,z4c u d (z05 z0v u.flows 0) [] (runA u ins fuel)=some r/\Inv u.arrays.length B M r.2:=by
 obtain ⟨m1,g,m2,m3⟩:=main_ok hz
 have hi:=y54 u ins h0 hfB hfM
 have e:(runA u ins fuel).fuel=fuel:=by show (if fuel<0 then 0 else fuel)=fuel;rw [if_neg oM0]
 obtain ⟨r,h1,h2⟩:=(j2y hB hM rfl (vf_of hz) (3*fuel.toNat+2)).2.2.1 _ [] _ m1 ⟨g,m2,by rw [m3];rfl⟩ hi (by rw [e];omega)
 exact ⟨_,r,h1,h2⟩
structure URel (u v:Un):Prop where
 ar:v.arrays=u.arrays
 pl:∀ name,z05 name v.flows 0=z05 name u.flows 0
 fl:∀ (i:Nat) f g,u.flows[i]? = some f->v.flows[i]? = some g->FRel (uSz u.flows) f g
theorem j31:∀ {l:List Fl} {f:Fl},f∈l->lsz f.body<=uSz l
 | g::r,f,h=>by
  rcases Ag.1 h with rfl | h
  ·simp only [uSz];omega
  ·have:=j31 h;simp only [uSz];omega
theorem yi6 (m:Bool) {u v:Un} (R:URel u v) (ins:List Int) {F F':Int} (h0:0<=F) (h0':0<=F') {B M:Int} (hB:B<=4611686018427387903) (hfB:F<=B) (hfB':F'<=B) (hfM:F<=M) (hfM':F'<=M)
 (hG:G m (uSz u.flows) 0 (uSz u.flows+1) F F') {d d':Nat} {q q':Int × Rs} (h:z4c u d (z05 z0v u.flows 0) [] (runA u ins F)=some q) (h':z4c v d' (z05 z0v v.flows 0) [] (runA v ins F')=some q'):RC m (uSz u.flows) q q':=by
 have e:∀ (u:Un) {fuel:Int},0<=fuel->(runA u ins fuel).fuel=fuel:=λu fuel h0=>by show (if fuel<0 then 0 else fuel)=fuel;rw [if_neg oM0]
 rw [R.pl] at h'
 refine y66 (B:=B) hB R.ar R.pl R.fl (d+1) d d' _ [] _ _ _ _ (A5 _) h h' (y54 u ins h0 hfB hfM).ok (y54 v ins h0' hfB' hfM').ok ⟨⟨⟨rfl,rfl⟩,⟨rfl,rfl⟩,rfl,?_,rfl,rfl⟩,?_,?_⟩
 ·simp only [runA,R.ar]
 ·rw [e u h0,e v h0'];exact hG
 ·exact D3 _
theorem zc2 {q:Int × Rs} (h:z13 q.2=true):mEnd q=q.2:=if_pos h
theorem zv6 {q:Int × Rs} (h:Live q.2):mEnd q={ q.2 with st:=1,code:=q.1 }:=if_neg (by rw [z0s h];decide)
theorem zn5 (q:Int × Rs):(mEnd q).out=q.2.out:=by unfold mEnd;split<;>rfl
theorem rc_fol {N:Nat} {q q':Int × Rs} (h:RC true N q q'):Fol (mEnd q) (mEnd q')/\((mEnd q).st≠0->(mEnd q').cost<=(mEnd q).cost/\(mEnd q).fuel<=(mEnd q').fuel):=by
 cases h with
 | ok hv hr =>
  rw [zv6 hr.al.l,zv6 hr.al.l']
  have hg:=hr.g
  unfold G at hg
  simp only [C3] at hg
  have hc:=hr.co
  exact ⟨.inr ⟨show (1:Int)≠0 by decide,rfl,hv,hr.al.out⟩,λ_=>⟨by simpa using hc,by simpa using hg⟩⟩
 | halt hh =>
  obtain ⟨o1,o2⟩:=hh.over
  rw [zc2 o1,zc2 o2]
  exact ⟨.inr ⟨hh.st,hh.st',hh.code,hh.out⟩,λ_=>⟨hh.co,hh.fu rfl⟩⟩
 | cut hc =>
  unfold Cut at hc
  simp only [C3] at hc
  have e:=zc2 (z71 hc.1)
  refine ⟨.inl ⟨by rw [e];exact hc.2.1,by rw [zn5,zn5];exact hc.2.2⟩,λh=>absurd (by rw [e];exact hc.2.1) h⟩
theorem rc_fol2 {N:Nat} {q q':Int × Rs} (h:RC false N q q'):Fol (mEnd q') (mEnd q):=by
 cases h with
 | ok hv hr =>
  rw [zv6 hr.al.l,zv6 hr.al.l']
  exact .inr ⟨show (1:Int)≠0 by decide,rfl,hv.symm,hr.al.out.symm⟩
 | halt hh =>
  obtain ⟨o1,o2⟩:=hh.over
  rw [zc2 o1,zc2 o2]
  exact .inr ⟨by rw [hh.st'];exact hh.st,hh.st'.symm,hh.code.symm,hh.out.symm⟩
 | cut hc =>
  unfold Cut at hc
  simp only [Ak,Bv] at hc
  have e:=zc2 (z71 hc.1)
  exact .inl ⟨by rw [e];exact hc.2.1,by rw [zn5,zn5];exact hc.2.2⟩
section
structure Bd (a b:Nat) (g g':Gn):Prop where
 lf:g'.left<=g.left
 ps:g'.pos+60*g'.left<=g.pos+60*g.left+a
 t1:g.types.length<=g'.types.length
 t2:g'.types.length+10*g'.left<=g.types.length+10*g.left+b
section
variable (l:List UInt8)
end
section
variable (l:List UInt8)
end
end
theorem yn2 {k n:Nat} {v:Int} (hk:k<=n) (h0:0<=v) (h:v<k):(z5a k n).getD v.toNat false=true:=by
 unfold z5a
 rw [Ay,Ap (by simp;omega),Dg,if_pos oM0]
 rfl
theorem iota_mem {n:Nat} {v:Int} (h:v∈iota n):0<=v/\v<n:=by
 simp only [iota,Cc,Fe] at h
 obtain ⟨i,hi,rfl⟩:=h
 omega
theorem once_of {u:Un} (h:(z1g u).1=0):∀ g∈u.flows,(dL g.body).Nodup/\∀ o∈dL g.body,o∉iota g.params.toNat:=by
 intro g hg
 obtain ⟨h1,h2⟩:=(z73 u).1 h
 have hf:=h2 g hg
 have hp:=z4t h1 g hg
 unfold z5q at hf
 simp only [A0] at hf
 have f6:=hf.2
 rw [z70 u g g.body 1 z2z _ _ (z3i oM0)] at f6
 refine ⟨f6.2.1,λo ho hi=>?_⟩
 obtain ⟨i0,i1⟩:=iota_mem hi
 have:=f6.2.2 o ho
 rw [yn2 oM0 i0 i1] at this
 cases this
theorem yn9 {u:Un} (hz:(z1g u).1=0) {f:Fl} (hf:f∈u.flows):FRel (uSz u.flows) f (z5d f):=by
 refine ⟨rfl,j31 hf,?_⟩
 obtain ⟨v1,v2,v3,v4⟩:=vf_of hz f hf
 have hz':(z1g (z3n u)).1=0:=by rw [zf5 hz]
 have hf':z5d f∈(z3n u).flows:=D1 hf
 obtain ⟨v1',_⟩:=vf_of hz' _ hf'
 obtain ⟨o1,o2⟩:=once_of hz' _ hf'
 simp only [z3c,A0] at v1 v1'
 have w':=v1'.2
 rw [ye3] at w'
 have hr:=HR.rel (y03 u f _ f.body (A5 _) 1 z2z _ v1.2) 1 z2z (iota f.params.toNat) 1 z2z (iota f.params.toNat) true true [] [] [] [] (by simpa using v1.1) ⟨v1.2,w',o1,o2,λ_ h=>h,λ_ h=>by simp at h⟩
  (λ_ h=>by simp at h) (λ_ h=>by simp at h) (λ_ h=>by simp at h) (λ_ h=>by simp at h) (λ_=>rfl) λ_=>rfl
 refine .weak (λa b h=>?_) (hr.monoE λn p p' a b h=>?_)
 ·rw [h.1];exact ⟨λ_ _=>rfl,λ_ h=>by simp at h⟩
 ·unfold EF
  rcases h with ⟨_,_,rfl,_⟩ | ⟨_,rfl,_⟩ | ⟨_,_,rfl,_⟩ | ⟨_,rfl⟩<;>rfl
theorem yy3 {u:Un} (hz:(z1g u).1=0):URel u (z3n u):=by
 refine ⟨rfl,λname=>zp2 name u.flows 0,λi f g h h'=>?_⟩
 have:(z3n u).flows[i]? = (u.flows[i]?).map z5d:=B7 ..
 rw [h',h] at this
 obtain rfl:g=z5d f:=Bz this
 exact yn9 hz (Af h)
theorem y4d {m n z:Int} (hn:n≠0) (h:m.tdiv n=z) (h1:-9223372036854775808<=z/\z<=9223372036854775807):z3d .quo .i64 m n=some (.int .i64 z):=by
 subst h;simp only [z3d];rw [if_neg hn,Cv _ h1]
theorem j1b (u v:Un) (hW:z0g u<=34000000000) (ins:List Int) (fuel q:Int) (hf:0<=fuel/\fuel<=1000000) (hq:fuel.tdiv 4=q) (a b c d:Rs)
 (hA:SC Tryz.prog 16 [.pv u.enc,.pv (ints ins),iInt fuel] [] (λ_=>False) (.pv (runv a)) [])
 (hB:SC Tryz.prog 16 [.pv v.enc,.pv (ints ins),iInt fuel] [] (λ_=>False) (.pv (runv b)) [])
 (hC:SC Tryz.prog 16 [.pv v.enc,.pv (ints ins),iInt q] [] (λ_=>False) (.pv (runv c)) [])
 (hD:SC Tryz.prog 16 [.pv u.enc,.pv (ints ins),iInt ((q+1)*((uSz u.flows:Int)+1))] [] (λ_=>False) (.pv (runv d)) [])
 (h1:Fol a b) (h2:a.st≠0->b.cost<=a.cost/\a.fuel<=b.fuel) (h3:Fol c d) (hb:b.out.length<=1073741824) (hd:d.out.length<=1073741824) :
 SC Tryz.prog 12 [.pv u.enc,.pv v.enc,.pv (ints ins),iInt fuel] [] (λk=>k∈[]) (iBool true) []:=by
 refine SC.vc tb {} [] Tryz.func12 rfl rfl ?_
 have hF1:=y3f a b h1 hb
 have hF2:=y3f c d h3 hd
 have hN:=sc_nodes u hW
 have hw:=uSz_W u.flows
 have hw2:wtF u.flows<=z0g u:=by unfold z0g;omega
 have hqb:0<=q/\q<=1000000:=by
  rw [<- hq,Ed hf.1];omega
 have hm:-9223372036854775808<=(q+1)*((uSz u.flows:Int)+1)/\(q+1)*((uSz u.flows:Int)+1)<=9223372036854775807:=by
  have x1:0<=(q+1)*((uSz u.flows:Int)+1):=Fz oM0 oM0
  have x2:(q+1)*((uSz u.flows:Int)+1)<=1000001*34000000001:=Int.mul_le_mul oM0 oM0 oM0 oM0
  omega
 obtain ⟨ains,aar,ast,acode,aout,acost,afuel,asp⟩:=a
 obtain ⟨bins,bar,bst,bcode,bout,bcost,bfuel,bsp⟩:=b
 dsimp only at h2
 refine ⟨[],hA,sR,Gc,rfl,[],hB,sR,Gc,rfl,[],hF1,sR,Gc,rfl,?_⟩
 refine z00 (λh5=>?_) λh5=>?_
 ·have hst:ast≠0:=by simpa using h5
  obtain ⟨c1,c2⟩:=h2 hst
  refine z00 (λh6=>absurd h6 (by simp;omega)) λ_=>z00 (λh6=>absurd h6 (by simp;omega)) λ_=>?_
  exact ⟨y4d dC0 hq oM0,[],hC,sR,Gc,rfl,y4d dC0 hq oM0,z01 rfl oM0,[],hN,sR,Gc,rfl,z01 rfl oM0,y4c rfl hm,[],hD,sR,Gc,rfl,[],hF2,sR,Gc,rfl,sI,Gc⟩
 ·exact ⟨y4d dC0 hq oM0,[],hC,sR,Gc,rfl,y4d dC0 hq oM0,z01 rfl oM0,[],hN,sR,Gc,rfl,z01 rfl oM0,y4c rfl hm,[],hD,sR,Gc,rfl,[],hF2,sR,Gc,rfl,sI,Gc⟩
theorem arr_size {u:Un} {A:Ar} (hz:(z1g u).1=0) (h:u.arrays=[A]):0<=A.size/\A.size<=1000:=by
 obtain ⟨h1,_⟩:=(z73 u).1 hz
 unfold z1a at h1
 simp only [A0] at h1
 have h2:=h1.1.1
 rw [h] at h2
 simp only [r8gA,gArr,A0,Bg,C0] at h2
 omega
theorem yl3 (u:Un) (h1:u.arrays.length<=1) (hW:z0g u<=34000000000) (hz:(z1g u).1=0) (ins:List Int) (fuel:Int) (d:Nat) (r:Int × Rs) (h:z4c u d (z05 z0v u.flows 0) [] (runA u ins fuel)=some r) :
 SC Tryz.prog 16 [.pv u.enc,.pv (ints ins),iInt fuel] [] (λ_=>False) (.pv (runv (mEnd r))) []:=by
 have hs:=@arr_size u
 obtain ⟨ar,fs⟩:=u
 rcases ar with _ | ⟨A,_ | ⟨A2,t⟩⟩
 ·exact j2n fs hW hz ins fuel d r h
 ·exact sr_run1 fs A hW hz ins fuel d r h (hs hz rfl)
 ·simp at h1
theorem ya6 {u v:Un} (R:URel u v) (h1:u.arrays.length<=1) (hW:z0g u<=34000000000) (hW':z0g v<=34000000000) (hz:(z1g u).1=0) (hz':(z1g v).1=0) (hN:uSz u.flows<=4000000) (ins:List Int) (fuel:Int) (hf:0<=fuel/\fuel<=510) :
 SC Tryz.prog 12 [.pv u.enc,.pv v.enc,.pv (ints ins),iInt fuel] [] (λk=>k∈[]) (iBool true) []:=by
 have hq:0<=fuel.tdiv 4/\fuel.tdiv 4<=127:=by rw [Ed hf.1];omega
 have hfD0:0<=(fuel.tdiv 4+1)*((uSz u.flows:Int)+1):=Fz oM0 oM0
 have hfD:(fuel.tdiv 4+1)*((uSz u.flows:Int)+1)<=128*4000001:=Int.mul_le_mul oM0 oM0 oM0 oM0
 have B:(1073741824:Int)<=4611686018427387903:=by decide
 have M:(1073741824:Int)<=1073741824:=by decide
 have hav:v.arrays.length<=1:=by rw [R.ar];exact h1
 obtain ⟨da,qa,ra,ia⟩:=y55 hz ins hf.1 B M oM0 oM0
 obtain ⟨db,qb,rb,ib⟩:=y55 hz' ins hf.1 B M oM0 oM0
 obtain ⟨dc,qc,rc,ic⟩:=y55 hz' ins hq.1 B M oM0 oM0
 obtain ⟨dd,qd,rd,id⟩:=y55 hz ins hfD0 B M oM0 oM0
 have k1:=rc_fol (yi6 true R ins hf.1 hf.1 B (M:=1073741824) oM0 oM0 oM0 oM0 (by unfold G;simp) ra rb)
 have k2:=rc_fol2 (yi6 false R ins hfD0 hq.1 B (M:=1073741824) oM0 oM0 oM0 oM0 (by
  unfold G
  simp only [Ak,Bv]
  rw [Int.add_mul]
  generalize fuel.tdiv 4*((uSz u.flows:Int)+1)=P
  omega) rd rc)
 have ob:qb.2.out.length<=1073741824:=by have:=ib.out;have:=ib.ok.1;omega
 have od:qd.2.out.length<=1073741824:=by have:=id.out;have:=id.ok.1;omega
 exact j1b u v hW ins fuel (fuel.tdiv 4) oM0 rfl _ _ _ _ (yl3 u h1 hW hz ins fuel da qa ra) (yl3 v hav hW' hz' ins fuel db qb rb) (yl3 v hav hW' hz' ins _ dc qc rc) (yl3 u h1 hW hz ins _ dd qd rd) k1.1 k1.2 k2 (by rw [zn5];exact ob) (by rw [zn5];exact od)
theorem sc_run0 (u:Un) (hu:u.arrays=[]) (hW:z0g u<=34000000000) (hz:(z1g u).1=0) (ins:List Int) (fuel:Int) (d:Nat) (r:Int × Rs) (h:z4c u d (z05 z0v u.flows 0) [] (run0 ins fuel)=some r):SC Tryz.prog 16 [.pv u.enc,.pv (ints ins),iInt fuel] [] (λ_=>False) (.pv (runv (mEnd r))) []:=by
 obtain ⟨ar,fs⟩:=u
 obtain rfl:ar=[]:=hu
 exact j2n fs hW hz ins fuel d r h
theorem y16:∀ (N:Nat) (l:List Nd),SizeOf.sizeOf l<N->lsW l<=34359738368->SC Tryz.prog 27 [.pv (z1n l)] [] (λk=>k∈[]) (iBool (z4v l)) []
 | 0,_,h,_=>absurd h (Ae _)
 | N+1,l,hN,hb=>by
  refine SC.vc tb { jn:=[7] } [] Tryz.func27 rfl rfl ?_
  have hle:=y9h l
  refine ⟨Nat,λi=>[(3,iInt ((i:Nat):Int))],λ_=>[],λi=>l.length - i,λi=>i<=l.length/\z4v l=z4v (l.drop i),[],0,⟨A8 _,rfl⟩,Gd,Gc,?_⟩
  rintro i ⟨i1,i2⟩
  refine z00 (λhc=>?_) λhc=>?_
  ·have hlt:i<l.length:=z0x (f:=Nd.enc) rfl hc
   obtain ⟨x,x1,x2,x3,x4⟩:=z0m hlt
   have hWx:=z9l x
   have hWl:=y4k x4
   have hkl:=yg5 x.kids
   rw [x3,show z4v (x::l.drop (i+1))=(yx2 x&&z4v (l.drop (i+1))) from rfl,fineN_eq] at i2
   refine ⟨z08 x1,rfl,Unit,λ_=>[],λ_=>[],λ_=>y1z x=false,[],?_,?_⟩
   ·have hF:y1z x=(x.kind==11&&(match x.kids with | [y::_]=>y91 y && !fAny y.args x.params | _=>false)):=by cases x;rfl
    refine z00 (λh1=>?_) λh1=>?_
    ·rw [show (x.kind==11)=true from h1,B3] at hF
     refine z00 (λh2=>?_) λh2=>?_
     ·have h2:(((x.kids.map eKid).length:Int)==1)=true:=h2
      rw [A4] at h2
      have h2:=eq_of_beq h2
      obtain ⟨b,hbk⟩:=Ca.1 (show x.kids.length=1 by omega)
      have g0:(x.kids.map eKid)[0]? = some [z1n b]:=by rw [hbk];rfl
      rw [hbk] at hF
      refine ⟨g0,rfl,z00 (λh3=>?_) λh3=>?_⟩
      ·have h3:decide (((b.map Nd.enc).length:Int) > 0)=true:=h3
       rw [A4] at h3
       have h3:=Ao h3
       obtain ⟨y,r,rfl⟩:=Bs (show b≠[] by intro e;rw [e] at h3;simp at h3)
       have y0:(y::r)[0]? = some y:=rfl
       have hI:=sc_idle y
       have hA:=sc_any y.args x.params
       dsimp only at hF
       generalize y91 y=c1 at hI hF
       generalize fAny y.args x.params=c2 at hA hF
       cases c1
       ·exact ⟨g0,rfl,z08 y0,rfl,[],hI,sR,Gc,rfl,(),hF,Gc,Gc,rfl,rfl,rfl,rfl⟩
       ·cases c2
        ·exact ⟨g0,rfl,z08 y0,rfl,[],hI,sR,Gc,rfl,g0,rfl,z08 y0,rfl,[],hA,sR,Gc,rfl,sE (by rw [i2,hF];rfl),Gc⟩
        ·exact ⟨g0,rfl,z08 y0,rfl,[],hI,sR,Gc,rfl,g0,rfl,z08 y0,rfl,[],hA,sR,Gc,rfl,(),hF,Gc,Gc,rfl,rfl,rfl,rfl⟩
      ·have h3:decide (((b.map Nd.enc).length:Int) > 0)=false:=h3
       rw [A4] at h3
       have h3:=Am h3
       obtain rfl:b=[]:=At oM0
       exact ⟨(),hF,Gc,Gc,rfl,rfl,rfl,rfl⟩
     ·have h2:(((x.kids.map eKid).length:Int)==1)=false:=h2
      rw [A4] at h2
      have h2:x.kids.length≠1:=λe=>by rw [e] at h2;exact absurd h2 dC0
      have hF:y1z x=false:=by
       rw [hF]
       match x.kids,h2 with
       | [],_=>rfl
       | [a],h2=>exact absurd rfl h2
       | a::b::c,_=>cases a<;>rfl
      exact ⟨(),hF,Gc,Gc,rfl,rfl,rfl,rfl⟩
    ·rw [show (x.kind==11)=false from h1,Cu] at hF
     exact ⟨(),hF,Gc,Gc,rfl,rfl,rfl,rfl⟩
   ·rintro _ hF
    rw [hF,Du,B3] at i2
    refine ⟨Nat,λj=>[(5,iInt ((j:Nat):Int))],λ_=>[],λj=>x.kids.length - j,λj=>j<=x.kids.length/\zn7 x.kids=zn7 (x.kids.drop j),[],0,⟨A8 _,rfl⟩,Gd,Gc,?_⟩
    rintro j ⟨j1,j2⟩
    refine z00 (λhc2=>?_) λhc2=>?_
    ·have hlt2:j<x.kids.length:=z0x (f:=eKid) rfl hc2
     obtain ⟨q,q1,q2,q3,q4⟩:=z0m hlt2
     have hqW:=z86 q4
     have hQ:=y16 N q (Ba (z9i x4 rfl q4) (C2 hN)) oM0
     rw [q3,show zn7 (q::x.kids.drop (j+1))=(z4v q&&zn7 (x.kids.drop (j+1))) from rfl] at j2
     generalize z4v q=c at hQ j2
     cases c
     ·exact ⟨z02 (f:=eKid) q1,rfl,[],hQ,sR,Gc,rfl,sE (by rw [i2,j2];rfl),Gc⟩
     ·exact ⟨z02 (f:=eKid) q1,rfl,[],hQ,sR,Gc,rfl,z01 rfl oM0,j+1,z04 hlt2,⟨hlt2,j2⟩,Gd,Gc,rfl,rfl,rfl,rfl⟩
    ·have hge2:x.kids.length<=j:=z0y (f:=eKid) rfl hc2
     rw [A6 hge2] at j2
     rw [j2] at i2
     exact ⟨z01 rfl oM0,i+1,z04 hlt,⟨hlt,i2⟩,Gd,Gc,rfl,rfl,rfl,rfl⟩
  ·have hge:l.length<=i:=z0y (f:=Nd.enc) rfl hc
   rw [A6 hge] at i2
   exact ⟨sE (by rw [i2];rfl),Gc⟩
theorem sc_fine (l:List Nd) (hb:lsW l<=34359738368):SC Tryz.prog 27 [.pv (z1n l)] [] (λk=>k∈[]) (iBool (z4v l)) []:=y16 _ l (A5 _) hb
theorem yk7 (u:Un) (hW:z0g u<=34000000000):SC Tryz.prog 11 [.pv u.enc] [] (λk=>k∈[]) (iBool (y2k u)) []:=by
 refine SC.vc tb { pb:=[101] } [] Tryz.func11 rfl rfl ?_
 have hw2:u.flows.length<=z0g u:=by unfold z0g;omega
 unfold y2k
 refine ⟨Nat,λi=>[(3,iInt ((i:Nat):Int))],λ_=>[],λi=>u.flows.length - i,λi=>i<=u.flows.length/\(u.flows.all λf=>z4v f.body)=((u.flows.drop i).all λf=>z4v f.body),[],0,⟨A8 _,rfl⟩,Gd,Gc,?_⟩
 rintro i ⟨i1,i2⟩
 refine z00 (λhc=>?_) λhc=>?_
 ·have hlt:i<u.flows.length:=z0x (f:=Fl.enc) rfl hc
  obtain ⟨x,x1,x2,x3,x4⟩:=z0m hlt
  rw [x3,D4] at i2
  have hx:=zc3 x4
  have hF:=sc_fine x.body oM0
  generalize z4v x.body=b at hF i2
  cases b
  ·exact ⟨z02 (f:=Fl.enc) x1,rfl,[],hF,sR,Gc,rfl,sE (by rw [i2];rfl),Gc⟩
  ·exact ⟨z02 (f:=Fl.enc) x1,rfl,[],hF,sR,Gc,rfl,z01 rfl oM0,i+1,z04 hlt,⟨hlt,i2⟩,Gd,Gc,rfl,rfl,rfl,rfl⟩
 ·have hge:u.flows.length<=i:=z0y (f:=Fl.enc) rfl hc
  rw [A6 hge] at i2
  exact ⟨sE (by rw [i2];rfl),Gc⟩
theorem j28 (ts:List Int) (l:List Nd):SC Tryz.prog 15 [.pv (ints ts),.pv (z1n l)] [] (λk=>k∈[]) (.pv (.agg [.val (.slice none 0 0),flws [⟨z0v,1,0,ts,l⟩]])) []:=by
 refine SC.vc tb {} [] Tryz.func15 rfl rfl ?_
 exact ⟨sI,Gc⟩
mutual
def kdN:Nd->Bool
 | .mk kind _ _ _ _ _ _ ks=>decide (1<=kind)&&kdK ks
def kdL:List Nd->Bool
 | []=>true
 | x::r=>kdN x&&kdL r
def kdK:List (List Nd)->Bool
 | []=>true
 | l::r=>kdL l&&kdK r
end
theorem kdN_eq (x:Nd):kdN x=(decide (1<=x.kind)&&kdK x.kids):=by cases x;simp only [kdN];rfl
theorem z9u:∀ a b:List Nd,z4v (a++b)=(z4v a&&z4v b)
 | [],b=>by simp [z4v]
 | x::a,b=>by simp only [B8,z4v,z9u a b,Ef]
theorem zo4:∀ a b:List Nd,kdL (a++b)=(kdL a&&kdL b)
 | [],b=>by simp [kdL]
 | x::a,b=>by simp only [B8,kdL,zo4 a b,Ef]
theorem y0i:∀ (l:List Nd) (vs:List Int),z4v l=true->z4v (z0r vs l).1=true/\z4v (z0r vs l).2=true
 | [],_,_=>⟨rfl,rfl⟩
 | x::r,vs,h=>by
  simp only [z4v,A0] at h
  unfold z0r
  split
  ·split
   ·have:=y0i r (vs++[x.outs.headD 0]) h.2
    exact ⟨this.1,by simp only [z4v,A0];exact ⟨h.1,this.2⟩⟩
   ·have:=y0i r vs h.2
    exact ⟨by simp only [z4v,A0];exact ⟨h.1,this.1⟩,this.2⟩
  ·exact ⟨rfl,by simp only [z4v,A0];exact h⟩
theorem y9x:∀ (l:List Nd) (vs:List Int),kdL l=true->kdL (z0r vs l).1=true/\kdL (z0r vs l).2=true
 | [],_,_=>⟨rfl,rfl⟩
 | x::r,vs,h=>by
  simp only [kdL,A0] at h
  unfold z0r
  split
  ·split
   ·have:=y9x r (vs++[x.outs.headD 0]) h.2
    exact ⟨this.1,by simp only [kdL,A0];exact ⟨h.1,this.2⟩⟩
   ·have:=y9x r vs h.2
    exact ⟨by simp only [kdL,A0];exact ⟨h.1,this.1⟩,this.2⟩
  ·exact ⟨rfl,by simp only [kdL,A0];exact h⟩
theorem y7a:∀ (l:List Nd) (vs:List Int) (y:Nd) (q:List Nd),(z0r vs l).2=y::q->z1u y=false∨(y.args.any λv=>vs.contains v)=true
 | [],_,_,_,h=>by simp [z0r] at h
 | x::r,vs,y,q,h=>by
  unfold z0r at h
  split at h
  ·split at h
   ·rename_i h1 h2
    cases h
    exact .inr h2
   ·exact y7a r vs y q h
  ·rename_i h1
   cases h
   exact .inl (by simpa using h1)
theorem y9a {y:Nd} (h:1<=y.kind) (hm:z1u y=false):y91 y=false:=by
 simp only [z1u,Bt,Aa] at hm
 obtain ⟨⟨⟨h1,h2⟩,h3⟩,h4⟩:=hm
 simp only [y91,h4,Dt,C0]
 omega
theorem y63 (l vs:List Int):(l.any λv=>vs.contains v)=fAny l vs:=by
 unfold fAny
 congr 1
 funext v
 exact List.contains_eq_any_beq
theorem out_fine (kind op n:Int) (name:ByteArray) (args outs params:List Int) (ks:List (List Nd)) (h0:1<=kind) (hk:kdK ks=true) (hf:zn7 ks=true) :
 kdL (hOut kind op n name args outs params ks)=true/\z4v (hOut kind op n name args outs params ks)=true:=by
 have one:∀ ks',kdK ks'=true->zn7 ks'=true->y1z (.mk kind op n name args outs params ks')=false->kdL [.mk kind op n name args outs params ks']=true/\z4v [.mk kind op n name args outs params ks']=true:=by
  intro ks' h1 h2 h3
  simp only [kdL,kdN,z4v,yx2,h1,h2,h3,Cp,Du,Be]
  exact ⟨h0,Gc⟩
 unfold hOut
 split
 ·rename_i h11
  cases ks with
  | nil=>exact one [] rfl rfl (by simp [y1z,Nd.kids])
  | cons b r =>
   simp only [kdK,zn7,A0] at hk hf
   have p1:=y0i b params hf.1
   have p2:=y9x b params hk.1
   have hh:y1z (.mk kind op n name args outs params ((z0r params b).2::r))=false:=by
    unfold y1z
    simp only [Nd.kids,Nd.params]
    split
    ·rename_i y q he
     cases he':(z0r params b).2 with
     | nil=>rw [he'] at he;simp at he
     | cons z w =>
      rw [he'] at he
      simp only [List.cons.injEq] at he
      obtain ⟨⟨rfl,_⟩,_⟩:=he
      have hkd:=p2.2
      rw [he'] at hkd
      simp only [kdL,kdN_eq,A0,Be] at hkd
      rcases y7a b params _ _ he' with h1 | h1
      ·rw [y9a hkd.1.1 h1];simp
      ·rw [y63] at h1
       rw [h1];simp
    ·simp
   have h1:=one ((z0r params b).2::r) (by simp only [kdK,A0];exact ⟨p2.2,hk.2⟩) (by simp only [zn7,A0];exact ⟨p1.2,hf.2⟩) hh
   simp only [zo4,z9u,A0]
   exact ⟨⟨p2.1,h1.1⟩,⟨p1.1,h1.2⟩⟩
 ·rename_i h11
  exact one ks hk hf (by simp [y1z,Nd.kind,h11])
mutual
theorem fineN_h:∀ x:Nd,kdN x=true->kdL (z4m x)=true/\z4v (z4m x)=true
 | .mk kind op n name args outs params ks,h=>by
  simp only [kdN,A0,Be] at h
  have:=yx1 ks h.2
  unfold z4m
  exact out_fine kind op n name args outs params _ h.1 this.1 this.2
theorem y93:∀ l:List Nd,kdL l=true->kdL (z0w l)=true/\z4v (z0w l)=true
 | [],_=>⟨rfl,rfl⟩
 | x::r,h=>by
  simp only [kdL,A0] at h
  have h1:=fineN_h x h.1
  have h2:=y93 r h.2
  simp only [z0w,zo4,z9u,A0]
  exact ⟨⟨h1.1,h2.1⟩,⟨h1.2,h2.2⟩⟩
theorem yx1:∀ ks:List (List Nd),kdK ks=true->kdK (z3z ks)=true/\zn7 (z3z ks)=true
 | [],_=>⟨rfl,rfl⟩
 | l::r,h=>by
  simp only [kdK,A0] at h
  have h1:=y93 l h.1
  have h2:=yx1 r h.2
  simp only [z3z,kdK,zn7,A0]
  exact ⟨⟨h1.1,h2.1⟩,⟨h1.2,h2.2⟩⟩
end
theorem yq4 {u:Un} {f:Fl} {x:Nd} {s:List Int} {w:Wh} {tys outs:List Int} (h:(z8p u f x s w).ok tys outs=true):1<=x.kind:=by
 rcases Int.lt_or_le x.kind 1 with hk | hk
 ·exfalso
  have e:∀ n:Int,1<=n->(x.kind==n)=false:=λn hn=>by simp only [Aa];omega
  unfold z8p at h
  simp only [e 1 oM0,e 2 oM0,e 3 oM0,e 4 oM0,e 5 oM0,e 6 oM0,e 7 oM0,e 8 oM0,e 9 oM0,e 12 oM0,e 13 oM0,e 14 oM0,e 15 oM0,Ak,Bv] at h
  simp [SForm.ok] at h
 ·exact hk
mutual
theorem yy7 (u:Un) (f:Fl):∀ (x:Nd) (deep:Int) (w:Wh) (s:List Int),z6m u f deep w s x=true->kdN x=true
 | .mk kind op n name args outs params ks,deep,w,s,h=>by
  have hb:=z2g u f deep w s h
  simp only [kdN,A0,Be]
  by_cases h10:kind=10
  ·refine ⟨by omega,?_⟩
   obtain ⟨a,b,hk⟩:=z3o hb h10
   rw [z5p u f deep w s hb h10 hk] at h
   simp only [A0,z3c] at h
   simp only [Nd.kids] at hk
   match ks,hk with
   | [a',b'],hk =>
    cases hk
    simp only [kdK,A0,Cp]
    exact ⟨z9z u f a _ _ _ h.1.1.1.2.2,z9z u f b _ _ _ h.1.1.2.2⟩
  ·by_cases h11:kind=11
   ·refine ⟨by omega,?_⟩
    obtain ⟨a,hk⟩:=z1y hb h11
    rw [z3b u f deep w s hb h11 hk] at h
    simp only [A0,z3c] at h
    simp only [Nd.kids] at hk
    match ks,hk with
    | [a'],hk =>
     cases hk
     simp only [kdK,Cp]
     exact z9z u f a _ _ _ h.1.1.2.2
   ·have e10:(kind==10)=false:=by simpa using h10
    have e11:(kind==11)=false:=by simpa using h11
    have hk0:=z8b hb e10 e11
    simp only [Nd.kids] at hk0
    rw [z2p u f deep w s hb e10 e11] at h
    exact ⟨yq4 h,by rw [hk0];rfl⟩
theorem z9z (u:Un) (f:Fl):∀ (l:List Nd) (deep:Int) (w:Wh) (s:List Int),vGo u f deep w s l=true->kdL l=true
 | [],_,_,_,_=>rfl
 | x::r,deep,w,s,h=>by
  simp only [vGo,A0] at h
  simp only [kdL,A0]
  exact ⟨yy7 u f x _ _ _ h.1.1.2,z9z u f r _ _ _ h.2⟩
end
theorem kd_valid {u:Un} (h:(z4k u).1=0):∀ f∈u.flows,kdL f.body=true:=by
 rw [zd6] at h
 intro f hf
 have hF:=((z73 u).1 h).2 f hf
 unfold z5q at hF
 simp only [A0] at hF
 obtain ⟨h1,h2⟩:=hF
 have hp:f.params.toNat<=f.types.length:=by
  have a1:=h1.1.1.1.1
  have a2:=h1.1.1.2
  simp only [Bg,C0] at a1 a2
  omega
 have hn:(z5a f.params.toNat f.types.length).length=f.types.length:=z3i hp
 rw [z70 u f f.body 1 z2z _ _ hn] at h2
 have hv:=h2.1
 simp only [z3c,A0] at hv
 exact z9z u f f.body _ _ _ hv.2
theorem y0y (u:Un):y2k (z6f u).1=true:=by
 unfold z6f
 split
 ·rename_i h
  unfold y2k z3n
  simp only [List.all_map,Bc]
  intro f hf
  exact (y93 f.body (kd_valid (by simpa using h) f hf)).2
 ·rfl
def wakeL:List Nd:=[(.mk 1 0 1 ⟨#[]⟩ [] [0] [] []),(.mk 11 0 0 ⟨#[]⟩ [0] [4] [1] [[(.mk 1 0 10 ⟨#[]⟩ [] [2] [] []),(.mk 4 1 0 ⟨#[]⟩ [1,2] [3] [] []),(.mk 14 0 0 ⟨#[]⟩ [3] [] [] [])]]),(.mk 15 0 0 ⟨#[]⟩ [4] [] [] [])]
def y8n:Un:=⟨[],[⟨z0v,1,0,[1,1,1,1,1],wakeL⟩]⟩
theorem zr8:(z1g y8n).1=0:=by decide +kernel
theorem y1w:z0g y8n<=34000000000:=by decide +kernel
theorem j3l:((z4c (z3n y8n) 20 (z05 z0v (z3n y8n).flows 0) [] (run0 [] 6)).map λr=>(z13 r.2,r.1))=some (false,11):=by decide +kernel
theorem wake_run:∃ r,z4c (z3n y8n) 20 (z05 z0v (z3n y8n).flows 0) [] (run0 [] 6)=some r/\(mEnd r).st=1/\(mEnd r).code=11:=by
 have h:=j3l
 rw [A3] at h
 obtain ⟨r,h1,h2⟩:=h
 simp only [Ec] at h2
 refine ⟨r,h1,?_,?_⟩
 ·simp only [mEnd,h2.1,Ak,Bv]
 ·simp only [mEnd,h2.1,Ak,Bv,h2.2]
def j3k:PV:=.seq [[vInt 1,vInt 0,vInt 1,vStr ⟨#[]⟩,.val (.slice none 0 0),.seq [[vInt 0]],.val (.slice none 0 0),.val (.slice none 0 0)],[vInt 11,vInt 0,vInt 0,vStr ⟨#[]⟩,.seq [[vInt 0]],.seq [[vInt 4]],.seq [[vInt 1]],.seq [[.seq [[vInt 1,vInt 0,vInt 10,vStr ⟨#[]⟩,.val (.slice none 0 0),.seq [[vInt 2]],.val (.slice none 0 0),.val (.slice none 0 0)],[vInt 4,vInt 1,vInt 0,vStr ⟨#[]⟩,.seq [[vInt 1],[vInt 2]],.seq [[vInt 3]],.val (.slice none 0 0),.val (.slice none 0 0)],[vInt 14,vInt 0,vInt 0,vStr ⟨#[]⟩,.seq [[vInt 3]],.val (.slice none 0 0),.val (.slice none 0 0),.val (.slice none 0 0)]]]]],[vInt 15,vInt 0,vInt 0,vStr ⟨#[]⟩,.seq [[vInt 4]],.val (.slice none 0 0),.val (.slice none 0 0),.val (.slice none 0 0)]]
theorem wake_sub:PSub j3k (z1n wakeL):=by
 show PSub _ (.seq [_,_,_])
 repeat' (first | exact PSub.nil | exact PSub.refl _ | exact trivial | refine And.intro ?_ ?_ | refine PSub.seq (ps:=[_,_,_]) (qs:=[_,_,_]) ?_ | refine PSub.seq (ps:=[_]) (qs:=[_]) ?_)
theorem y8z:z6f ⟨[],[]⟩=(⟨[],[]⟩,1):=y98 (by decide +kernel)
theorem j1a (L:List Nd) (hL:PSub j3k (z1n L)) (V:Un) (hH:z6f (⟨[],[⟨z0v,1,0,[1,1,1,1,1],L⟩]⟩:Un)=(V,0)) (hW:z0g (⟨[],[⟨z0v,1,0,[1,1,1,1,1],L⟩]⟩:Un)<=34000000000) (hVa:V.arrays=[]) (hVl:V.flows.length=1) (hVr:y2k V=true) (hVW:z0g V<=34000000000) (hVz:(z1g V).1=0) (r:Int × Rs) (hr:z4c V 20 (z05 z0v V.flows 0) [] (run0 [] 6)=some r) (h1:(mEnd r).st=1) (h2:(mEnd r).code=11):SC Tryz.prog 6 [] [] (λk=>k∈[]) (iBool true) []:=by
 refine SC.vc tb {} [] Tryz.func6 rfl rfl ?_
 have hsc:=y58 (⟨[],[⟨z0v,1,0,[1,1,1,1,1],L⟩]⟩:Un) hW zz6
 rw [hH] at hsc
 have hse:=y58 ⟨[],[]⟩ dC0 zz6
 rw [y8z] at hse
 have hR:=yk7 V hVW
 rw [hVr] at hR
 have hrun:=sc_run0 V hVa hVW hVz [] 6 20 r hr
 have hv:runv (mEnd r) = .agg [vInt 1,vInt 11,ints (mEnd r).out,vInt (mEnd r).cost,vInt (mEnd r).fuel]:=by unfold runv;rw [h1,h2]
 rw [hv] at hrun
 obtain ⟨va,vf⟩:=V
 obtain ⟨f0,rfl⟩:=Ca.1 (show vf.length=1 from hVl)
 exact ⟨[],j28 [1,1,1,1,1] L,SubA.same (SubA.cons (sP hL) SubA.nil),Gc,rfl,[],hsc,SubA.cons (sP (z0e _)) SubA.nil,Gc,rfl,[],hrun,SubA.same (SubA.cons sN sR),Gc,rfl,[],hR,sR,Gc,rfl,[],hse,SubA.cons (sP (z0e _)) SubA.nil,Gc,rfl,sI,Gc⟩
theorem sc_awake:SC Tryz.prog 6 [] [] (λk=>k∈[]) (iBool true) []:=by
 obtain ⟨r,hr,h1,h2⟩:=wake_run
 have hc:=zf5 zr8
 exact j1a wakeL wake_sub (z3n y8n) (z7r zr8) y1w rfl rfl (by have:=y0y y8n;rw [z7r zr8] at this;exact this) (by rw [y5y];exact y1w) (by rw [hc]) r hr h1 h2
def riH (p:Pg) (lo:Lo) (vs:List (Value × PV)) (s:RiS):List (Nat × HO):=riBx p s.ts lo++riLx vs s.ns
def j0m (k:Int) (n:Nat) (b:Bool):Bool:=if k=5 then n==2 else if k=1∨k=2∨k=3∨k=4∨k=6∨k=8 then true else b
mutual
def riOk (p:Pg):Ex->Bool
 | .mk k _ _ nm args=>j0m k args.length (decide (0<=z3g p nm))&&zk6 p args
def zk6 (p:Pg):List Ex->Bool
 | []=>true
 | x::r=>riOk p x&&zk6 p r
end
theorem zb7 {p:Pg} {x:Ex}:∀ {l:List Ex},zk6 p l=true->x∈l->riOk p x=true
 | y::r,h,hm=>by
  simp only [zk6,A0] at h
  rcases Ag.1 hm with rfl | hm
  ·exact h.1
  ·exact zb7 h.2 hm
def fRX (p:Pg) (lo:Lo) (vs:List (Value × PV)) (e:Ex):Prop:=∀ s:RiS,s.ts.length+4*xz e<=34000000000->s.ns.length+4*xz e<=34000000000->SC Tryz.prog 117 [.ptr 4 0,.pv (exv e)] (riH p lo vs s) (λk=>k∈[]) (iInt (riX p vs e s).1) (riH p lo vs (riX p vs e s).2)
def riLe (s s':RiS) (n:Nat):Prop:=s'.ts.length<=s.ts.length+4*n/\s'.ns.length<=s.ns.length+4*n
theorem riTop_le (p:Pg) (k o n:Int) (nm:ByteArray) (l:List Int) (s:RiS):riLe s (zp9 p k o n nm l s).2 1:=by
 unfold zp9 riLe
 repeat' split
 all_goals simp [z6a]
theorem yp9 (o a:Int) (ns:List Nd) (r:Int × RiS):(z6i o a ns r).2.ts.length=r.2.ts.length+2/\(z6i o a ns r).2.ns.length=ns.length+1:=by
 unfold z6i
 split<;>simp [z6a]
theorem zt8 (p:Pg) (vs:List (Value × PV)):∀ (N:Nat),(∀ e:Ex,SizeOf.sizeOf e<N->∀ s,riLe s (riX p vs e s).2 (xz e))/\(∀ l:List Ex,SizeOf.sizeOf l<N->∀ s,riLe s (riXL p vs l s).2 (xzL l))/\(∀ (o:Int) (l:List Ex),SizeOf.sizeOf l<N->∀ s,riLe s (riSh p vs o l s).2 (1+xzL l))/\(∀ (o a:Int) (s:RiS) (l:List Ex),SizeOf.sizeOf l<N->riLe s (zk8 p vs o a s l).2 (1+xzL l))
 | 0=>⟨λ_ h=>absurd h (Ae _),λ_ h=>absurd h (Ae _),λ_ _ h=>absurd h (Ae _),λ_ _ _ _ h=>absurd h (Ae _)⟩
 | N+1=>by
  obtain ⟨h1,h2,h3,h4⟩:=zt8 p vs N
  refine ⟨λe he s=>?_,λl hl s=>?_,λo l hl s=>?_,λo a s l hl=>?_⟩
  ·obtain ⟨k,o,n,nm,args⟩:=e
   simp at he
   rw [riX]
   split
   ·exact ⟨Bf _ _,Bf _ _⟩
   ·split
    ·have:=h3 o args oM0 s
     simp only [xz];exact this
    ·have g1:=h2 args oM0 s
     have g2:=riTop_le p k o n nm (riXL p vs args s).1 (riXL p vs args s).2
     simp only [xz]
     unfold riLe at g1 g2 ⊢
     omega
  ·match l with
   | []=>rw [riXL];exact ⟨Bf _ _,Bf _ _⟩
   | e::r =>
    simp at hl
    have g1:=h1 e oM0 s
    have g2:=h2 r oM0 (riX p vs e s).2
    rw [riXL]
    simp only [xzL]
    unfold riLe at g1 g2 ⊢
    omega
  ·match l with
   | []=>rw [riSh];exact ⟨Bf _ _,Bf _ _⟩
   | e::r =>
    simp at hl
    have g1:=h1 e oM0 s
    have g2:=h4 o (riX p vs e s).1 (riX p vs e s).2 r oM0
    rw [riSh]
    simp only [xzL]
    unfold riLe at g1 g2 ⊢
    omega
  ·match l with
   | []=>rw [zk8];exact ⟨Bf _ _,Bf _ _⟩
   | e::r =>
    simp at hl
    have g1:=h1 e oM0 ⟨s.ts,[]⟩
    have g2:=yp9 o a s.ns (riX p vs e ⟨s.ts,[]⟩)
    rw [zk8]
    simp only [xzL]
    unfold riLe at g1 ⊢
    dsimp only at g1
    omega
def riLk (a b c:Nat) (vs:List (Value × PV)) (ns:List Nd):List (Nat × HO):=[(a,.box [.ptr 1 0,.mp b,.sl c (ns.map Nd.enc).length]),(b,.map vs),(c,.row ndRt (ns.map Nd.enc))]
theorem riK14 {f:FuncId} {p p':Pg} {ts ts':List Int} {lo lo':Lo} {vs vs':List (Value × PV)} {ns ns':List Nd} {x:PV} {r:PV} (h:SC Tryz.prog f [.ptr 4 0,.pv x] (riBx p ts lo++riLx vs ns) (λk=>k∈[]) (.pv r) (riBx p' ts' lo'++riLx vs' ns')) :
 SC Tryz.prog f [.ptr 14 0,.pv x] (riBx p ts lo++riLk 14 15 16 vs ns) (λk=>k∈[]) (.pv r) (riBx p' ts' lo'++riLk 14 15 16 vs' ns'):=SC.sameR (((h.sw 4 14).sw 5 15).sw 6 16) λk _ hk=>absurd hk Bx
theorem y3l (p:Pg) (ts:List Int) (lo:Lo) (vs:List (Value × PV)) (ns:List Nd):SC Tryz.prog 163 [.ptr 4 0] (riBx p ts lo++riLx vs ns) (λk=>k∈[1,2,3,4,5,6]) (.ptr 24 0) ([(24,.box [.ptr 1 0,.mp 25,.pv (.val (.slice none 0 0))]),(25,.map vs)]++(riBx p ts lo++riLx vs ns)) :=
 SC.sameR (((zd3 p ts lo vs ns).sw 14 24).sw 15 25) λk _ hk=>by
  simp only [Ag,Bx,Fm] at hk
  rcases hk with rfl | rfl | rfl | rfl | rfl | rfl<;>decide
theorem riP24 (p:Pg) (ts:List Int) (lo:Lo) (vs:List (Value × PV)) (ns:List Nd) (t k o n:Int) (nm:ByteArray) (args:List Int) (ks:List (List Nd)) (ht:ts.length<=34359738368) (hb:ns.length<=34359738368) :
 SC Tryz.prog 166 [.ptr 24 0,.pv (.val (.int .i64 t)),.pv (.agg [vInt k,vInt o,vInt n,vStr nm,ints args,ints [],ints [],kids ks])] (riBx p ts lo++riLk 24 25 26 vs ns) (λk=>k∈[]) (iInt (z6a t k o n nm args ks ⟨ts,ns⟩).1) (riBx p (z6a t k o n nm args ks ⟨ts,ns⟩).2.ts lo++riLk 24 25 26 vs (z6a t k o n nm args ks ⟨ts,ns⟩).2.ns) :=
 SC.sameR ((((z60 p ts lo vs ns t k o n nm args ks ht hb).sw 4 24).sw 5 25).sw 6 26) λk _ hk=>absurd hk Bx
theorem riA14 (p:Pg) (ts:List Int) (lo:Lo) (vs:List (Value × PV)) (ns:List Nd) (x:Nd) (hb:ns.length<=34359738368):SC Tryz.prog 115 [.ptr 14 0,.pv (.agg [vInt x.kind,vInt x.op,vInt x.n,vStr x.name,ints x.args,ints x.outs,ints x.params,kids x.kids])] (riBx p ts lo++riLk 14 15 16 vs ns) (λk=>k∈[]) (.tup []) (riBx p ts lo++riLk 14 15 16 vs (ns++[x])) :=
 SC.sameR ((((z3w p ts lo vs ns x hb).sw 4 14).sw 5 15).sw 6 16) λk _ hk=>absurd hk Bx
theorem riA24 (p:Pg) (ts:List Int) (lo:Lo) (vs:List (Value × PV)) (ns:List Nd) (x:Nd) (hb:ns.length<=34359738368):SC Tryz.prog 115 [.ptr 24 0,.pv (.agg [vInt x.kind,vInt x.op,vInt x.n,vStr x.name,ints x.args,ints x.outs,ints x.params,kids x.kids])] (riBx p ts lo++riLk 24 25 26 vs ns) (λk=>k∈[]) (.tup []) (riBx p ts lo++riLk 24 25 26 vs (ns++[x])) :=
 SC.sameR ((((z3w p ts lo vs ns x hb).sw 4 24).sw 5 25).sw 6 26) λk _ hk=>absurd hk Bx
theorem y7v (p:Pg) (lo:Lo) (vs:List (Value × PV)) (n:Int) (nm:ByteArray) (e1 e2:Ex) (s:RiS) (h1:fRX p lo vs e1) (h2:fRX p lo vs e2) (hts:s.ts.length+4*(1+xz e1+xz e2)<=34000000000) (hns:s.ns.length+4*(1+xz e1+xz e2)<=34000000000) :
 SC Tryz.prog 165 [.ptr 4 0,.pv (.agg [vInt 5,vInt 18,vInt n,vStr nm,exs [e1,e2]])] (riH p lo vs s) (λk=>k∈[]) (iInt (riSh p vs 18 [e1,e2] s).1) (riH p lo vs (riSh p vs 18 [e1,e2] s).2):=by
 refine SC.vc tb { pb:=[103],ids:=[(35,30),(43,31)],ob:=[30,31],gh:=[(3,[.growC 14 2 16 46 8]),(5,[.fzC 14 2 16]),(9,[.growC 24 2 26 46 8]),(10,[.fzC 24 2 26]),(11,[.fz 9 30])] } [] Tryz.func165 rfl rfl ?_
 have g1:=h1 s oM0 oM0
 have l1:=(zt8 p vs _).1 e1 (A5 _) s
 rw [riSh,zk8]
 generalize riX p vs e1 s=r1 at g1 l1 ⊢
 obtain ⟨a,s1⟩:=r1
 unfold riLe at l1
 dsimp only at g1 l1 ⊢
 have g2:=riK14 (h2 ⟨s1.ts,[]⟩ (by dsimp only;omega) (by simp;omega))
 have l2:=(zt8 p vs _).1 e2 (A5 _) ⟨s1.ts,[]⟩
 generalize riX p vs e2 ⟨s1.ts,[]⟩=r2 at g2 l2 ⊢
 obtain ⟨b,s2⟩:=r2
 unfold riLe at l2
 dsimp only at g2 l2
 have g3:=riA14 p s2.ts lo vs s2.ns (.mk 12 0 0 ⟨#[]⟩ [b] [] [] []) (by simp at l2;omega)
 refine ⟨z19 (i:=0) rfl,rfl,[],g1,sR,Gj,rfl,[1,2,3,4,5,6],zd3 p s1.ts lo vs s1.ns,sR,⟨rfl,rfl,rfl,rfl,rfl,rfl,rfl,rfl,rfl,rfl,rfl,rfl,Gc⟩,rfl,[1,2,3,4,5,6],y3l p s1.ts lo vs s1.ns,sR,⟨rfl,rfl,rfl,rfl,rfl,rfl,rfl,rfl,rfl,rfl,rfl,rfl,Gc⟩,rfl,?_⟩
 refine ⟨z19 (i:=1) rfl,rfl,[],g2,sR,Gj,rfl,[],g3,SubA.same (SubA.cons (sP (z0e _)) SubA.nil),Gj,rfl,?_⟩
 have g4:=riP24 p s2.ts lo vs [] 2 2 0 0 ⟨#[]⟩ [] [] oM0 sI0
 have g5:=riA24 p (s2.ts++[2]) lo vs [.mk 2 0 0 ⟨#[]⟩ [] [(s2.ts.length:Int)] [] []] (.mk 12 0 0 ⟨#[]⟩ [(s2.ts.length:Int)] [] [] []) sI0
 have g6:=z60 p (s2.ts++[2]) lo vs s1.ns 2 10 0 0 ⟨#[]⟩ [a] [z6h 12 ⟨#[]⟩ [b] s2.ns,z6h 12 ⟨#[]⟩ [(s2.ts.length:Int)] [.mk 2 0 0 ⟨#[]⟩ [] [(s2.ts.length:Int)] [] []]] (by simp;omega) oM0
 refine ⟨rfl,[],g4,SubA.same (SubA.same (SubA.cons (sP (z0e _)) SubA.nil)),Gj,rfl,[],g5,SubA.same (SubA.cons (sP (z0e _)) SubA.nil),Gj,rfl,?_⟩
 refine ⟨rfl,rfl,(by decide:1<2),rfl,1,0,_,rfl,rfl,rfl,By,rfl,?_⟩
 exact ⟨[],g6,SubA.same (SubA.same (SubA.cons (sP (z0e _)) SubA.nil)),Gj,rfl,sI,rfl,rfl,rfl,rfl,rfl,rfl,Gc⟩
theorem y7w (p:Pg) (lo:Lo) (vs:List (Value × PV)) (n:Int) (nm:ByteArray) (e1 e2:Ex) (s:RiS) (h1:fRX p lo vs e1) (h2:fRX p lo vs e2) (hts:s.ts.length+4*(1+xz e1+xz e2)<=34000000000) (hns:s.ns.length+4*(1+xz e1+xz e2)<=34000000000) :
 SC Tryz.prog 165 [.ptr 4 0,.pv (.agg [vInt 5,vInt 19,vInt n,vStr nm,exs [e1,e2]])] (riH p lo vs s) (λk=>k∈[]) (iInt (riSh p vs 19 [e1,e2] s).1) (riH p lo vs (riSh p vs 19 [e1,e2] s).2):=by
 refine SC.vc tb { pb:=[103],ids:=[(35,30),(43,31)],ob:=[30,31],gh:=[(3,[.growC 14 2 16 46 8]),(5,[.fzC 14 2 16]),(9,[.growC 24 2 26 46 8]),(10,[.fzC 24 2 26]),(11,[.fz 9 31])] } [] Tryz.func165 rfl rfl ?_
 have g1:=h1 s oM0 oM0
 have l1:=(zt8 p vs _).1 e1 (A5 _) s
 rw [riSh,zk8]
 generalize riX p vs e1 s=r1 at g1 l1 ⊢
 obtain ⟨a,s1⟩:=r1
 unfold riLe at l1
 dsimp only at g1 l1 ⊢
 have g2:=riK14 (h2 ⟨s1.ts,[]⟩ (by dsimp only;omega) (by simp;omega))
 have l2:=(zt8 p vs _).1 e2 (A5 _) ⟨s1.ts,[]⟩
 generalize riX p vs e2 ⟨s1.ts,[]⟩=r2 at g2 l2 ⊢
 obtain ⟨b,s2⟩:=r2
 unfold riLe at l2
 dsimp only at g2 l2
 have g3:=riA14 p s2.ts lo vs s2.ns (.mk 12 0 0 ⟨#[]⟩ [b] [] [] []) (by simp at l2;omega)
 refine ⟨z19 (i:=0) rfl,rfl,[],g1,sR,Gj,rfl,[1,2,3,4,5,6],zd3 p s1.ts lo vs s1.ns,sR,⟨rfl,rfl,rfl,rfl,rfl,rfl,rfl,rfl,rfl,rfl,rfl,rfl,Gc⟩,rfl,[1,2,3,4,5,6],y3l p s1.ts lo vs s1.ns,sR,⟨rfl,rfl,rfl,rfl,rfl,rfl,rfl,rfl,rfl,rfl,rfl,rfl,Gc⟩,rfl,?_⟩
 refine ⟨z19 (i:=1) rfl,rfl,[],g2,sR,Gj,rfl,[],g3,SubA.same (SubA.cons (sP (z0e _)) SubA.nil),Gj,rfl,?_⟩
 have g4:=riP24 p s2.ts lo vs [] 2 2 0 1 ⟨#[]⟩ [] [] oM0 sI0
 have g5:=riA24 p (s2.ts++[2]) lo vs [.mk 2 0 1 ⟨#[]⟩ [] [(s2.ts.length:Int)] [] []] (.mk 12 0 0 ⟨#[]⟩ [(s2.ts.length:Int)] [] [] []) sI0
 have g6:=z60 p (s2.ts++[2]) lo vs s1.ns 2 10 0 0 ⟨#[]⟩ [a] [z6h 12 ⟨#[]⟩ [(s2.ts.length:Int)] [.mk 2 0 1 ⟨#[]⟩ [] [(s2.ts.length:Int)] [] []],z6h 12 ⟨#[]⟩ [b] s2.ns] (by simp;omega) oM0
 refine ⟨rfl,[],g4,SubA.same (SubA.same (SubA.cons (sP (z0e _)) SubA.nil)),Gj,rfl,[],g5,SubA.same (SubA.cons (sP (z0e _)) SubA.nil),Gj,rfl,?_⟩
 refine ⟨rfl,rfl,(by decide:0<2),rfl,0,0,_,rfl,rfl,rfl,By,rfl,?_⟩
 exact ⟨[],g6,SubA.same (SubA.same (SubA.cons (sP (z0e _)) SubA.nil)),Gj,rfl,sI,rfl,rfl,rfl,rfl,rfl,rfl,Gc⟩
theorem y7g (p:Pg) (vs:List (Value × PV)):∀ (l:List Ex) (e:Ex) (s:RiS),riXL p vs (l++[e]) s=((riXL p vs l s).1++[(riX p vs e (riXL p vs l s).2).1],(riX p vs e (riXL p vs l s).2).2)
 | [],e,s=>by simp [riXL]
 | x::r,e,s=>by
  have:=y7g p vs r e (riX p vs x s).2
  simp only [B8,riXL,this]
theorem yj2 (p:Pg) (vs:List (Value × PV)):∀ (l:List Ex) (s:RiS),(riXL p vs l s).1.length=l.length
 | [],_=>by rw [riXL];rfl
 | x::r,s=>by rw [riXL];simp [yj2 p vs r]
theorem ym5:∀ (l:List Ex) (i:Nat),xzL (l.take i)+xzL (l.drop i)=xzL l
 | [],i=>by simp [xzL]
 | _::_,0=>by simp [xzL]
 | x::r,i+1=>by have:=ym5 r i;simp only [F6,F4,xzL];omega
theorem yk6 (p:Pg) (hp:szP p) (lo:Lo) (vs:List (Value × PV)) (hv:Cnt vs):∀ (N:Nat) (e:Ex),SizeOf.sizeOf e<N->xz e<=100000000->riOk p e=true->fRX p lo vs e
 | 0,_,h,_,_=>absurd h (Ae _)
 | N+1,.mk k o n nm args,hN,hx,hok=>by
  intro s hts hns
  have hx0:=hx
  simp only [xz] at hx hts hns
  have hl:=za0 args
  rw [riOk,A0] at hok
  have ih:∀ x∈args,fRX p lo vs x:=λx hm=>yk6 p hp lo vs hv N x (by have:=Bl hm;simp at hN;omega) (by have:=zf3 hm;omega) (zb7 hok.2 hm)
  by_cases hs:k=5/\(o=18∨o=19)
  ·obtain ⟨rfl,ho⟩:=hs
   have h2:args.length=2:=by have:=hok.1;unfold j0m at this;rw [if_pos rfl] at this;exact eq_of_beq this
   obtain ⟨e1,e2,rfl⟩:∃ e1 e2,args=[e1,e2]:=by
    match args,h2 with
    | [a,b],_=>exact ⟨a,b,rfl⟩
   simp only [xzL] at hts hns
   rw [riX,if_neg dC0,if_pos ⟨rfl,ho⟩]
   rcases ho with rfl | rfl
   ·refine SC.vc tb { pb:=[103] } [] Tryz.func117 rfl rfl ?_
    exact ⟨[],y7v p lo vs n nm e1 e2 s (ih e1 sI0) (ih e2 sI0) oM0 oM0,sR,Gj,rfl,sI,rfl,rfl,rfl,rfl,rfl,rfl,Gc⟩
   ·refine SC.vc tb { pb:=[103] } [] Tryz.func117 rfl rfl ?_
    exact ⟨[],y7w p lo vs n nm e1 e2 s (ih e1 sI0) (ih e2 sI0) oM0 oM0,sR,Gj,rfl,sI,rfl,rfl,rfl,rfl,rfl,rfl,Gc⟩
  by_cases h3:k=3
  ·subst h3
   rw [riX,if_pos rfl]
   refine SC.vc tb { pb:=[103] } [] Tryz.func117 rfl rfl ?_
   exact VAsk.mk (p:=vInt (y25 vs nm)) (b:=(z1f (.string nm) vs).isSome) rfl hv.1 (E4 (hv.getI nm) rfl) ⟨sI,rfl,rfl,rfl,rfl,rfl,rfl,Gc⟩
  rw [riX,if_neg h3,if_neg hs]
  refine SC.vc tb { pb:=[103],jn:=[5],gh:=[(6,[.grow 5 1001 3 1]),(11,[.fz 5 1001])] } [] Tryz.func117 rfl rfl ?_
  refine ⟨Unit,λ_=>[],λ_=>[],λ_=>True,[],?_,?_⟩
  ·refine z00 (λc=>absurd (eq_of_beq c) h3) λ_=>z00 (λc=>?_) λc=>?_
   ·have c:k=5:=eq_of_beq c
    exact z00 (λc2=>absurd ⟨c,.inl (eq_of_beq c2)⟩ hs) λ_=>z00 (λc2=>absurd ⟨c,.inr (eq_of_beq c2)⟩ hs) λ_=>⟨(),Gc,Gc,Gc,rfl,rfl,rfl,rfl⟩
   ·exact ⟨(),Gc,Gc,Gc,rfl,rfl,rfl,rfl⟩
  rintro _ _
  have hle0:=(zt8 p vs _).2.1 args (A5 _) s
  unfold riLe at hle0
  have h00:riXL p vs (args.take 0) s=([],s):=by rw [List.take_zero,riXL]
  refine ⟨Nat,λi=>[(40,iInt ((i:Nat):Int)),(5,.sl 1001 ((riXL p vs (args.take i) s).1.map eInt).length)],λi=>(1001,.row inRt ((riXL p vs (args.take i) s).1.map eInt))::riH p lo vs (riXL p vs (args.take i) s).2,λi=>args.length - i,λi=>i<=args.length,[],0,A8 _,⟨rfl,(by simp only [h00];rfl),Gc⟩,(by simp only [h00];exact Gk),?_⟩
  clear h00 hs
  intro i hi
  have hle:=(zt8 p vs _).2.1 (args.take i) (A5 _) s
  unfold riLe at hle
  have hxt:=ym5 args i
  have hlen:=yj2 p vs (args.take i) s
  refine z00 (λhc=>?_) λhc=>?_
  ·have hlt:i<args.length:=z0x (f:=Ex.enc) rfl hc
   obtain ⟨x,x1,x2,x3,x4⟩:=z0m hlt
   rw [x3] at hxt
   simp only [xzL] at hxt
   have hsn:=y7g p vs (args.take i) x s
   rw [<- x2] at hsn
   generalize riXL p vs (args.take i) s=L at hle hlen hsn ⊢
   obtain ⟨L1,q⟩:=L
   dsimp only at hle hlen hsn
   have hX:=ih x x4 q oM0 oM0
   generalize riX p vs x q=W at hX hsn
   obtain ⟨w1,w2⟩:=W
   dsimp only at hX hsn
   exact ⟨z19 x1,rfl,[],hX,sR,Gj,rfl,rfl,z3x rfl,by simp at hlen ⊢;omega,z01 rfl oM0,i+1,z04 hlt,hlt,⟨rfl,slq (by rw [hsn];simp),Gc⟩,⟨rwq (by rw [hsn];simp [eInt]),by rw [hsn];rfl,by rw [hsn];rfl,rfl,by rw [hsn];rfl,rfl,by rw [hsn];rfl,Gc⟩,rfl,rfl,rfl,rfl⟩
  ·have hge:args.length<=i:=z0y (f:=Ex.enc) rfl hc
   rw [Al hge] at hlen ⊢
   clear hle hxt
   generalize riXL p vs args s=L at hle0 hlen ⊢
   obtain ⟨l,q⟩:=L
   dsimp only at hle0 hlen ⊢
   have hpl:k≠1->k≠2->k≠4->k≠5->k≠6->k≠8->0<=z3g p nm:=λa b c d e f=>by
    have:=hok.1
    unfold j0m at this
    rw [if_neg d,if_neg oM0] at this
    exact Ao this
   clear hok ih
   generalize hT:zp9 p k o n nm l q=T
   unfold zp9 at hT
   refine ⟨rfl,z00 (λc=>?_) λc1=>z00 (λc=>?_) λc2=>z00 (λc=>?_) λc4=>z00 (λc=>?_) λc5=>z00 (λc=>?_) λc6=>z00 (λc=>?_) λc8=>?_⟩
   ·have c:k=1:=eq_of_beq c
    rw [if_pos c] at hT
    subst hT
    exact ⟨[],z60 p q.ts lo vs q.ns 1 1 0 n ⟨#[]⟩ [] [] oM0 oM0,SubA.same (SubA.same (SubA.cons (sP (z0e _)) SubA.nil)),Gj,rfl,sI,rfl,rfl,rfl,rfl,rfl,rfl,Gc⟩
   ·have c1:¬ k=1:=Aa.1 c1
    have c:k=2:=eq_of_beq c
    rw [if_neg c1,if_pos c] at hT
    subst hT
    exact ⟨[],z60 p q.ts lo vs q.ns 2 2 0 n ⟨#[]⟩ [] [] oM0 oM0,SubA.same (SubA.same (SubA.cons (sP (z0e _)) SubA.nil)),Gj,rfl,sI,rfl,rfl,rfl,rfl,rfl,rfl,Gc⟩
   ·have c1:¬ k=1:=Aa.1 c1
    have c2:¬ k=2:=Aa.1 c2
    have c:k=4:=eq_of_beq c
    rw [if_neg c1,if_neg c2,if_pos c] at hT
    subst hT
    exact ⟨[],y7t o,sR,Gc,rfl,[],z60 p q.ts lo vs q.ns (y0u o) 3 o 0 ⟨#[]⟩ l [] oM0 oM0,SubA.same (SubA.same (SubA.cons (sP (z0e _)) SubA.nil)),Gj,rfl,sI,rfl,rfl,rfl,rfl,rfl,rfl,Gc⟩
   ·have c1:¬ k=1:=Aa.1 c1
    have c2:¬ k=2:=Aa.1 c2
    have c4:¬ k=4:=Aa.1 c4
    have c:k=5:=eq_of_beq c
    rw [if_neg c1,if_neg c2,if_neg c4,if_pos c] at hT
    subst hT
    exact ⟨[],y7t o,sR,Gc,rfl,[],z60 p q.ts lo vs q.ns (y0u o) 4 o 0 ⟨#[]⟩ l [] oM0 oM0,SubA.same (SubA.same (SubA.cons (sP (z0e _)) SubA.nil)),Gj,rfl,sI,rfl,rfl,rfl,rfl,rfl,rfl,Gc⟩
   ·have c1:¬ k=1:=Aa.1 c1
    have c2:¬ k=2:=Aa.1 c2
    have c4:¬ k=4:=Aa.1 c4
    have c5:¬ k=5:=Aa.1 c5
    have c:k=6:=eq_of_beq c
    rw [if_neg c1,if_neg c2,if_neg c4,if_neg c5,if_pos c] at hT
    subst hT
    exact ⟨[],z60 p q.ts lo vs q.ns 1 5 0 0 nm l [] oM0 oM0,SubA.same (SubA.same (SubA.cons (sP (z0e _)) SubA.nil)),Gj,rfl,sI,rfl,rfl,rfl,rfl,rfl,rfl,Gc⟩
   ·have c1:¬ k=1:=Aa.1 c1
    have c2:¬ k=2:=Aa.1 c2
    have c4:¬ k=4:=Aa.1 c4
    have c5:¬ k=5:=Aa.1 c5
    have c6:¬ k=6:=Aa.1 c6
    have c:k=8:=eq_of_beq c
    rw [if_neg c1,if_neg c2,if_neg c4,if_neg c5,if_neg c6,if_pos c] at hT
    subst hT
    exact ⟨[],z60 p q.ts lo vs q.ns 1 8 0 0 ⟨#[]⟩ [] [] oM0 oM0,SubA.same (SubA.same (SubA.cons (sP (z0e _)) SubA.nil)),Gj,rfl,sI,rfl,rfl,rfl,rfl,rfl,rfl,Gc⟩
   ·have c1:¬ k=1:=Aa.1 c1
    have c2:¬ k=2:=Aa.1 c2
    have c4:¬ k=4:=Aa.1 c4
    have c5:¬ k=5:=Aa.1 c5
    have c6:¬ k=6:=Aa.1 c6
    have c8:¬ k=8:=Aa.1 c8
    rw [if_neg c1,if_neg c2,if_neg c4,if_neg c5,if_neg c6,if_neg c8] at hT
    subst hT
    obtain ⟨j,j1,j2⟩:=zv9 (hpl c1 c2 c4 c5 c6 c8)
    exact ⟨[],zd5 p nm hp.1,sR,Gc,rfl,z9g j2,j1,[],z60 p q.ts lo vs q.ns (fuAt p (z3g p nm)).ty 7 0 0 nm l [] oM0 oM0,SubA.same (SubA.same (SubA.cons (sP (z0e _)) SubA.nil)),Gj,rfl,sI,rfl,rfl,rfl,rfl,rfl,rfl,Gc⟩
def riW (p:Pg) (lo:List (List ByteArray)) (s:RiT):List (Nat × HO):=riBx p s.ts ⟨lo,s.jk⟩++riLx s.vs s.ns
def scB (p:Pg) (l:List St) (lo:List (List ByteArray)) (s:RiT) (a:Bool × RiT):Prop:=SC Tryz.prog 38 [.ptr 4 0,.pv (sts l)] (riW p lo s) (λk=>k∈[]) (iBool a.1) (riW p lo a.2)
theorem scB14 {p:Pg} {l:List St} {lo:List (List ByteArray)} {s:RiT} {a:Bool × RiT} (h:scB p l lo s a):SC Tryz.prog 38 [.ptr 14 0,.pv (sts l)] (riBx p s.ts ⟨lo,s.jk⟩++riLk 14 15 16 s.vs s.ns) (λk=>k∈[]) (iBool a.1) (riBx p a.2.ts ⟨lo,a.2.jk⟩++riLk 14 15 16 a.2.vs a.2.ns):=SC.sameR (((h.sw 4 14).sw 5 15).sw 6 16) λk _ hk=>absurd hk Bx
theorem y7u (vs:List (Value × PV)) (hv:Cnt vs) (l:List ByteArray) (hl:l.length<=34359738368):SC Tryz.prog 116 [.mp 15,.pv (txs l)] [(15,.map vs)] (λk=>k∈[15]) (.pv (ints (riOf vs l))) [(15,.map vs)]:=SC.sameR ((zh4 vs hv l hl).sw 5 15) λk _ hk=>by rw [Ai.1 hk];exact Dd
theorem yk5 (p:Pg) (l:List St) (z03:List ByteArray) (lo:List (List ByteArray)) (vs:List (Value × PV)) (ts:List Int) (jk:List (List ByteArray)) (ns:List Nd) (a:Bool × RiT) (hB:scB p l lo ⟨vs,ts,[],jk⟩ a) (hv:Cnt a.2.vs) (hnm:z03.length<=34359738368) (hns:a.2.ns.length<=34359738368) :
 SC Tryz.prog 160 [.ptr 4 0,.pv (sts l),.pv (txs z03)] (riW p lo ⟨vs,ts,ns,jk⟩) (λk=>k∈[]) (.pv (z1n (z5k 12 z03 a))) (riW p lo ⟨vs,a.2.ts,ns,a.2.jk⟩):=by
 refine SC.vc tb { ids:=[(9,14)],gh:=[(2,[.growC 14 2 16 46 8]),(4,[.fzC 14 2 16])] } [] Tryz.func160 rfl rfl ?_
 have hK:=zd3 p ts ⟨lo,jk⟩ vs ns
 have hB:=scB14 hB
 obtain ⟨b,q⟩:=a
 dsimp only at hv hns hB ⊢
 refine ⟨[1,2,3,4,5,6],hK,sR,⟨rfl,rfl,rfl,rfl,rfl,rfl,rfl,rfl,rfl,rfl,rfl,rfl,Gc⟩,rfl,[],hB,sR,Gj,rfl,?_⟩
 cases b
 ·exact ⟨[15],y7u q.vs hv z03 hnm,sR,Ge,rfl,[],riA14 p q.ts ⟨lo,q.jk⟩ q.vs q.ns (.mk 12 0 0 ⟨#[]⟩ (riOf q.vs z03) [] [] []) hns,SubA.same (SubA.cons (sP (z0e _)) SubA.nil),Gj,rfl,rfl,sI,rfl,rfl,rfl,rfl,rfl,rfl,Gc⟩
 ·exact ⟨rfl,sI,rfl,rfl,rfl,rfl,rfl,rfl,Gc⟩
structure NmOk (vs:List (Value × PV)) (ls:List (List St)) (n:Nat):Prop where
 sz:∀ l∈ls,szL l<=1073741824
 tx:∀ e∈z89 vs ls,(z6r e.1).size<=maxLen
 len:(z89 vs ls).length<=1073741824
 at_:∀ v∈riOf vs (z0c vs ls),0<=v/\v<n
theorem z92 (vs:List (Value × PV)) (ls:List (List St)):(z0c vs ls).length=(z89 vs ls).length:=by simp [z0c,zl9]
theorem yb8 (p:Pg) (x:St) (lo:List (List ByteArray)) (s:RiT) (hv:Cnt s.vs) (e:Ex) (he:x.args[0]? = some e) (c:Int × RiS)
 (hX:SC Tryz.prog 117 [.ptr 4 0,.pv (exv e)] (riH p ⟨lo,s.jk⟩ s.vs ⟨s.ts,s.ns⟩) (λk=>k∈[]) (iInt c.1) (riH p ⟨lo,s.jk⟩ s.vs c.2)) (a b:Bool × RiT)
 (hA:scB p x.thn lo ⟨s.vs,c.2.ts,[],s.jk⟩ a) (hB:scB p x.els lo ⟨s.vs,a.2.ts,[],a.2.jk⟩ b) (ha:Cnt a.2.vs) (hb:Cnt b.2.vs) (han:a.2.ns.length<=34000000000) (hbn:b.2.ns.length<=34000000000)
 (hN:NmOk s.vs [x.thn,x.els] b.2.ts.length) (hcn:c.2.ns.length<=34000000000) (hbt:b.2.ts.length<=33000000000) :
 SC Tryz.prog 113 [.ptr 4 0,.pv (stv x)] (riW p lo s) (λk=>k∈[]) (iBool (zd1 s (z0c s.vs [x.thn,x.els]) c a b).1) (riW p lo (zd1 s (z0c s.vs [x.thn,x.els]) c a b).2):=by
 refine SC.vc tb { pb:=[103] } [] Tryz.func113 rfl rfl ?_
 have hC:=zu1 s.vs hv [x.thn,x.els] sI0 hN.sz hN.tx hN.len
 have hln:=z92 s.vs [x.thn,x.els]
 have hl1:=hN.len
 have hat:=hN.at_
 generalize z0c s.vs [x.thn,x.els]=z03 at hC hln hat ⊢
 have hA:=yk5 p x.thn z03 lo s.vs c.2.ts s.jk c.2.ns a hA ha oM0 oM0
 have hB:=yk5 p x.els z03 lo s.vs a.2.ts a.2.jk c.2.ns b hB hb oM0 oM0
 have hK:=zq1 (.mk 10 0 0 ⟨#[]⟩ [c.1] [] [] [z5k 12 z03 a,z5k 12 z03 b])
 obtain ⟨c1,c2⟩:=c
 obtain ⟨a1,a2⟩:=a
 obtain ⟨b1,b2⟩:=b
 unfold zd1 z69
 dsimp only at hX hA hB hK hcn hbt hat ⊢
 refine ⟨z19 he,rfl,[],hX,sR,Gj,rfl,[5],hC,sR,Ge,rfl,[],hA,sR,Gj,rfl,[],hB,sR,Gj,rfl,?_⟩
 refine ⟨[],hK,SubA.cons (sP (z0e _)) SubA.nil,Gc,rfl,?_⟩
 generalize z07 (.mk 10 0 0 ⟨#[]⟩ [c1] [] [] [z5k 12 z03 (a1,a2),z5k 12 z03 (b1,b2)])=k
 cases k
 ·have hO:=zh4 s.vs hv z03 oM0
  have hlen:(riOf s.vs z03).length=z03.length:=by simp [riOf]
  have hL:=y1a p b2.ts ⟨lo,b2.jk⟩ (riOf s.vs z03) hat oM0
  have hl2:=z3a (riOf s.vs z03) b2.ts
  have hS:=y5g s.vs hv z03 (z12 b2.ts (riOf s.vs z03)).1 oM0 oM0
  have hD:=z3w p (z12 b2.ts (riOf s.vs z03)).2 ⟨lo,b2.jk⟩ (zk7 s.vs z03 (z12 b2.ts (riOf s.vs z03)).1) c2.ns (.mk 10 0 0 ⟨#[]⟩ [c1] (z12 b2.ts (riOf s.vs z03)).1 [] [z5k 12 z03 (a1,a2),z5k 12 z03 (b1,b2)]) oM0
  exact ⟨[5],hO,sR,Ge,rfl,[],hL,sR,Gf,rfl,[],hS,sR,Gd,rfl,[],hD,SubA.same (SubA.cons (sP (z0e _)) SubA.nil),Gj,rfl,sI,rfl,rfl,rfl,rfl,rfl,rfl,Gc⟩
 ·have hD:=z3w p b2.ts ⟨lo,b2.jk⟩ s.vs c2.ns (.mk 10 0 0 ⟨#[]⟩ [c1] [] [] [z5k 12 z03 (a1,a2),z5k 12 z03 (b1,b2)]) oM0
  exact ⟨[],hD,SubA.same (SubA.cons (sP (z0e _)) SubA.nil),Gj,rfl,sI,rfl,rfl,rfl,rfl,rfl,rfl,Gc⟩
theorem yc0 (p:Pg) (x:St) (z03:List ByteArray) (lo:List (List ByteArray)) (s:RiT) (e:Ex) (he:x.args[0]? = some e) (ht:zb8 e=true) (a:Bool × RiT) (hA:scB p x.thn lo s a) (ha:Cnt a.2.vs) (hnm:z03.length<=34359738368) (han:a.2.ns.length<=34000000000) :
 SC Tryz.prog 164 [.ptr 4 0,.pv (stv x),.pv (txs z03)] (riW p lo s) (λk=>k∈[]) (.tup []) (riW p lo ⟨a.2.vs,a.2.ts,z5k 13 z03 a,a.2.jk⟩):=by
 refine SC.vc tb { pb:=[104,106] } [] Tryz.func164 rfl rfl ?_
 unfold zb8 at ht
 rw [A0] at ht
 refine ⟨z19 he,rfl,z00 (λh1=>z00 (λh2=>?_) λh2=>absurd (ht.2.symm.trans h2) dC0) λh1=>absurd (ht.1.symm.trans h1) dC0⟩
 obtain ⟨b,q⟩:=a
 unfold z5k
 dsimp only at hA ha han ⊢
 refine ⟨[],hA,sR,Gj,rfl,?_⟩
 cases b
 ·exact ⟨[5],zh4 q.vs ha z03 hnm,sR,Ge,rfl,[],z3w p q.ts ⟨lo,q.jk⟩ q.vs q.ns (.mk 13 0 0 ⟨#[]⟩ (riOf q.vs z03) [] [] []) oM0,SubA.same (SubA.cons (sP (z0e _)) SubA.nil),Gj,rfl,sI,rfl,rfl,rfl,rfl,rfl,rfl,Gc⟩
 ·exact ⟨sI,rfl,rfl,rfl,rfl,rfl,rfl,Gc⟩
theorem yc1 (p:Pg) (x:St) (z03:List ByteArray) (lo:List (List ByteArray)) (s:RiT) (hv:Cnt s.vs) (e:Ex) (he:x.args[0]? = some e) (ht:zb8 e=false) (c:Int × RiS)
 (hX:SC Tryz.prog 117 [.ptr 4 0,.pv (exv e)] (riH p ⟨lo,s.jk⟩ s.vs ⟨s.ts,s.ns⟩) (λk=>k∈[]) (iInt c.1) (riH p ⟨lo,s.jk⟩ s.vs c.2)) (a:Bool × RiT)
 (hA:scB p x.thn lo ⟨s.vs,c.2.ts,[],s.jk⟩ a) (ha:Cnt a.2.vs) (hnm:z03.length<=34359738368) (han:a.2.ns.length<=34000000000) (hcn:c.2.ns.length<=34000000000) :
 SC Tryz.prog 164 [.ptr 4 0,.pv (stv x),.pv (txs z03)] (riW p lo s) (λk=>k∈[]) (.tup []) (riW p lo ⟨s.vs,a.2.ts,z93 z03 s.vs c a,a.2.jk⟩):=by
 refine SC.vc tb { pb:=[104,106],ids:=[(43,14)],gh:=[(7,[.growC 14 2 16 46 8]),(9,[.fzC 14 2 16])] } [] Tryz.func164 rfl rfl ?_
 have hA:=scB14 hA
 have hK:=zd3 p c.2.ts ⟨lo,s.jk⟩ s.vs c.2.ns
 have hD:=z3w p a.2.ts ⟨lo,a.2.jk⟩ s.vs c.2.ns (.mk 10 0 0 ⟨#[]⟩ [c.1] [] [] [z5k 13 z03 a,z6h 14 ⟨#[]⟩ (riOf s.vs z03) []]) oM0
 unfold z93
 obtain ⟨c1,c2⟩:=c
 obtain ⟨b,q⟩:=a
 unfold z5k at hD ⊢
 dsimp only at hX hA hK hD ha han hcn ⊢
 have hS:∀ (l:List Nd),SubI (.pv (.agg [vInt 10,vInt 0,vInt 0,vStr ⟨#[]⟩,ints [c1],.val (.slice none 0 0),.val (.slice none 0 0),.seq [[z1n l],[.seq [[vInt 14,vInt 0,vInt 0,vStr ⟨#[]⟩,ints (riOf s.vs z03),.val (.slice none 0 0),.val (.slice none 0 0),.val (.slice none 0 0)]]]]])) (.pv (.agg [vInt 10,vInt 0,vInt 0,vStr ⟨#[]⟩,ints [c1],ints [],ints [],kids [l,z6h 14 ⟨#[]⟩ (riOf s.vs z03) []]])):=λl=>sP (PSub.agg ⟨PSub.refl _,PSub.refl _,PSub.refl _,PSub.refl _,PSub.refl _,PSub.nil,PSub.nil,PSub.seq ⟨⟨PSub.refl _,Gc⟩,⟨PSub.seq ⟨y07 _,Gc⟩,Gc⟩,Gc⟩,Gc⟩)
 cases b
 ·refine ⟨z19 he,rfl,z00 (λh1=>z00 (λh2=>absurd (show zb8 e=true by unfold zb8;rw [show (e.kind==2)=true from h1,show (e.n==1)=true from h2];rfl) (by rw [ht];decide)) λh2=>?_) λh1=>?_⟩
  all_goals exact ⟨z19 he,rfl,[],hX,sR,Gj,rfl,[1,2,3,4,5,6],hK,sR,⟨rfl,rfl,rfl,rfl,rfl,rfl,rfl,rfl,rfl,rfl,rfl,rfl,Gc⟩,rfl,[],hA,sR,Gj,rfl,[15],y7u q.vs ha z03 hnm,sR,Ge,rfl,[],riA14 p q.ts ⟨lo,q.jk⟩ q.vs q.ns (.mk 13 0 0 ⟨#[]⟩ (riOf q.vs z03) [] [] []) oM0,SubA.same (SubA.cons (sP (z0e _)) SubA.nil),Gj,rfl,rfl,[5],zh4 s.vs hv z03 hnm,sR,Ge,rfl,[],hD,SubA.same (SubA.cons (hS _) SubA.nil),Gj,rfl,sI,rfl,rfl,rfl,rfl,rfl,rfl,Gc⟩
 ·refine ⟨z19 he,rfl,z00 (λh1=>z00 (λh2=>absurd (show zb8 e=true by unfold zb8;rw [show (e.kind==2)=true from h1,show (e.n==1)=true from h2];rfl) (by rw [ht];decide)) λh2=>?_) λh1=>?_⟩
  all_goals exact ⟨z19 he,rfl,[],hX,sR,Gj,rfl,[1,2,3,4,5,6],hK,sR,⟨rfl,rfl,rfl,rfl,rfl,rfl,rfl,rfl,rfl,rfl,rfl,rfl,Gc⟩,rfl,[],hA,sR,Gj,rfl,rfl,[5],zh4 s.vs hv z03 hnm,sR,Ge,rfl,[],hD,SubA.same (SubA.cons (hS _) SubA.nil),Gj,rfl,sI,rfl,rfl,rfl,rfl,rfl,rfl,Gc⟩
def scR (p:Pg) (x:St) (z03:List ByteArray) (lo:List (List ByteArray)) (s r:RiT):Prop:=SC Tryz.prog 164 [.ptr 4 0,.pv (stv x),.pv (txs z03)] (riW p lo s) (λk=>k∈[]) (.tup []) (riW p lo r)
theorem scR14 {p:Pg} {x:St} {z03:List ByteArray} {lo:List (List ByteArray)} {s r:RiT} (h:scR p x z03 lo s r):SC Tryz.prog 164 [.ptr 14 0,.pv (stv x),.pv (txs z03)] (riBx p s.ts ⟨lo,s.jk⟩++riLk 14 15 16 s.vs s.ns) (λk=>k∈[]) (.tup []) (riBx p r.ts ⟨lo,r.jk⟩++riLk 14 15 16 r.vs r.ns):=SC.sameR (((h.sw 4 14).sw 5 15).sw 6 16) λk _ hk=>absurd hk Bx
theorem yr8 (vs:List (Value × PV)) (hv:Cnt vs) (l:List ByteArray) (q:List Int) (hq:l.length=q.length) (hl:l.length<=34359738368):SC Tryz.prog 162 [.mp 15,.pv (txs l),.pv (ints q)] [(15,.map vs)] (λk=>k∈[]) (.tup []) [(15,.map (zk7 vs l q))]:=SC.sameR ((y5g vs hv l q hq hl).sw 5 15) λk _ hk=>absurd hk Bx
theorem tail_app {α:Type} (a b:List α) (x:α):(b=[]/\a++[x]++b.tail=a++b++[x])∨(b≠[]/\a++[x]++b.tail=(a++b).set a.length x):=by
 cases b with
 | nil=>exact .inl ⟨rfl,by simp⟩
 | cons y r=>exact .inr ⟨by simp,by simp⟩
theorem y7s (p:Pg) (x:St) (lo:List (List ByteArray)) (s:RiT) (hv:Cnt s.vs) (r:RiT) (hR:scR p x (z0c s.vs [x.thn]) (lo++[z0c s.vs [x.thn]]) (z1z s (z0c s.vs [x.thn])) r)
 (hN:NmOk s.vs [x.thn] s.ts.length) (hts:s.ts.length<=33000000000) (hns:s.ns.length<=34000000000) (hrt:s.ts.length<=r.ts.length) (hrt2:r.ts.length<=33000000000) (hlo:lo.length<=1000000000) (hjk:s.jk.length<=1000000000) :
 SC Tryz.prog 114 [.ptr 4 0,.pv (stv x)] (riW p lo s) (λk=>k∈[])
  (iBool (z69 s.vs (z0c s.vs [x.thn]) r.ts s.ns (z0c s.vs [x.thn]::r.jk) 11 (riOf s.vs (z0c s.vs [x.thn])) (z12 s.ts (riOf s.vs (z0c s.vs [x.thn]))).1 [r.ns]).1)
  (riW p lo (z69 s.vs (z0c s.vs [x.thn]) r.ts s.ns (z0c s.vs [x.thn]::r.jk) 11 (riOf s.vs (z0c s.vs [x.thn])) (z12 s.ts (riOf s.vs (z0c s.vs [x.thn]))).1 [r.ns]).2):=by
 refine SC.vc tb { pb:=[103],ids:=[(32,14)],gh:=[(5,[.growC 14 2 16 46 8]),(9,[.fzC 14 2 16])] } [] Tryz.func114 rfl rfl ?_
 have hC:=zu1 s.vs hv [x.thn] sI0 hN.sz hN.tx hN.len
 have hln:=z92 s.vs [x.thn]
 have hl1:=hN.len
 have hat:=hN.at_
 generalize z0c s.vs [x.thn]=z03 at hC hln hat hR ⊢
 have hO:=zh4 s.vs hv z03 oM0
 have hlen:(riOf s.vs z03).length=z03.length:=by simp [riOf]
 have hL:=y1a p s.ts ⟨lo,s.jk⟩ (riOf s.vs z03) hat oM0
 have hl2:=z3a (riOf s.vs z03) s.ts
 have hK:=zd3 p (z12 s.ts (riOf s.vs z03)).2 ⟨lo,s.jk⟩ s.vs s.ns
 have hS:=yr8 s.vs hv z03 (z12 s.ts (riOf s.vs z03)).1 oM0 oM0
 have hR:=scR14 hR
 unfold z1z at hR
 have hQ:=zq1 (.mk 11 0 0 ⟨#[]⟩ (riOf s.vs z03) [] (z12 s.ts (riOf s.vs z03)).1 [r.ns])
 unfold z69
 refine ⟨[5],hC,sR,Ge,rfl,[5],hO,sR,Ge,rfl,[],hL,sR,Gf,rfl,?_⟩
 refine ⟨[1,2,3,4,5,6],hK,sR,⟨rfl,rfl,rfl,rfl,rfl,rfl,rfl,rfl,rfl,rfl,rfl,rfl,Gc⟩,rfl,[],hS,sR,Gd,rfl,?_⟩
 refine VApp1.mk (m':=((lo++[z03]++s.jk.tail).map eTxs).length) (els':=(lo++[z03]++s.jk.tail).map eTxs) rfl (z3x rfl) (by simp;omega) ?_ ?_
 ·rcases tail_app lo s.jk z03 with ⟨h1,h2⟩ | ⟨h1,h2⟩
  ·rw [h2,h1];exact .inr ⟨by simp,by simp [eTxs];rfl,by simp⟩
  ·have:=D0.2 h1
   rw [h2];exact .inl ⟨by simp;omega,by simp [C5];rfl,by simp⟩
 refine ⟨rfl,[],hR,sR,⟨boq sI0,rfl,rfl,rfl,rfl,rfl,Gc⟩,rfl,?_⟩
 refine ⟨rfl,z3k (z:=(lo.length:Int)) sI0 oM0,rfl,lo.length,rfl,by simp,rfl,?_⟩
 refine ⟨rfl,[],hQ,SubA.cons (sP (z0e _)) SubA.nil,Gc,rfl,?_⟩
 generalize z07 (.mk 11 0 0 ⟨#[]⟩ (riOf s.vs z03) [] (z12 s.ts (riOf s.vs z03)).1 [r.ns])=k
 cases k
 ·have hL2:=y1a p r.ts ⟨lo,z03::r.jk⟩ (riOf s.vs z03) (λv hv=>⟨(hat v hv).1,by have:=(hat v hv).2;omega⟩) oM0
  have hl3:=z3a (riOf s.vs z03) r.ts
  have hS2:=y5g s.vs hv z03 (z12 r.ts (riOf s.vs z03)).1 oM0 oM0
  have hD:=z3w p (z12 r.ts (riOf s.vs z03)).2 ⟨lo,z03::r.jk⟩ (zk7 s.vs z03 (z12 r.ts (riOf s.vs z03)).1) s.ns (.mk 11 0 0 ⟨#[]⟩ (riOf s.vs z03) (z12 r.ts (riOf s.vs z03)).1 (z12 s.ts (riOf s.vs z03)).1 [r.ns]) oM0
  exact ⟨[5],hO,sR,Ge,rfl,[],hL2,sR,⟨boq sI0,rfl,rwq sI0,Gc⟩,rfl,[],hS2,sR,Gd,rfl,[],hD,sR,Gj,rfl,sI,rfl,rfl,rfl,rfl,rfl,rfl,Gc⟩
 ·have hD:=z3w p r.ts ⟨lo,z03::r.jk⟩ s.vs s.ns (.mk 11 0 0 ⟨#[]⟩ (riOf s.vs z03) [] (z12 s.ts (riOf s.vs z03)).1 [r.ns]) oM0
  exact ⟨[],hD,SubA.same (SubA.cons (sP (z0e _)) SubA.nil),⟨boq sI0,rfl,rwq sI0,rfl,rfl,rfl,Gc⟩,rfl,sI,rfl,rfl,rfl,rfl,rfl,rfl,Gc⟩
abbrev scX (p:Pg) (e:Ex) (lo:List (List ByteArray)) (vs:List (Value × PV)) (jk:List (List ByteArray)) (s:RiS) (c:Int × RiS):Prop:=SC Tryz.prog 117 [.ptr 4 0,.pv (exv e)] (riH p ⟨lo,jk⟩ vs s) (λk=>k∈[]) (iInt c.1) (riH p ⟨lo,jk⟩ vs c.2)
theorem y1b (p:Pg) (k ty:Int) (nm:ByteArray) (args:List Ex) (thn els:List St) (lo:List (List ByteArray)) (s:RiT) (hv:Cnt s.vs) (e:Ex) (he:args[0]? = some e) (hX:scX p e lo s.vs s.jk ⟨s.ts,s.ns⟩ (riX p s.vs e ⟨s.ts,s.ns⟩)) (hn:(riX p s.vs e ⟨s.ts,s.ns⟩).2.ns.length<=34000000000)
 (h3:k=3->∃ e2,args[1]? = some e2/\scX p e2 lo s.vs s.jk (riX p s.vs e ⟨s.ts,s.ns⟩).2 (riX p s.vs e2 (riX p s.vs e ⟨s.ts,s.ns⟩).2)/\(riX p s.vs e2 (riX p s.vs e ⟨s.ts,s.ns⟩).2).2.ns.length<=34000000000) :
 SC Tryz.prog 118 [.ptr 4 0,.pv (stv (.mk k ty nm args thn els))] (riW p lo s) (λk=>k∈[]) (.tup []) (riW p lo (zd2 p k nm args s)):=by
 refine SC.vc tb { pb:=[103] } [] Tryz.func118 rfl rfl ?_
 have g0:args.getD 0 ex0=e:=by rw [Ay,he];rfl
 unfold zd2
 rw [g0]
 generalize riX p s.vs e ⟨s.ts,s.ns⟩=c at hX hn h3 ⊢
 obtain ⟨c1,c2⟩:=c
 dsimp only at hX hn h3 ⊢
 refine ⟨z19 he,rfl,[],hX,sR,Gj,rfl,?_⟩
 rcases (show k=1∨k=2∨k=3∨k=9∨(k≠1/\k≠2/\k≠3/\k≠9) by omega) with rfl | rfl | rfl | rfl | ⟨k1,k2,k3,k9⟩
 ·exact ⟨rfl,hv.1,sI,rfl,rfl,rfl,rfl,rfl,rfl,Gc⟩
 ·exact ⟨rfl,hv.1,sI,rfl,rfl,rfl,rfl,rfl,rfl,Gc⟩
 ·obtain ⟨e2,i1,i2,i3⟩:=h3 rfl
  have g1:args.getD 1 ex0=e2:=by rw [Ay,i1];rfl
  rw [g1]
  generalize riX p s.vs e2 c2=d at i2 i3 ⊢
  obtain ⟨d1,d2⟩:=d
  dsimp only at i2 i3 ⊢
  exact ⟨z19 i1,rfl,[],i2,sR,Gj,rfl,[],z3w p d2.ts ⟨lo,s.jk⟩ s.vs d2.ns (.mk 6 0 0 nm [c1,d1] [] [] []) oM0,SubA.same (SubA.cons (sP (z0e _)) SubA.nil),Gj,rfl,sI,rfl,rfl,rfl,rfl,rfl,rfl,Gc⟩
 ·exact ⟨[],z3w p c2.ts ⟨lo,s.jk⟩ s.vs c2.ns (.mk 9 0 0 ⟨#[]⟩ [c1] [] [] []) oM0,SubA.same (SubA.cons (sP (z0e _)) SubA.nil),Gj,rfl,sI,rfl,rfl,rfl,rfl,rfl,rfl,Gc⟩
 ·rw [if_neg oM0,if_neg k3,if_neg k9]
  have no:∀ {i:Int},k≠i->(k==i)=true->False:=λh e=>h (eq_of_beq e)
  exact z00 (λh=>(no k1 h).elim) λ_=>z00 (λh=>(no k2 h).elim) λ_=>z00 (λh=>(no k3 h).elim) λ_=>z00 (λh=>(no k9 h).elim) λ_=>⟨sI,rfl,rfl,rfl,rfl,rfl,rfl,Gc⟩
def scS (p:Pg) (x:St) (lo:List (List ByteArray)) (s:RiT) (a:Bool × RiT):Prop:=SC Tryz.prog 66 [.ptr 4 0,.pv (stv x)] (riW p lo s) (λk=>k∈[]) (iBool a.1) (riW p lo a.2)
theorem yr6 (p:Pg) (ty:Int) (nm:ByteArray) (args:List Ex) (thn els:List St) (lo:List (List ByteArray)) (s:RiT) (a:Bool × RiT)
 (h:SC Tryz.prog 113 [.ptr 4 0,.pv (stv (.mk 4 ty nm args thn els))] (riW p lo s) (λk=>k∈[]) (iBool a.1) (riW p lo a.2)):scS p (.mk 4 ty nm args thn els) lo s a:=by
 refine SC.vc tb { pb:=[103] } [] Tryz.func66 rfl rfl ?_
 exact ⟨[],h,sR,Gj,rfl,sI,rfl,rfl,rfl,rfl,rfl,rfl,Gc⟩
theorem y3k (p:Pg) (ty:Int) (nm:ByteArray) (args:List Ex) (thn els:List St) (lo:List (List ByteArray)) (s:RiT) (a:Bool × RiT)
 (h:SC Tryz.prog 114 [.ptr 4 0,.pv (stv (.mk 5 ty nm args thn els))] (riW p lo s) (λk=>k∈[]) (iBool a.1) (riW p lo a.2)):scS p (.mk 5 ty nm args thn els) lo s a:=by
 refine SC.vc tb { pb:=[103] } [] Tryz.func66 rfl rfl ?_
 exact ⟨[],h,sR,Gj,rfl,sI,rfl,rfl,rfl,rfl,rfl,rfl,Gc⟩
theorem yb9 (p:Pg) (k ty:Int) (hk:k=6∨k=7) (nm:ByteArray) (args:List Ex) (thn els:List St) (lo:List (List ByteArray)) (hlo:lo≠[]) (s:RiT) (hv:Cnt s.vs) (hl:lo.length<=1000000000) (hln:(lo.getLastD []).length<=1000000000) (hn:s.ns.length<=34000000000):scS p (.mk k ty nm args thn els) lo s (riS p (.mk k ty nm args thn els) lo s):=by
 have hO:=zh4 s.vs hv (lo.getLastD []) oM0
 have hpos:=D0.2 hlo
 have hg:((lo++s.jk).map eTxs)[lo.length - 1]? = some (eTxs (lo.getLastD [])):=by
  rw [B7,Ap oM0,<- Eg]
  cases lo with
  | nil=>exact absurd rfl hlo
  | cons y r=>simp [List.getLast?_cons,List.getLastD_eq_getLast?]
 rw [riS]
 refine SC.vc tb { pb:=[103] } [] Tryz.func66 rfl rfl ?_
 rcases hk with rfl | rfl
 ·refine ⟨rfl,z3k (z:=((lo.length:Nat):Int) - 1) sI0 oM0,rfl,VIdR.mk (i:=lo.length - 1) (by simp;omega) oM0 (VRow.mk (i:=lo.length - 1) (j:=0) rfl rfl hg rfl ?_)⟩
  exact ⟨[5],hO,sR,Ge,rfl,[],z3w p s.ts ⟨lo,s.jk⟩ s.vs s.ns (.mk 14 0 0 ⟨#[]⟩ (riOf s.vs (lo.getLastD [])) [] [] []) oM0,SubA.same (SubA.cons (sP (z0e _)) SubA.nil),Gj,rfl,sI,rfl,rfl,rfl,rfl,rfl,rfl,Gc⟩
 ·refine ⟨rfl,z3k (z:=((lo.length:Nat):Int) - 1) sI0 oM0,rfl,VIdR.mk (i:=lo.length - 1) (by simp;omega) oM0 (VRow.mk (i:=lo.length - 1) (j:=0) rfl rfl hg rfl ?_)⟩
  exact ⟨[5],hO,sR,Ge,rfl,[],z3w p s.ts ⟨lo,s.jk⟩ s.vs s.ns (.mk 13 0 0 ⟨#[]⟩ (riOf s.vs (lo.getLastD [])) [] [] []) oM0,SubA.same (SubA.cons (sP (z0e _)) SubA.nil),Gj,rfl,sI,rfl,rfl,rfl,rfl,rfl,rfl,Gc⟩
theorem yr7 (p:Pg) (ty:Int) (nm:ByteArray) (args:List Ex) (thn els:List St) (lo:List (List ByteArray)) (s:RiT) (e:Ex) (he:args[0]? = some e) (hX:scX p e lo s.vs s.jk ⟨s.ts,s.ns⟩ (riX p s.vs e ⟨s.ts,s.ns⟩)) (hn:(riX p s.vs e ⟨s.ts,s.ns⟩).2.ns.length<=34000000000):scS p (.mk 8 ty nm args thn els) lo s (riS p (.mk 8 ty nm args thn els) lo s):=by
 have g0:args.getD 0 ex0=e:=by rw [Ay,he];rfl
 rw [riS,if_neg dC0,if_neg dC0,if_neg dC0,if_neg dC0,if_pos rfl,g0]
 refine SC.vc tb { pb:=[103] } [] Tryz.func66 rfl rfl ?_
 generalize riX p s.vs e ⟨s.ts,s.ns⟩=c at hX hn ⊢
 obtain ⟨c1,c2⟩:=c
 dsimp only at hX hn ⊢
 exact ⟨z19 he,rfl,[],hX,sR,Gj,rfl,[],z3w p c2.ts ⟨lo,s.jk⟩ s.vs c2.ns (.mk 15 0 0 ⟨#[]⟩ [c1] [] [] []) oM0,SubA.same (SubA.cons (sP (z0e _)) SubA.nil),Gj,rfl,sI,rfl,rfl,rfl,rfl,rfl,rfl,Gc⟩
theorem y3j (p:Pg) (k ty:Int) (h4:k≠4) (h5:k≠5) (h6:k≠6) (h7:k≠7) (h8:k≠8) (nm:ByteArray) (args:List Ex) (thn els:List St) (lo:List (List ByteArray)) (s:RiT)
 (h:SC Tryz.prog 118 [.ptr 4 0,.pv (stv (.mk k ty nm args thn els))] (riW p lo s) (λk=>k∈[]) (.tup []) (riW p lo (zd2 p k nm args s))):scS p (.mk k ty nm args thn els) lo s (riS p (.mk k ty nm args thn els) lo s):=by
 rw [riS,if_neg h4,if_neg h5,if_neg h6,if_neg h7,if_neg h8]
 refine SC.vc tb { pb:=[103] } [] Tryz.func66 rfl rfl ?_
 have no:∀ {i:Int},k≠i->(k==i)=true->False:=λh e=>h (eq_of_beq e)
 exact z00 (λh=>(no h4 h).elim) λ_=>z00 (λh=>(no h5 h).elim) λ_=>z00 (λh=>(no h6 h).elim) λ_=>z00 (λh=>(no h7 h).elim) λ_=>z00 (λh=>(no h8 h).elim) λ_=>⟨[],h,sR,Gj,rfl,sI,rfl,rfl,rfl,rfl,rfl,rfl,Gc⟩
def riIx (p:Pg) (lo:List (List ByteArray)):List St->Int->RiT->Int
 | [],_,_=>-1
 | x::r,j,s=>if (riS p x lo s).1 then j else riIx p lo r (j+1) (riS p x lo s).2
theorem j0o (p:Pg) (lo:List (List ByteArray)):∀ (l:List St) (j:Int) (s:RiT),0<=j->decide (riIx p lo l j s ≥ 0)=(riB p l lo s).1
 | [],_,_,_=>by rw [riIx,riB];rfl
 | x::r,j,s,hj=>by
  rw [riIx,riB]
  split
  ·simp [hj]
  ·exact j0o p lo r (j+1) _ oM0
theorem sc_riIdx (p:Pg) (lo:List (List ByteArray)) (l:List St) (s0:RiT) (I:Nat->RiT->Prop) (h0:I 0 s0) (hS:∀ i x s,l[i]? = some x->I i s->scS p x lo s (riS p x lo s)/\((riS p x lo s).1=false->I (i+1) (riS p x lo s).2)) :
 SC Tryz.prog 112 [.pv (sts l),.fn (.func 66) [.ptr 4 0] []] (riW p lo s0) (λk=>k∈[]) (iInt (riIx p lo l 0 s0)) (riW p lo (riB p l lo s0).2):=by
 refine SC.vc tb { gh:=[(0,[.len 0])] } [] Tryz.func112 rfl rfl ?_
 intro hl
 simp only [A4] at hl
 have hl:l.length<=9223372036854775807:=hl
 refine ⟨Nat × RiT,λa=>[(8,iInt ((a.1:Nat):Int))],λa=>riW p lo a.2,λa=>l.length - a.1,λa=>a.1<=l.length/\I a.1 a.2/\riIx p lo l 0 s0=riIx p lo (l.drop a.1) a.1 a.2/\riB p l lo s0=riB p (l.drop a.1) lo a.2,[],(0,s0),⟨A8 _,h0,rfl,rfl⟩,Gd,Gj,?_⟩
 rintro ⟨i,s⟩ ⟨i1,i2,i3,i4⟩
 dsimp only at i1 i2 i3 i4
 refine z00 (λhc=>?_) λhc=>?_
 ·have hlt:i<l.length:=z0x (f:=St.enc) rfl hc
  obtain ⟨x,x1,x2,x3,x4⟩:=z0m hlt
  obtain ⟨hx,hI⟩:=hS i x s x1 i2
  rw [x3,riIx] at i3
  rw [x3,riB] at i4
  unfold scS at hx
  generalize riS p x lo s=a at hx hI i3 i4
  obtain ⟨b,q⟩:=a
  dsimp only at hx hI i3 i4
  cases b
  ·simp only [Ak,Bv] at i3 i4
   exact ⟨zi1 x1,rfl,hx,sR,Gj,λk hk=>hk,rfl,rfl,z01 rfl oM0,(i+1,q),z04 hlt,⟨hlt,hI rfl,i3,i4⟩,Gd,Gj,rfl,rfl,rfl,rfl⟩
  ·simp only [C3] at i3 i4
   rw [i3,i4]
   exact ⟨zi1 x1,rfl,hx,sR,Gj,λk hk=>hk,rfl,rfl,sI,rfl,rfl,rfl,rfl,rfl,rfl,Gc⟩
 ·have hge:l.length<=i:=z0y (f:=St.enc) rfl hc
  rw [i3,i4,A6 hge,riIx,riB]
  exact ⟨sI,rfl,rfl,rfl,rfl,rfl,rfl,Gc⟩
theorem sc_riHas (p:Pg) (lo:List (List ByteArray)) (l:List St) (s0:RiT) (I:Nat->RiT->Prop) (h0:I 0 s0) (hS:∀ i x s,l[i]? = some x->I i s->scS p x lo s (riS p x lo s)/\((riS p x lo s).1=false->I (i+1) (riS p x lo s).2)) :
 SC Tryz.prog 65 [.pv (sts l),.fn (.func 66) [.ptr 4 0] []] (riW p lo s0) (λk=>k∈[]) (iBool (riB p l lo s0).1) (riW p lo (riB p l lo s0).2):=by
 refine SC.vc tb {} [] Tryz.func65 rfl rfl ?_
 exact ⟨[],sc_riIdx p lo l s0 I h0 hS,sR,Gj,rfl,sE (A7 iBool (j0o p lo l 0 s0 dC0)),rfl,rfl,rfl,rfl,rfl,rfl,Gc⟩
theorem yr9 (p:Pg) (lo:List (List ByteArray)) (l:List St) (s0:RiT) (I:Nat->RiT->Prop) (h0:I 0 s0) (hS:∀ i x s,l[i]? = some x->I i s->scS p x lo s (riS p x lo s)/\((riS p x lo s).1=false->I (i+1) (riS p x lo s).2)):scB p l lo s0 (riB p l lo s0):=by
 refine SC.vc tb {} [] Tryz.func38 rfl rfl ?_
 exact ⟨[],sc_riHas p lo l s0 I h0 hS,sR,Gj,rfl,sI,rfl,rfl,rfl,rfl,rfl,rfl,Gc⟩
mutual
def cnS:St->Nat
 | .mk _ _ _ _ thn els=>1+cnL thn+cnL els
def cnL:List St->Nat
 | []=>0
 | x::r=>cnS x+cnL r
end
mutual
def grS:St->Nat
 | .mk _ _ _ args thn els=>2+8*xzL args+2*(cnL thn+cnL els)+grL thn+grL els
def grL:List St->Nat
 | []=>0
 | x::r=>grS x+grL r
end
def gA (p:Pg) (n:Nat) (args:List Ex):Bool:=decide (n<=args.length)&&zk6 p args
mutual
def gS (p:Pg) (b lp:Bool):St->Bool
 | .mk k _ _ args thn els =>
  if k=4 then gA p 1 args&&gB p b lp thn&&gB p b lp els
  else if k=5 then gA p 1 args&&gB p b true thn
  else if k=6∨k=7 then lp
  else if k=3 then gA p 2 args
  else gA p 1 args&&(b||(args.getD 0 ex0).kind != 3)
def gB (p:Pg) (b lp:Bool):List St->Bool
 | []=>true
 | x::r=>gS p b lp x&&gB p (b||x.kind==1) lp r
end
structure RiI (vs:List (Value × PV)) (n:Nat) (b:Bool):Prop where
 cnt:Cnt vs
 rng:∀ e∈vs,∃ v:Int,e.2=vInt v/\0<=v/\v<n
 ne:b=true->vs≠[]
theorem RiI.get {vs:List (Value × PV)} {n:Nat} {b:Bool} (h:RiI vs n b) (nm:ByteArray) (hb:b=true∨(z1f (.string nm) vs).isSome=true):0<=y25 vs nm/\y25 vs nm<n:=by
 unfold y25
 cases hf:z1f (.string nm) vs with
 | none =>
  rcases hb with hb | hb
  ·obtain ⟨e,r,he⟩:=Bs (h.ne hb)
   obtain ⟨v,_,h1,h2⟩:=h.rng e (he ▸ .head _)
   exact ⟨D3 _,by dsimp only;omega⟩
  ·rw [hf] at hb;cases hb
 | some q =>
  obtain ⟨a,ha⟩:=z78 hf
  obtain ⟨v,h1,h2,h3⟩:=h.rng _ ha
  dsimp only at h1
  subst h1
  exact ⟨h2,h3⟩
theorem RiI.mono {vs:List (Value × PV)} {n m:Nat} {b:Bool} (h:RiI vs n b) (hm:n<=m):RiI vs m b:=⟨h.cnt,λe he=>by obtain ⟨v,h1,h2,h3⟩:=h.rng e he;exact ⟨v,h1,h2,by omega⟩,h.ne⟩
theorem RiI.weak {vs:List (Value × PV)} {n:Nat} {b c:Bool} (h:RiI vs n b) (hc:c=true->b=true):RiI vs n c:=⟨h.cnt,h.rng,λe=>h.ne (hc e)⟩
theorem mput_ne {k:Value} {v:PV}:∀ {es:List (Value × PV)},mput k v es≠[]
 | [],h=>by simp [mput] at h
 | (a,q)::r,h=>by
  simp only [mput] at h
  split at h<;>cases h
theorem RiI.put {vs:List (Value × PV)} {n:Nat} {b:Bool} (h:RiI vs n b) (nm:ByteArray) {v:Int} (h0:0<=v) (h1:v<n):RiI (riSt vs nm v) n true :=
 ⟨h.cnt.putI nm v,λe he=>by
  rcases z3u he with rfl | he
  ·exact ⟨v,rfl,h0,h1⟩
  ·exact h.rng e he,λ_=>mput_ne⟩
theorem RiI.set {n:Nat} {b:Bool}:∀ (l:List ByteArray) (q:List Int) {vs:List (Value × PV)},RiI vs n b->(∀ v∈q,0<=v/\v<n)->RiI (zk7 vs l q) n b
 | [],[],_,h,_=>h
 | [],_::_,_,h,_=>h
 | _::_,[],_,h,_=>h
 | x::a,y::c,_,h,hq=>RiI.set a c ((h.put x (hq y (.head _)).1 (hq y (.head _)).2).weak λ_=>rfl) λv hv=>hq v (.tail _ hv)
theorem zp7:∀ (l ts:List Int),∀ v∈(z12 ts l).1,0<=v/\v<(z12 ts l).2.length
 | [],ts,v,h=>by cases h
 | x::r,ts,v,h=>by
  have hl:=z3a r (ts++[ts.getD x.toNat 0])
  simp only [z12,Ag] at h ⊢
  rcases h with rfl | h
  ·have:=hl.2;rw [Az] at this;simp only [Ah,Ax] at this;omega
  ·exact zp7 r _ v h
theorem zk5 (vs:List (Value × PV)) (Q:Value->Prop) (hQ:∀ nm,(z1f (.string nm) vs).isSome=true->Q (.string nm)):∀ (N:Nat) (l:List St),SizeOf.sizeOf l<N->∀ out:List (Value × PV),(∀ e∈out,Q e.1)->∀ e∈z4f vs l out,Q e.1
 | 0,_,h,_,_=>absurd h (Ae _)
 | N+1,[],_,out,h=>by rw [z4f];exact h
 | N+1,x::r,hN,out,h=>by
  have hx:=zr0 x
  simp at hN
  rw [z4f,zb6]
  refine zk5 vs Q hQ N r oM0 _ (zk5 vs Q hQ N x.els oM0 _ (zk5 vs Q hQ N x.thn oM0 _ ?_))
  split
  ·rename_i hc
   rw [A0] at hc
   intro e he
   rcases z3u he with rfl | he
   ·exact hQ _ hc.1
   ·exact h e he
  ·exact h
theorem yh9 (k:Value) (v:PV):∀ es:List (Value × PV),(mput k v es).length<=es.length+1
 | []=>by simp [mput]
 | (a,q)::r=>by
  simp only [mput]
  split
  ·simp
  ·have:=yh9 k v r;simp;omega
theorem z8o (vs:List (Value × PV)):∀ (N:Nat) (l:List St),SizeOf.sizeOf l<N->∀ out:List (Value × PV),(z4f vs l out).length<=out.length+cnL l
 | 0,_,h,_=>absurd h (Ae _)
 | N+1,[],_,out=>by rw [z4f];simp [cnL]
 | N+1,x::r,hN,out=>by
  have hx:=zr0 x
  simp at hN
  rw [z4f,zb6]
  have h1:(if (z1f (.string x.name) vs).isSome&&x.kind==2 then mput (.string x.name) (.agg []) out else out).length<=out.length+1:=by
   split
   ·exact yh9 _ _ _
   ·omega
  generalize (if (z1f (.string x.name) vs).isSome&&x.kind==2 then mput (.string x.name) (.agg []) out else out)=o1 at h1
  have h2:=z8o vs N x.thn oM0 o1
  have h3:=z8o vs N x.els oM0 (z4f vs x.thn o1)
  have h4:=z8o vs N r oM0 (z4f vs x.els (z4f vs x.thn o1))
  have h5:cnS x=1+cnL x.thn+cnL x.els:=by cases x;rw [cnS];rfl
  rw [cnL]
  omega
theorem j0r (vs:List (Value × PV)) (Q:Value->Prop) (hQ:∀ nm,(z1f (.string nm) vs).isSome=true->Q (.string nm)) (ls:List (List St)):∀ e∈z89 vs ls,Q e.1:=by
 suffices ∀ (ls:List (List St)) (o:List (Value × PV)),(∀ e∈o,Q e.1)->∀ e∈ls.foldl (λo l=>z4f vs l o) o,Q e.1 from this ls [] λe he=>by cases he
 intro ls
 induction ls with
 | nil=>exact λo h=>h
 | cons l r ih=>exact λo h=>ih _ (zk5 vs Q hQ _ l (A5 _) o h)
theorem y39 (vs:List (Value × PV)) (l:List St):(z89 vs [l]).length<=cnL l:=by
 have:=z8o vs _ l (A5 _) []
 simpa [z89] using this
theorem y3a (vs:List (Value × PV)) (l m:List St):(z89 vs [l,m]).length<=cnL l+cnL m:=by
 have h1:=z8o vs _ l (A5 _) []
 have h2:=z8o vs _ m (A5 _) (z4f vs l [])
 simp [z89] at h1 ⊢
 omega
theorem y38 {vs:List (Value × PV)} {n:Nat} {b:Bool} (h:RiI vs n b) (ls:List (List St)):∀ v∈riOf vs (z0c vs ls),0<=v/\v<n:=by
 intro v hv
 obtain ⟨nm,h1,rfl⟩:=Cc.1 hv
 refine h.get nm (.inr ?_)
 have hq:=j0r vs (λk=>∀ s,k = .string s->(z1f (.string s) vs).isSome=true) (λnm h s e=>by cases e;exact h) ls
 obtain ⟨l,h2,rfl⟩:=Cc.1 h1
 have h3:l∈((z89 vs ls).map λe=>z6r e.1).map λs=>s.data.toList:=List.mem_mergeSort.1 h2
 obtain ⟨s,h4,rfl⟩:=Cc.1 h3
 obtain ⟨e,h5,rfl⟩:=Cc.1 h4
 have h6:=y0v vs ls e h5
 have h7:=hq e h5
 cases hk:e.1<;>rw [hk] at h6<;>simp [z1r] at h6
 rename_i t
 exact h7 t hk
structure RiR (b:Bool) (s r:RiT) (n g:Nat):Prop where
 I:RiI r.vs r.ts.length b
 lo:s.ts.length<=r.ts.length
 hi:r.ts.length<=s.ts.length+g
 ns:r.ns.length<=s.ns.length+g
 jk:r.jk.length<=s.jk.length+n
theorem j0s (t k o n:Int) (nm:ByteArray) (args:List Int) (kids:List (List Nd)) (s:RiS):0<=(z6a t k o n nm args kids s).1/\(z6a t k o n nm args kids s).1<(z6a t k o n nm args kids s).2.ts.length/\s.ts.length<=(z6a t k o n nm args kids s).2.ts.length:=by
 simp [z6a];omega
theorem y0x (p:Pg) (k o n:Int) (nm:ByteArray) (l:List Int) (s:RiS):0<=(zp9 p k o n nm l s).1/\(zp9 p k o n nm l s).1<(zp9 p k o n nm l s).2.ts.length/\s.ts.length<=(zp9 p k o n nm l s).2.ts.length:=by
 unfold zp9
 repeat' split
 all_goals exact j0s _ _ _ _ _ _ _ _
theorem zh0 (o a:Int) (ns:List Nd) (r:Int × RiS):0<=(z6i o a ns r).1/\(z6i o a ns r).1<(z6i o a ns r).2.ts.length/\r.2.ts.length<=(z6i o a ns r).2.ts.length:=by
 unfold z6i
 split<;>(simp [z6a];omega)
theorem riX_ge (p:Pg) (vs:List (Value × PV)):∀ (N:Nat),(∀ e:Ex,SizeOf.sizeOf e<N->∀ s,s.ts.length<=(riX p vs e s).2.ts.length)/\(∀ l:List Ex,SizeOf.sizeOf l<N->∀ s,s.ts.length<=(riXL p vs l s).2.ts.length)/\(∀ (o:Int) (l:List Ex),SizeOf.sizeOf l<N->∀ s,s.ts.length<=(riSh p vs o l s).2.ts.length)/\(∀ (o a:Int) (s:RiS) (l:List Ex),SizeOf.sizeOf l<N->s.ts.length<=(zk8 p vs o a s l).2.ts.length)
 | 0=>⟨λ_ h=>absurd h (Ae _),λ_ h=>absurd h (Ae _),λ_ _ h=>absurd h (Ae _),λ_ _ _ _ h=>absurd h (Ae _)⟩
 | N+1=>by
  obtain ⟨h1,h2,h3,h4⟩:=riX_ge p vs N
  refine ⟨λe he s=>?_,λl hl s=>?_,λo l hl s=>?_,λo a s l hl=>?_⟩
  ·obtain ⟨k,o,n,nm,args⟩:=e
   simp at he
   rw [riX]
   split
   ·exact Ab _
   ·split
    ·exact h3 o args oM0 s
    ·exact Bm (h2 args oM0 s) (y0x p k o n nm _ _).2.2
  ·match l with
   | []=>rw [riXL];exact Ab _
   | e::r =>
    simp at hl
    rw [riXL]
    exact Bm (h1 e oM0 s) (h2 r oM0 _)
  ·match l with
   | []=>rw [riSh];exact Ab _
   | e::r =>
    simp at hl
    rw [riSh]
    exact Bm (h1 e oM0 s) (h4 o _ _ r oM0)
  ·match l with
   | []=>rw [zk8];exact Ab _
   | e::r =>
    simp at hl
    rw [zk8]
    exact Bm (h1 e oM0 ⟨s.ts,[]⟩) (zh0 o a s.ns _).2.2
theorem riX_rng (p:Pg) {vs:List (Value × PV)} {b:Bool} (e:Ex) (s:RiS) (h:RiI vs s.ts.length b) (hb:b=true∨e.kind≠3) (hok:riOk p e=true):0<=(riX p vs e s).1/\(riX p vs e s).1<(riX p vs e s).2.ts.length:=by
 obtain ⟨k,o,n,nm,args⟩:=e
 rw [riX]
 by_cases h3:k=3
 ·rw [if_pos h3]
  rcases hb with hb | hb
  ·exact h.get nm (.inl hb)
  ·exact absurd h3 hb
 ·rw [if_neg h3]
  by_cases hs:k=5/\(o=18∨o=19)
  ·rw [if_pos hs]
   rw [riOk,A0] at hok
   have h2:args.length=2:=by have:=hok.1;unfold j0m at this;rw [if_pos hs.1] at this;exact eq_of_beq this
   match args,h2 with
   | [e1,e2],_ =>
    rw [riSh,zk8]
    exact ⟨(zh0 _ _ _ _).1,(zh0 _ _ _ _).2.1⟩
  ·rw [if_neg hs]
   exact ⟨(y0x _ _ _ _ _ _ _).1,(y0x _ _ _ _ _ _ _).2.1⟩
theorem zp6 {b:Bool} {vs:List (Value × PV)} {z03:List ByteArray} {n0:Nat} (h:RiI vs n0 b) (ts:List Int) (ns:List Nd) (jk:List (List ByteArray)) (k:Int) (args params:List Int) (kids:List (List Nd)) (hts:n0<=ts.length) :
 RiI (z69 vs z03 ts ns jk k args params kids).2.vs (z69 vs z03 ts ns jk k args params kids).2.ts.length b/\ts.length<=(z69 vs z03 ts ns jk k args params kids).2.ts.length/\(z69 vs z03 ts ns jk k args params kids).2.ts.length<=ts.length+z03.length/\(z69 vs z03 ts ns jk k args params kids).2.ns.length=ns.length+1/\(z69 vs z03 ts ns jk k args params kids).2.jk=jk:=by
 unfold z69
 split
 ·exact ⟨h.mono hts,Ab _,Bf _ _,by simp,rfl⟩
 ·have hl:=z3a (riOf vs z03) ts
  have hn:(riOf vs z03).length=z03.length:=by simp [riOf]
  refine ⟨RiI.set _ _ (h.mono (by dsimp only;omega)) λv hv=>zp7 _ _ v hv,by dsimp only;omega,by dsimp only;omega,by simp,rfl⟩
theorem z9h {p:Pg} {args:List Ex} (h:gA p 1 args=true):∃ e,args[0]? = some e/\args.getD 0 ex0=e/\riOk p e=true/\xz e<=xzL args:=by
 unfold gA at h
 rw [A0] at h
 have h1:=Ao h.1
 match args,h1 with
 | e::r,_=>exact ⟨e,rfl,rfl,zb7 h.2 (.head _),zf3 (.head _)⟩
theorem yx6 {p:Pg} {args:List Ex} (h:gA p 2 args=true):∃ e e2,args[0]? = some e/\args[1]? = some e2/\args.getD 0 ex0=e/\args.getD 1 ex0=e2/\riOk p e=true/\riOk p e2=true/\xz e+xz e2<=xzL args:=by
 unfold gA at h
 rw [A0] at h
 have h1:=Ao h.1
 match args,h1 with
 | e::e2::r,_=>exact ⟨e,e2,rfl,rfl,rfl,rfl,zb7 h.2 (.head _),zb7 h.2 (.tail _ (.head _)),by simp only [xzL];omega⟩
theorem z7v (vs:List (Value × PV)) (l:List St):(z0c vs [l]).length<=cnL l:=(z92 vs [l]).symm ▸ y39 vs l
theorem zt7 (vs:List (Value × PV)) (l m:List St):(z0c vs [l,m]).length<=cnL l+cnL m:=(z92 vs [l,m]).symm ▸ y3a vs l m
theorem z5l (p:Pg) (vs:List (Value × PV)) (e:Ex) (s:RiS):s.ts.length<=(riX p vs e s).2.ts.length/\(riX p vs e s).2.ts.length<=s.ts.length+4*xz e/\(riX p vs e s).2.ns.length<=s.ns.length+4*xz e :=
 ⟨(riX_ge p vs _).1 e (A5 _) s,(zt8 p vs _).1 e (A5 _) s⟩
theorem y0s {s:RiT} {b:Bool} (h:RiI s.vs s.ts.length b) (z03:List ByteArray):RiI (z1z s z03).vs (z1z s z03).ts.length b/\(z1z s z03).ts.length=s.ts.length+z03.length:=by
 have hl:=z3a (riOf s.vs z03) s.ts
 have hn:(riOf s.vs z03).length=z03.length:=by simp [riOf]
 unfold z1z
 refine ⟨RiI.set _ _ (h.mono (by dsimp only;omega)) λv hv=>zp7 _ _ v hv,by dsimp only;omega⟩
theorem j0t (p:Pg):∀ N,(∀ x:St,SizeOf.sizeOf x<N->∀ b lp lo s,gS p b lp x=true->RiI s.vs s.ts.length b->RiR (b||x.kind==1) s (riS p x lo s).2 (cnS x) (grS x))/\(∀ l:List St,SizeOf.sizeOf l<N->∀ b lp lo s,gB p b lp l=true->RiI s.vs s.ts.length b->RiR b s (riB p l lo s).2 (cnL l) (grL l))
 | 0=>⟨λ_ h=>absurd h (Ae _),λ_ h=>absurd h (Ae _)⟩
 | N+1=>by
  obtain ⟨hS,hB⟩:=j0t p N
  refine ⟨λx hx b lp lo s hg hI=>?_,λl hl b lp lo s hg hI=>?_⟩
  ·obtain ⟨k,ty,nm,args,thn,els⟩:=x
   simp at hx
   rw [gS] at hg
   rw [riS]
   simp only [cnS,grS,St.kind]
   by_cases h4:k=4
   ·subst h4
    rw [if_pos rfl,A0,A0] at hg
    rw [if_pos rfl,show (b||(4:Int)==1)=b by simp]
    obtain ⟨e,i1,i2,i3,i4⟩:=z9h hg.1.1
    rw [i2]
    obtain ⟨j1,j2,j3⟩:=z5l p s.vs e ⟨s.ts,s.ns⟩
    generalize riX p s.vs e ⟨s.ts,s.ns⟩=c at j1 j2 j3 ⊢
    dsimp only at j1 j2 j3
    have hA:=hB thn oM0 b lp lo ⟨s.vs,c.2.ts,[],s.jk⟩ hg.1.2 (hI.mono j1)
    generalize riB p thn lo ⟨s.vs,c.2.ts,[],s.jk⟩=a at hA ⊢
    have hE:=hB els oM0 b lp lo ⟨s.vs,a.2.ts,[],a.2.jk⟩ hg.2 (hI.mono (Bm j1 hA.lo))
    generalize riB p els lo ⟨s.vs,a.2.ts,[],a.2.jk⟩=d at hE ⊢
    have hn:=zt7 s.vs thn els
    generalize z0c s.vs [thn,els]=z03 at hn ⊢
    obtain ⟨a1,a2,a3,a4,a5⟩:=hA
    obtain ⟨d1,d2,d3,d4,d5⟩:=hE
    dsimp only at a2 a3 a4 a5 d2 d3 d4 d5
    unfold zd1
    obtain ⟨r1,r2,r3,r4,r5⟩:=zp6 (z03:=z03) hI d.2.ts c.2.ns d.2.jk 10 [c.1] [] [z5k 12 z03 a,z5k 12 z03 d] oM0
    exact ⟨r1,by omega,by omega,by omega,by rw [r5];omega⟩
   by_cases h5:k=5
   ·subst h5
    rw [if_neg dC0,if_pos rfl,A0] at hg
    rw [if_neg dC0,if_pos rfl,show (b||(5:Int)==1)=b by simp]
    obtain ⟨e,i1,i2,i3,i4⟩:=z9h hg.1
    rw [i2]
    have hn:=z7v s.vs thn
    generalize z0c s.vs [thn]=z03 at hn ⊢
    obtain ⟨k1,k2⟩:=y0s hI z03
    have ht:s.jk.tail.length<=s.jk.length:=by simp
    split
    ·have hA:=hB thn oM0 b true (lo++[z03]) (z1z s z03) hg.2 k1
     generalize riB p thn (lo++[z03]) (z1z s z03)=a at hA ⊢
     obtain ⟨a1,a2,a3,a4,a5⟩:=hA
     have a5:a.2.jk.length<=s.jk.tail.length+cnL thn:=a5
     unfold y51
     obtain ⟨r1,r2,r3,r4,r5⟩:=zp6 (z03:=z03) hI a.2.ts s.ns (z03::a.2.jk) 11 (riOf s.vs z03) (z12 s.ts (riOf s.vs z03)).1 [z5k 13 z03 a] oM0
     exact ⟨r1,by omega,by omega,by omega,by rw [r5,Ah];omega⟩
    ·obtain ⟨j1,j2,j3⟩:=z5l p (z1z s z03).vs e ⟨(z1z s z03).ts,[]⟩
     generalize riX p (z1z s z03).vs e ⟨(z1z s z03).ts,[]⟩=c at j1 j2 j3 ⊢
     dsimp only at j1 j2 j3
     have hA:=hB thn oM0 b true (lo++[z03]) ⟨(z1z s z03).vs,c.2.ts,[],s.jk.tail⟩ hg.2 (k1.mono j1)
     generalize riB p thn (lo++[z03]) ⟨(z1z s z03).vs,c.2.ts,[],s.jk.tail⟩=a at hA ⊢
     obtain ⟨a1,a2,a3,a4,a5⟩:=hA
     dsimp only at a2 a3 a4 a5
     unfold y52
     obtain ⟨r1,r2,r3,r4,r5⟩:=zp6 (z03:=z03) hI a.2.ts s.ns (z03::a.2.jk) 11 (riOf s.vs z03) (z12 s.ts (riOf s.vs z03)).1 [z93 z03 (z1z s z03).vs c a] oM0
     exact ⟨r1,by omega,by omega,by omega,by rw [r5,Ah];omega⟩
   rw [if_neg h4,if_neg h5] at hg
   rw [if_neg h4,if_neg h5]
   by_cases h6:k=6
   ·subst h6
    rw [if_pos rfl,show (b||(6:Int)==1)=b by simp]
    exact ⟨hI,Ab _,Bf _ _,by simp [z6h];omega,Bf _ _⟩
   by_cases h7:k=7
   ·subst h7
    rw [if_neg dC0,if_pos rfl,show (b||(7:Int)==1)=b by simp]
    exact ⟨hI,Ab _,Bf _ _,by simp [z6h];omega,Bf _ _⟩
   rw [if_neg oM0] at hg
   rw [if_neg h6,if_neg h7]
   by_cases h8:k=8
   ·subst h8
    rw [if_neg dC0,A0] at hg
    rw [if_pos rfl,show (b||(8:Int)==1)=b by simp]
    obtain ⟨e,i1,i2,i3,i4⟩:=z9h hg.1
    rw [i2]
    obtain ⟨j1,j2,j3⟩:=z5l p s.vs e ⟨s.ts,s.ns⟩
    dsimp only at j1 j2 j3
    exact ⟨hI.mono j1,j1,by dsimp only;omega,by simp [z6h];omega,Bf _ _⟩
   rw [if_neg h8]
   unfold zd2
   by_cases h3:k=3
   ·subst h3
    rw [if_pos rfl] at hg
    obtain ⟨e,e2,i1,i2,i3,i4,i5,i6,i7⟩:=yx6 hg
    rw [if_neg dC0,if_pos rfl,i3,i4,show (b||(3:Int)==1)=b by simp]
    obtain ⟨j1,j2,j3⟩:=z5l p s.vs e ⟨s.ts,s.ns⟩
    obtain ⟨m1,m2,m3⟩:=z5l p s.vs e2 (riX p s.vs e ⟨s.ts,s.ns⟩).2
    dsimp only at j1 j2 j3
    exact ⟨hI.mono (Bm j1 m1),Bm j1 m1,by dsimp only;omega,by simp [z6h];omega,Bf _ _⟩
   rw [if_neg h3,A0] at hg
   obtain ⟨e,i1,i2,i3,i4⟩:=z9h hg.1
   have hg2:=hg.2
   rw [i2] at hg2 ⊢
   obtain ⟨j1,j2,j3⟩:=z5l p s.vs e ⟨s.ts,s.ns⟩
   dsimp only at j1 j2 j3
   by_cases h12:k=1∨k=2
   ·rw [if_pos h12]
    have hr:=riX_rng p e ⟨s.ts,s.ns⟩ hI (by
     rw [Bk] at hg2
     rcases hg2 with h | h
     ·exact .inl h
     ·exact .inr (by simpa using h)) i3
    exact ⟨((hI.mono j1).put nm hr.1 hr.2).weak λ_=>rfl,j1,by dsimp only;omega,by dsimp only;omega,Bf _ _⟩
   ·rw [if_neg h12,if_neg h3,show (b||k==1)=b by rw [show (k==1)=false from Aa.2 λe=>h12 (.inl e)];simp]
    split
    ·exact ⟨hI.mono j1,j1,by dsimp only;omega,by simp [z6h];omega,Bf _ _⟩
    ·exact ⟨hI.mono j1,j1,by dsimp only;omega,by dsimp only;omega,Bf _ _⟩
  ·match l with
   | []=>rw [riB];exact ⟨hI,Ab _,Bf _ _,Bf _ _,Bf _ _⟩
   | x::r =>
    simp at hl
    rw [gB,A0] at hg
    have h1:=hS x oM0 b lp lo s hg.1 hI
    rw [riB]
    simp only [cnL,grL]
    obtain ⟨a1,a2,a3,a4,a5⟩:=h1
    split
    ·exact ⟨a1.weak λh=>by rw [h];rfl,a2,by dsimp only;omega,by dsimp only;omega,by dsimp only;omega⟩
    ·obtain ⟨d1,d2,d3,d4,d5⟩:=hB r oM0 _ lp lo (riS p x lo s).2 hg.2 a1
     exact ⟨d1.weak λh=>by rw [h];rfl,by omega,by omega,by omega,by omega⟩
mutual
def ntS (n:Nat):St->Prop
 | .mk _ _ nm _ thn els=>nm.size<=n/\ntL n thn/\ntL n els
def ntL (n:Nat):List St->Prop
 | []=>True
 | x::r=>ntS n x/\ntL n r
end
theorem ntS_eq {n:Nat} {x:St}:ntS n x↔x.name.size<=n/\ntL n x.thn/\ntL n x.els:=by cases x;rw [ntS];exact Iff.rfl
theorem zw9 (vs:List (Value × PV)) (n:Nat):∀ (N:Nat) (l:List St),SizeOf.sizeOf l<N->ntL n l->∀ out:List (Value × PV),(∀ e∈out,(z6r e.1).size<=n)->∀ e∈z4f vs l out,(z6r e.1).size<=n
 | 0,_,h,_,_,_=>absurd h (Ae _)
 | N+1,[],_,_,out,h=>by rw [z4f];exact h
 | N+1,x::r,hN,hm,out,h=>by
  have hx:=zr0 x
  simp at hN
  rw [ntL,ntS_eq] at hm
  rw [z4f,zb6]
  refine zw9 vs n N r oM0 hm.2 _ (zw9 vs n N x.els oM0 hm.1.2.2 _ (zw9 vs n N x.thn oM0 hm.1.2.1 _ ?_))
  split
  ·intro e he
   rcases z3u he with rfl | he
   ·exact hm.1.1
   ·exact h e he
  ·exact h
theorem yj0 (vs:List (Value × PV)) (n:Nat) (ls:List (List St)) (hm:∀ l∈ls,ntL n l):∀ e∈z89 vs ls,(z6r e.1).size<=n:=by
 suffices ∀ (ls:List (List St)) (_:∀ l∈ls,ntL n l) (o:List (Value × PV)),(∀ e∈o,(z6r e.1).size<=n)->∀ e∈ls.foldl (λo l=>z4f vs l o) o,(z6r e.1).size<=n from this ls hm [] λe he=>by cases he
 intro ls
 induction ls with
 | nil=>exact λ_ o h=>h
 | cons l r ih=>exact λhm o h=>ih (λq hq=>hm q (.tail _ hq)) _ (zw9 vs n _ l (A5 _) (hm l (.head _)) o h)
theorem cn_le:∀ N,(∀ x:St,SizeOf.sizeOf x<N->cnS x<=sz x)/\(∀ l:List St,SizeOf.sizeOf l<N->cnL l<=szL l)
 | 0=>⟨λ_ h=>absurd h (Ae _),λ_ h=>absurd h (Ae _)⟩
 | N+1=>by
  obtain ⟨h1,h2⟩:=cn_le N
  refine ⟨λx hx=>?_,λl hl=>?_⟩
  ·obtain ⟨k,ty,nm,args,thn,els⟩:=x
   simp at hx
   have:=h2 thn oM0
   have:=h2 els oM0
   rw [cnS,sz];omega
  ·match l with
   | []=>rw [cnL];omega
   | x::r =>
    simp at hl
    have:=h1 x oM0
    have:=h2 r oM0
    rw [cnL,szL];omega
theorem yw1 (l:List St):cnL l<=szL l:=(cn_le _).2 l (A5 _)
structure RiB (lp:Bool) (lo:List (List ByteArray)) (s:RiT) (n g:Nat):Prop where
 ts:s.ts.length+g<=32000000000
 ns:s.ns.length+g<=32000000000
 jk:lo.length+s.jk.length+n<=1000000000
 lens:∀ l∈lo,l.length<=1000000000
 inl:lp=true->lo≠[]
theorem nmOk1 {vs:List (Value × PV)} {n:Nat} {b:Bool} (h:RiI vs n b) {l:List St} (hs:szL l<=100000000) (hm:ntL maxLen l):NmOk vs [l] n :=
 ⟨λq hq=>by rw [Ai.1 hq];omega,yj0 vs maxLen [l] λq hq=>by rw [Ai.1 hq];exact hm,by have:=y39 vs l;have:=yw1 l;omega,y38 h [l]⟩
theorem nmOk2 {vs:List (Value × PV)} {n:Nat} {b:Bool} (h:RiI vs n b) {l m:List St} (hs:szL l<=100000000) (hs2:szL m<=100000000) (hm:ntL maxLen l) (hm2:ntL maxLen m):NmOk vs [l,m] n :=
 ⟨λq hq=>by
  simp only [Ag,Bx,Fm] at hq
  rcases hq with rfl | rfl<;>omega,yj0 vs maxLen [l,m] λq hq=>by
  simp only [Ag,Bx,Fm] at hq
  rcases hq with rfl | rfl<;>assumption,by have:=y3a vs l m;have:=yw1 l;have:=yw1 m;omega,y38 h [l,m]⟩
theorem zz3 {lo:List (List ByteArray)} {n:Nat} (h:∀ l∈lo,l.length<=n):(lo.getLastD []).length<=n:=by
 rw [List.getLastD_eq_getLast?]
 cases hl:lo.getLast? with
 | none=>simp
 | some q=>exact h q (List.mem_of_getLast? hl)
def ihB (p:Pg) (l:List St):Prop:=∀ b lp lo s,gB p b lp l=true->ntL maxLen l->szL l<=100000000->RiI s.vs s.ts.length b->RiB lp lo s (cnL l) (grL l)->scB p l lo s (riB p l lo s)
theorem resB (p:Pg) (l:List St) (b lp:Bool) (lo:List (List ByteArray)) (s:RiT) (hg:gB p b lp l=true) (hI:RiI s.vs s.ts.length b):RiR b s (riB p l lo s).2 (cnL l) (grL l):=(j0t p _).2 l (A5 _) b lp lo s hg hI
theorem sc_ri4 (p:Pg) (hp:szP p) (ty:Int) (nm:ByteArray) (args:List Ex) (thn els:List St) (hT:ihB p thn) (hE:ihB p els) (b lp:Bool) (lo:List (List ByteArray)) (s:RiT) (hg:gS p b lp (.mk 4 ty nm args thn els)=true) (hm:ntS maxLen (.mk 4 ty nm args thn els)) (hz:sz (.mk 4 ty nm args thn els)<=100000000) (hI:RiI s.vs s.ts.length b) (hb:RiB lp lo s (cnS (.mk 4 ty nm args thn els)) (grS (.mk 4 ty nm args thn els))):scS p (.mk 4 ty nm args thn els) lo s (riS p (.mk 4 ty nm args thn els) lo s):=by
 rw [gS,if_pos rfl,A0,A0] at hg
 rw [ntS] at hm
 rw [sz] at hz
 obtain ⟨b1,b2,b3,b4,b5⟩:=hb
 rw [grS] at b1 b2
 rw [cnS] at b3
 rw [riS,if_pos rfl]
 obtain ⟨e,i1,i2,i3,i4⟩:=z9h hg.1.1
 rw [i2]
 obtain ⟨j1,j2,j3⟩:=z5l p s.vs e ⟨s.ts,s.ns⟩
 have hX:=yk6 p hp ⟨lo,s.jk⟩ s.vs hI.cnt _ e (A5 _) oM0 i3 ⟨s.ts,s.ns⟩ (by dsimp only;omega) (by dsimp only;omega)
 generalize riX p s.vs e ⟨s.ts,s.ns⟩=c at hX j1 j2 j3 ⊢
 dsimp only at j1 j2 j3
 have q1:=hI.mono j1
 have hA:=hT b lp lo ⟨s.vs,c.2.ts,[],s.jk⟩ hg.1.2 hm.2.1 oM0 q1 ⟨by dsimp only;omega,by simp;omega,by dsimp only;omega,b4,b5⟩
 have rA:=resB p thn b lp lo ⟨s.vs,c.2.ts,[],s.jk⟩ hg.1.2 q1
 generalize riB p thn lo ⟨s.vs,c.2.ts,[],s.jk⟩=a at hA rA ⊢
 obtain ⟨a1,a2,a3,a4,a5⟩:=rA
 simp only [Ax,Bu] at a2 a3 a4 a5
 have q2:=hI.mono (Bm j1 a2)
 have hD:=hE b lp lo ⟨s.vs,a.2.ts,[],a.2.jk⟩ hg.2 hm.2.2 oM0 q2 ⟨by dsimp only;omega,by simp;omega,by dsimp only;omega,b4,b5⟩
 have rE:=resB p els b lp lo ⟨s.vs,a.2.ts,[],a.2.jk⟩ hg.2 q2
 generalize riB p els lo ⟨s.vs,a.2.ts,[],a.2.jk⟩=d at hD rE ⊢
 obtain ⟨d1,d2,d3,d4,d5⟩:=rE
 simp only [Ax,Bu] at d2 d3 d4 d5
 have hN:=nmOk2 (hI.mono (show s.ts.length<=d.2.ts.length by omega)) (l:=thn) (m:=els) oM0 oM0 hm.2.1 hm.2.2
 have z1:a.2.ns.length<=34000000000:=by omega
 have z2:d.2.ns.length<=34000000000:=by omega
 have z3:c.2.ns.length<=34000000000:=by omega
 have z4:d.2.ts.length<=33000000000:=by omega
 exact yr6 p ty nm args thn els lo s _ (yb8 p (.mk 4 ty nm args thn els) lo s hI.cnt e i1 c hX a d hA hD a1.cnt d1.cnt z1 z2 hN z3 z4)
theorem yg9 (lo:List (List ByteArray)) (z03:List ByteArray):(lo++[z03]).length=lo.length+1:=by simp
theorem yh1 {lo:List (List ByteArray)} {z03:List ByteArray} (h:∀ l∈lo,l.length<=1000000000) (hn:z03.length<=1000000000):∀ l∈lo++[z03],l.length<=1000000000:=λl hl=>by
 rcases Au.1 hl with g | g
 ·exact h l g
 ·rw [Ai.1 g];exact hn
theorem sc_ri5t (p:Pg) (ty:Int) (nm:ByteArray) (args:List Ex) (thn els:List St) (hT:ihB p thn) (b lp:Bool) (lo:List (List ByteArray)) (s:RiT) (hg:gS p b lp (.mk 5 ty nm args thn els)=true) (hm:ntS maxLen (.mk 5 ty nm args thn els)) (hz:sz (.mk 5 ty nm args thn els)<=100000000) (hI:RiI s.vs s.ts.length b) (hb:RiB lp lo s (cnS (.mk 5 ty nm args thn els)) (grS (.mk 5 ty nm args thn els))) (ht:zb8 (args.getD 0 ex0)=true):scS p (.mk 5 ty nm args thn els) lo s (riS p (.mk 5 ty nm args thn els) lo s):=by
 rw [gS,if_neg dC0,if_pos rfl,A0] at hg
 rw [ntS] at hm
 rw [sz] at hz
 obtain ⟨b1,b2,b3,b4,b5⟩:=hb
 rw [grS] at b1 b2
 rw [cnS] at b3
 rw [riS,if_neg dC0,if_pos rfl,if_pos ht]
 obtain ⟨e,i1,i2,i3,i4⟩:=z9h hg.1
 rw [i2] at ht
 have hn:=z7v s.vs thn
 have hO:=nmOk1 hI (l:=thn) oM0 hm.2.1
 have htl:s.jk.tail.length<=s.jk.length:=by simp
 refine y3k p ty nm args thn els lo s _ ?_
 obtain ⟨k1,k2⟩:=y0s hI (z0c s.vs [thn])
 have kn:(z1z s (z0c s.vs [thn])).ns.length=0:=rfl
 have kj:(z1z s (z0c s.vs [thn])).jk.length=s.jk.tail.length:=rfl
 have hA:=hT b true (lo++[z0c s.vs [thn]]) (z1z s (z0c s.vs [thn])) hg.2 hm.2.1 oM0 k1 ⟨by omega,by omega,by rw [yg9];omega,yh1 b4 oM0,λ_=>by simp⟩
 have rA:=resB p thn b true (lo++[z0c s.vs [thn]]) (z1z s (z0c s.vs [thn])) hg.2 k1
 generalize riB p thn (lo++[z0c s.vs [thn]]) (z1z s (z0c s.vs [thn]))=a at hA rA ⊢
 obtain ⟨a1,a2,a3,a4,a5⟩:=rA
 have z1:(z0c s.vs [thn]).length<=34359738368:=by omega
 have z2:a.2.ns.length<=34000000000:=by omega
 have hRd:=yc0 p (.mk 5 ty nm args thn els) (z0c s.vs [thn]) (lo++[z0c s.vs [thn]]) (z1z s (z0c s.vs [thn])) e i1 ht a hA a1.cnt z1 z2
 have y1:s.ts.length<=33000000000:=by omega
 have y2:s.ns.length<=34000000000:=by omega
 have y3:s.ts.length<=a.2.ts.length:=by omega
 have y4:a.2.ts.length<=33000000000:=by omega
 have y5:lo.length<=1000000000:=by omega
 have y6:s.jk.length<=1000000000:=by omega
 unfold y51
 exact y7s p (.mk 5 ty nm args thn els) lo s hI.cnt ⟨a.2.vs,a.2.ts,z5k 13 (z0c s.vs [thn]) a,a.2.jk⟩ hRd hO y1 y2 y3 y4 y5 y6
theorem sc_ri5f (p:Pg) (hp:szP p) (ty:Int) (nm:ByteArray) (args:List Ex) (thn els:List St) (hT:ihB p thn) (b lp:Bool) (lo:List (List ByteArray)) (s:RiT) (hg:gS p b lp (.mk 5 ty nm args thn els)=true) (hm:ntS maxLen (.mk 5 ty nm args thn els)) (hz:sz (.mk 5 ty nm args thn els)<=100000000) (hI:RiI s.vs s.ts.length b) (hb:RiB lp lo s (cnS (.mk 5 ty nm args thn els)) (grS (.mk 5 ty nm args thn els))) (ht:zb8 (args.getD 0 ex0)=false):scS p (.mk 5 ty nm args thn els) lo s (riS p (.mk 5 ty nm args thn els) lo s):=by
 rw [gS,if_neg dC0,if_pos rfl,A0] at hg
 rw [ntS] at hm
 rw [sz] at hz
 obtain ⟨b1,b2,b3,b4,b5⟩:=hb
 rw [grS] at b1 b2
 rw [cnS] at b3
 rw [riS,if_neg dC0,if_pos rfl,if_neg (by rw [ht];decide)]
 obtain ⟨e,i1,i2,i3,i4⟩:=z9h hg.1
 rw [i2] at ht ⊢
 have hn:=z7v s.vs thn
 have hO:=nmOk1 hI (l:=thn) oM0 hm.2.1
 have htl:s.jk.tail.length<=s.jk.length:=by simp
 refine y3k p ty nm args thn els lo s _ ?_
 obtain ⟨k1,k2⟩:=y0s hI (z0c s.vs [thn])
 obtain ⟨j1,j2,j3⟩:=z5l p (z1z s (z0c s.vs [thn])).vs e ⟨(z1z s (z0c s.vs [thn])).ts,[]⟩
 have hX:=yk6 p hp ⟨lo++[z0c s.vs [thn]],s.jk.tail⟩ (z1z s (z0c s.vs [thn])).vs k1.cnt _ e (A5 _) oM0 i3 ⟨(z1z s (z0c s.vs [thn])).ts,[]⟩ (by dsimp only;omega) (by simp;omega)
 generalize riX p (z1z s (z0c s.vs [thn])).vs e ⟨(z1z s (z0c s.vs [thn])).ts,[]⟩=c at hX j1 j2 j3 ⊢
 simp only [Ax,Bu] at j1 j2 j3
 have q1:=k1.mono j1
 have hA:=hT b true (lo++[z0c s.vs [thn]]) ⟨(z1z s (z0c s.vs [thn])).vs,c.2.ts,[],s.jk.tail⟩ hg.2 hm.2.1 oM0 q1 ⟨by dsimp only;omega,by simp only [Ax];omega,by rw [yg9];dsimp only;omega,yh1 b4 oM0,λ_=>by simp⟩
 have rA:=resB p thn b true (lo++[z0c s.vs [thn]]) ⟨(z1z s (z0c s.vs [thn])).vs,c.2.ts,[],s.jk.tail⟩ hg.2 q1
 generalize riB p thn (lo++[z0c s.vs [thn]]) ⟨(z1z s (z0c s.vs [thn])).vs,c.2.ts,[],s.jk.tail⟩=a at hA rA ⊢
 obtain ⟨a1,a2,a3,a4,a5⟩:=rA
 simp only [Ax,Bu] at a2 a3 a4 a5
 have z1:(z0c s.vs [thn]).length<=34359738368:=by omega
 have z2:a.2.ns.length<=34000000000:=by omega
 have z3:c.2.ns.length<=34000000000:=by omega
 have hRd:=yc1 p (.mk 5 ty nm args thn els) (z0c s.vs [thn]) (lo++[z0c s.vs [thn]]) (z1z s (z0c s.vs [thn])) k1.cnt e i1 ht c hX a hA a1.cnt z1 z2 z3
 have y1:s.ts.length<=33000000000:=by omega
 have y2:s.ns.length<=34000000000:=by omega
 have y3:s.ts.length<=a.2.ts.length:=by omega
 have y4:a.2.ts.length<=33000000000:=by omega
 have y5:lo.length<=1000000000:=by omega
 have y6:s.jk.length<=1000000000:=by omega
 unfold y52
 exact y7s p (.mk 5 ty nm args thn els) lo s hI.cnt ⟨(z1z s (z0c s.vs [thn])).vs,a.2.ts,z93 (z0c s.vs [thn]) (z1z s (z0c s.vs [thn])).vs c a,a.2.jk⟩ hRd hO y1 y2 y3 y4 y5 y6
theorem yk4 (p:Pg) (hp:szP p):∀ N,(∀ x:St,SizeOf.sizeOf x<N->∀ b lp lo s,gS p b lp x=true->ntS maxLen x->sz x<=100000000->RiI s.vs s.ts.length b->RiB lp lo s (cnS x) (grS x)->scS p x lo s (riS p x lo s)) /\
 (∀ l:List St,SizeOf.sizeOf l<N->∀ b lp lo s,gB p b lp l=true->ntL maxLen l->szL l<=100000000->RiI s.vs s.ts.length b->RiB lp lo s (cnL l) (grL l)->scB p l lo s (riB p l lo s))
 | 0=>⟨λ_ h=>absurd h (Ae _),λ_ h=>absurd h (Ae _)⟩
 | N+1=>by
  obtain ⟨hS,hB⟩:=yk4 p hp N
  have hR:=j0t p
  refine ⟨λx hx b lp lo s hg hm hz hI hb=>?_,λl hl b lp lo s hg hm hz hI hb=>?_⟩
  ·obtain ⟨k,ty,nm,args,thn,els⟩:=x
   simp at hx
   have hg0:=hg
   have hm0:=hm
   have hz0:=hz
   have hb0:=hb
   rw [gS] at hg
   rw [ntS] at hm
   rw [sz] at hz
   obtain ⟨b1,b2,b3,b4,b5⟩:=hb
   rw [grS] at b1 b2
   rw [cnS] at b3
   have hXX:∀ (e:Ex) (vs:List (Value × PV)) (t:RiS) (jk:List (List ByteArray)),Cnt vs->riOk p e=true->xz e<=xzL args->t.ts.length+4*xz e<=34000000000->t.ns.length+4*xz e<=34000000000->scX p e lo vs jk t (riX p vs e t):=λe vs t jk hv ho hx h1 h2=>yk6 p hp ⟨lo,jk⟩ vs hv _ e (A5 _) oM0 ho t h1 h2
   have hTh:ihB p thn:=λb lp lo s=>hB thn oM0 b lp lo s
   have hEl:ihB p els:=λb lp lo s=>hB els oM0 b lp lo s
   by_cases h4:k=4
   ·subst h4
    exact sc_ri4 p hp ty nm args thn els hTh hEl b lp lo s hg0 hm0 hz0 hI hb0
   by_cases h5:k=5
   ·subst h5
    by_cases ht:zb8 (args.getD 0 ex0)=true
    ·exact sc_ri5t p ty nm args thn els hTh b lp lo s hg0 hm0 hz0 hI hb0 ht
    ·exact sc_ri5f p hp ty nm args thn els hTh b lp lo s hg0 hm0 hz0 hI hb0 (by simpa using ht)
   rw [if_neg h4,if_neg h5] at hg
   by_cases h67:k=6∨k=7
   ·rw [if_pos h67] at hg
    exact yb9 p k ty h67 nm args thn els lo (b5 hg) s hI.cnt oM0 (zz3 b4) oM0
   rw [if_neg h67] at hg
   have h6:k≠6:=λe=>h67 (.inl e)
   have h7:k≠7:=λe=>h67 (.inr e)
   by_cases h3:k=3
   ·subst h3
    rw [if_pos rfl] at hg
    obtain ⟨e,e2,i1,i2,i3,i4,i5,i6,i7⟩:=yx6 hg
    obtain ⟨j1,j2,j3⟩:=z5l p s.vs e ⟨s.ts,s.ns⟩
    obtain ⟨m1,m2,m3⟩:=z5l p s.vs e2 (riX p s.vs e ⟨s.ts,s.ns⟩).2
    dsimp only at j1 j2 j3
    have hX:=hXX e s.vs ⟨s.ts,s.ns⟩ s.jk hI.cnt i5 oM0 (by dsimp only;omega) (by dsimp only;omega)
    have hX2:=hXX e2 s.vs (riX p s.vs e ⟨s.ts,s.ns⟩).2 s.jk hI.cnt i6 oM0 oM0 oM0
    exact y3j p 3 ty dC0 dC0 dC0 dC0 dC0 nm args thn els lo s (y1b p 3 ty nm args thn els lo s hI.cnt e i1 hX oM0 λ_=>⟨e2,i2,hX2,by omega⟩)
   rw [if_neg h3,A0] at hg
   obtain ⟨e,i1,i2,i3,i4⟩:=z9h hg.1
   obtain ⟨j1,j2,j3⟩:=z5l p s.vs e ⟨s.ts,s.ns⟩
   dsimp only at j1 j2 j3
   have hX:=hXX e s.vs ⟨s.ts,s.ns⟩ s.jk hI.cnt i3 i4 (by dsimp only;omega) (by dsimp only;omega)
   by_cases h8:k=8
   ·subst h8
    exact yr7 p ty nm args thn els lo s e i1 hX oM0
   ·exact y3j p k ty h4 h5 h6 h7 h8 nm args thn els lo s (y1b p k ty nm args thn els lo s hI.cnt e i1 hX oM0 λe=>absurd e h3)
  ·refine yr9 p lo l s (λi t=>∃ c,RiI t.vs t.ts.length c/\gB p c lp (l.drop i)=true/\ntL maxLen (l.drop i)/\t.ts.length+grL (l.drop i)<=s.ts.length+grL l/\t.ns.length+grL (l.drop i)<=s.ns.length+grL l/\t.jk.length+cnL (l.drop i)<=s.jk.length+cnL l) ⟨b,hI,hg,hm,Ab _,Ab _,Ab _⟩ ?_
   rintro i x t hx ⟨c,c1,c2,c3,c4,c5,c6⟩
   have hd:l.drop i=x::l.drop (i+1):=by
    obtain ⟨h1,h2⟩:=A1.1 hx
    rw [<- h2];exact Cw h1
   have hmem:=Af hx
   have hsz:=zu6 hmem
   have hso:=Bl hmem
   rw [hd,gB,A0] at c2
   rw [hd,ntL] at c3
   rw [hd,grL] at c4 c5
   rw [hd,cnL] at c6
   obtain ⟨b1,b2,b3,b4,b5⟩:=hb
   have r:=(hR _).1 x (A5 _) c lp lo t c2.1 c1
   obtain ⟨r1,r2,r3,r4,r5⟩:=r
   exact ⟨hS x oM0 c lp lo t c2.1 c3.1 oM0 c1 ⟨by omega,by omega,by omega,b4,b5⟩,λ_=>⟨_,r1,c2.2,c3.2,by omega,by omega,by omega⟩⟩
section
variable {T:List Tk}
theorem z9t (k t:Int) (s:ByteArray) (a:List Ex) (x y:List St):cnS (.mk k t s a x y)=1+cnL x+cnL y:=by simp only [cnS]
theorem cnL_one (a:St):cnL [a]=cnS a:=by simp [cnL]
theorem yw0:∀ a b:List St,cnL (a++b)=cnL a+cnL b
 | [],b=>by simp [cnL]
 | x::r,b=>by simp only [B8,cnL,yw0 r b];omega
attribute [local irreducible] mE z7m
theorem let_cn (hT:TkOk T) {s:Ps} (h:(mLet T s).2.over=false):2*cnS (mLet T s).1+s.at_<=(mLet T s).2.at_:=by
 unfold mLet at h ⊢
 dsimp only at h ⊢
 have b1:=(z4w hT).back h
 have b2:=(z0a hT (w:=sEq)).back b1
 have b3:=(z1s hT (k:=1) dC0).back b2
 have a1:=(z4w hT (s:=z0l T sEq (z0j T 1 (z0p T s).2).2)).at_
 have a2:=zf9.lt b1
 have a3:=z6e.lt b2
 have a4:=zj0.lt b3
 simp only [z9t,cnL]
 omega
theorem named_cn (hT:TkOk T) {s:Ps} (h:(z5f T s).2.over=false):2*cnS (z5f T s).1+s.at_<=(z5f T s).2.at_:=by
 unfold z5f at h ⊢
 split at h
 ·rename_i h1
  rw [if_pos h1]
  dsimp only at h ⊢
  have h2:=yh4 hT 2 (z0j T 1 s).2.next
  have h3:=((z4r hT (big T)).2.2.2.2.1 2 (z0j T 1 s).2.next).at_
  have b1:=(z4e h1).1
  have a1:=z6e.lt b1
  rw [z0k] at h3
  simp only [z9t,cnL]
  omega
 rename_i h1
 rw [if_neg h1]
 split at h
 ·rename_i h2
  rw [if_pos h2]
  dsimp only at h ⊢
  have b1:=(z4e h2).1
  have a1:=z6e.lt b1
  have d1:=(z4w hT (s:=(z0j T 1 s).2.next)).at_
  rw [z0k] at d1
  generalize (mE T (z0j T 1 s).2.next)=e at h d1 ⊢
  have d2:=(z0a hT (w:=sSc) (s:=e.2)).at_
  have d3:=(z0a hT (w:=sEq) (s:=z0l T sSc e.2)).at_
  have d4:=(z4w hT (s:=z0l T sEq (z0l T sSc e.2))).at_
  simp only [z9t,cnL]
  omega
 ·rename_i h2
  rw [if_neg h2]
  dsimp only at h ⊢
  have b1:=(z4w hT).back h
  have b2:=(z0a hT (w:=sEq)).back b1
  have a1:=z6e.lt b2
  have a2:=zf9.lt b1
  have a3:=(z4w hT (s:=z0l T sEq (z0j T 1 s).2)).at_
  simp only [z9t,cnL]
  omega
theorem flat_cn (hT:TkOk T) {s:Ps} (h:(ze3 T s).2.over=false):2*cnS (ze3 T s).1+s.at_<=(ze3 T s).2.at_+1:=by
 unfold ze3 at h ⊢
 split at h
 ·rename_i h1;rw [if_pos h1];simp only [z9t,cnL,z0k];omega
 rename_i h1;rw [if_neg h1]
 split at h
 ·rename_i h1;rw [if_pos h1];simp only [z9t,cnL,z0k];omega
 rename_i h1;rw [if_neg h1]
 split at h
 ·rename_i h1;rw [if_pos h1]
  have a1:=(z4w hT (s:=s.next)).at_
  rw [z0k] at a1
  simp only [z9t,cnL];omega
 rename_i h1;rw [if_neg h1]
 split at h
 ·rename_i h1;rw [if_pos h1]
  have a1:=(z2q hT (s:=s.next)).at_
  rw [z0k] at a1
  simp only [z9t,cnL];omega
 rename_i h1;rw [if_neg h1]
 have:=named_cn hT h
 omega
theorem zz7 (hT:TkOk T) {s:Ps} (h:(z1t T s).2.over=false):s.at_+1<=(z1t T s).2.at_:=by
 unfold z1t at h ⊢
 dsimp only at h ⊢
 have b1:=(z0a hT (w:=sRc)).back h
 have b2:=(z4w hT).back b1
 have a1:=zf9.lt b2
 have a2:=(z4w hT (s:=z0l T sRo s)).at_
 have a3:=(z0a hT (w:=sRc) (s:=(mE T (z0l T sRo s)).2)).at_
 omega
theorem stmt_cn (hT:TkOk T) (N:Nat) (iB:∀ d s,(z1v T N d s).2.over=false->2*cnL (z1v T N d s).1+s.at_<=(z1v T N d s).2.at_) (d:Int) (s:Ps) (h:(z5u T (N+1) d s).2.over=false):2*cnS (z5u T (N+1) d s).1+s.at_<=(z5u T (N+1) d s).2.at_:=by
 have e:=y1m d s
 unfold z5u at h ⊢
 generalize z31 d s=s at e h ⊢
 rw [<- e]
 split at h
 ·rename_i h1;rw [if_pos h1]
  have b1:=(z0a hT (w:=z56)).back h
  have h2:=let_cn hT b1
  have h3:=(z0a hT (w:=z56) (s:=(mLet T s).2)).at_
  dsimp only at h3 ⊢
  omega
 rename_i h1;rw [if_neg h1]
 split at h
 ·rename_i h1;rw [if_pos h1]
  split at h
  ·rename_i h2;rw [if_pos h2]
   have b2:=iB _ _ h
   have b0:=(z4e h2).1
   have b3:=iB _ _ b0
   have b4:=zz7 hT (((z5b hT N).2.1 _ _).back b0)
   rw [z0k] at b2 b4
   simp only [z9t]
   omega
  ·rename_i h2;rw [if_neg h2]
   have b3:=iB _ _ h
   have b4:=zz7 hT (((z5b hT N).2.1 _ _).back h)
   rw [z0k] at b4
   simp only [z9t,cnL]
   omega
 rename_i h1;rw [if_neg h1]
 split at h
 ·rename_i h1;rw [if_pos h1]
  have b3:=iB _ _ h
  have b4:=zz7 hT (((z5b hT N).2.1 _ _).back h)
  rw [z0k] at b4
  simp only [z9t,cnL]
  omega
 rename_i h1;rw [if_neg h1]
 have b1:=(z0a hT (w:=z56)).back h
 have h2:=flat_cn hT b1
 have h3:=zf9.lt h
 dsimp only at h3 ⊢
 omega
theorem yl4 (hT:TkOk T):∀ N,(∀ d s,(z5u T N d s).2.over=false->2*cnS (z5u T N d s).1+s.at_<=(z5u T N d s).2.at_)/\(∀ d s,(z1v T N d s).2.over=false->2*cnL (z1v T N d s).1+s.at_<=(z1v T N d s).2.at_) /\
 (∀ d out s,(z7s T N d out s).2.over=false->2*cnL (z7s T N d out s).1+s.at_<=2*cnL out+(z7s T N d out s).2.at_)
 | 0=>⟨λd s h=>absurd h (by simp [z5u,Ps.over,Ps.setBad]),λd s _=>by show 0+s.at_<=s.at_;omega,λd out s _=>by show 2*cnL out+s.at_<=2*cnL out+s.at_;omega⟩
 | N+1=>by
  obtain ⟨iS,iB,iL⟩:=yl4 hT N
  refine ⟨λd s h=>stmt_cn hT N iB d s h,λd s h=>?_,λd out s h=>?_⟩
  ·unfold z1v at h ⊢
   have h1:=iL d [] (z0l T sBo s) h
   have h2:=(z0a hT (w:=sBo) (s:=s)).at_
   simp only [cnL] at h1
   omega
  ·unfold z7s at h ⊢
   split at h
   ·rename_i h1;rw [if_pos h1];exact Ab _
   rename_i h1;rw [if_neg h1]
   split at h
   ·rename_i h1;rw [if_pos h1];simp only [z0k];omega
   rename_i h1;rw [if_neg h1]
   have b1:=((z5b hT N).2.2 _ _ _).back h
   have h2:=iL _ _ _ h
   have h3:=iS _ _ b1
   rw [yw0,cnL_one] at h2
   omega
def pcn:List Fu->Nat
 | []=>0
 | f::r=>cnL f.body+pcn r
theorem j0c:∀ a b:List Fu,pcn (a++b)=pcn a+pcn b
 | [],b=>by simp [pcn]
 | x::r,b=>by simp only [B8,pcn,j0c r b];omega
theorem func_cn (hT:TkOk T) {t:Int} {n:ByteArray} {s:Ps} (h:(z6t T t n s).2.over=false):2*cnL (z6t T t n s).1.body+s.at_<=(z6t T t n s).2.at_:=by
 unfold z6t at h ⊢
 dsimp only at h ⊢
 have h1:=(yl4 hT (big T)).2.1 1 _ h
 have h2:=(z0a hT (w:=sRo) (s:=s)).at_
 have h6:=(zi7 hT (s:=z0l T sRo s)).at_
 omega
theorem ya0 (hT:TkOk T):∀ N p s,(z3t T N p s).2.over=false->2*pcn (z3t T N p s).1.funcs+s.at_<=2*pcn p.funcs+(z3t T N p s).2.at_
 | 0,_,_,_=>Ab _
 | N+1,p,s,h=>by
  unfold z3t at h ⊢
  split
  ·exact Ab _
  rename_i c1
  rw [if_neg c1] at h
  have a1:=(z5c hT (s:=s)).at_
  have a2:=(z1s hT (k:=1) dC0 (s:=(z0p T s).2)).at_
  split
  ·rename_i c2
   rw [if_pos c2] at h
   have h1:=ya0 hT N _ _ h
   have a3:=(z1s hT (k:=0) dC0 (s:=(z0j T 1 (z0p T s).2).2.next)).at_
   have a4:=(z0a hT (w:=sSc) (s:=(z0j T 0 (z0j T 1 (z0p T s).2).2.next).2)).at_
   have a5:=(z0a hT (w:=z56) (s:=z0l T sSc (z0j T 0 (z0j T 1 (z0p T s).2).2.next).2)).at_
   rw [z0k] at a3
   dsimp only at h1
   omega
  ·rename_i c2
   rw [if_neg c2] at h
   have h1:=ya0 hT N _ _ h
   have b1:(z6t T (z0p T s).1 (z0j T 1 (z0p T s).2).1 (z0j T 1 (z0p T s).2).2).2.over=false:=(z8v hT N _ _).back h
   have h2:=func_cn hT b1
   rw [j0c] at h1
   simp only [pcn] at h1
   omega
theorem yx7 (s:ByteArray):pcn (z2m s).1.funcs<=50000:=by
 unfold z2m
 split
 ·rename_i h0
  obtain ⟨hT,hl⟩:=y1r h0
  split
  ·exact A8 _
  ·rename_i h1
   split
   ·exact A8 _
   ·rename_i h2
    split
    ·have ho:(z8x (z1q s).1).2.over=false:=by unfold Ps.over;rw [Ep.2 h1,Ep.2 h2];rfl
     have hp:0<(z1q s).1.length:=by obtain ⟨i,e,h,_⟩:=hT;rw [h];simp
     have h3:=ya0 hT (big (z1q s).1) ⟨[],[]⟩ ⟨0,false,false⟩ ho
     have h4:=(z8v hT (big (z1q s).1) ⟨[],[]⟩ ⟨0,false,false⟩).lt hp
     unfold z8x
     simp only [pcn] at h3
     dsimp only at h3 h4 ⊢
     omega
    ·exact A8 _
 ·exact A8 _
end
theorem yu4 {p:Pg} {s:Sc} {e:Ex} {r:List Ex} (h:(z6o p s (e::r)).2=0):(z50 p s e).2=0/\(z6o p s r).2=0:=by
 rw [z6o] at h
 by_cases h1:(z50 p s e).2=0
 ·rw [if_pos h1] at h
  by_cases h2:(z6o p s r).2=0
  ·exact ⟨h1,h2⟩
  ·rw [if_neg h2] at h;exact absurd h h2
 ·rw [if_neg h1] at h;exact absurd h h1
theorem ym6 {p:Pg} {s:Sc} {k o n:Int} {nm:ByteArray} {args:List Ex} (h:(z50 p s (.mk k o n nm args)).2=0):z7z p s k nm args.length=0/\(z6o p s args).2=0:=by
 rw [z50] at h
 by_cases h1:z7z p s k nm args.length=0
 ·rw [if_pos h1] at h
  by_cases h2:(z6o p s args).2=0
  ·exact ⟨h1,h2⟩
  ·rw [if_neg h2] at h;exact absurd h h2
 ·rw [if_neg h1] at h;exact absurd h h1
theorem yFine_ok {b:Bool} {e:Int} (he:e≠0) (h:zv3 b e=0):b=true:=by
 unfold zv3 at h
 cases b with
 | true=>rfl
 | false=>exact absurd h he
theorem j0p (p:Pg) (s:Sc):∀ N,(∀ e:Ex,SizeOf.sizeOf e<N->∀ m,rx e m=true->(z50 p s e).2=0->riOk p e=true)/\(∀ l:List Ex,SizeOf.sizeOf l<N->∀ m,rxL l m=true->(z6o p s l).2=0->zk6 p l=true)
 | 0=>⟨λ_ h=>absurd h (Ae _),λ_ h=>absurd h (Ae _)⟩
 | N+1=>by
  obtain ⟨h1,h2⟩:=j0p p s N
  refine ⟨λe he m hr hy=>?_,λl hl m hr hy=>?_⟩
  ·obtain ⟨k,o,n,nm,args⟩:=e
   simp at he
   rw [rx,A0] at hr
   obtain ⟨y1,y2⟩:=ym6 hy
   rw [riOk,h2 args oM0 m hr.1 y2,Cp]
   have hr2:=hr.2
   unfold rOwn at hr2
   unfold j0m
   by_cases k5:k=5
   ·subst k5
    simp at hr2
    simp [hr2.2]
   rw [if_neg k5]
   by_cases k7:k=7
   ·subst k7
    rw [if_neg dC0]
    unfold z7z at y1
    rw [if_neg dC0,if_neg dC0,if_pos rfl] at y1
    by_cases c:z3g p nm<0
    ·rw [if_pos c] at y1;exact absurd y1 dC0
    ·exact C4 oM0
   ·by_cases kk:k=1∨k=2∨k=3∨k=4∨k=6∨k=8
    ·rw [if_pos kk]
    ·simp only [not_or] at kk
     obtain ⟨q1,q2,q3,q4,q6,q8⟩:=kk
     rw [if_neg q1,if_neg q2,if_neg q3,if_neg q4,if_neg k5,if_neg q6,if_neg k7,if_neg q8] at hr2
     cases hr2
  ·match l with
   | []=>rfl
   | e::r =>
    simp at hl
    rw [rxL,A0,A0] at hr
    obtain ⟨y1,y2⟩:=yu4 hy
    rw [zk6,h1 e oM0 _ hr.1.2 y1,h2 r oM0 m hr.2 y2]
    rfl
theorem ok_riX {p:Pg} {s:Sc} {e:Ex} {m:Int} (hr:rx e m=true) (hy:(z50 p s e).2=0):riOk p e=true:=(j0p p s _).1 e (A5 _) m hr hy
theorem z80 {p:Pg} {s:Sc} {e:Ex} {t:Int} (h:zc1 p s e t=0):(z50 p s e).2=0:=by
 unfold zc1 at h
 split at h
 ·assumption
 ·exact h
theorem j3s {p:Pg} {e:Ex} (h:(z50 p [] e).2=0):e.kind≠3:=by
 obtain ⟨k,o,n,nm,args⟩:=e
 intro hk
 have hk:k=3:=hk
 subst hk
 have:=(ym6 h).1
 simp [z7z,z9p,zv3] at this
theorem shp_len {k:Int} {n:Nat} (h:((n:Int) != (shp k).2.2.1)=false):(k=1∨k=2∨k=4∨k=5∨k=8∨k=9∨k=10)/\n=1∨k=3/\n=2∨(k=6∨k=7)/\n=0:=by
 have h:(n:Int)=(shp k).2.2.1:=by simpa using h
 unfold shp at h
 by_cases h1:k=1
 ·rw [if_pos h1] at h;dsimp only at h;omega
 rw [if_neg h1] at h
 by_cases h2:k=2
 ·rw [if_pos h2] at h;dsimp only at h;omega
 rw [if_neg h2] at h
 by_cases h3:k=3
 ·rw [if_pos h3] at h;dsimp only at h;omega
 rw [if_neg h3] at h
 by_cases h4:k=4
 ·rw [if_pos h4] at h;dsimp only at h;omega
 rw [if_neg h4] at h
 by_cases h5:k=5
 ·rw [if_pos h5] at h;dsimp only at h;omega
 rw [if_neg h5] at h
 by_cases h6:k=6∨k=7
 ·rw [if_pos h6] at h;dsimp only at h;omega
 rw [if_neg h6] at h
 by_cases h8:k=8∨k=9∨k=10
 ·rw [if_pos h8] at h;dsimp only at h;omega
 rw [if_neg h8] at h
 dsimp only at h
 omega
theorem y12 {k ty:Int} {nm:ByteArray} {args:List Ex} {thn els:List St} {m:Int} (h:rst (.mk k ty nm args thn els) m=true) :
 ((k=1∨k=2∨k=4∨k=5∨k=8∨k=9∨k=10)/\args.length=1∨k=3/\args.length=2∨(k=6∨k=7)/\args.length=0)/\(∀ e∈args,rx e 100=true)/\rsL thn (m - 1)=true/\rsL els (m - 1)=true/\((shp k).2.1=z0i nm/\((shp k).2.1=false->nm.toList=[])):=by
 rw [rst] at h
 simp only [A0,Bg,Bc] at h
 obtain ⟨⟨⟨⟨h1,h2⟩,h3⟩,h4⟩,h5⟩:=h
 unfold yp3 at h1
 simp only [Bt] at h1
 obtain ⟨⟨⟨⟨⟨_,h12⟩,_⟩,_⟩,h15⟩,h16⟩:=h1
 refine ⟨shp_len h12,h2,h4,h5,by simpa using h15,λe=>?_⟩
 rw [e] at h16
 simpa using h16
theorem y6m (s:Sc) (k ty:Int) (nm:ByteArray) (d:Int):(!(z6c s k ty nm d).isEmpty)=(!s.isEmpty||k==1):=by
 unfold z6c
 by_cases h:k=1
 ·rw [if_pos h,h];simp
 ·rw [if_neg h,show (k==1)=false from Aa.2 h,Dt]
theorem gA_of {p:Pg} {s:Sc} {args:List Ex} (n:Nat) (hl:n<=args.length) (hr:∀ e∈args,rx e 100=true) (hy:∀ e∈args,(z50 p s e).2=0):gA p n args=true:=by
 unfold gA
 rw [A0]
 refine ⟨C4 hl,?_⟩
 clear hl
 induction args with
 | nil=>rfl
 | cons e r ih=>rw [zk6,ok_riX (hr e (.head _)) (hy e (.head _)),ih (λq hq=>hr q (.tail _ hq)) λq hq=>hy q (.tail _ hq)];rfl
theorem yf3 {p:Pg} {res:Int} {x:St} {r:List St} {s:Sc} {d:Int} {lp:Bool} {n:Nat} (h:(z2a p res (x::r) s d lp n).1=0):(yOne p res x s d lp n).1=0/\(z2a p res r (z6c s x.kind x.ty x.name d) d lp (yOne p res x s d lp n).2).1=0:=by
 rw [z2a] at h
 by_cases h1:(yOne p res x s d lp n).1=0
 ·rw [if_pos h1] at h;exact ⟨h1,h⟩
 ·rw [if_neg h1] at h;exact absurd h h1
theorem yOne_ok {p:Pg} {res k ty:Int} {nm:ByteArray} {args:List Ex} {thn els:List St} {s:Sc} {d:Int} {lp:Bool} {n:Nat} (h:(yOne p res (.mk k ty nm args thn els) s d lp n).1=0) :
 zv4 p res s k ty nm args d lp=0/\(z2a p res thn (z6c s k ty nm d) (d+1) (lp||k==5) (n+1)).1=0/\(z2a p res els (z6c s k ty nm d) (d+1) lp (z2a p res thn (z6c s k ty nm d) (d+1) (lp||k==5) (n+1)).2).1=0:=by
 rw [yOne] at h
 by_cases h1:zv4 p res s k ty nm args d lp=0
 ·rw [if_pos h1] at h
  by_cases h2:(z2a p res thn (z6c s k ty nm d) (d+1) (lp||k==5) (n+1)).1=0
  ·rw [if_pos h2] at h;exact ⟨h1,h2,h⟩
  ·rw [if_neg h2] at h;exact absurd h h2
 ·rw [if_neg h1] at h;exact absurd h h1
theorem yu7 {p:Pg} {res k ty:Int} {nm:ByteArray} {args:List Ex} {s:Sc} {d:Int} {lp:Bool} (h:zv4 p res s k ty nm args d lp=0) (hl:(k=1∨k=2∨k=4∨k=5∨k=8∨k=9∨k=10)/\args.length=1∨k=3/\args.length=2∨(k=6∨k=7)/\args.length=0):∀ e∈args,(z50 p s e).2=0:=by
 unfold zv4 at h
 rcases hl with ⟨hk,hl⟩ | ⟨hk,hl⟩ | ⟨hk,hl⟩
 ·obtain ⟨e,rfl⟩:=Ca.1 hl
  intro q hq
  obtain rfl:=Ai.1 hq
  rw [show ([q]:List Ex).getD 0 ex0=q from rfl] at h
  by_cases c1:k=4∨k=5
  ·rw [if_pos c1] at h;exact z80 h
  rw [if_neg c1] at h
  by_cases c2:k=8
  ·rw [if_pos c2] at h;exact z80 h
  rw [if_neg c2] at h
  by_cases c3:k=9
  ·rw [if_pos c3] at h;exact z80 h
  rw [if_neg c3] at h
  by_cases c4:k=10
  ·rw [if_pos c4] at h;exact h
  rw [if_neg c4,if_neg oM0] at h
  unfold y8q at h
  rw [show ([q]:List Ex).getD 0 ex0=q from rfl] at h
  by_cases c5:k=1
  ·rw [if_pos c5] at h
   split at h
   ·rename_i h1;exact z80 h1
   ·exact z80 h
  rw [if_neg c5,if_pos oM0] at h
  split at h
  ·exact absurd h dC0
  ·exact z80 h
 ·subst hk
  rw [if_neg dC0,if_neg dC0,if_neg dC0,if_neg dC0,if_neg dC0] at h
  unfold y8q at h
  rw [if_neg dC0,if_neg dC0] at h
  match args,hl with
  | [a,b],_ =>
   rw [show ([a,b]:List Ex).getD 0 ex0=a from rfl,show ([a,b]:List Ex).getD 1 ex0=b from rfl] at h
   split at h
   ·exact absurd h dC0
   ·split at h
    ·rename_i h1
     intro q hq
     simp only [Ag,Bx,Fm] at hq
     rcases hq with rfl | rfl
     ·exact z80 h1
     ·exact z80 h
    ·rename_i h1;exact absurd h h1
 ·obtain rfl:=At hl
  intro q hq
  cases hq
theorem gB_of (p:Pg) (res:Int):∀ N,(∀ x:St,SizeOf.sizeOf x<N->∀ m s d lp n,rst x m=true->(yOne p res x s d lp n).1=0->gS p (!s.isEmpty) lp x=true)/\(∀ l:List St,SizeOf.sizeOf l<N->∀ m s d lp n,rsL l m=true->(z2a p res l s d lp n).1=0->gB p (!s.isEmpty) lp l=true)
 | 0=>⟨λ_ h=>absurd h (Ae _),λ_ h=>absurd h (Ae _)⟩
 | N+1=>by
  obtain ⟨h1,h2⟩:=gB_of p res N
  refine ⟨λx hx m s d lp n hr hy=>?_,λl hl m s d lp n hr hy=>?_⟩
  ·obtain ⟨k,ty,nm,args,thn,els⟩:=x
   simp at hx
   obtain ⟨r1,r2,r3,r4,_⟩:=y12 hr
   obtain ⟨y1,y2,y3⟩:=yOne_ok hy
   have ya:=yu7 y1 r1
   rw [gS]
   by_cases k4:k=4
   ·subst k4
    rw [show z6c s 4 ty nm d=s from rfl,show (lp||(4:Int)==5)=lp by simp] at y2 y3
    rw [if_pos rfl,gA_of 1 oM0 r2 ya,h2 thn oM0 _ _ _ _ _ r3 y2,h2 els oM0 _ _ _ _ _ r4 y3]
    rfl
   rw [if_neg k4]
   by_cases k5:k=5
   ·subst k5
    rw [show z6c s 5 ty nm d=s from rfl,show (lp||(5:Int)==5)=true by simp] at y2
    rw [if_pos rfl,gA_of 1 oM0 r2 ya,h2 thn oM0 _ _ _ _ _ r3 y2]
    rfl
   rw [if_neg k5]
   by_cases k67:k=6∨k=7
   ·rw [if_pos k67]
    unfold zv4 at y1
    rw [if_neg oM0,if_neg oM0,if_neg oM0,if_neg oM0,if_pos k67] at y1
    exact yFine_ok dC0 y1
   rw [if_neg k67]
   by_cases k3:k=3
   ·rw [if_pos k3];exact gA_of 2 oM0 r2 ya
   rw [if_neg k3,gA_of 1 oM0 r2 ya,B3]
   cases s with
   | cons a b=>rfl
   | nil =>
    match args,r1 with
    | [],r1=>simp only [Ax] at r1;omega
    | e::r,_ =>
     have:=j3s (ya e (.head _))
     show (false||(((e::r).getD 0 ex0).kind != 3))=true
     rw [C7]
     exact bne_iff_ne.2 this
  ·match l with
   | []=>rfl
   | x::r =>
    simp at hl
    rw [rsL,A0] at hr
    obtain ⟨y1,y2⟩:=yf3 hy
    have hh:=h2 r oM0 m _ d lp _ hr.2 y2
    rw [y6m] at hh
    rw [gB,h1 x oM0 m s d lp n hr.1 y1,hh]
    rfl
theorem yg4 {α:Type} (f g:α -> Bool) (h:α -> α) (e:∀ x,f (h x)=g x):∀ (l:List α) (i:Int),idxP f (l.map h) i=idxP g l i
 | [],i=>rfl
 | x::r,i=>by simp only [B6,idxP,e,yg4 f g h e r]
theorem j3u (p:Pg) (nm:ByteArray):z3g (rnP p) nm=z3g p nm:=by
 unfold z3g
 exact yg4 _ _ rnF (λ_=>rfl) p.funcs 0
theorem j0q (p:Pg) (es:List (Value × PV)):∀ N,(∀ e:Ex,SizeOf.sizeOf e<N->riOk (rnP p) (rnX es e)=riOk p e/\xz (rnX es e)=xz e)/\(∀ l:List Ex,SizeOf.sizeOf l<N->zk6 (rnP p) (rnXL es l)=zk6 p l/\xzL (rnXL es l)=xzL l)
 | 0=>⟨λ_ h=>absurd h (Ae _),λ_ h=>absurd h (Ae _)⟩
 | N+1=>by
  obtain ⟨h1,h2⟩:=j0q p es N
  refine ⟨λe he=>?_,λl hl=>?_⟩
  ·obtain ⟨k,o,n,nm,args⟩:=e
   simp at he
   have hl:(rnXL es args).length=args.length:=by rw [y10,A4]
   rw [rnX,riOk,riOk,(h2 args oM0).1,xz,xz,(h2 args oM0).2,hl,j3u]
   refine ⟨?_,rfl⟩
   by_cases k3:k=3
   ·subst k3;rfl
   ·rw [if_neg k3]
  ·match l with
   | []=>exact ⟨rfl,rfl⟩
   | e::r =>
    simp at hl
    rw [rnXL,zk6,zk6,xzL,xzL,(h1 e oM0).1,(h2 r oM0).1,(h1 e oM0).2,(h2 r oM0).2]
    exact ⟨rfl,rfl⟩
theorem yi9 (p:Pg) (es:List (Value × PV)) (l:List Ex):zk6 (rnP p) (l.map (rnX es))=zk6 p l/\xzL (l.map (rnX es))=xzL l:=by rw [<- y10];exact (j0q p es _).2 l (A5 _)
theorem rnX_kind (es:List (Value × PV)) (e:Ex):(rnX es e).kind=e.kind:=by rw [rnX_eq];rfl
theorem gA_rn (p:Pg) (es:List (Value × PV)) (n:Nat) (l:List Ex):gA (rnP p) n (l.map (rnX es))=gA p n l:=by unfold gA;rw [(yi9 p es l).1,A4]
theorem rnS_kind (x:St) (es:List (Value × PV)) (n:Nat):(rnS x es n).1.kind=x.kind:=by cases x;rw [rnS];rfl
theorem yj4 (p:Pg):∀ N,(∀ x:St,SizeOf.sizeOf x<N->∀ es n,cnS (rnS x es n).1=cnS x/\sz (rnS x es n).1=sz x/\∀ b lp,gS (rnP p) b lp (rnS x es n).1=gS p b lp x)/\(∀ l:List St,SizeOf.sizeOf l<N->∀ es n,cnL (rnB l es n).1=cnL l/\szL (rnB l es n).1=szL l/\∀ b lp,gB (rnP p) b lp (rnB l es n).1=gB p b lp l)
 | 0=>⟨λ_ h=>absurd h (Ae _),λ_ h=>absurd h (Ae _)⟩
 | N+1=>by
  obtain ⟨h1,h2⟩:=yj4 p N
  refine ⟨λx hx es n=>?_,λl hl es n=>?_⟩
  ·obtain ⟨k,ty,nm,args,thn,els⟩:=x
   simp at hx
   rw [rnS]
   obtain ⟨t1,t2,t3⟩:=h2 thn oM0 (z1l es k nm n).2.1 (z1l es k nm n).2.2
   obtain ⟨e1,e2,e3⟩:=h2 els oM0 (z1l es k nm n).2.1 (rnB thn (z1l es k nm n).2.1 (z1l es k nm n).2.2).2
   refine ⟨by rw [cnS,cnS,t1,e1],by rw [sz,sz,t2,e2,(yi9 p es args).2],λb lp=>?_⟩
   rw [gS,gS,gA_rn,gA_rn,t3,t3,e3]
   have hg:((args.map (rnX es)).getD 0 ex0).kind=(args.getD 0 ex0).kind:=by
    cases args with
    | nil=>rfl
    | cons a r=>exact rnX_kind es a
   rw [hg]
  ·match l with
   | []=>exact ⟨rfl,rfl,λ_ _=>rfl⟩
   | x::r =>
    simp at hl
    obtain ⟨a1,a2,a3⟩:=h1 x oM0 es n
    obtain ⟨b1,b2,b3⟩:=h2 r oM0 (z1l es x.kind x.name n).2.1 (rnS x es n).2
    rw [rnB]
    refine ⟨by rw [cnL,cnL,a1,b1],by rw [szL,szL,a2,b2],λb lp=>?_⟩
    rw [gB,gB,a3,b3,rnS_kind]
theorem rn_cn (l:List St) (es:List (Value × PV)) (n:Nat):cnL (rnB l es n).1=cnL l:=((yj4 pg0 _).2 l (A5 _) es n).1
theorem rn_sz (l:List St) (es:List (Value × PV)) (n:Nat):szL (rnB l es n).1=szL l:=((yj4 pg0 _).2 l (A5 _) es n).2.1
theorem rn_gB (p:Pg) (l:List St) (es:List (Value × PV)) (n:Nat) (b lp:Bool):gB (rnP p) b lp (rnB l es n).1=gB p b lp l:=((yj4 p _).2 l (A5 _) es n).2.2 b lp
theorem ySc_ne (l:List Pm):(!(ySc l).isEmpty) = !l.isEmpty:=by
 unfold ySc
 suffices ∀ (l:List Pm) (s:Sc),(l.foldl (λs x=>(x.name,x.ty,(0:Int))::s) s).isEmpty=(s.isEmpty&&l.isEmpty) by rw [this];simp
 intro l
 induction l with
 | nil=>intro s;simp
 | cons x r ih=>intro s;rw [Dm,ih];simp
theorem yq0 (l:List Pm) (es:List (Value × PV)) (n:Nat):(rnPm l es n).1.isEmpty=l.isEmpty:=by cases l<;>rfl
theorem yu5 {p:Pg} (hr:rPg p=true) (hy:(z8s p).1=0):∀ f∈p.funcs,gB p (!f.params.isEmpty) false f.body=true:=by
 unfold z8s at hy
 split at hy
 ·unfold rPg at hr
  rw [A0] at hr
  have hr:=Bc.1 hr.2
  suffices ∀ (l:List Fu) (i:Nat),(∀ f∈l,rFu f=true)->(y8r p l i).1=0->∀ f∈l,gB p (!f.params.isEmpty) false f.body=true from this p.funcs 0 hr hy
  intro l
  induction l with
  | nil=>intro i _ _ f hf;cases hf
  | cons x r ih =>
   intro i hr hy f hf
   rw [y8r] at hy
   split at hy
   ·exact absurd (show (50:Int)=0 from hy) dC0
   ·split at hy
    ·rename_i h2
     rcases Ag.1 hf with rfl | hf
     ·have hb:(z2a p f.ty f.body (ySc f.params) 1 false 0).1=0:=by
       unfold yFun at h2
       dsimp only at h2
       split at h2
       ·exact absurd h2 dC0
       ·exact h2
      have hR:=hr f (.head _)
      unfold rFu at hR
      simp only [A0] at hR
      have:=(gB_of p f.ty _).2 f.body (A5 _) 100 (ySc f.params) 1 false 0 hR.1.2 hb
      rw [ySc_ne] at this
      exact this
     ·exact ih (i+1) (λq hq=>hr q (.tail _ hq)) hy f hf
    ·rename_i h2;exact absurd hy h2
 ·exact absurd hy dC0
theorem rnF_gB {p:Pg} (hr:rPg p=true) (hy:(z8s p).1=0):∀ f∈(rnP p).funcs,gB (rnP p) (!f.params.isEmpty) false f.body=true:=by
 intro f hf
 obtain ⟨g,hg,rfl⟩:=Cc.1 (show f∈p.funcs.map rnF from hf)
 have h1:=yu5 hr hy g hg
 have h2:(rnF g).params.isEmpty=g.params.isEmpty:=yq0 g.params [] 0
 rw [h2]
 show gB (rnP p) _ false (rnB g.body _ _).1=true
 rw [rn_gB]
 exact h1
mutual
def nxX:Ex->Bool
 | .mk k _ _ nm args=>(k==3||decide (nm.size<=20))&&nxL args
def nxL:List Ex->Bool
 | []=>true
 | x::r=>nxX x&&nxL r
end
mutual
def nxS:St->Bool
 | .mk k _ nm args thn els=>(k==1||k==2||decide (nm.size<=20))&&nxL args&&nxB thn&&nxB els
def nxB:List St->Bool
 | []=>true
 | x::r=>nxS x&&nxB r
end
theorem y3w {s:ByteArray} (h:s.toList=[]):s.size=0:=by
 rw [z22] at h
 show s.data.size=0
 rw [<- Bq,h];rfl
theorem zj3 {s:ByteArray} (h:z0i s=true):s.size<=20:=by
 unfold z0i at h
 simp only [A0,Be] at h
 have:=h.1.1.1.2
 omega
theorem nxX_of:∀ N,(∀ e:Ex,SizeOf.sizeOf e<N->∀ m,rx e m=true->nxX e=true)/\(∀ l:List Ex,SizeOf.sizeOf l<N->∀ m,rxL l m=true->nxL l=true)
 | 0=>⟨λ_ h=>absurd h (Ae _),λ_ h=>absurd h (Ae _)⟩
 | N+1=>by
  obtain ⟨h1,h2⟩:=nxX_of N
  refine ⟨λe he m hr=>?_,λl hl m hr=>?_⟩
  ·obtain ⟨k,o,n,nm,args⟩:=e
   simp at he
   rw [rx,A0] at hr
   rw [nxX,h2 args oM0 m hr.1,Cp]
   have hr:=hr.2
   unfold rOwn at hr
   have e0:nm.toList=[]->(k==3||decide (nm.size<=20))=true:=λh=>by rw [Bk];exact .inr (C4 (by rw [y3w h];omega))
   have e1:z0i nm=true->(k==3||decide (nm.size<=20))=true:=λh=>by rw [Bk];exact .inr (C4 (zj3 h))
   repeat' split at hr
   all_goals (try (simp only [A0,As] at hr))
   ·exact e0 hr.1.2
   ·exact e0 hr.1.2
   ·exact e1 hr.1.2
   ·exact e0 hr.1.2
   ·exact e0 hr.1.2
   ·exact e1 hr.1.2
   ·exact e1 hr.1.2
   ·exact e0 hr.1.2
   ·cases hr
  ·match l with
   | []=>rfl
   | e::r =>
    simp at hl
    rw [rxL,A0,A0] at hr
    rw [nxL,h1 e oM0 _ hr.1.2,h2 r oM0 m hr.2]
    rfl
theorem nxL_of {l:List Ex} (h:∀ e∈l,rx e 100=true):nxL l=true:=by
 induction l with
 | nil=>rfl
 | cons e r ih=>rw [nxL,(nxX_of _).1 e (A5 _) 100 (h e (.head _)),ih λq hq=>h q (.tail _ hq)];rfl
theorem nm_sz {b:Bool} {nm:ByteArray} (h:b=z0i nm/\(b=false->nm.toList=[])):nm.size<=20:=by
 cases b with
 | true=>exact zj3 h.1.symm
 | false=>rw [y3w (h.2 rfl)];omega
theorem nxB_of:∀ N,(∀ x:St,SizeOf.sizeOf x<N->∀ m,rst x m=true->nxS x=true)/\(∀ l:List St,SizeOf.sizeOf l<N->∀ m,rsL l m=true->nxB l=true)
 | 0=>⟨λ_ h=>absurd h (Ae _),λ_ h=>absurd h (Ae _)⟩
 | N+1=>by
  obtain ⟨h1,h2⟩:=nxB_of N
  refine ⟨λx hx m hr=>?_,λl hl m hr=>?_⟩
  ·obtain ⟨k,ty,nm,args,thn,els⟩:=x
   simp at hx
   obtain ⟨_,r2,r3,r4,r5⟩:=y12 hr
   rw [nxS,nxL_of r2,h2 thn oM0 _ r3,h2 els oM0 _ r4,Cp,Cp,Cp,Bk]
   exact .inr (C4 (nm_sz r5))
  ·match l with
   | []=>rfl
   | x::r =>
    simp at hl
    rw [rsL,A0] at hr
    rw [nxB,h1 x oM0 m hr.1,h2 r oM0 m hr.2]
    rfl
theorem nxX_rn (es:List (Value × PV)):∀ N,(∀ e:Ex,SizeOf.sizeOf e<N->nxX (rnX es e)=nxX e)/\(∀ l:List Ex,SizeOf.sizeOf l<N->nxL (rnXL es l)=nxL l)
 | 0=>⟨λ_ h=>absurd h (Ae _),λ_ h=>absurd h (Ae _)⟩
 | N+1=>by
  obtain ⟨h1,h2⟩:=nxX_rn es N
  refine ⟨λe he=>?_,λl hl=>?_⟩
  ·obtain ⟨k,o,n,nm,args⟩:=e
   simp at he
   rw [rnX,nxX,nxX,h2 args oM0]
   by_cases k3:k=3
   ·subst k3;rfl
   ·rw [if_neg k3]
  ·match l with
   | []=>rfl
   | e::r =>
    simp at hl
    rw [rnXL,nxL,nxL,h1 e oM0,h2 r oM0]
theorem nxL_rn (es:List (Value × PV)) (l:List Ex):nxL (l.map (rnX es))=nxL l:=by rw [<- y10];exact (nxX_rn es _).2 l (A5 _)
theorem nxB_rn:∀ N,(∀ x:St,SizeOf.sizeOf x<N->∀ es n,nxS x=true->nxS (rnS x es n).1=true)/\(∀ l:List St,SizeOf.sizeOf l<N->∀ es n,nxB l=true->nxB (rnB l es n).1=true)
 | 0=>⟨λ_ h=>absurd h (Ae _),λ_ h=>absurd h (Ae _)⟩
 | N+1=>by
  obtain ⟨h1,h2⟩:=nxB_rn N
  refine ⟨λx hx es n h=>?_,λl hl es n h=>?_⟩
  ·obtain ⟨k,ty,nm,args,thn,els⟩:=x
   simp at hx
   rw [nxS,A0,A0,A0] at h
   rw [rnS,nxS,nxL_rn,h2 thn oM0 _ _ h.1.2,h2 els oM0 _ _ h.2,h.1.1.2,Cp,Cp,Cp]
   have h4:=h.1.1.1
   by_cases k1:k=1
   ·subst k1;rfl
   by_cases k2:k=2
   ·subst k2;rfl
   rw [show (z1l es k nm n).1=nm by unfold z1l;rw [if_neg k1,if_neg k2]]
   exact h4
  ·match l with
   | []=>rfl
   | x::r =>
    simp at hl
    rw [nxB,A0] at h
    rw [rnB,nxB,h1 x oM0 _ _ h.1,h2 r oM0 _ _ h.2]
    rfl
theorem nxL_mem {l:List Ex} {e:Ex} (h:nxL l=true) (he:e∈l):nxX e=true:=by
 induction l with
 | nil=>cases he
 | cons x r ih =>
  rw [nxL,A0] at h
  rcases Ag.1 he with rfl | he
  ·exact h.1
  ·exact ih h.2 he
theorem j2t (n:Nat) (h:n<=1000000000):(tVal n).size<=30:=by
 have:=Lib.itoa_length_le (n:Int) oM0 oM0
 have e:(tVal n).size=1+(Lib.itoa (n:Int)).length:=by
  unfold tVal tNum
  rw [D8]
  show 1+(Lib.itoa (n:Int)).toArray.size=_
  rw [Er]
 omega
def Sh (es:List (Value × PV)):Prop:=∀ e∈es,∃ s:ByteArray,e.2=vStr s/\s.size<=30
theorem Sh.put {es:List (Value × PV)} (h:Sh es) (a:ByteArray) {b:ByteArray} (hb:b.size<=30):Sh (z95 es a b):=λe he=>by
 rcases z3u he with rfl | he
 ·exact ⟨b,rfl,hb⟩
 ·exact h e he
theorem Sh.get {es:List (Value × PV)} (h:Sh es) (a:ByteArray):(z8a es a).size<=30:=by
 unfold z8a
 split
 ·rename_i s hf
  obtain ⟨a,ha⟩:=z78 hf
  obtain ⟨t,h1,h2⟩:=h _ ha
  dsimp only at h1
  cases h1
  exact h2
 ·exact A8 _
theorem nt_rn:∀ N,(∀ x:St,SizeOf.sizeOf x<N->∀ es n m,Sh es->n+cnS x<=1000000000->rst x m=true->ntS 30 (rnS x es n).1/\(rnS x es n).2<=n+cnS x/\Sh (z1l es x.kind x.name n).2.1)/\(∀ l:List St,SizeOf.sizeOf l<N->∀ es n m,Sh es->n+cnL l<=1000000000->rsL l m=true->ntL 30 (rnB l es n).1/\(rnB l es n).2<=n+cnL l)
 | 0=>⟨λ_ h=>absurd h (Ae _),λ_ h=>absurd h (Ae _)⟩
 | N+1=>by
  obtain ⟨h1,h2⟩:=nt_rn N
  refine ⟨λx hx es n m hs hn hr=>?_,λl hl es n m hs hn hr=>?_⟩
  ·obtain ⟨k,ty,nm,args,thn,els⟩:=x
   simp at hx
   obtain ⟨_,_,r3,r4,r5⟩:=y12 hr
   rw [cnS] at hn
   have hv:=j2t n oM0
   have ho:(z1l es k nm n).1.size<=30/\(z1l es k nm n).2.2<=n+1/\Sh (z1l es k nm n).2.1:=by
    unfold z1l
    split
    ·exact ⟨(hs.put nm hv).get nm,Ab _,hs.put nm hv⟩
    ·split
     ·exact ⟨hs.get nm,F7 _,hs⟩
     ·exact ⟨Bm (nm_sz r5) oM0,F7 _,hs⟩
   obtain ⟨o1,o2,o3⟩:=ho
   obtain ⟨t1,t2⟩:=h2 thn oM0 (z1l es k nm n).2.1 (z1l es k nm n).2.2 _ o3 oM0 r3
   obtain ⟨e1,e2⟩:=h2 els oM0 (z1l es k nm n).2.1 (rnB thn (z1l es k nm n).2.1 (z1l es k nm n).2.2).2 _ o3 oM0 r4
   rw [rnS,ntS,cnS]
   exact ⟨⟨o1,t1,e1⟩,by dsimp only;omega,o3⟩
  ·match l with
   | []=>exact ⟨Gc,Bf _ _⟩
   | x::r =>
    simp at hl
    rw [rsL,A0] at hr
    rw [cnL] at hn
    obtain ⟨a1,a2,a3⟩:=h1 x oM0 es n m hs oM0 hr.1
    obtain ⟨b1,b2⟩:=h2 r oM0 (z1l es x.kind x.name n).2.1 (rnS x es n).2 m a3 oM0 hr.2
    rw [rnB,ntL,cnL]
    exact ⟨⟨a1,b1⟩,by dsimp only;omega⟩
theorem j01 {a b:Nat} (hab:a<=b):∀ N,(∀ x:St,SizeOf.sizeOf x<N->ntS a x->ntS b x)/\(∀ l:List St,SizeOf.sizeOf l<N->ntL a l->ntL b l)
 | 0=>⟨λ_ h=>absurd h (Ae _),λ_ h=>absurd h (Ae _)⟩
 | N+1=>by
  obtain ⟨h1,h2⟩:=j01 hab N
  refine ⟨λx hx h=>?_,λl hl h=>?_⟩
  ·obtain ⟨k,ty,nm,args,thn,els⟩:=x
   simp at hx
   rw [ntS] at h ⊢
   exact ⟨Bm h.1 hab,h2 thn oM0 h.2.1,h2 els oM0 h.2.2⟩
  ·match l with
   | []=>trivial
   | x::r =>
    simp at hl
    rw [ntL] at h ⊢
    exact ⟨h1 x oM0 h.1,h2 r oM0 h.2⟩
theorem j13:∀ (l:List Pm) (es:List (Value × PV)) (n:Nat),Sh es->n+l.length<=1000000000->Sh (rnPm l es n).2.1/\(rnPm l es n).2.2=n+l.length
 | [],es,n,h,_=>⟨h,rfl⟩
 | x::r,es,n,h,hn=>by
  rw [Ah] at hn
  obtain ⟨h1,h2⟩:=j13 r (z95 es x.name (tVal n)) (n+1) (h.put _ (j2t n oM0)) oM0
  rw [rnPm,Ah]
  exact ⟨h1,by dsimp only;omega⟩
theorem z7e (a b:List Nd):z18 (a++b)=z18 a+z18 b:=by
 unfold z18;rw [y60,Az];omega
theorem z5x (k o n:Int) (nm:ByteArray) (a b c:List Int) (ks:List (List Nd)):z18 [.mk k o n nm a b c ks]=1+a.length+b.length+c.length+nm.size+wtK ks:=by simp only [z18,wtL,wtN,Ah,Ax];omega
theorem j3m (a:List Nd):wtK [a]=1+z18 a:=by simp only [wtK,z18];omega
theorem yf0 (a b:List Nd):wtK [a,b]=2+z18 a+z18 b:=by simp only [wtK,z18];omega
theorem ye9:wtK []=0:=rfl
theorem z7f:z18 []=0:=rfl
theorem y2y:∀ a b:List Nd,lsz (a++b)=lsz a+lsz b
 | [],b=>by simp [lsz]
 | x::r,b=>by simp only [B8,lsz,y2y r b];omega
theorem zo7 (k o n:Int) (nm:ByteArray) (a b c:List Int) (ks:List (List Nd)):lsz [.mk k o n nm a b c ks]=1+kdz ks:=by simp only [lsz,nsz];omega
theorem yy8 (a:List Nd):kdz [a]=lsz a:=by simp only [kdz];omega
theorem y9e (a b:List Nd):kdz [a,b]=lsz a+lsz b:=by simp only [kdz];omega
def tw (s:RiS):Nat:=s.ts.length+z18 s.ns
theorem sz0:(⟨#[]⟩:ByteArray).size=0:=rfl
theorem ym0 (t k o n:Int) (nm:ByteArray) (args:List Int) (ks:List (List Nd)) (s:RiS):tw (z6a t k o n nm args ks s).2=tw s+3+args.length+nm.size+wtK ks/\lsz (z6a t k o n nm args ks s).2.ns=lsz s.ns+1+kdz ks:=by
 unfold z6a tw
 refine ⟨?_,?_⟩
 ·dsimp only;rw [z7e,z5x,Az];simp only [Ah,Ax];omega
 ·dsimp only;rw [y2y,zo7];omega
theorem tw_top (p:Pg) (k o n:Int) (nm:ByteArray) (l:List Int) (s:RiS) (hn:nm.size<=20):tw (zp9 p k o n nm l s).2<=tw s+23+l.length/\lsz (zp9 p k o n nm l s).2.ns<=lsz s.ns+1:=by
 unfold zp9
 repeat' split
 all_goals (rw [(ym0 ..).1,(ym0 ..).2];simp only [ye9,sz0,Ax,kdz];omega)
theorem z1w (k:Int) (nm:ByteArray) (args:List Int) (ns:List Nd):z18 (z6h k nm args ns)=z18 ns+1+args.length+nm.size/\lsz (z6h k nm args ns)=lsz ns+1:=by
 unfold z6h
 refine ⟨?_,?_⟩
 ·rw [z7e,z5x];simp only [ye9,Ax];omega
 ·rw [y2y,zo7];simp only [kdz]
theorem tw_sh (o a:Int) (ns:List Nd) (r:Int × RiS):tw (z6i o a ns r).2=tw r.2+z18 ns+13/\lsz (z6i o a ns r).2.ns=lsz ns+lsz r.2.ns+4:=by
 unfold z6i
 split
 all_goals
  rw [(ym0 ..).1,(ym0 ..).2,yf0,y9e,(z1w ..).1,(z1w ..).2,(z1w ..).1,(z1w ..).2,z5x,zo7]
  unfold tw
  simp only [ye9,sz0,Ax,Ah,kdz,Az]
  omega
theorem riX_tw (p:Pg) (vs:List (Value × PV)):∀ (N:Nat),(∀ e:Ex,SizeOf.sizeOf e<N->nxX e=true->∀ s,tw (riX p vs e s).2+1<=tw s+27*xz e/\lsz (riX p vs e s).2.ns<=lsz s.ns+4*xz e) /\
 (∀ l:List Ex,SizeOf.sizeOf l<N->nxL l=true->∀ s,tw (riXL p vs l s).2+l.length<=tw s+27*xzL l/\lsz (riXL p vs l s).2.ns<=lsz s.ns+4*xzL l/\(riXL p vs l s).1.length=l.length) /\
 (∀ (o:Int) (l:List Ex),SizeOf.sizeOf l<N->nxL l=true->∀ s,tw (riSh p vs o l s).2<=tw s+27*xzL l+13/\lsz (riSh p vs o l s).2.ns<=lsz s.ns+4*xzL l+4) /\
 (∀ (o a:Int) (s:RiS) (l:List Ex),SizeOf.sizeOf l<N->nxL l=true->tw (zk8 p vs o a s l).2<=tw s+27*xzL l+13/\lsz (zk8 p vs o a s l).2.ns<=lsz s.ns+4*xzL l+4)
 | 0=>⟨λ_ h=>absurd h (Ae _),λ_ h=>absurd h (Ae _),λ_ _ h=>absurd h (Ae _),λ_ _ _ _ h=>absurd h (Ae _)⟩
 | N+1=>by
  obtain ⟨h1,h2,h3,h4⟩:=riX_tw p vs N
  refine ⟨λe he hn s=>?_,λl hl hn s=>?_,λo l hl hn s=>?_,λo a s l hl hn=>?_⟩
  ·obtain ⟨k,o,n,nm,args⟩:=e
   simp at he
   rw [nxX,A0] at hn
   rw [riX,xz]
   split
   ·exact ⟨by dsimp only;omega,by dsimp only;omega⟩
   ·rename_i k3
    split
    ·obtain ⟨a1,a2⟩:=h3 o args oM0 hn.2 s
     exact ⟨by omega,by omega⟩
    ·obtain ⟨a1,a2,a3⟩:=h2 args oM0 hn.2 s
     have hnm:nm.size<=20:=by
      have:=hn.1
      rw [Bk] at this
      rcases this with h | h
      ·exact absurd (eq_of_beq h) k3
      ·exact Ao h
     obtain ⟨b1,b2⟩:=tw_top p k o n nm (riXL p vs args s).1 (riXL p vs args s).2 hnm
     exact ⟨by omega,by omega⟩
  ·match l with
   | []=>rw [riXL];exact ⟨Ab _,Ab _,rfl⟩
   | e::r =>
    simp at hl
    rw [nxL,A0] at hn
    rw [riXL,xzL]
    obtain ⟨a1,a2⟩:=h1 e oM0 hn.1 s
    obtain ⟨b1,b2,b3⟩:=h2 r oM0 hn.2 (riX p vs e s).2
    exact ⟨by dsimp only [List.length_cons];omega,by dsimp only;omega,by dsimp only [List.length_cons];rw [b3]⟩
  ·match l with
   | []=>rw [riSh];exact ⟨by dsimp only;omega,by dsimp only;omega⟩
   | e::r =>
    simp at hl
    rw [nxL,A0] at hn
    rw [riSh,xzL]
    obtain ⟨a1,a2⟩:=h1 e oM0 hn.1 s
    obtain ⟨b1,b2⟩:=h4 o (riX p vs e s).1 (riX p vs e s).2 r oM0 hn.2
    exact ⟨by omega,by omega⟩
  ·match l with
   | []=>rw [zk8];exact ⟨by dsimp only;omega,by dsimp only;omega⟩
   | e::r =>
    simp at hl
    rw [nxL,A0] at hn
    rw [zk8,xzL,(tw_sh ..).1,(tw_sh ..).2]
    obtain ⟨a1,a2⟩:=h1 e oM0 hn.1 ⟨s.ts,[]⟩
    have e1:tw ⟨s.ts,[]⟩=s.ts.length:=by unfold tw;rw [z7f];rfl
    have e2:lsz []=0:=rfl
    dsimp only at a2
    rw [e1] at a1
    rw [e2] at a2
    have e3:tw s=s.ts.length+z18 s.ns:=rfl
    exact ⟨by omega,by omega⟩
def zp8 (l:List Pm):List (Value × PV) × List Int:=l.foldl (λa x=>(riSt a.1 x.name a.2.length,a.2++[x.ty])) ([],[])
def riT0 (l:List Pm):RiT:=⟨(zp8 l).1,(zp8 l).2,[],[]⟩
def z7g (p:Pg) (f:Fu):Fl:=⟨f.name,f.ty,f.params.length,(riB p f.body [] (riT0 f.params)).2.ts,(riB p f.body [] (riT0 f.params)).2.ns⟩
theorem yp7 (l:List Pm) (x:Pm):zp8 (l++[x])=(riSt (zp8 l).1 x.name (zp8 l).2.length,(zp8 l).2++[x.ty]):=by simp [zp8]
theorem y0w (l:List Pm):(zp8 l).2.length=l.length:=by
 suffices ∀ (l:List Pm) (a:List (Value × PV) × List Int),(l.foldl (λa x=>(riSt a.1 x.name a.2.length,a.2++[x.ty])) a).2.length=a.2.length+l.length by
  have:=this l ([],[]);simpa [zp8] using this
 intro l
 induction l with
 | nil=>intro a;simp
 | cons x r ih=>intro a;simp only [Dm];rw [ih];simp;omega
theorem yj1 (l:List Pm):RiI (zp8 l).1 (zp8 l).2.length (!l.isEmpty):=by
 suffices ∀ (l:List Pm) (a:List (Value × PV) × List Int) (b:Bool),RiI a.1 a.2.length b->RiI (l.foldl (λa x=>(riSt a.1 x.name a.2.length,a.2++[x.ty])) a).1 (l.foldl (λa x=>(riSt a.1 x.name a.2.length,a.2++[x.ty])) a).2.length (b || !l.isEmpty) from by
  have h:=this l ([],[]) false ⟨Cnt.nil,(λe he=>by cases he),λh=>by cases h⟩
  simpa [zp8] using h
 intro l
 induction l with
 | nil=>intro a b h;simpa using h
 | cons x r ih =>
  intro a b h
  simp only [Dm]
  have:=ih (riSt a.1 x.name a.2.length,a.2++[x.ty]) true ((h.mono (m:=(a.2++[x.ty]).length) sI0).put x.name (v:=(a.2.length:Int)) oM0 (by simp;omega))
  exact this.weak λ_=>by simp
theorem j1o (p:Pg) (f:Fu) (hl:f.params.length<=1000000000) (hB:scB p f.body [] (riT0 f.params) (riB p f.body [] (riT0 f.params))) :
 SC Tryz.prog 18 [.pv (.agg [arrs p.arrays,fus p.funcs]),.pv (.agg [vStr f.name,vInt f.ty,pms f.params,sts f.body])] [] (λk=>k∈[]) (.pv (.agg (z7g p f).enc)) []:=by
 refine SC.vc tb { pb:=[102,103,107],ids:=[(10,1),(11,5),(13,4)],gh:=[(2,[.growC 1 2 2 3 1,.growC 1 3 3 73 1,.spC 1 3 3,.growC 4 2 6 46 8]),(8,[.fzC 1 2 2,.fzC 4 2 6])] } [] Tryz.func18 rfl rfl ?_
 refine ⟨Nat,λi=>[(17,iInt ((i:Nat):Int))],λi=>riW p [] (riT0 (f.params.take i)),λi=>f.params.length - i,λi=>i<=f.params.length,[],0,A8 _,Gd,Gj,?_⟩
 intro i hi
 refine z00 (λhc=>?_) λhc=>?_
 ·have hlt:i<f.params.length:=z0x (f:=Pm.enc) rfl hc
  obtain ⟨x,x1,x2,x3,x4⟩:=z0m hlt
  have hs:=yp7 (f.params.take i) x
  rw [<- x2] at hs
  have hn:=y0w (f.params.take i)
  have hk:=(yj1 (f.params.take i)).cnt
  rw [De] at hn
  have hs1:=A7 Prod.fst hs
  have hs2:=A7 Prod.snd hs
  dsimp only at hs1 hs2
  exact ⟨zt2 x1,rfl,[],zq4 p (zp8 (f.params.take i)).2 ⟨[],[]⟩ x.ty oM0,sR,Gf,rfl,rfl,hk.1,z01 rfl oM0,i+1,z04 hlt,hlt,Gd,⟨boq (by simp only [riT0,hs2]),rwq (by simp only [riT0,hs2]),rfl,rfl,mpq (by simp only [riT0,hs1];rfl),rfl,Gc⟩,rfl,rfl,rfl,rfl⟩
 ·have hge:f.params.length<=i:=z0y (f:=Pm.enc) rfl hc
  rw [Al hge]
  unfold z7g
  generalize riB p f.body [] (riT0 f.params)=r at hB ⊢
  exact ⟨[],hB,sR,Gj,rfl,rfl,rfl,sE (by rw [A4];rfl),Gc⟩
def un0:Un:=⟨[],[]⟩
def riUn (q:Pg):Un:=⟨q.arrays,q.funcs.map (z7g q)⟩
def yp8 (p:Pg) (k:Int):Un × Int:=if (rnOf p).2=0 then (if k=0 then (riUn (rnOf p).1,0) else (un0,2)) else (un0,(rnOf p).2)
theorem sc_Rise0 (p:Pg) (hR:SC Tryz.prog 17 [.pv p.enc] [] (λk=>k∈[]) (.tup [.pv (rnOf p).1.enc,iInt (rnOf p).2]) []) (hfl:(rnOf p).1.funcs.length<=1000000000)
 (hF:(rnOf p).2=0->∀ f∈(rnOf p).1.funcs,f.params.length<=1000000000/\scB (rnOf p).1 f.body [] (riT0 f.params) (riB (rnOf p).1 f.body [] (riT0 f.params))) (k1 k2:Int)
 (hK:(rnOf p).2=0->SC Tryz.prog 19 [.pv (riUn (rnOf p).1).enc] [] (λk=>k∈[]) (.tup [iInt k1,iInt k2]) []) :
 SC Tryz.prog 7 [.pv p.enc] [] (λk=>k∈[]) (.tup [.pv (yp8 p k1).1.enc,iInt (yp8 p k1).2]) []:=by
 refine SC.vc tb { pb:=[107],gh:=[(5,[.growC 105 1 9 59 5]),(10,[.fzC 105 1 9])] } [] Tryz.func7 rfl rfl ?_
 unfold yp8
 generalize rnOf p=q at hR hfl hF hK ⊢
 obtain ⟨q,e⟩:=q
 dsimp only at hR hfl hF hK ⊢
 refine ⟨[],hR,sR,Gc,rfl,z00 (λh=>?_) λh=>?_⟩
 ·have h:¬ e=0:=by simpa using h
  rw [if_neg h]
  exact ⟨sT2 (sP (z0e _)),Gc⟩
 have h:e=0:=by simpa using h
 subst h
 have hF:=hF rfl
 have hK:=hK rfl
 rw [if_pos rfl]
 refine ⟨Nat,λi=>[(25,iInt ((i:Nat):Int))],λi=>[(105,.box [.pv (arrs q.arrays),.sl 9 ((q.funcs.take i).map λf=>(z7g q f).enc).length]),(9,.row ⟨59,5⟩ ((q.funcs.take i).map λf=>(z7g q f).enc))],λi=>q.funcs.length - i,λi=>i<=q.funcs.length,[],0,A8 _,Gd,Ge,?_⟩
 intro i hi
 refine z00 (λhc=>?_) λhc=>?_
 ·have hlt:i<q.funcs.length:=z0x (f:=Fu.enc) rfl hc
  obtain ⟨x,x1,x2,x3,x4⟩:=z0m hlt
  obtain ⟨f1,f2⟩:=hF x x4
  exact ⟨z9g x1,rfl,[],j1o q x f1 f2,sR,Gc,rfl,rfl,z3x rfl,by simp;omega,by simp,z01 rfl oM0,i+1,z04 hlt,hlt,Gd,⟨boq (by rw [x2];simp),rwq (by rw [x2];simp [Fl.enc]),Gc⟩,rfl,rfl,rfl,rfl⟩
 ·have hge:q.funcs.length<=i:=z0y (f:=Fu.enc) rfl hc
  rw [Al hge]
  have he:(riUn q).enc = .agg [arrs q.arrays,.seq (q.funcs.map λf=>(z7g q f).enc)]:=by simp [riUn,Un.enc,flws]
  rw [he] at hK
  refine ⟨rfl,[],hK,sR,Gc,rfl,z00 (λh=>?_) λh=>?_⟩
  ·have h:¬ k1=0:=by simpa using h
   rw [if_neg h]
   exact ⟨sT2 (sP (z0e _)),Gc⟩
  ·have h:k1=0:=by simpa using h
   rw [if_pos h,he]
   exact ⟨sI,Gc⟩
def twT (s:RiT):Nat:=s.ts.length+z18 s.ns
theorem z6v (vs:List (Value × PV)) (z03:List ByteArray):(riOf vs z03).length=z03.length:=by simp [riOf]
theorem y9c (vs:List (Value × PV)) (z03:List ByteArray) (ts:List Int) (ns:List Nd) (jk:List (List ByteArray)) (k:Int) (args params:List Int) (kids:List (List Nd)) :
 twT (z69 vs z03 ts ns jk k args params kids).2<=ts.length+z18 ns+2*z03.length+1+args.length+params.length+wtK kids/\lsz (z69 vs z03 ts ns jk k args params kids).2.ns=lsz ns+1+kdz kids:=by
 have hl:=z3a (riOf vs z03) ts
 rw [z6v] at hl
 unfold z69 twT
 split
 ·refine ⟨?_,?_⟩
  ·dsimp only;rw [z7e,z5x,sz0];simp only [Ax];omega
  ·dsimp only;rw [y2y,zo7];omega
 ·refine ⟨?_,?_⟩
  ·dsimp only;rw [z7e,z5x,sz0];omega
  ·dsimp only;rw [y2y,zo7];omega
theorem yf6 (k:Int) (z03:List ByteArray) (a:Bool × RiT):z18 (z5k k z03 a)<=z18 a.2.ns+1+z03.length/\lsz (z5k k z03 a)<=lsz a.2.ns+1:=by
 unfold z5k
 split
 ·exact ⟨by omega,by omega⟩
 ·rw [(z1w ..).1,(z1w ..).2,z6v,sz0];exact ⟨by omega,Ab _⟩
theorem X_tw (p:Pg) (vs:List (Value × PV)) (e:Ex) (h:nxX e=true) (s:RiS):(riX p vs e s).2.ts.length+z18 (riX p vs e s).2.ns<=s.ts.length+z18 s.ns+27*xz e/\lsz (riX p vs e s).2.ns<=lsz s.ns+4*xz e:=by
 obtain ⟨h1,h2⟩:=(riX_tw p vs _).1 e (A5 _) h s
 unfold tw at h1
 exact ⟨by omega,h2⟩
theorem zo9 {l:List Ex} {i:Nat} {e:Ex} (h:nxL l=true) (he:l[i]? = some e):nxX e=true:=nxL_mem h (Af he)
theorem kid_ts (s:RiT) (z03:List ByteArray):(z1z s z03).ts.length=s.ts.length+z03.length:=by
 have hl:=z3a (riOf s.vs z03) s.ts
 rw [z6v] at hl
 unfold z1z
 dsimp only
 omega
theorem ri_tw (p:Pg) (M:Nat):∀ N,(∀ x:St,SizeOf.sizeOf x<N->∀ b lp lo s,gS p b lp x=true->nxS x=true->cnS x<=M->(∀ l∈lo,l.length<=M)->twT (riS p x lo s).2<=twT s+27*sz x+(30+8*M)*cnS x/\lsz (riS p x lo s).2.ns<=lsz s.ns+4*sz x) /\
 (∀ l:List St,SizeOf.sizeOf l<N->∀ b lp lo s,gB p b lp l=true->nxB l=true->cnL l<=M->(∀ q∈lo,q.length<=M)->twT (riB p l lo s).2<=twT s+27*szL l+(30+8*M)*cnL l/\lsz (riB p l lo s).2.ns<=lsz s.ns+4*szL l)
 | 0=>⟨λ_ h=>absurd h (Ae _),λ_ h=>absurd h (Ae _)⟩
 | N+1=>by
  obtain ⟨hS,hB⟩:=ri_tw p M N
  refine ⟨λx hx b lp lo s hg hn hc hlo=>?_,λl hl b lp lo s hg hn hc hlo=>?_⟩
  ·obtain ⟨k,ty,nm,args,thn,els⟩:=x
   simp at hx
   rw [gS] at hg
   rw [nxS,A0,A0,A0] at hn
   obtain ⟨⟨⟨n1,n2⟩,n3⟩,n4⟩:=hn
   rw [cnS] at hc
   rw [riS]
   simp only [cnS,sz]
   have hK:(30+8*M)*(1+cnL thn+cnL els)=(30+8*M)+(30+8*M)*cnL thn+(30+8*M)*cnL els:=by rw [Es,Es,Nat.mul_one]
   rw [hK]
   by_cases h4:k=4
   ·subst h4
    rw [if_pos rfl,A0,A0] at hg
    rw [if_pos rfl]
    obtain ⟨e,i1,i2,i3,i4⟩:=z9h hg.1.1
    rw [i2]
    obtain ⟨j1,j2⟩:=X_tw p s.vs e (zo9 n2 i1) ⟨s.ts,s.ns⟩
    generalize riX p s.vs e ⟨s.ts,s.ns⟩=c at j1 j2 ⊢
    dsimp only at j1 j2
    obtain ⟨a1,a2⟩:=hB thn oM0 b lp lo ⟨s.vs,c.2.ts,[],s.jk⟩ hg.1.2 n3 oM0 hlo
    generalize riB p thn lo ⟨s.vs,c.2.ts,[],s.jk⟩=a at a1 a2 ⊢
    obtain ⟨d1,d2⟩:=hB els oM0 b lp lo ⟨s.vs,a.2.ts,[],a.2.jk⟩ hg.2 n4 oM0 hlo
    generalize riB p els lo ⟨s.vs,a.2.ts,[],a.2.jk⟩=d at d1 d2 ⊢
    have hm:=zt7 s.vs thn els
    generalize z0c s.vs [thn,els]=z03 at hm ⊢
    unfold zd1
    obtain ⟨r1,r2⟩:=y9c s.vs z03 d.2.ts c.2.ns d.2.jk 10 [c.1] [] [z5k 12 z03 a,z5k 12 z03 d]
    obtain ⟨w1,w2⟩:=yf6 12 z03 a
    obtain ⟨v1,v2⟩:=yf6 12 z03 d
    rw [yf0] at r1
    rw [y9e] at r2
    unfold twT at a1 d1 r1 ⊢
    simp only [z7f,Ah,Ax] at a1 d1 r1
    rw [show lsz []=0 from rfl] at a2 d2
    generalize (30+8*M)*cnL thn=Kt at a1 ⊢
    generalize (30+8*M)*cnL els=Ke at d1 ⊢
    exact ⟨by omega,by omega⟩
   by_cases h5:k=5
   ·subst h5
    rw [if_neg dC0,if_pos rfl,A0] at hg
    rw [if_neg dC0,if_pos rfl]
    obtain ⟨e,i1,i2,i3,i4⟩:=z9h hg.1
    rw [i2]
    have hm:=z7v s.vs thn
    generalize z0c s.vs [thn]=z03 at hm ⊢
    have hlo2:∀ q∈lo++[z03],q.length<=M:=λq hq=>by
     rcases Au.1 hq with h | h
     ·exact hlo q h
     ·rw [Ai.1 h];omega
    have hk:=kid_ts s z03
    have hl:=z3a (riOf s.vs z03) s.ts
    have hkn:(z1z s z03).ns=[]:=rfl
    rw [z6v] at hl
    split
    ·obtain ⟨a1,a2⟩:=hB thn oM0 b true (lo++[z03]) (z1z s z03) hg.2 n3 oM0 hlo2
     generalize riB p thn (lo++[z03]) (z1z s z03)=a at a1 a2 ⊢
     unfold y51
     obtain ⟨r1,r2⟩:=y9c s.vs z03 a.2.ts s.ns (z03::a.2.jk) 11 (riOf s.vs z03) (z12 s.ts (riOf s.vs z03)).1 [z5k 13 z03 a]
     obtain ⟨w1,w2⟩:=yf6 13 z03 a
     rw [j3m,z6v] at r1
     rw [yy8] at r2
     unfold twT at a1 r1 ⊢
     rw [hkn,z7f] at a1
     rw [hkn,show lsz []=0 from rfl] at a2
     generalize (30+8*M)*cnL thn=Kt at a1 ⊢
     generalize (30+8*M)*cnL els=Ke
     exact ⟨by omega,by omega⟩
    ·obtain ⟨j1,j2⟩:=X_tw p (z1z s z03).vs e (zo9 n2 i1) ⟨(z1z s z03).ts,[]⟩
     generalize riX p (z1z s z03).vs e ⟨(z1z s z03).ts,[]⟩=c at j1 j2 ⊢
     dsimp only at j1 j2
     obtain ⟨a1,a2⟩:=hB thn oM0 b true (lo++[z03]) ⟨(z1z s z03).vs,c.2.ts,[],s.jk.tail⟩ hg.2 n3 oM0 hlo2
     generalize riB p thn (lo++[z03]) ⟨(z1z s z03).vs,c.2.ts,[],s.jk.tail⟩=a at a1 a2 ⊢
     unfold y52
     obtain ⟨r1,r2⟩:=y9c s.vs z03 a.2.ts s.ns (z03::a.2.jk) 11 (riOf s.vs z03) (z12 s.ts (riOf s.vs z03)).1 [z93 z03 (z1z s z03).vs c a]
     obtain ⟨w1,w2⟩:=yf6 13 z03 a
     have hq:z18 (z93 z03 (z1z s z03).vs c a)=z18 c.2.ns+5+z18 (z5k 13 z03 a)+z03.length/\lsz (z93 z03 (z1z s z03).vs c a)=lsz c.2.ns+2+lsz (z5k 13 z03 a):=by
      unfold z93
      refine ⟨?_,?_⟩
      ·rw [z7e,z5x,yf0,(z1w ..).1,z6v,sz0,z7f];simp only [Ah,Ax];omega
      ·rw [y2y,zo7,y9e,(z1w ..).2,show lsz []=0 from rfl];omega
     rw [j3m,z6v,hq.1] at r1
     rw [yy8,hq.2] at r2
     unfold twT at a1 r1 ⊢
     simp only [z7f] at a1 j1
     rw [show lsz []=0 from rfl] at a2 j2
     generalize (30+8*M)*cnL thn=Kt at a1 ⊢
     generalize (30+8*M)*cnL els=Ke
     exact ⟨by omega,by omega⟩
   rw [if_neg h4,if_neg h5] at hg
   rw [if_neg h4,if_neg h5]
   have hlast:=zz3 hlo
   generalize (30+8*M)*cnL thn=Kt
   generalize (30+8*M)*cnL els=Ke
   unfold twT
   by_cases h6:k=6
   ·rw [if_pos h6]
    dsimp only
    rw [(z1w ..).1,(z1w ..).2,z6v,sz0]
    exact ⟨by omega,by omega⟩
   by_cases h7:k=7
   ·rw [if_neg h6,if_pos h7]
    dsimp only
    rw [(z1w ..).1,(z1w ..).2,z6v,sz0]
    exact ⟨by omega,by omega⟩
   rw [if_neg oM0] at hg
   rw [if_neg h6,if_neg h7]
   have hnm:k=3->nm.size<=20:=λh=>by
    subst h
    rw [Bk,Bk] at n1
    rcases n1 with (n1 | n1) | n1
    ·exact absurd n1 dC0
    ·exact absurd n1 dC0
    ·exact Ao n1
   by_cases h8:k=8
   ·subst h8
    rw [if_neg dC0,A0] at hg
    rw [if_pos rfl]
    obtain ⟨e,i1,i2,i3,i4⟩:=z9h hg.1
    rw [i2]
    obtain ⟨j1,j2⟩:=X_tw p s.vs e (zo9 n2 i1) ⟨s.ts,s.ns⟩
    dsimp only at j1 j2 ⊢
    rw [(z1w ..).1,(z1w ..).2,sz0]
    simp only [Ah,Ax]
    exact ⟨by omega,by omega⟩
   rw [if_neg h8]
   unfold zd2
   by_cases h3:k=3
   ·have hnm:=hnm h3
    subst h3
    rw [if_pos rfl] at hg
    obtain ⟨e,e2,i1,i2,i3,i4,i5,i6,i7⟩:=yx6 hg
    rw [if_neg dC0,if_pos rfl,i3,i4]
    obtain ⟨j1,j2⟩:=X_tw p s.vs e (zo9 n2 i1) ⟨s.ts,s.ns⟩
    obtain ⟨m1,m2⟩:=X_tw p s.vs e2 (zo9 n2 i2) (riX p s.vs e ⟨s.ts,s.ns⟩).2
    dsimp only at j1 j2 ⊢
    rw [(z1w ..).1,(z1w ..).2]
    simp only [Ah,Ax]
    exact ⟨by omega,by omega⟩
   rw [if_neg h3,A0] at hg
   obtain ⟨e,i1,i2,i3,i4⟩:=z9h hg.1
   rw [i2]
   obtain ⟨j1,j2⟩:=X_tw p s.vs e (zo9 n2 i1) ⟨s.ts,s.ns⟩
   dsimp only at j1 j2
   by_cases h12:k=1∨k=2
   ·rw [if_pos h12]
    dsimp only
    exact ⟨by omega,by omega⟩
   ·rw [if_neg h12,if_neg h3]
    split
    ·dsimp only
     rw [(z1w ..).1,(z1w ..).2,sz0]
     simp only [Ah,Ax]
     exact ⟨by omega,by omega⟩
    ·dsimp only
     exact ⟨by omega,by omega⟩
  ·match l with
   | []=>rw [riB];exact ⟨Bf _ _,Bf _ _⟩
   | x::r =>
    simp at hl
    rw [gB,A0] at hg
    rw [nxB,A0] at hn
    rw [cnL] at hc
    obtain ⟨a1,a2⟩:=hS x oM0 b lp lo s hg.1 hn.1 oM0 hlo
    rw [riB]
    simp only [cnL,szL]
    rw [Es (30+8*M) (cnS x) (cnL r)]
    generalize (30+8*M)*cnS x=Kx at a1 ⊢
    split
    ·exact ⟨by dsimp only;omega,by dsimp only;omega⟩
    ·obtain ⟨d1,d2⟩:=hB r oM0 _ lp lo (riS p x lo s).2 hg.2 hn.2 oM0 hlo
     exact ⟨by omega,by omega⟩
theorem gr_le (M:Nat):∀ N,(∀ x:St,SizeOf.sizeOf x<N->cnS x<=M->grS x<=8*sz x+(2+2*M)*cnS x)/\(∀ l:List St,SizeOf.sizeOf l<N->cnL l<=M->grL l<=8*szL l+(2+2*M)*cnL l)
 | 0=>⟨λ_ h=>absurd h (Ae _),λ_ h=>absurd h (Ae _)⟩
 | N+1=>by
  obtain ⟨hS,hB⟩:=gr_le M N
  refine ⟨λx hx hc=>?_,λl hl hc=>?_⟩
  ·obtain ⟨k,ty,nm,args,thn,els⟩:=x
   simp at hx
   rw [cnS] at hc
   have a:=hB thn oM0 oM0
   have b:=hB els oM0 oM0
   simp only [cnS,sz,grS]
   rw [show (2+2*M)*(1+cnL thn+cnL els)=(2+2*M)+(2+2*M)*cnL thn+(2+2*M)*cnL els by rw [Es,Es,Nat.mul_one]]
   generalize (2+2*M)*cnL thn=Kt at a ⊢
   generalize (2+2*M)*cnL els=Ke at b ⊢
   omega
  ·match l with
   | []=>exact A8 _
   | x::r =>
    simp at hl
    rw [cnL] at hc
    have a:=hS x oM0 oM0
    have b:=hB r oM0 oM0
    simp only [cnL,szL,grL]
    rw [Es (2+2*M) (cnS x) (cnL r)]
    generalize (2+2*M)*cnS x=Kt at a ⊢
    generalize (2+2*M)*cnL r=Ke at b ⊢
    omega
structure RnOk (q:Pg):Prop where
 pz:pz q.funcs<=300003
 ar:q.arrays.length<=300003
 cn:pcn q.funcs<=50000
 nmA:∀ a∈q.arrays,a.name.size<=20
 nmF:∀ f∈q.funcs,f.name.size<=20
 gB:∀ f∈q.funcs,gB q (!f.params.isEmpty) false f.body=true
 nx:∀ f∈q.funcs,nxB f.body=true
 nt:∀ f∈q.funcs,ntL maxLen f.body
theorem y4w {f:Fu}:∀ {l:List Fu},f∈l->cnL f.body<=pcn l
 | x::r,h=>by
  rw [pcn]
  rcases Ag.1 h with rfl | h
  ·omega
  ·have:=y4w h;omega
theorem pz_rn:∀ l:List Fu,pz (l.map rnF)=pz l/\pcn (l.map rnF)=pcn l
 | []=>⟨rfl,rfl⟩
 | f::r=>by
  obtain ⟨h1,h2⟩:=pz_rn r
  rw [B6,pz,pz,pcn,pcn,h1,h2]
  have e1:(rnF f).params.length=f.params.length:=z94 _ _ _
  have e2:szL (rnF f).body=szL f.body:=rn_sz _ _ _
  have e3:cnL (rnF f).body=cnL f.body:=rn_cn _ _ _
  rw [e1,e2,e3]
  exact ⟨rfl,rfl⟩
theorem rnOk {p:Pg} (h1:pz p.funcs+p.arrays.length<=300003) (h2:pcn p.funcs<=50000) (hr:rPg p=true) (hy:(z8s p).1=0):RnOk (rnP p):=by
 have hr':=hr
 unfold rPg at hr'
 rw [A0] at hr'
 obtain ⟨ha,hf⟩:=hr'
 have ha:=Bc.1 ha
 have hf:=Bc.1 hf
 have hF:∀ f∈p.funcs,z0i f.name=true/\rsL f.body 100=true:=λf h=>by
  have:=hf f h
  unfold rFu at this
  simp only [A0] at this
  exact ⟨this.1.1.1.1,this.1.2⟩
 obtain ⟨e1,e2⟩:=pz_rn p.funcs
 have sh0:Sh []:=λe he=>by cases he
 refine ⟨?_,?_,?_,λa h=>?_,λf h=>?_,rnF_gB hr hy,λf h=>?_,λf h=>?_⟩
 ·show pz (p.funcs.map rnF)<=_
  omega
 ·show p.arrays.length<=_
  omega
 ·show pcn (p.funcs.map rnF)<=_
  omega
 ·have:=ha a h
  simp only [A0] at this
  exact zj3 this.1.1
 all_goals obtain ⟨g,hg,rfl⟩:=Cc.1 (show f∈p.funcs.map rnF from h)
 ·exact zj3 (hF g hg).1
 ·exact (nxB_rn _).2 g.body (A5 _) _ _ ((nxB_of _).2 g.body (A5 _) 100 (hF g hg).2)
 ·have hpl:=zt3 hg
  have hcm:=y4w hg
  obtain ⟨s1,s2⟩:=j13 g.params [] 0 sh0 oM0
  refine (j01 (show 30<=maxLen by decide) _).2 _ (A5 _) ?_
  exact ((nt_rn _).2 g.body (A5 _) (rnPm g.params [] 0).2.1 (rnPm g.params [] 0).2.2 100 s1 oM0 (hF g hg).2).1
theorem riFun {q:Pg} (h:RnOk q) {f:Fu} (hf:f∈q.funcs):f.params.length<=1000000000/\scB q f.body [] (riT0 f.params) (riB q f.body [] (riT0 f.params)):=by
 have hpl:=zt3 hf
 have hcm:=y4w hf
 have h1:=h.pz
 have h2:=h.cn
 have h3:=zj5 q.funcs
 have h4:=h.ar
 have hg:=(gr_le 50000 _).2 f.body (A5 _) oM0
 have ht:(riT0 f.params).ts.length=f.params.length:=y0w f.params
 refine ⟨by omega,(yk4 q ⟨by omega,by omega⟩ _).2 f.body (A5 _) (!f.params.isEmpty) false [] (riT0 f.params) (h.gB f hf) (h.nt f hf) oM0 (yj1 f.params) ⟨by omega,?_,?_,(λl hl=>by cases hl),λe=>by cases e⟩⟩
 ·show 0+_<=_
  omega
 ·show 0+0+_<=_
  omega
theorem j0n {q:Pg} (h:RnOk q) {f:Fu} (hf:f∈q.funcs):(z7g q f).types.length+z18 (z7g q f).body<=f.params.length+27*szL f.body+400030*cnL f.body/\lsz (z7g q f).body<=4*szL f.body:=by
 have hcm:=y4w hf
 have h2:=h.cn
 obtain ⟨a,b⟩:=(ri_tw q 50000 _).2 f.body (A5 _) (!f.params.isEmpty) false [] (riT0 f.params) (h.gB f hf) (h.nx f hf) oM0 (λl hl=>by cases hl)
 have ht:twT (riT0 f.params)=f.params.length:=by
  unfold twT
  rw [show (riT0 f.params).ts.length=f.params.length from y0w f.params]
  rfl
 rw [ht] at a
 have hb:lsz (riT0 f.params).ns=0:=rfl
 rw [hb] at b
 unfold twT at a
 exact ⟨by simpa [z7g] using a,by simpa [z7g] using b⟩
theorem riUn_w {q:Pg} (h:RnOk q):z0g (riUn q)<=34000000000/\uSz (riUn q).flows<=4000000:=by
 have h1:=h.pz
 have h2:=h.cn
 have h4:=h.ar
 have key:∀ l:List Fu,(∀ f∈l,f∈q.funcs)->wtF (l.map (z7g q))+l.length<=27*pz l+400030*pcn l/\uSz (l.map (z7g q))<=4*pz l:=by
  intro l
  induction l with
  | nil=>intro _;exact ⟨Ab _,Ab _⟩
  | cons f r ih =>
   intro hm
   obtain ⟨i1,i2⟩:=ih λx hx=>hm x (.tail _ hx)
   have hf:=hm f (.head _)
   obtain ⟨a,b⟩:=j0n h hf
   have hn:=h.nmF f hf
   rw [B6,wtF,uSz,pz,pcn,Ah]
   have e:(z7g q f).name.size=f.name.size:=rfl
   rw [e,Es 400030]
   generalize 400030*cnL f.body=K1 at a ⊢
   generalize 400030*pcn r=K2 at i1 ⊢
   exact ⟨by omega,by omega⟩
 obtain ⟨k1,k2⟩:=key q.funcs λf h=>h
 have hA:∀ l:List Ar,(∀ a∈l,a.name.size<=20)->wtA l<=20*l.length:=by
  intro l
  induction l with
  | nil=>intro _;exact Ab _
  | cons a r ih =>
   intro hm
   have:=ih λx hx=>hm x (.tail _ hx)
   have:=hm a (.head _)
   rw [wtA,Ah]
   omega
 have hA:=hA q.arrays h.nmA
 have hm:400030*pcn q.funcs<=400030*50000:=Nat.mul_le_mul_left _ h2
 generalize 400030*pcn q.funcs=K at k1 hm
 unfold z0g
 have e1:(riUn q).arrays=q.arrays:=rfl
 have e2:(riUn q).flows=q.funcs.map (z7g q):=rfl
 rw [e1,e2,A4]
 have h3:=zj5 q.funcs
 exact ⟨by omega,by omega⟩
def riU (s:ByteArray):Un × Int:=yp8 (z2m s).1 (z4k (riUn (rnOf (z2m s).1).1)).1
theorem rn_ok (s:ByteArray) (h:(rnOf (z2m s).1).2=0):RnOk (rnOf (z2m s).1).1:=by
 unfold rnOf at h ⊢
 by_cases hy:(z8s (z2m s).1).1=0
 ·rw [if_pos hy]
  exact rnOk (y6i s) (yx7 s) (zs3 s) hy
 ·rw [if_neg hy] at h;exact absurd h dC0
theorem sc_Rise (s:ByteArray):SC Tryz.prog 7 [.pv (z2m s).1.enc] [] (λk=>k∈[]) (.tup [.pv (riU s).1.enc,iInt (riU s).2]) []:=by
 have hz:=y6i s
 refine sc_Rise0 (z2m s).1 (j18 (z2m s).1 oM0 oM0 (zs3 s)) ?_ (λh f hf=>riFun (rn_ok s h) hf) _ (z4k (riUn (rnOf (z2m s).1).1)).2 λh=>SC.anyR (y3o _ (Bm (riUn_w (rn_ok s h)).1 dC0))
 by_cases hy:(z8s (z2m s).1).1=0
 ·have h:(rnOf (z2m s).1).2=0:=by unfold rnOf;rw [if_pos hy]
  have:=(rn_ok s h).pz
  have:=zj5 (rnOf (z2m s).1).1.funcs
  omega
 ·unfold rnOf;rw [if_neg hy];exact A8 _
theorem un0_w:z0g un0<=34000000000/\uSz un0.flows<=4000000:=⟨by decide,by decide⟩
theorem riU_w (s:ByteArray):z0g (riU s).1<=34000000000/\uSz (riU s).1.flows<=4000000:=by
 unfold riU yp8
 split
 ·rename_i h
  split
  ·exact riUn_w (rn_ok s h)
  ·exact un0_w
 ·exact un0_w
theorem riU_ar (s:ByteArray):(riU s).1.arrays.length<=(z2m s).1.arrays.length:=by
 unfold riU yp8
 split
 ·rename_i h
  have e:(rnOf (z2m s).1).1.arrays=(z2m s).1.arrays:=by
   unfold rnOf at h ⊢
   by_cases hy:(z8s (z2m s).1).1=0
   ·rw [if_pos hy];rfl
   ·rw [if_neg hy] at h;exact absurd h dC0
  split
  ·show (rnOf (z2m s).1).1.arrays.length<=_
   rw [e];exact Ab _
  ·exact A8 _
 ·exact A8 _
section
variable {T:List Tk}
theorem y9l {w:ByteArray} {s:Ps} (h:(z0l T w s).over=false):(z0l T w s).at_=s.at_+1/\s.over=false:=by
 unfold z0l at h ⊢
 split at h
 ·rename_i c;rw [if_pos c];exact ⟨rfl,(z4e c).1⟩
 ·rename_i c
  rw [if_neg c]
  split at h
  ·rename_i d;simp [Ps.over,d] at h
  ·simp [Ps.over,Ps.setBad] at h
theorem j2v {k:Int} {s:Ps} (h:(z0j T k s).2.over=false):(z0j T k s).2.at_=s.at_+1/\s.over=false:=by
 unfold z0j at h ⊢
 split at h
 ·rename_i c;rw [c] at h;cases h
 ·rename_i c
  rw [if_neg c]
  split at h
  ·rename_i d;rw [if_pos d];exact ⟨rfl,by simpa using c⟩
  ·simp [Ps.over,Ps.setBad] at h
theorem typed_eq {s:Ps} (h:(z0p T s).2.over=false):(z0p T s).2.at_=s.at_+1/\s.over=false:=by
 unfold z0p at h ⊢
 split at h
 ·rename_i c;rw [if_pos c];exact ⟨rfl,(z4e c).1⟩
 ·rename_i c
  rw [if_neg c]
  exact y9l h
theorem y6g:∀ N p s,p.funcs≠[]->(z3t T N p s).1.arrays=p.arrays
 | 0,_,_,_=>rfl
 | N+1,p,s,h=>by
  unfold z3t
  split
  ·rfl
  split
  ·rename_i c2
   unfold qArr at c2
   simp only [A0,As] at c2
   exact absurd (At c2.1.2) h
  ·exact y6g N _ _ sI0
theorem ps_eq {s:Ps} (h:s.over=false):s=⟨s.at_,false,false⟩:=by
 obtain ⟨a,b,d⟩:=s
 unfold Ps.over at h
 simp only [Bt] at h
 obtain ⟨rfl,rfl⟩:=h
 rfl
theorem arr_le:∀ (k N:Nat) (p:Pg) (s:Ps),pIs T sSo ⟨s.at_+6*k+2,false,false⟩=false->(z3t T N p s).1.arrays.length<=p.arrays.length+k
 | _,0,p,s,_=>Bf _ _
 | k,N+1,p,s,h=>by
  unfold z3t
  split
  ·exact Bf _ _
  split
  ·rename_i c2
   have hc:pIs T sSo (z0j T 1 (z0p T s).2).2=true:=by unfold qArr at c2;simp only [A0] at c2;exact c2.2
   have ho:=(z4e hc).1
   obtain ⟨a1,o1⟩:=j2v ho
   obtain ⟨a2,o2⟩:=typed_eq o1
   match k,h with
   | 0,h =>
    rw [ps_eq ho,a1,a2] at hc
    rw [show s.at_+6*0+2=s.at_+1+1 by omega] at h
    rw [h] at hc
    cases hc
   | k+1,h =>
    cases hs:(z0l T z56 (z0l T sSc (z0j T 0 (z0j T 1 (z0p T s).2).2.next).2)).over with
    | true =>
     cases N with
     | zero=>rw [z3t];simp
     | succ N=>rw [z3t,if_pos (by rw [hs];rfl)];simp
    | false =>
     obtain ⟨a3,o3⟩:=y9l hs
     obtain ⟨a4,o4⟩:=y9l o3
     obtain ⟨a5,o5⟩:=j2v o4
     have:=arr_le k N ⟨p.arrays++[⟨(z0j T 1 (z0p T s).2).1,zf2 (z0j T 0 (z0j T 1 (z0p T s).2).2.next).1⟩],p.funcs⟩ (z0l T z56 (z0l T sSc (z0j T 0 (z0j T 1 (z0p T s).2).2.next).2)) (by
      rw [a3,a4,a5,z0k,a1,a2,show s.at_+1+1+1+1+1+1+6*k+2=s.at_+6*(k+1)+2 by omega]
      exact h)
     rw [Az] at this
     simp only [Ah,Ax] at this
     omega
  ·rw [y6g N _ _ sI0]
   exact Bf _ _
theorem yn4 (s:ByteArray) (k:Nat) (h:pIs (z1q s).1 sSo ⟨6*k+2,false,false⟩=false):(z2m s).1.arrays.length<=k:=by
 unfold z2m
 split
 ·split
  ·exact A8 _
  ·split
   ·exact A8 _
   ·split
    ·have:=arr_le k (big (z1q s).1) ⟨[],[]⟩ ⟨0,false,false⟩ (by simpa using h)
     unfold z8x
     simpa using this
    ·exact A8 _
 ·exact A8 _
theorem y5t (s:ByteArray):∀ (N line a:Nat) (out:List Tk),(toks s N line a out).1=[]∨∃ r,(toks s N line a out).1=out++r
 | 0,_,_,_=>.inl rfl
 | N+1,line,a,out=>by
  unfold toks
  split
  ·exact .inr ⟨_,rfl⟩
  ·split
   ·exact y5t s N _ _ out
   ·rename_i t a2 _
    rcases y5t s N line a2 (out++[t]) with h | ⟨r,h⟩
    ·exact .inl h
    ·exact .inr ⟨t::r,by rw [h,C8];rfl⟩
   ·exact .inl rfl
def pxOk (P:ByteArray) (a:Nat):Bool:=decide (a+3<=P.size)&&decide (a+z45 P a<P.size)&&P.data.toList[a]? != some 47
def px (P:ByteArray):Nat->Nat->Nat->List Tk->Option (Nat × Nat × List Tk)
 | 0,line,a,out=>some (line,a,out)
 | k+1,line,a,out=>if pxOk P a then (match P.data.toList[a]? with
  | some b=>(match zr4 P line a b with
   | .skip l2 a2=>px P k l2 a2 out
   | .tok t a2=>px P k line a2 (out++[t])
   | .bad _=>none)
  | none=>none) else none
variable {P R:ByteArray} {a:Nat}
theorem yf7:(P++R).data.toList=P.data.toList++R.data.toList:=by rw [Et,Dl]
theorem yh0 (s:ByteArray):s.data.toList.length=s.size:=Bq
theorem bget_app (h:a<P.size):(P++R).data.toList[a]? = P.data.toList[a]?:=by rw [yf7,Ap (by rw [yh0];exact h)]
theorem run_app (h:a+z45 P a<P.size):z45 (P++R) a=z45 P a:=by
 unfold z45 at h ⊢
 have hl:=yh0 P
 rw [yf7,List.drop_append_of_le_length oM0,List.takeWhile_append,if_neg]
 rw [Ei]
 omega
theorem yw7 {n:Nat} (h:a+n<=P.size):(P++R).extract a (a+n)=P.extract a (a+n):=by
 apply G8
 rw [Dr,Dr,Et,Array.extract_append]
 have:a+n - P.data.size=0:=by have:P.data.size=P.size:=rfl;omega
 rw [this]
 simp
theorem yw8 (s:ByteArray) (a n:Nat) (h:a+n<=s.size):(s.extract a s.size).extract 0 n=s.extract a (a+n):=by
 apply G8
 rw [Dr,Dr,Dr,Array.extract_extract]
 rw [Cf,Db h]
theorem yl2:(P++R).size=P.size+R.size:=D8
theorem sgIs_app {w:ByteArray} (h:a+3<=P.size) (hw:w.size<=3):sgIs ((P++R).extract a (P++R).size) w=sgIs (P.extract a P.size) w:=by
 unfold sgIs
 have h2:=@yl2 P R
 rw [yw8 _ _ _ oM0,yw8 _ _ _ oM0,yw7 oM0,Ch,Ch]
 rw [show decide (w.size<=min (P++R).size (P++R).size - a)=true from C4 oM0,show decide (w.size<=min P.size P.size - a)=true from C4 oM0]
theorem yl1 (h:a+3<=P.size):∀ l:List ByteArray,(∀ w∈l,w.size<=3)->sgGo ((P++R).extract a (P++R).size) l=sgGo (P.extract a P.size) l
 | [],_=>rfl
 | w::r,hw=>by
  simp only [sgGo]
  rw [sgIs_app h (hw w (.head _)),yl1 h r λx hx=>hw x (.tail _ hx)]
theorem sgOf_app (h:a+3<=P.size):sgOf ((P++R).extract a (P++R).size)=sgOf (P.extract a P.size):=yl1 h sgL dC0
theorem j2s (h:pxOk P a=true) (line:Nat) {b:UInt8} (hb:P.data.toList[a]? = some b):zr4 (P++R) line a b=zr4 P line a b:=by
 unfold pxOk at h
 simp only [A0,Be,bne_iff_ne] at h
 obtain ⟨⟨h1,h2⟩,h3⟩:=h
 have h4:b≠47:=λe=>h3 (by rw [hb,e])
 unfold zr4
 rw [run_app h2,yw7 oM0,sgOf_app h1]
 simp only [h4,false_and,Bv]
theorem ya1 (N:Nat):∀ (k line a:Nat) (out:List Tk) {l2 a2:Nat} {o2:List Tk},px P k line a out=some (l2,a2,o2)->toks (P++R) (N+k) line a out=toks (P++R) N l2 a2 o2
 | 0,line,a,out,l2,a2,o2,h=>by cases h;rfl
 | k+1,line,a,out,l2,a2,o2,h=>by
  unfold px at h
  split at h
  ·rename_i hk
   have h1:a+3<=P.size:=by
    have:=hk
    unfold pxOk at this
    simp only [A0,Be] at this
    exact this.1.1
   rw [show N+(k+1)=(N+k)+1 from rfl]
   conv=>lhs;unfold toks
   rw [bget_app oM0]
   split at h
   ·rename_i b hb
    rw [hb]
    dsimp only
    rw [j2s hk line hb]
    split at h
    ·rename_i h5;rw [h5];exact ya1 N k _ _ _ h
    ·rename_i h5;rw [h5];exact ya1 N k _ _ _ h
    ·cases h
   ·cases h
  ·cases h
theorem px_is {k l2 a2 i:Nat} {o2:List Tk} (h:px P k 1 0 []=some (l2,a2,o2)) (hk:k<=P.size) (hi:i<o2.length) (hq:pIs o2 sSo ⟨i,false,false⟩=false):pIs (z1q (P++R)).1 sSo ⟨i,false,false⟩=false:=by
 unfold z1q
 have e:pIs ([]:List Tk) sSo ⟨i,false,false⟩=false:=by
  unfold pIs tkAt
  simp
 split
 ·exact e
 ·have hs:=@yl2 P R
  obtain ⟨N,hN⟩:∃ N,(P++R).size+1=N+k:=⟨(P++R).size+1 - k,by omega⟩
  rw [hN,ya1 N k 1 0 [] h]
  rcases y5t (P++R) N l2 a2 o2 with h1 | ⟨r,h1⟩
  ·rw [h1];exact e
  ·rw [h1]
   have:tkAt (o2++r) ⟨i,false,false⟩=tkAt o2 ⟨i,false,false⟩:=by
    unfold tkAt
    rw [Ay,Ay,Ap hi]
   unfold pIs at hq ⊢
   rw [this]
   exact hq
theorem yf9 (t:List ByteArray):∀ (l:List UInt8) (s:ByteArray),∃ R,l.foldl (zy7 t) s=s++R
 | [],s=>⟨⟨#[]⟩,by apply G8;rw [Et];simp⟩
 | b::r,s=>by
  obtain ⟨R,h⟩:=yf9 t r (zy7 t s b)
  refine ⟨t.getD (b.toNat % t.length) s_++sNl++R,?_⟩
  rw [Dm,h]
  unfold zy7
  simp only [ByteArray.append_assoc]
def famPx:Option (Nat × Nat × List Tk):=px fam0 12 1 0 []
theorem famPx_ok:∃ l a o,famPx=some (l,a,o)/\8<o.length/\pIs o sSo ⟨8,false,false⟩=false:=by
 have h:(famPx.map λq=>decide (8<q.2.2.length) && !pIs q.2.2 sSo ⟨8,false,false⟩)=some true:=by decide +kernel
 cases hp:famPx with
 | none=>rw [hp] at h;cases h
 | some q =>
  rw [hp] at h
  simp only [D5,Cm,A0,Be,Bg] at h
  exact ⟨_,_,_,rfl,h.1,h.2⟩
theorem fam_arr (k:Int) (l:List UInt8):(z2m (famT k l)).1.arrays.length<=1:=by
 refine yn4 _ 1 ?_
 obtain ⟨R,hR⟩:=yf9 (z2k k) (l.take 10) fam0
 have e:famT k l=fam0++(R++famE):=by
  unfold famT famS
  rw [hR,ByteArray.append_assoc]
 rw [e]
 obtain ⟨l2,a2,o2,h1,h2,h3⟩:=famPx_ok
 exact px_is h1 (by decide +kernel) h2 h3
end
theorem y99 {u:Un} (hz:(z1g u).1=0):y2k (z3n u)=true:=by have:=y0y u;rw [z7r hz] at this;exact this
theorem i64_two {n:Int} (hn:0<=n/\n<=255):z3d .mul .i64 2 (IntKind.i64.wrap n)=some (.int .i64 (2*n)):=by
 have hw:IntKind.i64.wrap n=n:=Cv n oM0
 rw [hw]
 exact y4c rfl oM0
theorem y27 (l:List UInt8) (ins:List Int) (n:Int) (hn:0<=n/\n<=255):SC Tryz.prog 5 [.pv (bts l),.pv (ints ins),.pv (.val (.int .u8 n))] [] (λk=>k∈[]) (iBool true) []:=by
 refine SC.vc tb { gh:=[(0,[.len 0])] } [] Tryz.func5 rfl rfl ?_
 intro hl
 simp only [A4] at hl
 have hl:l.length<=9223372036854775807:=hl
 have hT:=riU_w (famT 1 l)
 have hA:=Bm (riU_ar (famT 1 l)) (fam_arr 1 l)
 have hF:=j17 1 dC0 dC0 l hl
 have hR:=sc_Rise (famT 1 l)
 generalize riU (famT 1 l)=q at hT hA hR
 obtain ⟨u,e⟩:=q
 dsimp only at hT hA hR
 have hC:=zq3 u hT.1
 have hH:=y58 u hT.1 zz6
 have hg:=@z7r u
 have hx:=@zf5 u
 have hrel:=@yy3 u
 have hri:=@y99 u
 have hB:=λ(hz:(z1g u).1=0)=>ya6 (hrel hz) hA hT.1 (by rw [y5y];exact hT.1) hz (by rw [hx hz]) hT.2 (ins.take 10) (2*n) ⟨by omega,by omega⟩
 have hRt:=yk7 (z3n u) (by rw [y5y];exact hT.1)
 refine ⟨[],sc_awake,sR,Gc,rfl,[],hF,sR,Gc,rfl,[],hR,sR,Gc,rfl,[],hC,sR,Gc,rfl,z00 (λh1=>?_) λh1=>z00 (λh2=>?_) λh2=>?_⟩
 ·exact ⟨sI,Gc⟩
 ·exact ⟨sI,Gc⟩
 ·have hz:(z1g u).1=0:=by simpa using h2
  rw [hg hz] at hH
  rw [hri hz] at hRt
  exact ⟨[],hH,sR,Gc,rfl,[],hRt,sR,Gc,rfl,[],sc_ins ins,sR,Gc,rfl,i64_two hn,[],hB hz,sR,Gc,rfl,sI,Gc⟩
end Go.Proofs.YtcnjamphfjnflaaGreatDoor
