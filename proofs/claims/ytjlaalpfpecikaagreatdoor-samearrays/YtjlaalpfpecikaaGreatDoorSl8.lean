/- PART 8 of 9 of a proof: see the last part. -/
import Derived.Test.YtjlaalpfpecikaaGreatDoorSl7
set_option maxRecDepth 20000
set_option maxHeartbeats 8000000
set_option linter.unusedSimpArgs false
set_option linter.unusedVariables false
set_option linter.unusedSectionVars false
namespace Go.Proofs.YtjlaalpfpecikaaGreatDoor
open Go
mutual
def ntS(n:Nat):St->Prop
 |.mk _ _ nm _ thn els=>nm.size<=n/\ntL n thn/\ntL n els
def ntL(n:Nat):List St->Prop
 |[]=>True
 |x::r=>ntS n x/\ntL n r
end
theorem ntS_eq{n:Nat}{x:St}:ntS n x↔x.name.size<=n/\ntL n x.thn/\ntL n x.els:=by cases x;rw[ntS];exact Iff.rfl
theorem zz2(vs:List (Value×PV))(n:Nat):∀(N:Nat)(l:List St),SizeOf.sizeOf l<N->ntL n l->∀out:List (Value×PV),(∀e∈out,(z78 e.1).size<=n)->∀e∈z4o vs l out,(z78 e.1).size<=n
 |0,_,h,_,_,_=>absurd h (Ai _)
 |N+1,[],_,_,out,h=>by rw[z4o];exact h
 |N+1,x::r,hN,hm,out,h=>by
  have hx:=zs9 x;simp at hN;rw[ntL,ntS_eq]at hm;rw[z4o,zd5];refine zz2 vs n N r oM0 hm.2 _ (zz2 vs n N x.els oM0 hm.1.2.2 _ (zz2 vs n N x.thn oM0 hm.1.2.1 _ ?_));split
  ·intro e he;rcases z56 he with rfl|he
   ·exact hm.1.1
   ·exact h e he
  ·exact h
theorem yn0(vs:List (Value×PV))(n:Nat)(ls:List (List St))(hm:∀l∈ls,ntL n l):∀e∈z8o vs ls,(z78 e.1).size<=n:=by
 suffices ∀(ls:List (List St)) (_:∀l∈ls,ntL n l) (o:List (Value×PV)),(∀e∈o,(z78 e.1).size<=n)->∀e∈ls.foldl (λo l=>z4o vs l o) o,(z78 e.1).size<=n from this ls hm [] λe he=>by cases he
 intro ls
 induction ls with
 |nil=>exact λ_ o h=>h
 |cons l r ih=>exact λhm o h=>ih (λq hq=>hm q (.tail _ hq)) _ (zz2 vs n _ l (A7 _) (hm l (.head _)) o h)
theorem cn_le:∀N,(∀x:St,SizeOf.sizeOf x<N->cnS x<=sz x)/\(∀l:List St,SizeOf.sizeOf l<N->cnL l<=szL l)
 |0=>⟨λ_ h=>absurd h (Ai _),λ_ h=>absurd h (Ai _)⟩
 |N+1=>by
  obtain⟨h1,h2⟩:=cn_le N;refine⟨λx hx=>?_,λl hl=>?_⟩
  ·obtain⟨k,ty,nm,args,thn,els⟩:=x;simp at hx;have:=h2 thn oM0;have:=h2 els oM0;rw[cnS,sz];omega
  ·match l with
   |[]=>rw[cnL];omega
   |x::r =>
    simp at hl;have:=h1 x oM0;have:=h2 r oM0;rw[cnL,szL];omega
theorem j0d(l:List St):cnL l<=szL l:=(cn_le _).2 l (A7 _)
structure RiB(lp:Bool)(lo:List (List ByteArray))(s:RiT)(n g:Nat):Prop where
 ts:s.ts.length+g<=32000000000
 ns:s.ns.length+g<=32000000000
 jk:lo.length+s.jk.length+n<=1000000000
 lens:∀l∈lo,l.length<=1000000000
 inl:lp=true->lo≠[]
theorem nmOk1{vs:List (Value×PV)}{n:Nat}{b:Bool}(h:RiI vs n b){l:List St}(hs:szL l<=100000000)(hm:ntL maxLen l):NmOk vs [l] n :=
 ⟨λq hq=>by rw[Ag.1 hq];omega,yn0 vs maxLen [l] λq hq=>by rw[Ag.1 hq];exact hm,by have:=y3s vs l;have:=j0d l;omega,y3r h [l]⟩
theorem nmOk2{vs:List (Value×PV)}{n:Nat}{b:Bool}(h:RiI vs n b){l m:List St}(hs:szL l<=100000000)(hs2:szL m<=100000000)(hm:ntL maxLen l)(hm2:ntL maxLen m):NmOk vs [l,m] n :=
 ⟨λq hq=>by
  simp only[Am,C5,Gb]at hq;rcases hq with rfl|rfl<;>omega,yn0 vs maxLen [l,m] λq hq=>by
  simp only[Am,C5,Gb]at hq;rcases hq with rfl|rfl<;>assumption,by have:=y3t vs l m;have:=j0d l;have:=j0d m;omega,y3r h [l,m]⟩
theorem y0h{lo:List (List ByteArray)}{n:Nat}(h:∀l∈lo,l.length<=n):(lo.getLastD []).length<=n:=by
 rw[List.getLastD_eq_getLast?]
 cases hl:lo.getLast? with
 |none=>simp
 |some q=>exact h q (List.mem_of_getLast? hl)
def ihB(p:Pg)(l:List St):Prop:=∀b lp lo s,gB p b lp l=true->ntL maxLen l->szL l<=100000000->RiI s.vs s.ts.length b->RiB lp lo s (cnL l) (grL l)->scB p l lo s (riB p l lo s)
theorem resB(p:Pg)(l:List St)(b lp:Bool)(lo:List (List ByteArray))(s:RiT)(hg:gB p b lp l=true)(hI:RiI s.vs s.ts.length b):RiR b s (riB p l lo s).2 (cnL l) (grL l):=(j2h p _).2 l (A7 _) b lp lo s hg hI
theorem sc_ri4(p:Pg)(hp:szP p)(ty:Int)(nm:ByteArray)(args:List Ex)(thn els:List St)(hT:ihB p thn)(hE:ihB p els)(b lp:Bool)(lo:List (List ByteArray))(s:RiT)(hg:gS p b lp (.mk 4 ty nm args thn els)=true)(hm:ntS maxLen (.mk 4 ty nm args thn els))(hz:sz (.mk 4 ty nm args thn els)<=100000000)(hI:RiI s.vs s.ts.length b)(hb:RiB lp lo s (cnS (.mk 4 ty nm args thn els)) (grS (.mk 4 ty nm args thn els))):scS p (.mk 4 ty nm args thn els) lo s (riS p (.mk 4 ty nm args thn els) lo s):=by
 rw[gS,if_pos rfl,A0,A0]at hg;rw[ntS]at hm;rw[sz]at hz;obtain⟨b1,b2,b3,b4,b5⟩:=hb;rw[grS]at b1 b2;rw[cnS]at b3;rw[riS,if_pos rfl];obtain⟨e,i1,i2,i3,i4⟩:=zb1 hg.1.1;rw[i2];obtain⟨j1,j2,j3⟩:=z5s p s.vs e ⟨s.ts,s.ns⟩;have hX:=yo7 p hp ⟨lo,s.jk⟩ s.vs hI.cnt _ e (A7 _) oM0 i3 ⟨s.ts,s.ns⟩ (by dsimp only;omega) (by dsimp only;omega);generalize riX p s.vs e ⟨s.ts,s.ns⟩=c at hX j1 j2 j3⊢;dsimp only at j1 j2 j3;have q1:=hI.mono j1;have hA:=hT b lp lo ⟨s.vs,c.2.ts,[],s.jk⟩ hg.1.2 hm.2.1 oM0 q1 ⟨by dsimp only;omega,by simp;omega,by dsimp only;omega,b4,b5⟩;have rA:=resB p thn b lp lo ⟨s.vs,c.2.ts,[],s.jk⟩ hg.1.2 q1;generalize riB p thn lo ⟨s.vs,c.2.ts,[],s.jk⟩=a at hA rA⊢;obtain⟨a1,a2,a3,a4,a5⟩:=rA;simp only[Az,Bu]at a2 a3 a4 a5;have q2:=hI.mono (Bi j1 a2);have hD:=hE b lp lo ⟨s.vs,a.2.ts,[],a.2.jk⟩ hg.2 hm.2.2 oM0 q2 ⟨by dsimp only;omega,by simp;omega,by dsimp only;omega,b4,b5⟩;have rE:=resB p els b lp lo ⟨s.vs,a.2.ts,[],a.2.jk⟩ hg.2 q2;generalize riB p els lo ⟨s.vs,a.2.ts,[],a.2.jk⟩=d at hD rE⊢;obtain⟨d1,d2,d3,d4,d5⟩:=rE;simp only[Az,Bu]at d2 d3 d4 d5;have hN:=nmOk2 (hI.mono (show s.ts.length<=d.2.ts.length by omega)) (l:=thn) (m:=els) oM0 oM0 hm.2.1 hm.2.2;have z1:a.2.ns.length<=34000000000:=by omega
 have z2:d.2.ns.length<=34000000000:=by omega
 have z3:c.2.ns.length<=34000000000:=by omega
 have z4:d.2.ts.length<=33000000000:=by omega
 exact yw1 p ty nm args thn els lo s _ (ye9 p (.mk 4 ty nm args thn els) lo s hI.cnt e i1 c hX a d hA hD a1.cnt d1.cnt z1 z2 hN z3 z4)
theorem yk7(lo:List (List ByteArray))(z03:List ByteArray):(lo++[z03]).length=lo.length+1:=by simp
theorem yk9{lo:List (List ByteArray)}{z03:List ByteArray}(h:∀l∈lo,l.length<=1000000000)(hn:z03.length<=1000000000):∀l∈lo++[z03],l.length<=1000000000:=λl hl=>by
 rcases Aw.1 hl with g|g
 ·exact h l g
 ·rw[Ag.1 g];exact hn
theorem sc_ri5t(p:Pg)(ty:Int)(nm:ByteArray)(args:List Ex)(thn els:List St)(hT:ihB p thn)(b lp:Bool)(lo:List (List ByteArray))(s:RiT)(hg:gS p b lp (.mk 5 ty nm args thn els)=true)(hm:ntS maxLen (.mk 5 ty nm args thn els))(hz:sz (.mk 5 ty nm args thn els)<=100000000)(hI:RiI s.vs s.ts.length b)(hb:RiB lp lo s (cnS (.mk 5 ty nm args thn els)) (grS (.mk 5 ty nm args thn els)))(ht:zd7 (args.getD 0 ex0)=true):scS p (.mk 5 ty nm args thn els) lo s (riS p (.mk 5 ty nm args thn els) lo s):=by
 rw[gS,if_neg dC0,if_pos rfl,A0]at hg;rw[ntS]at hm;rw[sz]at hz;obtain⟨b1,b2,b3,b4,b5⟩:=hb;rw[grS]at b1 b2;rw[cnS]at b3;rw[riS,if_neg dC0,if_pos rfl,if_pos ht];obtain⟨e,i1,i2,i3,i4⟩:=zb1 hg.1;rw[i2]at ht;have hn:=z89 s.vs thn;have hO:=nmOk1 hI (l:=thn) oM0 hm.2.1;have htl:s.jk.tail.length<=s.jk.length:=by simp
 refine y45 p ty nm args thn els lo s _ ?_;obtain⟨k1,k2⟩:=y18 hI (z0b s.vs [thn]);have kn:(z2a s (z0b s.vs [thn])).ns.length=0:=rfl;have kj:(z2a s (z0b s.vs [thn])).jk.length=s.jk.tail.length:=rfl;have hA:=hT b true (lo++[z0b s.vs [thn]]) (z2a s (z0b s.vs [thn])) hg.2 hm.2.1 oM0 k1 ⟨by omega,by omega,by rw[yk7];omega,yk9 b4 oM0,λ_=>by simp⟩;have rA:=resB p thn b true (lo++[z0b s.vs [thn]]) (z2a s (z0b s.vs [thn])) hg.2 k1;generalize riB p thn (lo++[z0b s.vs [thn]]) (z2a s (z0b s.vs [thn]))=a at hA rA⊢;obtain⟨a1,a2,a3,a4,a5⟩:=rA;have z1:(z0b s.vs [thn]).length<=34359738368:=by omega
 have z2:a.2.ns.length<=34000000000:=by omega
 have hRd:=yf1 p (.mk 5 ty nm args thn els) (z0b s.vs [thn]) (lo++[z0b s.vs [thn]]) (z2a s (z0b s.vs [thn])) e i1 ht a hA a1.cnt z1 z2;have y1:s.ts.length<=33000000000:=by omega
 have y2:s.ns.length<=34000000000:=by omega
 have y3:s.ts.length<=a.2.ts.length:=by omega
 have y4:a.2.ts.length<=33000000000:=by omega
 have y5:lo.length<=1000000000:=by omega
 have y6:s.jk.length<=1000000000:=by omega
 unfold y5r;exact y8o p (.mk 5 ty nm args thn els) lo s hI.cnt ⟨a.2.vs,a.2.ts,z5b 13 (z0b s.vs [thn]) a,a.2.jk⟩ hRd hO y1 y2 y3 y4 y5 y6
theorem sc_ri5f(p:Pg)(hp:szP p)(ty:Int)(nm:ByteArray)(args:List Ex)(thn els:List St)(hT:ihB p thn)(b lp:Bool)(lo:List (List ByteArray))(s:RiT)(hg:gS p b lp (.mk 5 ty nm args thn els)=true)(hm:ntS maxLen (.mk 5 ty nm args thn els))(hz:sz (.mk 5 ty nm args thn els)<=100000000)(hI:RiI s.vs s.ts.length b)(hb:RiB lp lo s (cnS (.mk 5 ty nm args thn els)) (grS (.mk 5 ty nm args thn els)))(ht:zd7 (args.getD 0 ex0)=false):scS p (.mk 5 ty nm args thn els) lo s (riS p (.mk 5 ty nm args thn els) lo s):=by
 rw[gS,if_neg dC0,if_pos rfl,A0]at hg;rw[ntS]at hm;rw[sz]at hz;obtain⟨b1,b2,b3,b4,b5⟩:=hb;rw[grS]at b1 b2;rw[cnS]at b3;rw[riS,if_neg dC0,if_pos rfl,if_neg (by rw[ht];decide)];obtain⟨e,i1,i2,i3,i4⟩:=zb1 hg.1;rw[i2]at ht⊢;have hn:=z89 s.vs thn;have hO:=nmOk1 hI (l:=thn) oM0 hm.2.1;have htl:s.jk.tail.length<=s.jk.length:=by simp
 refine y45 p ty nm args thn els lo s _ ?_;obtain⟨k1,k2⟩:=y18 hI (z0b s.vs [thn]);obtain⟨j1,j2,j3⟩:=z5s p (z2a s (z0b s.vs [thn])).vs e ⟨(z2a s (z0b s.vs [thn])).ts,[]⟩;have hX:=yo7 p hp ⟨lo++[z0b s.vs [thn]],s.jk.tail⟩ (z2a s (z0b s.vs [thn])).vs k1.cnt _ e (A7 _) oM0 i3 ⟨(z2a s (z0b s.vs [thn])).ts,[]⟩ (by dsimp only;omega) (by simp;omega);generalize riX p (z2a s (z0b s.vs [thn])).vs e ⟨(z2a s (z0b s.vs [thn])).ts,[]⟩=c at hX j1 j2 j3⊢;simp only[Az,Bu]at j1 j2 j3;have q1:=k1.mono j1;have hA:=hT b true (lo++[z0b s.vs [thn]]) ⟨(z2a s (z0b s.vs [thn])).vs,c.2.ts,[],s.jk.tail⟩ hg.2 hm.2.1 oM0 q1 ⟨by dsimp only;omega,by simp only[Az];omega,by rw[yk7];dsimp only;omega,yk9 b4 oM0,λ_=>by simp⟩;have rA:=resB p thn b true (lo++[z0b s.vs [thn]]) ⟨(z2a s (z0b s.vs [thn])).vs,c.2.ts,[],s.jk.tail⟩ hg.2 q1;generalize riB p thn (lo++[z0b s.vs [thn]]) ⟨(z2a s (z0b s.vs [thn])).vs,c.2.ts,[],s.jk.tail⟩=a at hA rA⊢;obtain⟨a1,a2,a3,a4,a5⟩:=rA;simp only[Az,Bu]at a2 a3 a4 a5;have z1:(z0b s.vs [thn]).length<=34359738368:=by omega
 have z2:a.2.ns.length<=34000000000:=by omega
 have z3:c.2.ns.length<=34000000000:=by omega
 have hRd:=yf2 p (.mk 5 ty nm args thn els) (z0b s.vs [thn]) (lo++[z0b s.vs [thn]]) (z2a s (z0b s.vs [thn])) k1.cnt e i1 ht c hX a hA a1.cnt z1 z2 z3;have y1:s.ts.length<=33000000000:=by omega
 have y2:s.ns.length<=34000000000:=by omega
 have y3:s.ts.length<=a.2.ts.length:=by omega
 have y4:a.2.ts.length<=33000000000:=by omega
 have y5:lo.length<=1000000000:=by omega
 have y6:s.jk.length<=1000000000:=by omega
 unfold y5s;exact y8o p (.mk 5 ty nm args thn els) lo s hI.cnt ⟨(z2a s (z0b s.vs [thn])).vs,a.2.ts,z8p (z0b s.vs [thn]) (z2a s (z0b s.vs [thn])).vs c a,a.2.jk⟩ hRd hO y1 y2 y3 y4 y5 y6
theorem yo5(p:Pg)(hp:szP p):∀N,(∀x:St,SizeOf.sizeOf x<N->∀b lp lo s,gS p b lp x=true->ntS maxLen x->sz x<=100000000->RiI s.vs s.ts.length b->RiB lp lo s (cnS x) (grS x)->scS p x lo s (riS p x lo s)) /\
 (∀l:List St,SizeOf.sizeOf l<N->∀b lp lo s,gB p b lp l=true->ntL maxLen l->szL l<=100000000->RiI s.vs s.ts.length b->RiB lp lo s (cnL l) (grL l)->scB p l lo s (riB p l lo s))
 |0=>⟨λ_ h=>absurd h (Ai _),λ_ h=>absurd h (Ai _)⟩
 |N+1=>by
  obtain⟨hS,hB⟩:=yo5 p hp N;have hR:=j2h p;refine⟨λx hx b lp lo s hg hm hz hI hb=>?_,λl hl b lp lo s hg hm hz hI hb=>?_⟩
  ·obtain⟨k,ty,nm,args,thn,els⟩:=x;simp at hx;have hg0:=hg;have hm0:=hm;have hz0:=hz;have hb0:=hb;rw[gS]at hg;rw[ntS]at hm;rw[sz]at hz;obtain⟨b1,b2,b3,b4,b5⟩:=hb;rw[grS]at b1 b2;rw[cnS]at b3;have hXX:∀(e:Ex) (vs:List (Value×PV)) (t:RiS) (jk:List (List ByteArray)),Cnt vs->riOk p e=true->xz e<=xzL args->t.ts.length+4*xz e<=34000000000->t.ns.length+4*xz e<=34000000000->scX p e lo vs jk t (riX p vs e t):=λe vs t jk hv ho hx h1 h2=>yo7 p hp ⟨lo,jk⟩ vs hv _ e (A7 _) oM0 ho t h1 h2;have hTh:ihB p thn:=λb lp lo s=>hB thn oM0 b lp lo s;have hEl:ihB p els:=λb lp lo s=>hB els oM0 b lp lo s
   by_cases h4:k=4
   ·subst h4;exact sc_ri4 p hp ty nm args thn els hTh hEl b lp lo s hg0 hm0 hz0 hI hb0
   by_cases h5:k=5
   ·subst h5
    by_cases ht:zd7 (args.getD 0 ex0)=true
    ·exact sc_ri5t p ty nm args thn els hTh b lp lo s hg0 hm0 hz0 hI hb0 ht
    ·exact sc_ri5f p hp ty nm args thn els hTh b lp lo s hg0 hm0 hz0 hI hb0 (by simpa using ht)
   rw[if_neg h4,if_neg h5]at hg
   by_cases h67:k=6∨k=7
   ·rw[if_pos h67]at hg;exact yf0 p k ty h67 nm args thn els lo (b5 hg) s hI.cnt oM0 (y0h b4) oM0
   rw[if_neg h67]at hg;have h6:k≠6:=λe=>h67 (.inl e);have h7:k≠7:=λe=>h67 (.inr e)
   by_cases h3:k=3
   ·subst h3;rw[if_pos rfl]at hg;obtain⟨e,e2,i1,i2,i3,i4,i5,i6,i7⟩:=j0r hg;obtain⟨j1,j2,j3⟩:=z5s p s.vs e ⟨s.ts,s.ns⟩;obtain⟨m1,m2,m3⟩:=z5s p s.vs e2 (riX p s.vs e ⟨s.ts,s.ns⟩).2;dsimp only at j1 j2 j3;have hX:=hXX e s.vs ⟨s.ts,s.ns⟩ s.jk hI.cnt i5 oM0 (by dsimp only;omega) (by dsimp only;omega);have hX2:=hXX e2 s.vs (riX p s.vs e ⟨s.ts,s.ns⟩).2 s.jk hI.cnt i6 oM0 oM0 oM0;exact y44 p 3 ty dC0 dC0 dC0 dC0 dC0 nm args thn els lo s (y1r p 3 ty nm args thn els lo s hI.cnt e i1 hX oM0 λ_=>⟨e2,i2,hX2,by omega⟩)
   rw[if_neg h3,A0]at hg;obtain⟨e,i1,i2,i3,i4⟩:=zb1 hg.1;obtain⟨j1,j2,j3⟩:=z5s p s.vs e ⟨s.ts,s.ns⟩;dsimp only at j1 j2 j3;have hX:=hXX e s.vs ⟨s.ts,s.ns⟩ s.jk hI.cnt i3 i4 (by dsimp only;omega) (by dsimp only;omega)
   by_cases h8:k=8
   ·subst h8;exact yw2 p ty nm args thn els lo s e i1 hX oM0
   ·exact y44 p k ty h4 h5 h6 h7 h8 nm args thn els lo s (y1r p k ty nm args thn els lo s hI.cnt e i1 hX oM0 λe=>absurd e h3)
  ·refine yw4 p lo l s (λi t=>∃c,RiI t.vs t.ts.length c/\gB p c lp (l.drop i)=true/\ntL maxLen (l.drop i)/\t.ts.length+grL (l.drop i)<=s.ts.length+grL l/\t.ns.length+grL (l.drop i)<=s.ns.length+grL l/\t.jk.length+cnL (l.drop i)<=s.jk.length+cnL l) ⟨b,hI,hg,hm,Ae _,Ae _,Ae _⟩ ?_;rintro i x t hx ⟨c,c1,c2,c3,c4,c5,c6⟩;have hd:l.drop i=x::l.drop (i+1):=by
    obtain⟨h1,h2⟩:=A4.1 hx;rw[<- h2];exact D4 h1
   have hmem:=A9 hx;have hsz:=zw6 hmem;have hso:=Bo hmem;rw[hd,gB,A0]at c2;rw[hd,ntL]at c3;rw[hd,grL]at c4 c5;rw[hd,cnL]at c6;obtain⟨b1,b2,b3,b4,b5⟩:=hb;have r:=(hR _).1 x (A7 _) c lp lo t c2.1 c1;obtain⟨r1,r2,r3,r4,r5⟩:=r;exact⟨hS x oM0 c lp lo t c2.1 c3.1 oM0 c1 ⟨by omega,by omega,by omega,b4,b5⟩,λ_=>⟨_,r1,c2.2,c3.2,by omega,by omega,by omega⟩⟩
section
variable {T:List Tk}
theorem zc0(k t:Int)(s:ByteArray)(a:List Ex)(x y:List St):cnS (.mk k t s a x y)=1+cnL x+cnL y:=by simp only[cnS]
theorem cnL_one(a:St):cnL [a]=cnS a:=by simp[cnL]
theorem j0c:∀a b:List St,cnL (a++b)=cnL a+cnL b
 |[],b=>by simp[cnL]
 |x::r,b=>by simp only[B9,cnL,j0c r b];omega
attribute [local irreducible] mE z6w
theorem let_cn(hT:TkOk T){s:Ps}(h:(mLet T s).2.over=false):2*cnS (mLet T s).1+s.at_<=(mLet T s).2.at_:=by
 unfold mLet at h⊢;dsimp only at h⊢;have b1:=(z59 hT).back h;have b2:=(z0a hT (w:=sEq)).back b1;have b3:=(z1w hT (k:=1) dC0).back b2;have a1:=(z59 hT (s:=z0p T sEq (z0n T 1 (z0t T s).2).2)).at_;have a2:=zh7.lt b1;have a3:=z6v.lt b2;have a4:=zl1.lt b3;simp only[zc0,cnL];omega
theorem named_cn(hT:TkOk T){s:Ps}(h:(z4u T s).2.over=false):2*cnS (z4u T s).1+s.at_<=(z4u T s).2.at_:=by
 unfold z4u at h⊢;split at h
 ·rename_i h1;rw[if_pos h1];dsimp only at h⊢;have h2:=yl3 hT 2 (z0n T 1 s).2.next;have h3:=((z55 hT (big T)).2.2.2.2.1 2 (z0n T 1 s).2.next).at_;have b1:=(z4n h1).1;have a1:=z6v.lt b1;rw[z0o]at h3;simp only[zc0,cnL];omega
 rename_i h1;rw[if_neg h1];split at h
 ·rename_i h2;rw[if_pos h2];dsimp only at h⊢;have b1:=(z4n h2).1;have a1:=z6v.lt b1;have d1:=(z59 hT (s:=(z0n T 1 s).2.next)).at_;rw[z0o]at d1;generalize(mE T (z0n T 1 s).2.next)=e at h d1⊢;have d2:=(z0a hT (w:=sSc) (s:=e.2)).at_;have d3:=(z0a hT (w:=sEq) (s:=z0p T sSc e.2)).at_;have d4:=(z59 hT (s:=z0p T sEq (z0p T sSc e.2))).at_;simp only[zc0,cnL];omega
 ·rename_i h2;rw[if_neg h2];dsimp only at h⊢;have b1:=(z59 hT).back h;have b2:=(z0a hT (w:=sEq)).back b1;have a1:=z6v.lt b2;have a2:=zh7.lt b1;have a3:=(z59 hT (s:=z0p T sEq (z0n T 1 s).2)).at_;simp only[zc0,cnL];omega
theorem flat_cn(hT:TkOk T){s:Ps}(h:(z9m T s).2.over=false):2*cnS (z9m T s).1+s.at_<=(z9m T s).2.at_+1:=by
 unfold z9m at h⊢;split at h
 ·rename_i h1;rw[if_pos h1];simp only[zc0,cnL,z0o];omega
 rename_i h1;rw[if_neg h1];split at h
 ·rename_i h1;rw[if_pos h1];simp only[zc0,cnL,z0o];omega
 rename_i h1;rw[if_neg h1];split at h
 ·rename_i h1;rw[if_pos h1];have a1:=(z59 hT (s:=s.next)).at_;rw[z0o]at a1;simp only[zc0,cnL];omega
 rename_i h1;rw[if_neg h1];split at h
 ·rename_i h1;rw[if_pos h1];have a1:=(z2s hT (s:=s.next)).at_;rw[z0o]at a1;simp only[zc0,cnL];omega
 rename_i h1;rw[if_neg h1];have:=named_cn hT h;omega
theorem y0j(hT:TkOk T){s:Ps}(h:(z1p T s).2.over=false):s.at_+1<=(z1p T s).2.at_:=by
 unfold z1p at h⊢;dsimp only at h⊢;have b1:=(z0a hT (w:=sRc)).back h;have b2:=(z59 hT).back b1;have a1:=zh7.lt b2;have a2:=(z59 hT (s:=z0p T sRo s)).at_;have a3:=(z0a hT (w:=sRc) (s:=(mE T (z0p T sRo s)).2)).at_;omega
theorem stmt_cn(hT:TkOk T)(N:Nat)(iB:∀d s,(z1t T N d s).2.over=false->2*cnL (z1t T N d s).1+s.at_<=(z1t T N d s).2.at_)(d:Int)(s:Ps)(h:(z5n T (N+1) d s).2.over=false):2*cnS (z5n T (N+1) d s).1+s.at_<=(z5n T (N+1) d s).2.at_:=by
 have e:=y22 d s;unfold z5n at h⊢;generalize z3a d s=s at e h⊢;rw[<- e];split at h
 ·rename_i h1;rw[if_pos h1];have b1:=(z0a hT (w:=z5h)).back h;have h2:=let_cn hT b1;have h3:=(z0a hT (w:=z5h) (s:=(mLet T s).2)).at_;dsimp only at h3⊢;omega
 rename_i h1;rw[if_neg h1];split at h
 ·rename_i h1;rw[if_pos h1];split at h
  ·rename_i h2;rw[if_pos h2];have b2:=iB _ _ h;have b0:=(z4n h2).1;have b3:=iB _ _ b0;have b4:=y0j hT (((z5j hT N).2.1 _ _).back b0);rw[z0o]at b2 b4;simp only[zc0];omega
  ·rename_i h2;rw[if_neg h2];have b3:=iB _ _ h;have b4:=y0j hT (((z5j hT N).2.1 _ _).back h);rw[z0o]at b4;simp only[zc0,cnL];omega
 rename_i h1;rw[if_neg h1];split at h
 ·rename_i h1;rw[if_pos h1];have b3:=iB _ _ h;have b4:=y0j hT (((z5j hT N).2.1 _ _).back h);rw[z0o]at b4;simp only[zc0,cnL];omega
 rename_i h1;rw[if_neg h1];have b1:=(z0a hT (w:=z5h)).back h;have h2:=flat_cn hT b1;have h3:=zh7.lt h;dsimp only at h3⊢;omega
theorem yp6(hT:TkOk T):∀N,(∀d s,(z5n T N d s).2.over=false->2*cnS (z5n T N d s).1+s.at_<=(z5n T N d s).2.at_)/\(∀d s,(z1t T N d s).2.over=false->2*cnL (z1t T N d s).1+s.at_<=(z1t T N d s).2.at_) /\
 (∀d out s,(z75 T N d out s).2.over=false->2*cnL (z75 T N d out s).1+s.at_<=2*cnL out+(z75 T N d out s).2.at_)
 |0=>⟨λd s h=>absurd h (by simp[z5n,Ps.over,Ps.setBad]),λd s _=>by show 0+s.at_<=s.at_;omega,λd out s _=>by show 2*cnL out+s.at_<=2*cnL out+s.at_;omega⟩
 |N+1=>by
  obtain⟨iS,iB,iL⟩:=yp6 hT N;refine⟨λd s h=>stmt_cn hT N iB d s h,λd s h=>?_,λd out s h=>?_⟩
  ·unfold z1t at h⊢;have h1:=iL d [] (z0p T sBo s) h;have h2:=(z0a hT (w:=sBo) (s:=s)).at_;simp only[cnL]at h1;omega
  ·unfold z75 at h⊢;split at h
   ·rename_i h1;rw[if_pos h1];exact Ae _
   rename_i h1;rw[if_neg h1];split at h
   ·rename_i h1;rw[if_pos h1];simp only[z0o];omega
   rename_i h1;rw[if_neg h1];have b1:=((z5j hT N).2.2 _ _ _).back h;have h2:=iL _ _ _ h;have h3:=iS _ _ b1;rw[j0c,cnL_one]at h2;omega
def pcn:List Fu->Nat
 |[]=>0
 |f::r=>cnL f.body+pcn r
theorem j1v:∀a b:List Fu,pcn (a++b)=pcn a+pcn b
 |[],b=>by simp[pcn]
 |x::r,b=>by simp only[B9,pcn,j1v r b];omega
theorem func_cn(hT:TkOk T){t:Int}{n:ByteArray}{s:Ps}(h:(z7a T t n s).2.over=false):2*cnL (z7a T t n s).1.body+s.at_<=(z7a T t n s).2.at_:=by
 unfold z7a at h⊢;dsimp only at h⊢;have h1:=(yp6 hT (big T)).2.1 1 _ h;have h2:=(z0a hT (w:=sRo) (s:=s)).at_;have h6:=(zk8 hT (s:=z0p T sRo s)).at_;omega
theorem yd0(hT:TkOk T):∀N p s,(z3j T N p s).2.over=false->2*pcn (z3j T N p s).1.funcs+s.at_<=2*pcn p.funcs+(z3j T N p s).2.at_
 |0,_,_,_=>Ae _
 |N+1,p,s,h=>by
  unfold z3j at h⊢;split
  ·exact Ae _
  rename_i c1;rw[if_neg c1]at h;have a1:=(z5k hT (s:=s)).at_;have a2:=(z1w hT (k:=1) dC0 (s:=(z0t T s).2)).at_;split
  ·rename_i c2;rw[if_pos c2]at h;have h1:=yd0 hT N _ _ h;have a3:=(z1w hT (k:=0) dC0 (s:=(z0n T 1 (z0t T s).2).2.next)).at_;have a4:=(z0a hT (w:=sSc) (s:=(z0n T 0 (z0n T 1 (z0t T s).2).2.next).2)).at_;have a5:=(z0a hT (w:=z5h) (s:=z0p T sSc (z0n T 0 (z0n T 1 (z0t T s).2).2.next).2)).at_;rw[z0o]at a3;dsimp only at h1;omega
  ·rename_i c2;rw[if_neg c2]at h;have h1:=yd0 hT N _ _ h;have b1:(z7a T (z0t T s).1 (z0n T 1 (z0t T s).2).1 (z0n T 1 (z0t T s).2).2).2.over=false:=(z9j hT N _ _).back h;have h2:=func_cn hT b1;rw[j1v]at h1;simp only[pcn]at h1;omega
theorem j0s(s:ByteArray):pcn (z1x s).1.funcs<=50000:=by
 unfold z1x;split
 ·rename_i h0;obtain⟨hT,hl⟩:=zo6 h0;split
  ·exact Ab _
  ·rename_i h1;split
   ·exact Ab _
   ·rename_i h2;split
    ·have ho:(z9n (z1r s).1).2.over=false:=by unfold Ps.over;rw[Ew.2 h1,Ew.2 h2];rfl
     have hp:0<(z1r s).1.length:=by obtain⟨i,e,h,_⟩:=hT;rw[h];simp
     have h3:=yd0 hT (big (z1r s).1) ⟨[],[]⟩ ⟨0,false,false⟩ ho;have h4:=(z9j hT (big (z1r s).1) ⟨[],[]⟩ ⟨0,false,false⟩).lt hp;unfold z9n;simp only[pcn]at h3;dsimp only at h3 h4⊢;omega
    ·exact Ab _
 ·exact Ab _
end
theorem yz5{p:Pg}{s:Sc}{e:Ex}{r:List Ex}(h:(z73 p s (e::r)).2=0):(z5d p s e).2=0/\(z73 p s r).2=0:=by
 rw[z73]at h
 by_cases h1:(z5d p s e).2=0
 ·rw[if_pos h1]at h
  by_cases h2:(z73 p s r).2=0
  ·exact⟨h1,h2⟩
  ·rw[if_neg h2]at h;exact absurd h h2
 ·rw[if_neg h1]at h;exact absurd h h1
theorem yr0{p:Pg}{s:Sc}{k o n:Int}{nm:ByteArray}{args:List Ex}(h:(z5d p s (.mk k o n nm args)).2=0):z8f p s k nm args.length=0/\(z73 p s args).2=0:=by
 rw[z5d]at h
 by_cases h1:z8f p s k nm args.length=0
 ·rw[if_pos h1]at h
  by_cases h2:(z73 p s args).2=0
  ·exact⟨h1,h2⟩
  ·rw[if_neg h2]at h;exact absurd h h2
 ·rw[if_neg h1]at h;exact absurd h h1
theorem yFine_ok{b:Bool}{e:Int}(he:e≠0)(h:zx4 b e=0):b=true:=by
 unfold zx4 at h
 cases b with
 |true=>rfl
 |false=>exact absurd h he
theorem j2d(p:Pg)(s:Sc):∀N,(∀e:Ex,SizeOf.sizeOf e<N->∀m,rx e m=true->(z5d p s e).2=0->riOk p e=true)/\(∀l:List Ex,SizeOf.sizeOf l<N->∀m,rxL l m=true->(z73 p s l).2=0->zm8 p l=true)
 |0=>⟨λ_ h=>absurd h (Ai _),λ_ h=>absurd h (Ai _)⟩
 |N+1=>by
  obtain⟨h1,h2⟩:=j2d p s N;refine⟨λe he m hr hy=>?_,λl hl m hr hy=>?_⟩
  ·obtain⟨k,o,n,nm,args⟩:=e;simp at he;rw[rx,A0]at hr;obtain⟨y1,y2⟩:=yr0 hy;rw[riOk,h2 args oM0 m hr.1 y2,C8];have hr2:=hr.2;unfold rOwn at hr2;unfold j2a
   by_cases k5:k=5
   ·subst k5;simp at hr2;simp[hr2.2]
   rw[if_neg k5]
   by_cases k7:k=7
   ·subst k7;rw[if_neg dC0];unfold z8f at y1;rw[if_neg dC0,if_neg dC0,if_pos rfl]at y1
    by_cases c:z3m p nm<0
    ·rw[if_pos c]at y1;exact absurd y1 dC0
    ·exact C6 oM0
   ·by_cases kk:k=1∨k=2∨k=3∨k=4∨k=6∨k=8
    ·rw[if_pos kk]
    ·simp only[not_or]at kk;obtain⟨q1,q2,q3,q4,q6,q8⟩:=kk;rw[if_neg q1,if_neg q2,if_neg q3,if_neg q4,if_neg k5,if_neg q6,if_neg k7,if_neg q8]at hr2
     cases hr2
  ·match l with
   |[]=>rfl
   |e::r =>
    simp at hl;rw[rxL,A0,A0]at hr;obtain⟨y1,y2⟩:=yz5 hy;rw[zm8,h1 e oM0 _ hr.1.2 y1,h2 r oM0 m hr.2 y2];rfl
theorem ok_riX{p:Pg}{s:Sc}{e:Ex}{m:Int}(hr:rx e m=true)(hy:(z5d p s e).2=0):riOk p e=true:=(j2d p s _).1 e (A7 _) m hr hy
theorem z8g{p:Pg}{s:Sc}{e:Ex}{t:Int}(h:ze0 p s e t=0):(z5d p s e).2=0:=by
 unfold ze0 at h;split at h
 ·assumption
 ·exact h
theorem j5o{p:Pg}{e:Ex}(h:(z5d p [] e).2=0):e.kind≠3:=by
 obtain⟨k,o,n,nm,args⟩:=e;intro hk;have hk:k=3:=hk;subst hk;have:=(yr0 h).1;simp[z8f,zb6,zx4]at this
theorem shp_len{k:Int}{n:Nat}(h:((n:Int) != (shp k).2.2.1)=false):(k=1∨k=2∨k=4∨k=5∨k=8∨k=9∨k=10)/\n=1∨k=3/\n=2∨(k=6∨k=7)/\n=0:=by
 have h:(n:Int)=(shp k).2.2.1:=by simpa using h
 unfold shp at h
 by_cases h1:k=1
 ·rw[if_pos h1]at h;dsimp only at h;omega
 rw[if_neg h1]at h
 by_cases h2:k=2
 ·rw[if_pos h2]at h;dsimp only at h;omega
 rw[if_neg h2]at h
 by_cases h3:k=3
 ·rw[if_pos h3]at h;dsimp only at h;omega
 rw[if_neg h3]at h
 by_cases h4:k=4
 ·rw[if_pos h4]at h;dsimp only at h;omega
 rw[if_neg h4]at h
 by_cases h5:k=5
 ·rw[if_pos h5]at h;dsimp only at h;omega
 rw[if_neg h5]at h
 by_cases h6:k=6∨k=7
 ·rw[if_pos h6]at h;dsimp only at h;omega
 rw[if_neg h6]at h
 by_cases h8:k=8∨k=9∨k=10
 ·rw[if_pos h8]at h;dsimp only at h;omega
 rw[if_neg h8]at h;dsimp only at h;omega
theorem y1g{k ty:Int}{nm:ByteArray}{args:List Ex}{thn els:List St}{m:Int}(h:rst (.mk k ty nm args thn els) m=true) :
 ((k=1∨k=2∨k=4∨k=5∨k=8∨k=9∨k=10)/\args.length=1∨k=3/\args.length=2∨(k=6∨k=7)/\args.length=0)/\(∀e∈args,rx e 100=true)/\rsL thn (m-1)=true/\rsL els (m-1)=true/\((shp k).2.1=z0m nm/\((shp k).2.1=false->nm.toList=[])):=by
 rw[rst]at h;simp only[A0,Bf,Bg]at h;obtain⟨⟨⟨⟨h1,h2⟩,h3⟩,h4⟩,h5⟩:=h;unfold yt7 at h1;simp only[Bm]at h1;obtain⟨⟨⟨⟨⟨_,h12⟩,_⟩,_⟩,h15⟩,h16⟩:=h1;refine⟨shp_len h12,h2,h4,h5,by simpa using h15,λe=>?_⟩;rw[e]at h16;simpa using h16
theorem y7h(s:Sc)(k ty:Int)(nm:ByteArray)(d:Int):(!(z6u s k ty nm d).isEmpty)=(!s.isEmpty||k==1):=by
 unfold z6u
 by_cases h:k=1
 ·rw[if_pos h,h];simp
 ·rw[if_neg h,show(k==1)=false from Ad.2 h,Es]
theorem gA_of{p:Pg}{s:Sc}{args:List Ex}(n:Nat)(hl:n<=args.length)(hr:∀e∈args,rx e 100=true)(hy:∀e∈args,(z5d p s e).2=0):gA p n args=true:=by
 unfold gA;rw[A0];refine⟨C6 hl,?_⟩;clear hl
 induction args with
 |nil=>rfl
 |cons e r ih=>rw[zm8,ok_riX (hr e (.head _)) (hy e (.head _)),ih (λq hq=>hr q (.tail _ hq)) λq hq=>hy q (.tail _ hq)];rfl
theorem yi3{p:Pg}{res:Int}{x:St}{r:List St}{s:Sc}{d:Int}{lp:Bool}{n:Nat}(h:(z2f p res (x::r) s d lp n).1=0):(yOne p res x s d lp n).1=0/\(z2f p res r (z6u s x.kind x.ty x.name d) d lp (yOne p res x s d lp n).2).1=0:=by
 rw[z2f]at h
 by_cases h1:(yOne p res x s d lp n).1=0
 ·rw[if_pos h1]at h;exact⟨h1,h⟩
 ·rw[if_neg h1]at h;exact absurd h h1
theorem yOne_ok{p:Pg}{res k ty:Int}{nm:ByteArray}{args:List Ex}{thn els:List St}{s:Sc}{d:Int}{lp:Bool}{n:Nat}(h:(yOne p res (.mk k ty nm args thn els) s d lp n).1=0) :
 zx5 p res s k ty nm args d lp=0/\(z2f p res thn (z6u s k ty nm d) (d+1) (lp||k==5) (n+1)).1=0/\(z2f p res els (z6u s k ty nm d) (d+1) lp (z2f p res thn (z6u s k ty nm d) (d+1) (lp||k==5) (n+1)).2).1=0:=by
 rw[yOne]at h
 by_cases h1:zx5 p res s k ty nm args d lp=0
 ·rw[if_pos h1]at h
  by_cases h2:(z2f p res thn (z6u s k ty nm d) (d+1) (lp||k==5) (n+1)).1=0
  ·rw[if_pos h2]at h;exact⟨h1,h2,h⟩
  ·rw[if_neg h2]at h;exact absurd h h2
 ·rw[if_neg h1]at h;exact absurd h h1
theorem yz8{p:Pg}{res k ty:Int}{nm:ByteArray}{args:List Ex}{s:Sc}{d:Int}{lp:Bool}(h:zx5 p res s k ty nm args d lp=0)(hl:(k=1∨k=2∨k=4∨k=5∨k=8∨k=9∨k=10)/\args.length=1∨k=3/\args.length=2∨(k=6∨k=7)/\args.length=0):∀e∈args,(z5d p s e).2=0:=by
 unfold zx5 at h;rcases hl with⟨hk,hl⟩|⟨hk,hl⟩|⟨hk,hl⟩
 ·obtain⟨e,rfl⟩:=Ci.1 hl;intro q hq;obtain rfl:=Ag.1 hq;rw[show([q]:List Ex).getD 0 ex0=q from rfl]at h
  by_cases c1:k=4∨k=5
  ·rw[if_pos c1]at h;exact z8g h
  rw[if_neg c1]at h
  by_cases c2:k=8
  ·rw[if_pos c2]at h;exact z8g h
  rw[if_neg c2]at h
  by_cases c3:k=9
  ·rw[if_pos c3]at h;exact z8g h
  rw[if_neg c3]at h
  by_cases c4:k=10
  ·rw[if_pos c4]at h;exact h
  rw[if_neg c4,if_neg oM0]at h;unfold y9o at h;rw[show([q]:List Ex).getD 0 ex0=q from rfl]at h
  by_cases c5:k=1
  ·rw[if_pos c5]at h;split at h
   ·rename_i h1;exact z8g h1
   ·exact z8g h
  rw[if_neg c5,if_pos oM0]at h;split at h
  ·exact absurd h dC0
  ·exact z8g h
 ·subst hk;rw[if_neg dC0,if_neg dC0,if_neg dC0,if_neg dC0,if_neg dC0]at h;unfold y9o at h;rw[if_neg dC0,if_neg dC0]at h
  match args,hl with
  |[a,b],_ =>
   rw[show([a,b]:List Ex).getD 0 ex0=a from rfl,show([a,b]:List Ex).getD 1 ex0=b from rfl]at h;split at h
   ·exact absurd h dC0
   ·split at h
    ·rename_i h1;intro q hq;simp only[Am,C5,Gb]at hq;rcases hq with rfl|rfl
     ·exact z8g h1
     ·exact z8g h
    ·rename_i h1;exact absurd h h1
 ·obtain rfl:=Au hl;intro q hq
  cases hq
theorem gB_of(p:Pg)(res:Int):∀N,(∀x:St,SizeOf.sizeOf x<N->∀m s d lp n,rst x m=true->(yOne p res x s d lp n).1=0->gS p (!s.isEmpty) lp x=true)/\(∀l:List St,SizeOf.sizeOf l<N->∀m s d lp n,rsL l m=true->(z2f p res l s d lp n).1=0->gB p (!s.isEmpty) lp l=true)
 |0=>⟨λ_ h=>absurd h (Ai _),λ_ h=>absurd h (Ai _)⟩
 |N+1=>by
  obtain⟨h1,h2⟩:=gB_of p res N;refine⟨λx hx m s d lp n hr hy=>?_,λl hl m s d lp n hr hy=>?_⟩
  ·obtain⟨k,ty,nm,args,thn,els⟩:=x;simp at hx;obtain⟨r1,r2,r3,r4,_⟩:=y1g hr;obtain⟨y1,y2,y3⟩:=yOne_ok hy;have ya:=yz8 y1 r1;rw[gS]
   by_cases k4:k=4
   ·subst k4;rw[show z6u s 4 ty nm d=s from rfl,show(lp||(4:Int)==5)=lp by simp]at y2 y3;rw[if_pos rfl,gA_of 1 oM0 r2 ya,h2 thn oM0 _ _ _ _ _ r3 y2,h2 els oM0 _ _ _ _ _ r4 y3];rfl
   rw[if_neg k4]
   by_cases k5:k=5
   ·subst k5;rw[show z6u s 5 ty nm d=s from rfl,show(lp||(5:Int)==5)=true by simp]at y2;rw[if_pos rfl,gA_of 1 oM0 r2 ya,h2 thn oM0 _ _ _ _ _ r3 y2];rfl
   rw[if_neg k5]
   by_cases k67:k=6∨k=7
   ·rw[if_pos k67];unfold zx5 at y1;rw[if_neg oM0,if_neg oM0,if_neg oM0,if_neg oM0,if_pos k67]at y1;exact yFine_ok dC0 y1
   rw[if_neg k67]
   by_cases k3:k=3
   ·rw[if_pos k3];exact gA_of 2 oM0 r2 ya
   rw[if_neg k3,gA_of 1 oM0 r2 ya,B0]
   cases s with
   |cons a b=>rfl
   |nil =>
    match args,r1 with
    |[],r1=>simp only[Az]at r1;omega
    |e::r,_ =>
     have:=j5o (ya e (.head _));show(false||(((e::r).getD 0 ex0).kind != 3))=true;rw[C9];exact bne_iff_ne.2 this
  ·match l with
   |[]=>rfl
   |x::r =>
    simp at hl;rw[rsL,A0]at hr;obtain⟨y1,y2⟩:=yi3 hy;have hh:=h2 r oM0 m _ d lp _ hr.2 y2;rw[y7h]at hh;rw[gB,h1 x oM0 m s d lp n hr.1 y1,hh];rfl
theorem yj9{α:Type}(f g:α -> Bool)(h:α -> α)(e:∀x,f (h x)=g x):∀(l:List α)(i:Int),idxP f (l.map h) i=idxP g l i
 |[],i=>rfl
 |x::r,i=>by simp only[B3,idxP,e,yj9 f g h e r]
theorem j5q(p:Pg)(nm:ByteArray):z3m (rnP p) nm=z3m p nm:=by
 unfold z3m;exact yj9 _ _ rnF (λ_=>rfl) p.funcs 0
theorem j2e(p:Pg)(es:List (Value×PV)):∀N,(∀e:Ex,SizeOf.sizeOf e<N->riOk (rnP p) (rnX es e)=riOk p e/\xz (rnX es e)=xz e)/\(∀l:List Ex,SizeOf.sizeOf l<N->zm8 (rnP p) (rnXL es l)=zm8 p l/\xzL (rnXL es l)=xzL l)
 |0=>⟨λ_ h=>absurd h (Ai _),λ_ h=>absurd h (Ai _)⟩
 |N+1=>by
  obtain⟨h1,h2⟩:=j2e p es N;refine⟨λe he=>?_,λl hl=>?_⟩
  ·obtain⟨k,o,n,nm,args⟩:=e;simp at he;have hl:(rnXL es args).length=args.length:=by rw[zr9,A6]
   rw[rnX,riOk,riOk,(h2 args oM0).1,xz,xz,(h2 args oM0).2,hl,j5q];refine⟨?_,rfl⟩
   by_cases k3:k=3
   ·subst k3;rfl
   ·rw[if_neg k3]
  ·match l with
   |[]=>exact⟨rfl,rfl⟩
   |e::r =>
    simp at hl;rw[rnXL,zm8,zm8,xzL,xzL,(h1 e oM0).1,(h2 r oM0).1,(h1 e oM0).2,(h2 r oM0).2];exact⟨rfl,rfl⟩
theorem ym9(p:Pg)(es:List (Value×PV))(l:List Ex):zm8 (rnP p) (l.map (rnX es))=zm8 p l/\xzL (l.map (rnX es))=xzL l:=by rw[<- zr9];exact(j2e p es _).2 l (A7 _)
theorem rnX_kind(es:List (Value×PV))(e:Ex):(rnX es e).kind=e.kind:=by rw[rnX_eq];rfl
theorem gA_rn(p:Pg)(es:List (Value×PV))(n:Nat)(l:List Ex):gA (rnP p) n (l.map (rnX es))=gA p n l:=by unfold gA;rw[(ym9 p es l).1,A6]
theorem rnS_kind(x:St)(es:List (Value×PV))(n:Nat):(rnS x es n).1.kind=x.kind:=by cases x;rw[rnS];rfl
theorem yn5(p:Pg):∀N,(∀x:St,SizeOf.sizeOf x<N->∀es n,cnS (rnS x es n).1=cnS x/\sz (rnS x es n).1=sz x/\∀b lp,gS (rnP p) b lp (rnS x es n).1=gS p b lp x)/\(∀l:List St,SizeOf.sizeOf l<N->∀es n,cnL (rnB l es n).1=cnL l/\szL (rnB l es n).1=szL l/\∀b lp,gB (rnP p) b lp (rnB l es n).1=gB p b lp l)
 |0=>⟨λ_ h=>absurd h (Ai _),λ_ h=>absurd h (Ai _)⟩
 |N+1=>by
  obtain⟨h1,h2⟩:=yn5 p N;refine⟨λx hx es n=>?_,λl hl es n=>?_⟩
  ·obtain⟨k,ty,nm,args,thn,els⟩:=x;simp at hx;rw[rnS];obtain⟨t1,t2,t3⟩:=h2 thn oM0 (z1s es k nm n).2.1 (z1s es k nm n).2.2;obtain⟨e1,e2,e3⟩:=h2 els oM0 (z1s es k nm n).2.1 (rnB thn (z1s es k nm n).2.1 (z1s es k nm n).2.2).2;refine⟨by rw[cnS,cnS,t1,e1],by rw[sz,sz,t2,e2,(ym9 p es args).2],λb lp=>?_⟩;rw[gS,gS,gA_rn,gA_rn,t3,t3,e3];have hg:((args.map (rnX es)).getD 0 ex0).kind=(args.getD 0 ex0).kind:=by
    cases args with
    |nil=>rfl
    |cons a r=>exact rnX_kind es a
   rw[hg]
  ·match l with
   |[]=>exact⟨rfl,rfl,λ_ _=>rfl⟩
   |x::r =>
    simp at hl;obtain⟨a1,a2,a3⟩:=h1 x oM0 es n;obtain⟨b1,b2,b3⟩:=h2 r oM0 (z1s es x.kind x.name n).2.1 (rnS x es n).2;rw[rnB];refine⟨by rw[cnL,cnL,a1,b1],by rw[szL,szL,a2,b2],λb lp=>?_⟩;rw[gB,gB,a3,b3,rnS_kind]
theorem rn_cn(l:List St)(es:List (Value×PV))(n:Nat):cnL (rnB l es n).1=cnL l:=((yn5 pg0 _).2 l (A7 _) es n).1
theorem rn_sz(l:List St)(es:List (Value×PV))(n:Nat):szL (rnB l es n).1=szL l:=((yn5 pg0 _).2 l (A7 _) es n).2.1
theorem rn_gB(p:Pg)(l:List St)(es:List (Value×PV))(n:Nat)(b lp:Bool):gB (rnP p) b lp (rnB l es n).1=gB p b lp l:=((yn5 p _).2 l (A7 _) es n).2.2 b lp
theorem ySc_ne(l:List Pm):(!(ySc l).isEmpty) = !l.isEmpty:=by
 unfold ySc
 suffices ∀(l:List Pm)(s:Sc),(l.foldl (λs x=>(x.name,x.ty,(0:Int))::s) s).isEmpty=(s.isEmpty&&l.isEmpty) by rw[this];simp
 intro l
 induction l with
 |nil=>intro s;simp
 |cons x r ih=>intro s;rw[Dz,ih];simp
theorem yu3(l:List Pm)(es:List (Value×PV))(n:Nat):(rnPm l es n).1.isEmpty=l.isEmpty:=by cases l<;>rfl
theorem yz6{p:Pg}(hr:rPg p=true)(hy:(z8e p).1=0):∀f∈p.funcs,gB p (!f.params.isEmpty) false f.body=true:=by
 unfold z8e at hy;split at hy
 ·unfold rPg at hr;rw[A0]at hr;have hr:=Bg.1 hr.2
  suffices ∀(l:List Fu)(i:Nat),(∀f∈l,rFu f=true)->(y9p p l i).1=0->∀f∈l,gB p (!f.params.isEmpty) false f.body=true from this p.funcs 0 hr hy
  intro l
  induction l with
  |nil=>intro i _ _ f hf;cases hf
  |cons x r ih =>
   intro i hr hy f hf;rw[y9p]at hy;split at hy
   ·exact absurd (show(50:Int)=0 from hy) dC0
   ·split at hy
    ·rename_i h2;rcases Am.1 hf with rfl|hf
     ·have hb:(z2f p f.ty f.body (ySc f.params) 1 false 0).1=0:=by
       unfold yFun at h2;dsimp only at h2;split at h2
       ·exact absurd h2 dC0
       ·exact h2
      have hR:=hr f (.head _);unfold rFu at hR;simp only[A0]at hR;have:=(gB_of p f.ty _).2 f.body (A7 _) 100 (ySc f.params) 1 false 0 hR.1.2 hb;rw[ySc_ne]at this;exact this
     ·exact ih (i+1) (λq hq=>hr q (.tail _ hq)) hy f hf
    ·rename_i h2;exact absurd hy h2
 ·exact absurd hy dC0
theorem rnF_gB{p:Pg}(hr:rPg p=true)(hy:(z8e p).1=0):∀f∈(rnP p).funcs,gB (rnP p) (!f.params.isEmpty) false f.body=true:=by
 intro f hf;obtain⟨g,hg,rfl⟩:=Bx.1 (show f∈p.funcs.map rnF from hf);have h1:=yz6 hr hy g hg;have h2:(rnF g).params.isEmpty=g.params.isEmpty:=yu3 g.params [] 0;rw[h2];show gB (rnP p) _ false (rnB g.body _ _).1=true;rw[rn_gB];exact h1
mutual
def nxX:Ex->Bool
 |.mk k _ _ nm args=>(k==3||decide (nm.size<=20))&&nxL args
def nxL:List Ex->Bool
 |[]=>true
 |x::r=>nxX x&&nxL r
end
mutual
def nxS:St->Bool
 |.mk k _ nm args thn els=>(k==1||k==2||decide (nm.size<=20))&&nxL args&&nxB thn&&nxB els
def nxB:List St->Bool
 |[]=>true
 |x::r=>nxS x&&nxB r
end
theorem y4m{s:ByteArray}(h:s.toList=[]):s.size=0:=by
 rw[z2d]at h;show s.data.size=0;rw[<- Bs,h];rfl
theorem zl3{s:ByteArray}(h:z0m s=true):s.size<=20:=by
 unfold z0m at h;simp only[A0,B6]at h;have:=h.1.1.1.2;omega
theorem nxX_of:∀N,(∀e:Ex,SizeOf.sizeOf e<N->∀m,rx e m=true->nxX e=true)/\(∀l:List Ex,SizeOf.sizeOf l<N->∀m,rxL l m=true->nxL l=true)
 |0=>⟨λ_ h=>absurd h (Ai _),λ_ h=>absurd h (Ai _)⟩
 |N+1=>by
  obtain⟨h1,h2⟩:=nxX_of N;refine⟨λe he m hr=>?_,λl hl m hr=>?_⟩
  ·obtain⟨k,o,n,nm,args⟩:=e;simp at he;rw[rx,A0]at hr;rw[nxX,h2 args oM0 m hr.1,C8];have hr:=hr.2;unfold rOwn at hr;have e0:nm.toList=[]->(k==3||decide (nm.size<=20))=true:=λh=>by rw[B7];exact .inr (C6 (by rw[y4m h];omega))
   have e1:z0m nm=true->(k==3||decide (nm.size<=20))=true:=λh=>by rw[B7];exact .inr (C6 (zl3 h))
   repeat' split at hr
   all_goals (try (simp only[A0,Ak]at hr))
   iterate 2 exact e0 hr.1.2
   ·exact e1 hr.1.2
   iterate 2 exact e0 hr.1.2
   iterate 2 exact e1 hr.1.2
   ·exact e0 hr.1.2
   ·cases hr
  ·match l with
   |[]=>rfl
   |e::r =>
    simp at hl;rw[rxL,A0,A0]at hr;rw[nxL,h1 e oM0 _ hr.1.2,h2 r oM0 m hr.2];rfl
theorem nxL_of{l:List Ex}(h:∀e∈l,rx e 100=true):nxL l=true:=by
 induction l with
 |nil=>rfl
 |cons e r ih=>rw[nxL,(nxX_of _).1 e (A7 _) 100 (h e (.head _)),ih λq hq=>h q (.tail _ hq)];rfl
theorem nm_sz{b:Bool}{nm:ByteArray}(h:b=z0m nm/\(b=false->nm.toList=[])):nm.size<=20:=by
 cases b with
 |true=>exact zl3 h.1.symm
 |false=>rw[y4m (h.2 rfl)];omega
theorem nxB_of:∀N,(∀x:St,SizeOf.sizeOf x<N->∀m,rst x m=true->nxS x=true)/\(∀l:List St,SizeOf.sizeOf l<N->∀m,rsL l m=true->nxB l=true)
 |0=>⟨λ_ h=>absurd h (Ai _),λ_ h=>absurd h (Ai _)⟩
 |N+1=>by
  obtain⟨h1,h2⟩:=nxB_of N;refine⟨λx hx m hr=>?_,λl hl m hr=>?_⟩
  ·obtain⟨k,ty,nm,args,thn,els⟩:=x;simp at hx;obtain⟨_,r2,r3,r4,r5⟩:=y1g hr;rw[nxS,nxL_of r2,h2 thn oM0 _ r3,h2 els oM0 _ r4,C8,C8,C8,B7];exact .inr (C6 (nm_sz r5))
  ·match l with
   |[]=>rfl
   |x::r =>
    simp at hl;rw[rsL,A0]at hr;rw[nxB,h1 x oM0 m hr.1,h2 r oM0 m hr.2];rfl
theorem nxX_rn(es:List (Value×PV)):∀N,(∀e:Ex,SizeOf.sizeOf e<N->nxX (rnX es e)=nxX e)/\(∀l:List Ex,SizeOf.sizeOf l<N->nxL (rnXL es l)=nxL l)
 |0=>⟨λ_ h=>absurd h (Ai _),λ_ h=>absurd h (Ai _)⟩
 |N+1=>by
  obtain⟨h1,h2⟩:=nxX_rn es N;refine⟨λe he=>?_,λl hl=>?_⟩
  ·obtain⟨k,o,n,nm,args⟩:=e;simp at he;rw[rnX,nxX,nxX,h2 args oM0]
   by_cases k3:k=3
   ·subst k3;rfl
   ·rw[if_neg k3]
  ·match l with
   |[]=>rfl
   |e::r =>
    simp at hl;rw[rnXL,nxL,nxL,h1 e oM0,h2 r oM0]
theorem nxL_rn(es:List (Value×PV))(l:List Ex):nxL (l.map (rnX es))=nxL l:=by rw[<- zr9];exact(nxX_rn es _).2 l (A7 _)
theorem nxB_rn:∀N,(∀x:St,SizeOf.sizeOf x<N->∀es n,nxS x=true->nxS (rnS x es n).1=true)/\(∀l:List St,SizeOf.sizeOf l<N->∀es n,nxB l=true->nxB (rnB l es n).1=true)
 |0=>⟨λ_ h=>absurd h (Ai _),λ_ h=>absurd h (Ai _)⟩
 |N+1=>by
  obtain⟨h1,h2⟩:=nxB_rn N;refine⟨λx hx es n h=>?_,λl hl es n h=>?_⟩
  ·obtain⟨k,ty,nm,args,thn,els⟩:=x;simp at hx;rw[nxS,A0,A0,A0]at h;rw[rnS,nxS,nxL_rn,h2 thn oM0 _ _ h.1.2,h2 els oM0 _ _ h.2,h.1.1.2,C8,C8,C8];have h4:=h.1.1.1
   by_cases k1:k=1
   ·subst k1;rfl
   by_cases k2:k=2
   ·subst k2;rfl
   rw[show(z1s es k nm n).1=nm by unfold z1s;rw[if_neg k1,if_neg k2]];exact h4
  ·match l with
   |[]=>rfl
   |x::r =>
    simp at hl;rw[nxB,A0]at h;rw[rnB,nxB,h1 x oM0 _ _ h.1,h2 r oM0 _ _ h.2];rfl
theorem nxL_mem{l:List Ex}{e:Ex}(h:nxL l=true)(he:e∈l):nxX e=true:=by
 induction l with
 |nil=>cases he
 |cons x r ih =>
  rw[nxL,A0]at h;rcases Am.1 he with rfl|he
  ·exact h.1
  ·exact ih h.2 he
theorem j4k(n:Nat)(h:n<=1000000000):(tVal n).size<=30:=by
 have:=Lib.itoa_length_le (n:Int) oM0 oM0;have e:(tVal n).size=1+(Lib.itoa (n:Int)).length:=by
  unfold tVal tNum;rw[Dd];show 1+(Lib.itoa (n:Int)).toArray.size=_;rw[Ez]
 omega
def Sh(es:List (Value×PV)):Prop:=∀e∈es,∃s:ByteArray,e.2=vStr s/\s.size<=30
theorem Sh.put{es:List (Value×PV)}(h:Sh es)(a:ByteArray){b:ByteArray}(hb:b.size<=30):Sh (z9x es a b):=λe he=>by
 rcases z56 he with rfl|he
 ·exact⟨b,rfl,hb⟩
 ·exact h e he
theorem Sh.get{es:List (Value×PV)}(h:Sh es)(a:ByteArray):(z8q es a).size<=30:=by
 unfold z8q;split
 ·rename_i s hf;obtain⟨a,ha⟩:=z8x hf;obtain⟨t,h1,h2⟩:=h _ ha;dsimp only at h1
  cases h1
  exact h2
 ·exact Ab _
theorem nt_rn:∀N,(∀x:St,SizeOf.sizeOf x<N->∀es n m,Sh es->n+cnS x<=1000000000->rst x m=true->ntS 30 (rnS x es n).1/\(rnS x es n).2<=n+cnS x/\Sh (z1s es x.kind x.name n).2.1)/\(∀l:List St,SizeOf.sizeOf l<N->∀es n m,Sh es->n+cnL l<=1000000000->rsL l m=true->ntL 30 (rnB l es n).1/\(rnB l es n).2<=n+cnL l)
 |0=>⟨λ_ h=>absurd h (Ai _),λ_ h=>absurd h (Ai _)⟩
 |N+1=>by
  obtain⟨h1,h2⟩:=nt_rn N;refine⟨λx hx es n m hs hn hr=>?_,λl hl es n m hs hn hr=>?_⟩
  ·obtain⟨k,ty,nm,args,thn,els⟩:=x;simp at hx;obtain⟨_,_,r3,r4,r5⟩:=y1g hr;rw[cnS]at hn;have hv:=j4k n oM0;have ho:(z1s es k nm n).1.size<=30/\(z1s es k nm n).2.2<=n+1/\Sh (z1s es k nm n).2.1:=by
    unfold z1s;split
    ·exact⟨(hs.put nm hv).get nm,Ae _,hs.put nm hv⟩
    ·split
     ·exact⟨hs.get nm,Fe _,hs⟩
     ·exact⟨Bi (nm_sz r5) oM0,Fe _,hs⟩
   obtain⟨o1,o2,o3⟩:=ho;obtain⟨t1,t2⟩:=h2 thn oM0 (z1s es k nm n).2.1 (z1s es k nm n).2.2 _ o3 oM0 r3;obtain⟨e1,e2⟩:=h2 els oM0 (z1s es k nm n).2.1 (rnB thn (z1s es k nm n).2.1 (z1s es k nm n).2.2).2 _ o3 oM0 r4;rw[rnS,ntS,cnS];exact⟨⟨o1,t1,e1⟩,by dsimp only;omega,o3⟩
  ·match l with
   |[]=>exact⟨Gd,Bj _ _⟩
   |x::r =>
    simp at hl;rw[rsL,A0]at hr;rw[cnL]at hn;obtain⟨a1,a2,a3⟩:=h1 x oM0 es n m hs oM0 hr.1;obtain⟨b1,b2⟩:=h2 r oM0 (z1s es x.kind x.name n).2.1 (rnS x es n).2 m a3 oM0 hr.2;rw[rnB,ntL,cnL];exact⟨⟨a1,b1⟩,by dsimp only;omega⟩
theorem j1j{a b:Nat}(hab:a<=b):∀N,(∀x:St,SizeOf.sizeOf x<N->ntS a x->ntS b x)/\(∀l:List St,SizeOf.sizeOf l<N->ntL a l->ntL b l)
 |0=>⟨λ_ h=>absurd h (Ai _),λ_ h=>absurd h (Ai _)⟩
 |N+1=>by
  obtain⟨h1,h2⟩:=j1j hab N;refine⟨λx hx h=>?_,λl hl h=>?_⟩
  ·obtain⟨k,ty,nm,args,thn,els⟩:=x;simp at hx;rw[ntS]at h⊢;exact⟨Bi h.1 hab,h2 thn oM0 h.2.1,h2 els oM0 h.2.2⟩
  ·match l with
   |[]=>trivial
   |x::r =>
    simp at hl;rw[ntL]at h⊢;exact⟨h1 x oM0 h.1,h2 r oM0 h.2⟩
theorem j2r:∀(l:List Pm) (es:List (Value×PV)) (n:Nat),Sh es->n+l.length<=1000000000->Sh (rnPm l es n).2.1/\(rnPm l es n).2.2=n+l.length
 |[],es,n,h,_=>⟨h,rfl⟩
 |x::r,es,n,h,hn=>by
  rw[Al]at hn;obtain⟨h1,h2⟩:=j2r r (z9x es x.name (tVal n)) (n+1) (h.put _ (j4k n oM0)) oM0;rw[rnPm,Al];exact⟨h1,by dsimp only;omega⟩
theorem z7u(a b:List Nd):z0y (a++b)=z0y a+z0y b:=by
 unfold z0y;rw[yi2,B5];omega
theorem z6a(k o n:Int)(nm:ByteArray)(a b c:List Int)(ks:List (List Nd)):z0y [.mk k o n nm a b c ks]=1+a.length+b.length+c.length+nm.size+wtK ks:=by simp only[z0y,wtL,wtN,Al,Az];omega
theorem j5i(a:List Nd):wtK [a]=1+z0y a:=by simp only[wtK,z0y];omega
theorem yi1(a b:List Nd):wtK [a,b]=2+z0y a+z0y b:=by simp only[wtK,z0y];omega
theorem yi0:wtK []=0:=rfl
theorem z7v:z0y []=0:=rfl
theorem y3c:∀a b:List Nd,lsz (a++b)=lsz a+lsz b
 |[],b=>by simp[lsz]
 |x::r,b=>by simp only[B9,lsz,y3c r b];omega
theorem zq7(k o n:Int)(nm:ByteArray)(a b c:List Int)(ks:List (List Nd)):lsz [.mk k o n nm a b c ks]=1+kdz ks:=by simp only[lsz,nsz];omega
theorem j11(a:List Nd):kdz [a]=lsz a:=by simp only[kdz];omega
theorem yb1(a b:List Nd):kdz [a,b]=lsz a+lsz b:=by simp only[kdz];omega
def tw(s:RiS):Nat:=s.ts.length+z0y s.ns
theorem sz0:(⟨#[]⟩:ByteArray).size=0:=rfl
theorem yq2(t k o n:Int)(nm:ByteArray)(args:List Int)(ks:List (List Nd))(s:RiS):tw (z5y t k o n nm args ks s).2=tw s+3+args.length+nm.size+wtK ks/\lsz (z5y t k o n nm args ks s).2.ns=lsz s.ns+1+kdz ks:=by
 unfold z5y tw;refine⟨?_,?_⟩
 ·dsimp only;rw[z7u,z6a,B5];simp only[Al,Az];omega
 ·dsimp only;rw[y3c,zq7];omega
theorem tw_top(p:Pg)(k o n:Int)(nm:ByteArray)(l:List Int)(s:RiS)(hn:nm.size<=20):tw (zj0 p k o n nm l s).2<=tw s+23+l.length/\lsz (zj0 p k o n nm l s).2.ns<=lsz s.ns+1:=by
 unfold zj0
 repeat' split
 all_goals (rw[(yq2 ..).1,(yq2 ..).2];simp only[yi0,sz0,Az,kdz];omega)
theorem z21(k:Int)(nm:ByteArray)(args:List Int)(ns:List Nd):z0y (z6b k nm args ns)=z0y ns+1+args.length+nm.size/\lsz (z6b k nm args ns)=lsz ns+1:=by
 unfold z6b;refine⟨?_,?_⟩
 ·rw[z7u,z6a];simp only[yi0,Az];omega
 ·rw[y3c,zq7];simp only[kdz]
theorem tw_sh(o a:Int)(ns:List Nd)(r:Int×RiS):tw (z5r o a ns r).2=tw r.2+z0y ns+13/\lsz (z5r o a ns r).2.ns=lsz ns+lsz r.2.ns+4:=by
 unfold z5r;split
 all_goals
  rw[(yq2 ..).1,(yq2 ..).2,yi1,yb1,(z21 ..).1,(z21 ..).2,(z21 ..).1,(z21 ..).2,z6a,zq7];unfold tw;simp only[yi0,sz0,Az,Al,kdz,B5];omega
theorem riX_tw(p:Pg)(vs:List (Value×PV)):∀(N:Nat),(∀e:Ex,SizeOf.sizeOf e<N->nxX e=true->∀s,tw (riX p vs e s).2+1<=tw s+27*xz e/\lsz (riX p vs e s).2.ns<=lsz s.ns+4*xz e) /\
 (∀l:List Ex,SizeOf.sizeOf l<N->nxL l=true->∀s,tw (riXL p vs l s).2+l.length<=tw s+27*xzL l/\lsz (riXL p vs l s).2.ns<=lsz s.ns+4*xzL l/\(riXL p vs l s).1.length=l.length) /\
 (∀(o:Int)(l:List Ex),SizeOf.sizeOf l<N->nxL l=true->∀s,tw (riSh p vs o l s).2<=tw s+27*xzL l+13/\lsz (riSh p vs o l s).2.ns<=lsz s.ns+4*xzL l+4) /\
 (∀(o a:Int)(s:RiS)(l:List Ex),SizeOf.sizeOf l<N->nxL l=true->tw (zi8 p vs o a s l).2<=tw s+27*xzL l+13/\lsz (zi8 p vs o a s l).2.ns<=lsz s.ns+4*xzL l+4)
 |0=>⟨λ_ h=>absurd h (Ai _),λ_ h=>absurd h (Ai _),λ_ _ h=>absurd h (Ai _),λ_ _ _ _ h=>absurd h (Ai _)⟩
 |N+1=>by
  obtain⟨h1,h2,h3,h4⟩:=riX_tw p vs N;refine⟨λe he hn s=>?_,λl hl hn s=>?_,λo l hl hn s=>?_,λo a s l hl hn=>?_⟩
  ·obtain⟨k,o,n,nm,args⟩:=e;simp at he;rw[nxX,A0]at hn;rw[riX,xz];split
   ·exact⟨by dsimp only;omega,by dsimp only;omega⟩
   ·rename_i k3;split
    ·obtain⟨a1,a2⟩:=h3 o args oM0 hn.2 s;exact⟨by omega,by omega⟩
    ·obtain⟨a1,a2,a3⟩:=h2 args oM0 hn.2 s;have hnm:nm.size<=20:=by
      have:=hn.1;rw[B7]at this;rcases this with h|h
      ·exact absurd (eq_of_beq h) k3
      ·exact Aq h
     obtain⟨b1,b2⟩:=tw_top p k o n nm (riXL p vs args s).1 (riXL p vs args s).2 hnm;exact⟨by omega,by omega⟩
  ·match l with
   |[]=>rw[riXL];exact⟨Ae _,Ae _,rfl⟩
   |e::r =>
    simp at hl;rw[nxL,A0]at hn;rw[riXL,xzL];obtain⟨a1,a2⟩:=h1 e oM0 hn.1 s;obtain⟨b1,b2,b3⟩:=h2 r oM0 hn.2 (riX p vs e s).2;exact⟨by dsimp only[List.length_cons];omega,by dsimp only;omega,by dsimp only[List.length_cons];rw[b3]⟩
  ·match l with
   |[]=>rw[riSh];exact⟨by dsimp only;omega,by dsimp only;omega⟩
   |e::r =>
    simp at hl;rw[nxL,A0]at hn;rw[riSh,xzL];obtain⟨a1,a2⟩:=h1 e oM0 hn.1 s;obtain⟨b1,b2⟩:=h4 o (riX p vs e s).1 (riX p vs e s).2 r oM0 hn.2;exact⟨by omega,by omega⟩
  ·match l with
   |[]=>rw[zi8];exact⟨by dsimp only;omega,by dsimp only;omega⟩
   |e::r =>
    simp at hl;rw[nxL,A0]at hn;rw[zi8,xzL,(tw_sh ..).1,(tw_sh ..).2];obtain⟨a1,a2⟩:=h1 e oM0 hn.1 ⟨s.ts,[]⟩;have e1:tw ⟨s.ts,[]⟩=s.ts.length:=by unfold tw;rw[z7v];rfl
    have e2:lsz []=0:=rfl;dsimp only at a2;rw[e1]at a1;rw[e2]at a2;have e3:tw s=s.ts.length+z0y s.ns:=rfl;exact⟨by omega,by omega⟩
def zr8(l:List Pm):List (Value×PV)×List Int:=l.foldl (λa x=>(riSt a.1 x.name a.2.length,a.2++[x.ty])) ([],[])
def riT0(l:List Pm):RiT:=⟨(zr8 l).1,(zr8 l).2,[],[]⟩
def z7w(p:Pg)(f:Fu):Fl:=⟨f.name,f.ty,f.params.length,(riB p f.body [] (riT0 f.params)).2.ts,(riB p f.body [] (riT0 f.params)).2.ns⟩
theorem yu1(l:List Pm)(x:Pm):zr8 (l++[x])=(riSt (zr8 l).1 x.name (zr8 l).2.length,(zr8 l).2++[x.ty]):=by simp[zr8]
theorem y1c(l:List Pm):(zr8 l).2.length=l.length:=by
 suffices ∀(l:List Pm) (a:List (Value×PV)×List Int),(l.foldl (λa x=>(riSt a.1 x.name a.2.length,a.2++[x.ty])) a).2.length=a.2.length+l.length by
  have:=this l ([],[]);simpa[zr8]using this
 intro l
 induction l with
 |nil=>intro a;simp
 |cons x r ih=>intro a;simp only[Dz];rw[ih];simp;omega
theorem yn1(l:List Pm):RiI (zr8 l).1 (zr8 l).2.length (!l.isEmpty):=by
 suffices ∀(l:List Pm) (a:List (Value×PV)×List Int) (b:Bool),RiI a.1 a.2.length b->RiI (l.foldl (λa x=>(riSt a.1 x.name a.2.length,a.2++[x.ty])) a).1 (l.foldl (λa x=>(riSt a.1 x.name a.2.length,a.2++[x.ty])) a).2.length (b || !l.isEmpty)from by
  have h:=this l ([],[]) false ⟨Cnt.nil,(λe he=>by cases he),λh=>by cases h⟩;simpa[zr8]using h
 intro l
 induction l with
 |nil=>intro a b h;simpa using h
 |cons x r ih =>
  intro a b h;simp only[Dz];have:=ih (riSt a.1 x.name a.2.length,a.2++[x.ty]) true ((h.mono (m:=(a.2++[x.ty]).length) sI0).put x.name (v:=(a.2.length:Int)) oM0 (by simp;omega));exact this.weak λ_=>by simp
theorem j3b(p:Pg)(f:Fu)(hl:f.params.length<=1000000000)(hB:scB p f.body [] (riT0 f.params) (riB p f.body [] (riT0 f.params))) :
 SC Tryz.prog 18 [.pv (.agg [arrs p.arrays,fus p.funcs]),.pv (.agg [vStr f.name,vInt f.ty,pms f.params,sts f.body])] [] (λk=>k∈[]) (.pv (.agg (z7w p f).enc)) []:=by
 refine SC.vc tb { pb:=[102,103,107],ids:=[(10,1),(11,5),(13,4)],gh:=[(2,[.growC 1 2 2 3 1,.growC 1 3 3 77 1,.spC 1 3 3,.growC 4 2 6 47 8]),(8,[.fzC 1 2 2,.fzC 4 2 6])] } [] Tryz.func18 rfl rfl ?_;refine⟨Nat,λi=>[(17,iInt ((i:Nat):Int))],λi=>riW p [] (riT0 (f.params.take i)),λi=>f.params.length-i,λi=>i<=f.params.length,[],0,Ab _,Ge,Gk,?_⟩;intro i hi;refine z00 (λhc=>?_) λhc=>?_
 ·have hlt:i<f.params.length:=z12 (f:=Pm.enc) rfl hc;obtain⟨x,x1,x2,x3,x4⟩:=z0s hlt;have hs:=yu1 (f.params.take i) x;rw[<- x2]at hs;have hn:=y1c (f.params.take i);have hk:=(yn1 (f.params.take i)).cnt;rw[D6]at hn;have hs1:=Aa Prod.fst hs;have hs2:=Aa Prod.snd hs;dsimp only at hs1 hs2;exact⟨zv4 x1,rfl,[],zs3 p (zr8 (f.params.take i)).2 ⟨[],[]⟩ x.ty oM0,sR,Gg,rfl,rfl,hk.1,z01 rfl oM0,i+1,z04 hlt,hlt,Ge,⟨boq (by simp only[riT0,hs2]),rwq (by simp only[riT0,hs2]),rfl,rfl,mpq (by simp only[riT0,hs1];rfl),rfl,Gd⟩,rfl,rfl,rfl,rfl⟩
 ·have hge:f.params.length<=i:=z13 (f:=Pm.enc) rfl hc;rw[As hge];unfold z7w;generalize riB p f.body [] (riT0 f.params)=r at hB⊢;exact⟨[],hB,sR,Gk,rfl,rfl,rfl,sE (by rw[A6];rfl),Gd⟩
def un0:Un:=⟨[],[]⟩
def riUn(q:Pg):Un:=⟨q.arrays,q.funcs.map (z7w q)⟩
def yd5(p:Pg)(k:Int):Un×Int:=if (rnOf p).2=0 then(if k=0 then(riUn (rnOf p).1,0)else(un0,2))else(un0,(rnOf p).2)
theorem sc_Rise0(p:Pg)(hR:SC Tryz.prog 17 [.pv p.enc] [] (λk=>k∈[]) (.tup [.pv (rnOf p).1.enc,iInt (rnOf p).2]) [])(hfl:(rnOf p).1.funcs.length<=1000000000)
 (hF:(rnOf p).2=0->∀f∈(rnOf p).1.funcs,f.params.length<=1000000000/\scB (rnOf p).1 f.body [] (riT0 f.params) (riB (rnOf p).1 f.body [] (riT0 f.params))) (k1 k2:Int)
 (hK:(rnOf p).2=0->SC Tryz.prog 19 [.pv (riUn (rnOf p).1).enc] [] (λk=>k∈[]) (.tup [iInt k1,iInt k2]) []) :
 SC Tryz.prog 7 [.pv p.enc] [] (λk=>k∈[]) (.tup [.pv (yd5 p k1).1.enc,iInt (yd5 p k1).2]) []:=by
 refine SC.vc tb { pb:=[107],gh:=[(5,[.growC 105 1 9 59 5]),(10,[.fzC 105 1 9])] } [] Tryz.func7 rfl rfl ?_;unfold yd5;generalize rnOf p=q at hR hfl hF hK⊢;obtain⟨q,e⟩:=q;dsimp only at hR hfl hF hK⊢;refine⟨[],hR,sR,Gd,rfl,z00 (λh=>?_) λh=>?_⟩
 ·have h:¬e=0:=by simpa using h
  rw[if_neg h];exact⟨sT2 (sP (z0g _)),Gd⟩
 have h:e=0:=by simpa using h
 subst h;have hF:=hF rfl;have hK:=hK rfl;rw[if_pos rfl];refine⟨Nat,λi=>[(25,iInt ((i:Nat):Int))],λi=>[(105,.box [.pv (arrs q.arrays),.sl 9 ((q.funcs.take i).map λf=>(z7w q f).enc).length]),(9,.row ⟨59,5⟩ ((q.funcs.take i).map λf=>(z7w q f).enc))],λi=>q.funcs.length-i,λi=>i<=q.funcs.length,[],0,Ab _,Ge,Gf,?_⟩;intro i hi;refine z00 (λhc=>?_) λhc=>?_
 ·have hlt:i<q.funcs.length:=z12 (f:=Fu.enc) rfl hc;obtain⟨x,x1,x2,x3,x4⟩:=z0s hlt;obtain⟨f1,f2⟩:=hF x x4;exact⟨zb0 x1,rfl,[],j3b q x f1 f2,sR,Gd,rfl,rfl,z3y rfl,by simp;omega,by simp,z01 rfl oM0,i+1,z04 hlt,hlt,Ge,⟨boq (by rw[x2];simp),rwq (by rw[x2];simp[Fl.enc]),Gd⟩,rfl,rfl,rfl,rfl⟩
 ·have hge:q.funcs.length<=i:=z13 (f:=Fu.enc) rfl hc;rw[As hge];have he:(riUn q).enc=.agg [arrs q.arrays,.seq (q.funcs.map λf=>(z7w q f).enc)]:=by simp[riUn,Un.enc,flws]
  rw[he]at hK;refine⟨rfl,[],hK,sR,Gd,rfl,z00 (λh=>?_) λh=>?_⟩
  ·have h:¬k1=0:=by simpa using h
   rw[if_neg h];exact⟨sT2 (sP (z0g _)),Gd⟩
  ·have h:k1=0:=by simpa using h
   rw[if_pos h,he];exact⟨sI,Gd⟩
def twT(s:RiT):Nat:=s.ts.length+z0y s.ns
theorem z7c(vs:List (Value×PV))(z03:List ByteArray):(riOf vs z03).length=z03.length:=by simp[riOf]
theorem ya9(vs:List (Value×PV))(z03:List ByteArray)(ts:List Int)(ns:List Nd)(jk:List (List ByteArray))(k:Int)(args params:List Int)(kids:List (List Nd)) :
 twT (z5q vs z03 ts ns jk k args params kids).2<=ts.length+z0y ns+2*z03.length+1+args.length+params.length+wtK kids/\lsz (z5q vs z03 ts ns jk k args params kids).2.ns=lsz ns+1+kdz kids:=by
 have hl:=z3g (riOf vs z03) ts;rw[z7c]at hl;unfold z5q twT;split
 ·refine⟨?_,?_⟩
  ·dsimp only;rw[z7u,z6a,sz0];simp only[Az];omega
  ·dsimp only;rw[y3c,zq7];omega
 ·refine⟨?_,?_⟩
  ·dsimp only;rw[z7u,z6a,sz0];omega
  ·dsimp only;rw[y3c,zq7];omega
theorem yi9(k:Int)(z03:List ByteArray)(a:Bool×RiT):z0y (z5b k z03 a)<=z0y a.2.ns+1+z03.length/\lsz (z5b k z03 a)<=lsz a.2.ns+1:=by
 unfold z5b;split
 ·exact⟨by omega,by omega⟩
 ·rw[(z21 ..).1,(z21 ..).2,z7c,sz0];exact⟨by omega,Ae _⟩
theorem X_tw(p:Pg)(vs:List (Value×PV))(e:Ex)(h:nxX e=true)(s:RiS):(riX p vs e s).2.ts.length+z0y (riX p vs e s).2.ns<=s.ts.length+z0y s.ns+27*xz e/\lsz (riX p vs e s).2.ns<=lsz s.ns+4*xz e:=by
 obtain⟨h1,h2⟩:=(riX_tw p vs _).1 e (A7 _) h s;unfold tw at h1;exact⟨by omega,h2⟩
theorem zq9{l:List Ex}{i:Nat}{e:Ex}(h:nxL l=true)(he:l[i]?=some e):nxX e=true:=nxL_mem h (A9 he)
theorem kid_ts(s:RiT)(z03:List ByteArray):(z2a s z03).ts.length=s.ts.length+z03.length:=by
 have hl:=z3g (riOf s.vs z03) s.ts;rw[z7c]at hl;unfold z2a;dsimp only;omega
theorem ri_tw(p:Pg)(M:Nat):∀N,(∀x:St,SizeOf.sizeOf x<N->∀b lp lo s,gS p b lp x=true->nxS x=true->cnS x<=M->(∀l∈lo,l.length<=M)->twT (riS p x lo s).2<=twT s+27*sz x+(30+8*M)*cnS x/\lsz (riS p x lo s).2.ns<=lsz s.ns+4*sz x) /\
 (∀l:List St,SizeOf.sizeOf l<N->∀b lp lo s,gB p b lp l=true->nxB l=true->cnL l<=M->(∀q∈lo,q.length<=M)->twT (riB p l lo s).2<=twT s+27*szL l+(30+8*M)*cnL l/\lsz (riB p l lo s).2.ns<=lsz s.ns+4*szL l)
 |0=>⟨λ_ h=>absurd h (Ai _),λ_ h=>absurd h (Ai _)⟩
 |N+1=>by
  obtain⟨hS,hB⟩:=ri_tw p M N;refine⟨λx hx b lp lo s hg hn hc hlo=>?_,λl hl b lp lo s hg hn hc hlo=>?_⟩
  ·obtain⟨k,ty,nm,args,thn,els⟩:=x;simp at hx;rw[gS]at hg;rw[nxS,A0,A0,A0]at hn;obtain⟨⟨⟨n1,n2⟩,n3⟩,n4⟩:=hn;rw[cnS]at hc;rw[riS];simp only[cnS,sz];have hK:(30+8*M)*(1+cnL thn+cnL els)=(30+8*M)+(30+8*M)*cnL thn+(30+8*M)*cnL els:=by rw[F0,F0,Nat.mul_one]
   rw[hK]
   by_cases h4:k=4
   ·subst h4;rw[if_pos rfl,A0,A0]at hg;rw[if_pos rfl];obtain⟨e,i1,i2,i3,i4⟩:=zb1 hg.1.1;rw[i2];obtain⟨j1,j2⟩:=X_tw p s.vs e (zq9 n2 i1) ⟨s.ts,s.ns⟩;generalize riX p s.vs e ⟨s.ts,s.ns⟩=c at j1 j2⊢;dsimp only at j1 j2;obtain⟨a1,a2⟩:=hB thn oM0 b lp lo ⟨s.vs,c.2.ts,[],s.jk⟩ hg.1.2 n3 oM0 hlo;generalize riB p thn lo ⟨s.vs,c.2.ts,[],s.jk⟩=a at a1 a2⊢;obtain⟨d1,d2⟩:=hB els oM0 b lp lo ⟨s.vs,a.2.ts,[],a.2.jk⟩ hg.2 n4 oM0 hlo;generalize riB p els lo ⟨s.vs,a.2.ts,[],a.2.jk⟩=d at d1 d2⊢;have hm:=zv9 s.vs thn els;generalize z0b s.vs [thn,els]=z03 at hm⊢;unfold ze8;obtain⟨r1,r2⟩:=ya9 s.vs z03 d.2.ts c.2.ns d.2.jk 10 [c.1] [] [z5b 12 z03 a,z5b 12 z03 d];obtain⟨w1,w2⟩:=yi9 12 z03 a;obtain⟨v1,v2⟩:=yi9 12 z03 d;rw[yi1]at r1;rw[yb1]at r2;unfold twT at a1 d1 r1⊢;simp only[z7v,Al,Az]at a1 d1 r1;rw[show lsz []=0 from rfl]at a2 d2;generalize(30+8*M)*cnL thn=Kt at a1⊢;generalize(30+8*M)*cnL els=Ke at d1⊢;exact⟨by omega,by omega⟩
   by_cases h5:k=5
   ·subst h5;rw[if_neg dC0,if_pos rfl,A0]at hg;rw[if_neg dC0,if_pos rfl];obtain⟨e,i1,i2,i3,i4⟩:=zb1 hg.1;rw[i2];have hm:=z89 s.vs thn;generalize z0b s.vs [thn]=z03 at hm⊢;have hlo2:∀q∈lo++[z03],q.length<=M:=λq hq=>by
     rcases Aw.1 hq with h|h
     ·exact hlo q h
     ·rw[Ag.1 h];omega
    have hk:=kid_ts s z03;have hl:=z3g (riOf s.vs z03) s.ts;have hkn:(z2a s z03).ns=[]:=rfl;rw[z7c]at hl;split
    ·obtain⟨a1,a2⟩:=hB thn oM0 b true (lo++[z03]) (z2a s z03) hg.2 n3 oM0 hlo2;generalize riB p thn (lo++[z03]) (z2a s z03)=a at a1 a2⊢;unfold y5r;obtain⟨r1,r2⟩:=ya9 s.vs z03 a.2.ts s.ns (z03::a.2.jk) 11 (riOf s.vs z03) (z15 s.ts (riOf s.vs z03)).1 [z5b 13 z03 a];obtain⟨w1,w2⟩:=yi9 13 z03 a;rw[j5i,z7c]at r1;rw[j11]at r2;unfold twT at a1 r1⊢;rw[hkn,z7v]at a1;rw[hkn,show lsz []=0 from rfl]at a2;generalize(30+8*M)*cnL thn=Kt at a1⊢;generalize(30+8*M)*cnL els=Ke;exact⟨by omega,by omega⟩
    ·obtain⟨j1,j2⟩:=X_tw p (z2a s z03).vs e (zq9 n2 i1) ⟨(z2a s z03).ts,[]⟩;generalize riX p (z2a s z03).vs e ⟨(z2a s z03).ts,[]⟩=c at j1 j2⊢;dsimp only at j1 j2;obtain⟨a1,a2⟩:=hB thn oM0 b true (lo++[z03]) ⟨(z2a s z03).vs,c.2.ts,[],s.jk.tail⟩ hg.2 n3 oM0 hlo2;generalize riB p thn (lo++[z03]) ⟨(z2a s z03).vs,c.2.ts,[],s.jk.tail⟩=a at a1 a2⊢;unfold y5s;obtain⟨r1,r2⟩:=ya9 s.vs z03 a.2.ts s.ns (z03::a.2.jk) 11 (riOf s.vs z03) (z15 s.ts (riOf s.vs z03)).1 [z8p z03 (z2a s z03).vs c a];obtain⟨w1,w2⟩:=yi9 13 z03 a;have hq:z0y (z8p z03 (z2a s z03).vs c a)=z0y c.2.ns+5+z0y (z5b 13 z03 a)+z03.length/\lsz (z8p z03 (z2a s z03).vs c a)=lsz c.2.ns+2+lsz (z5b 13 z03 a):=by
      unfold z8p;refine⟨?_,?_⟩
      ·rw[z7u,z6a,yi1,(z21 ..).1,z7c,sz0,z7v];simp only[Al,Az];omega
      ·rw[y3c,zq7,yb1,(z21 ..).2,show lsz []=0 from rfl];omega
     rw[j5i,z7c,hq.1]at r1;rw[j11,hq.2]at r2;unfold twT at a1 r1⊢;simp only[z7v]at a1 j1;rw[show lsz []=0 from rfl]at a2 j2;generalize(30+8*M)*cnL thn=Kt at a1⊢;generalize(30+8*M)*cnL els=Ke;exact⟨by omega,by omega⟩
   rw[if_neg h4,if_neg h5]at hg;rw[if_neg h4,if_neg h5];have hlast:=y0h hlo;generalize(30+8*M)*cnL thn=Kt;generalize(30+8*M)*cnL els=Ke;unfold twT
   by_cases h6:k=6
   ·rw[if_pos h6];dsimp only;rw[(z21 ..).1,(z21 ..).2,z7c,sz0];exact⟨by omega,by omega⟩
   by_cases h7:k=7
   ·rw[if_neg h6,if_pos h7];dsimp only;rw[(z21 ..).1,(z21 ..).2,z7c,sz0];exact⟨by omega,by omega⟩
   rw[if_neg oM0]at hg;rw[if_neg h6,if_neg h7];have hnm:k=3->nm.size<=20:=λh=>by
    subst h;rw[B7,B7]at n1;rcases n1 with(n1|n1)|n1
    iterate 2 exact absurd n1 dC0
    ·exact Aq n1
   by_cases h8:k=8
   ·subst h8;rw[if_neg dC0,A0]at hg;rw[if_pos rfl];obtain⟨e,i1,i2,i3,i4⟩:=zb1 hg.1;rw[i2];obtain⟨j1,j2⟩:=X_tw p s.vs e (zq9 n2 i1) ⟨s.ts,s.ns⟩;dsimp only at j1 j2⊢;rw[(z21 ..).1,(z21 ..).2,sz0];simp only[Al,Az];exact⟨by omega,by omega⟩
   rw[if_neg h8];unfold z8a
   by_cases h3:k=3
   ·have hnm:=hnm h3;subst h3;rw[if_pos rfl]at hg;obtain⟨e,e2,i1,i2,i3,i4,i5,i6,i7⟩:=j0r hg;rw[if_neg dC0,if_pos rfl,i3,i4];obtain⟨j1,j2⟩:=X_tw p s.vs e (zq9 n2 i1) ⟨s.ts,s.ns⟩;obtain⟨m1,m2⟩:=X_tw p s.vs e2 (zq9 n2 i2) (riX p s.vs e ⟨s.ts,s.ns⟩).2;dsimp only at j1 j2⊢;rw[(z21 ..).1,(z21 ..).2];simp only[Al,Az];exact⟨by omega,by omega⟩
   rw[if_neg h3,A0]at hg;obtain⟨e,i1,i2,i3,i4⟩:=zb1 hg.1;rw[i2];obtain⟨j1,j2⟩:=X_tw p s.vs e (zq9 n2 i1) ⟨s.ts,s.ns⟩;dsimp only at j1 j2
   by_cases h12:k=1∨k=2
   ·rw[if_pos h12];dsimp only;exact⟨by omega,by omega⟩
   ·rw[if_neg h12,if_neg h3];split
    ·dsimp only;rw[(z21 ..).1,(z21 ..).2,sz0];simp only[Al,Az];exact⟨by omega,by omega⟩
    ·dsimp only;exact⟨by omega,by omega⟩
  ·match l with
   |[]=>rw[riB];exact⟨Bj _ _,Bj _ _⟩
   |x::r =>
    simp at hl;rw[gB,A0]at hg;rw[nxB,A0]at hn;rw[cnL]at hc;obtain⟨a1,a2⟩:=hS x oM0 b lp lo s hg.1 hn.1 oM0 hlo;rw[riB];simp only[cnL,szL];rw[F0 (30+8*M) (cnS x) (cnL r)];generalize(30+8*M)*cnS x=Kx at a1⊢;split
    ·exact⟨by dsimp only;omega,by dsimp only;omega⟩
    ·obtain⟨d1,d2⟩:=hB r oM0 _ lp lo (riS p x lo s).2 hg.2 hn.2 oM0 hlo;exact⟨by omega,by omega⟩
theorem gr_le(M:Nat):∀N,(∀x:St,SizeOf.sizeOf x<N->cnS x<=M->grS x<=8*sz x+(2+2*M)*cnS x)/\(∀l:List St,SizeOf.sizeOf l<N->cnL l<=M->grL l<=8*szL l+(2+2*M)*cnL l)
 |0=>⟨λ_ h=>absurd h (Ai _),λ_ h=>absurd h (Ai _)⟩
 |N+1=>by
  obtain⟨hS,hB⟩:=gr_le M N;refine⟨λx hx hc=>?_,λl hl hc=>?_⟩
  ·obtain⟨k,ty,nm,args,thn,els⟩:=x;simp at hx;rw[cnS]at hc;have a:=hB thn oM0 oM0;have b:=hB els oM0 oM0;simp only[cnS,sz,grS];rw[show(2+2*M)*(1+cnL thn+cnL els)=(2+2*M)+(2+2*M)*cnL thn+(2+2*M)*cnL els by rw[F0,F0,Nat.mul_one]];generalize(2+2*M)*cnL thn=Kt at a⊢;generalize(2+2*M)*cnL els=Ke at b⊢;omega
  ·match l with
   |[]=>exact Ab _
   |x::r =>
    simp at hl;rw[cnL]at hc;have a:=hS x oM0 oM0;have b:=hB r oM0 oM0;simp only[cnL,szL,grL];rw[F0 (2+2*M) (cnS x) (cnL r)];generalize(2+2*M)*cnS x=Kt at a⊢;generalize(2+2*M)*cnL r=Ke at b⊢;omega
structure RnOk(q:Pg):Prop where
 pz:pz q.funcs<=300003
 ar:q.arrays.length<=300003
 cn:pcn q.funcs<=50000
 nmA:∀a∈q.arrays,a.name.size<=20
 nmF:∀f∈q.funcs,f.name.size<=20
 gB:∀f∈q.funcs,gB q (!f.params.isEmpty) false f.body=true
 nx:∀f∈q.funcs,nxB f.body=true
 nt:∀f∈q.funcs,ntL maxLen f.body
theorem y5m{f:Fu}:∀{l:List Fu},f∈l->cnL f.body<=pcn l
 |x::r,h=>by
  rw[pcn];rcases Am.1 h with rfl|h
  ·omega
  ·have:=y5m h;omega
theorem pz_rn:∀l:List Fu,pz (l.map rnF)=pz l/\pcn (l.map rnF)=pcn l
 |[]=>⟨rfl,rfl⟩
 |f::r=>by
  obtain⟨h1,h2⟩:=pz_rn r;rw[B3,pz,pz,pcn,pcn,h1,h2];have e1:(rnF f).params.length=f.params.length:=z9w _ _ _;have e2:szL (rnF f).body=szL f.body:=rn_sz _ _ _;have e3:cnL (rnF f).body=cnL f.body:=rn_cn _ _ _;rw[e1,e2,e3];exact⟨rfl,rfl⟩
theorem rnOk{p:Pg}(h1:pz p.funcs+p.arrays.length<=300003)(h2:pcn p.funcs<=50000)(hr:rPg p=true)(hy:(z8e p).1=0):RnOk (rnP p):=by
 have hr':=hr;unfold rPg at hr';rw[A0]at hr';obtain⟨ha,hf⟩:=hr';have ha:=Bg.1 ha;have hf:=Bg.1 hf;have hF:∀f∈p.funcs,z0m f.name=true/\rsL f.body 100=true:=λf h=>by
  have:=hf f h;unfold rFu at this;simp only[A0]at this;exact⟨this.1.1.1.1,this.1.2⟩
 obtain⟨e1,e2⟩:=pz_rn p.funcs;have sh0:Sh []:=λe he=>by cases he
 refine⟨?_,?_,?_,λa h=>?_,λf h=>?_,rnF_gB hr hy,λf h=>?_,λf h=>?_⟩
 ·show pz (p.funcs.map rnF)<=_;omega
 ·show p.arrays.length<=_;omega
 ·show pcn (p.funcs.map rnF)<=_;omega
 ·have:=ha a h;simp only[A0]at this;exact zl3 this.1.1
 all_goals obtain⟨g,hg,rfl⟩:=Bx.1 (show f∈p.funcs.map rnF from h)
 ·exact zl3 (hF g hg).1
 ·exact(nxB_rn _).2 g.body (A7 _) _ _ ((nxB_of _).2 g.body (A7 _) 100 (hF g hg).2)
 ·have hpl:=zv5 hg;have hcm:=y5m hg;obtain⟨s1,s2⟩:=j2r g.params [] 0 sh0 oM0;refine(j1j (show 30<=maxLen by decide) _).2 _ (A7 _) ?_;exact((nt_rn _).2 g.body (A7 _) (rnPm g.params [] 0).2.1 (rnPm g.params [] 0).2.2 100 s1 oM0 (hF g hg).2).1
theorem riFun{q:Pg}(h:RnOk q){f:Fu}(hf:f∈q.funcs):f.params.length<=1000000000/\scB q f.body [] (riT0 f.params) (riB q f.body [] (riT0 f.params)):=by
 have hpl:=zv5 hf;have hcm:=y5m hf;have h1:=h.pz;have h2:=h.cn;have h3:=zl6 q.funcs;have h4:=h.ar;have hg:=(gr_le 50000 _).2 f.body (A7 _) oM0;have ht:(riT0 f.params).ts.length=f.params.length:=y1c f.params;refine⟨by omega,(yo5 q ⟨by omega,by omega⟩ _).2 f.body (A7 _) (!f.params.isEmpty) false [] (riT0 f.params) (h.gB f hf) (h.nt f hf) oM0 (yn1 f.params) ⟨by omega,?_,?_,(λl hl=>by cases hl),λe=>by cases e⟩⟩
 ·show 0+_<=_;omega
 ·show 0+0+_<=_;omega
theorem j2b{q:Pg}(h:RnOk q){f:Fu}(hf:f∈q.funcs):(z7w q f).types.length+z0y (z7w q f).body<=f.params.length+27*szL f.body+400030*cnL f.body/\lsz (z7w q f).body<=4*szL f.body:=by
 have hcm:=y5m hf;have h2:=h.cn;obtain⟨a,b⟩:=(ri_tw q 50000 _).2 f.body (A7 _) (!f.params.isEmpty) false [] (riT0 f.params) (h.gB f hf) (h.nx f hf) oM0 (λl hl=>by cases hl);have ht:twT (riT0 f.params)=f.params.length:=by
  unfold twT;rw[show(riT0 f.params).ts.length=f.params.length from y1c f.params];rfl
 rw[ht]at a;have hb:lsz (riT0 f.params).ns=0:=rfl;rw[hb]at b;unfold twT at a;exact⟨by simpa[z7w]using a,by simpa[z7w]using b⟩
theorem riUn_w{q:Pg}(h:RnOk q):z0h (riUn q)<=34000000000/\uSz (riUn q).flows<=4000000:=by
 have h1:=h.pz;have h2:=h.cn;have h4:=h.ar;have key:∀l:List Fu,(∀f∈l,f∈q.funcs)->wtF (l.map (z7w q))+l.length<=27*pz l+400030*pcn l/\uSz (l.map (z7w q))<=4*pz l:=by
  intro l
  induction l with
  |nil=>intro _;exact⟨Ae _,Ae _⟩
  |cons f r ih =>
   intro hm;obtain⟨i1,i2⟩:=ih λx hx=>hm x (.tail _ hx);have hf:=hm f (.head _);obtain⟨a,b⟩:=j2b h hf;have hn:=h.nmF f hf;rw[B3,wtF,uSz,pz,pcn,Al];have e:(z7w q f).name.size=f.name.size:=rfl;rw[e,F0 400030];generalize 400030*cnL f.body=K1 at a⊢;generalize 400030*pcn r=K2 at i1⊢;exact⟨by omega,by omega⟩
 obtain⟨k1,k2⟩:=key q.funcs λf h=>h;have hA:∀l:List Ar,(∀a∈l,a.name.size<=20)->wtA l<=20*l.length:=by
  intro l
  induction l with
  |nil=>intro _;exact Ae _
  |cons a r ih =>
   intro hm;have:=ih λx hx=>hm x (.tail _ hx);have:=hm a (.head _);rw[wtA,Al];omega
 have hA:=hA q.arrays h.nmA;have hm:400030*pcn q.funcs<=400030*50000:=Nat.mul_le_mul_left _ h2;generalize 400030*pcn q.funcs=K at k1 hm;unfold z0h;have e1:(riUn q).arrays=q.arrays:=rfl;have e2:(riUn q).flows=q.funcs.map (z7w q):=rfl;rw[e1,e2,A6];have h3:=zl6 q.funcs;exact⟨by omega,by omega⟩
def riU(s:ByteArray):Un×Int:=yd5 (z1x s).1 (z4x (riUn (rnOf (z1x s).1).1)).1
theorem rn_ok(s:ByteArray)(h:(rnOf (z1x s).1).2=0):RnOk (rnOf (z1x s).1).1:=by
 unfold rnOf at h⊢
 by_cases hy:(z8e (z1x s).1).1=0
 ·rw[if_pos hy];exact rnOk (y7d s) (j0s s) (zu5 s) hy
 ·rw[if_neg hy]at h;exact absurd h dC0
theorem sc_Rise(s:ByteArray):SC Tryz.prog 7 [.pv (z1x s).1.enc] [] (λk=>k∈[]) (.tup [.pv (riU s).1.enc,iInt (riU s).2]) []:=by
 have hz:=y7d s;refine sc_Rise0 (z1x s).1 (j2x (z1x s).1 oM0 oM0 (zu5 s)) ?_ (λh f hf=>riFun (rn_ok s h) hf) _ (z4x (riUn (rnOf (z1x s).1).1)).2 λh=>SC.anyR (y49 _ (Bi (riUn_w (rn_ok s h)).1 dC0))
 by_cases hy:(z8e (z1x s).1).1=0
 ·have h:(rnOf (z1x s).1).2=0:=by unfold rnOf;rw[if_pos hy]
  have:=(rn_ok s h).pz;have:=zl6 (rnOf (z1x s).1).1.funcs;omega
 ·unfold rnOf;rw[if_neg hy];exact Ab _
theorem un0_w:z0h un0<=34000000000/\uSz un0.flows<=4000000:=⟨by decide,by decide⟩
theorem riU_w(s:ByteArray):z0h (riU s).1<=34000000000/\uSz (riU s).1.flows<=4000000:=by
 unfold riU yd5;split
 ·rename_i h;split
  ·exact riUn_w (rn_ok s h)
  ·exact un0_w
 ·exact un0_w
theorem riU_ar(s:ByteArray):(riU s).1.arrays.length<=(z1x s).1.arrays.length:=by
 unfold riU yd5;split
 ·rename_i h;have e:(rnOf (z1x s).1).1.arrays=(z1x s).1.arrays:=by
   unfold rnOf at h⊢
   by_cases hy:(z8e (z1x s).1).1=0
   ·rw[if_pos hy];rfl
   ·rw[if_neg hy]at h;exact absurd h dC0
  split
  ·show(rnOf (z1x s).1).1.arrays.length<=_;rw[e];exact Ae _
  ·exact Ab _
 ·exact Ab _
section
variable {T:List Tk}
theorem j24:∀(l:List UInt8)(n:Int),n<=maxI->qVal n l<=maxI
 |[],n,h=>h
 |b::r,n,h=>by
  rw[qVal];split
  ·decide
  ·rename_i hc;refine j24 r _ ?_;have hb:(b.toNat:Int)<256:=by have:=b.toNat_lt;omega
   unfold maxI at hc⊢;rw[Dt oM0]at hc;omega
theorem j58(s:ByteArray):z9d s<=maxI:=by
 have h:=j24 s.data.toList 0 dC0;unfold z9d;split
 ·decide
 split
 ·decide
 ·exact h
theorem num64(hT:TkOk T){s:Ps}(h:(tkAt T s).kind=0):n64 (z9d (tkAt T s).text)=true:=by
 have hle:=j58 (tkAt T s).text;obtain⟨init,e,rfl,he,hi⟩:=hT;have hm:tkAt (init++[e]) s∈init:=by
  unfold tkAt at h⊢;rw[At]at h⊢
  cases hg:(init++[e])[s.at_]? with
  |none=>rw[hg]at h;cases h
  |some t =>
   rw[hg]at h;rcases Aw.1 (A9 hg)with hm|hm
   ·exact hm
   ·rw[Ag.1 hm]at h;rw[Cf,he]at h;cases h
 have hn:=(hi _ hm).2 h;unfold zi0 at hn;simp only[A0,B6]at hn;have:=hn.2;unfold maxI at hle;simp only[n64,A0,B6];omega
mutual
def uX:Ex->Bool
 |.mk _ _ n _ args=>n64 n&&uXL args
def uXL:List Ex->Bool
 |[]=>true
 |x::r=>uX x&&uXL r
end
mutual
def uS:St->Bool
 |.mk _ _ _ args thn els=>uXL args&&uB thn&&uB els
def uB:List St->Bool
 |[]=>true
 |x::r=>uS x&&uB r
end
theorem j4v:∀a b:List Ex,uXL (a++b)=(uXL a&&uXL b)
 |[],b=>by simp[uXL]
 |x::r,b=>by simp only[B9,uXL,j4v r b,E9]
theorem uB_app:∀a b:List St,uB (a++b)=(uB a&&uB b)
 |[],b=>by simp[uB]
 |x::r,b=>by simp only[B9,uB,uB_app r b,E9]
theorem zq8:n64 0=true:=by decide
theorem n64_1:n64 1=true:=by decide
theorem ya1(hT:TkOk T):∀N,(∀l d s,uX (z2y T N l d s).1=true)/\(∀l d r,uX r.1=true->uX (z8u T N l d r).1=true)/\(∀d s,uX (z6s T N d s).1=true) /\
 (∀d s,uX (zw8 T N d s).1=true)/\(∀d s,uXL (z6w T N d s).1=true)/\(∀d b out s,uXL out=true->uXL (z85 T N d b out s).1=true)
 |0=>⟨λ_ _ _=>rfl,λ_ _ _ h=>h,λ_ _=>rfl,λ_ _=>rfl,λ_ _=>rfl,λ_ _ _ _ h=>h⟩
 |N+1=>by
  obtain⟨iE,iL,iU,iP,iA,iG⟩:=ya1 hT N;refine⟨λl d s=>?_,λl d r h=>?_,λd s=>?_,λd s=>?_,λd s=>?_,λd b out s h=>?_⟩
  ·unfold z2y;split
   ·exact iU _ _
   ·exact iL l d _ (iE _ _ _)
  ·unfold z8u;split
   ·exact h
   ·exact iL l d _ (by simp[uX,uXL,zq8,h,iE])
  ·unfold z6s
   cases h:pUn T (z48 d s)with
   |none=>exact iP _ _
   |some o =>
    dsimp only;split<;>simp[uX,uXL,zq8,iE,iU]
  ·unfold zw8;split
   ·rfl
   split
   ·exact iE _ _ _
   split
   ·simp[uX,uXL,n64_1]
   split
   ·simp[uX,uXL,zq8]
   split
   ·simp[uX,uXL,zq8]
   split
   ·rename_i hk;simp[uX,uXL,num64 hT hk]
   split
   ·simp[uX,zq8,iA]
   split
   ·simp[uX,uXL,zq8,iE]
   ·simp[uX,uXL,zq8]
  ·unfold z6w;split
   ·rfl
   ·exact iG _ _ _ _ rfl
  ·unfold z85;split
   ·exact iG _ _ _ _ (by simp[j4v,uXL,h,iE])
   ·exact h
theorem mE_u(hT:TkOk T)(s:Ps):uX (mE T s).1=true:=(ya1 hT (big T)).1 1 1 s
theorem yk0(hT:TkOk T)(s:Ps):uX (z1p T s).1=true:=mE_u hT _
section
attribute [local irreducible] mE z6w z1p mLet z9m z4u big
theorem named_u(hT:TkOk T)(s:Ps):uS (z4u T s).1=true:=by
 have hA:=λd s=>(ya1 hT (big T)).2.2.2.2.1 d s;have hE:=λs=>mE_u hT s;unfold z4u;split
 ·simp[uS,uX,uXL,uB,zq8,hA]
 split
 iterate 2 ·simp[uS,uXL,uB,hE]
theorem let_u(hT:TkOk T)(s:Ps):uS (mLet T s).1=true:=by
 have hE:=λs=>mE_u hT s;unfold mLet;simp[uS,uXL,uB,hE]
theorem flat_u(hT:TkOk T)(s:Ps):uS (z9m T s).1=true:=by
 have hE:=λs=>mE_u hT s;have hI:=λs=>yk0 hT s;unfold z9m;split
 ·rfl
 split
 ·rfl
 split
 ·simp[uS,uXL,uB,hE]
 split
 ·simp[uS,uXL,uB,hI]
 ·exact named_u hT s
theorem j4f(hT:TkOk T):∀N,(∀d s,uS (z5n T N d s).1=true)/\(∀d s,uB (z1t T N d s).1=true)/\(∀d out s,uB out=true->uB (z75 T N d out s).1=true)
 |0=>⟨λ_ _=>rfl,λ_ _=>rfl,λ_ _ _ h=>h⟩
 |N+1=>by
  obtain⟨iS,iB,iL⟩:=j4f hT N;have hI:=λs=>yk0 hT s;refine⟨λd s=>?_,λd s=>?_,λd out s h=>?_⟩
  ·unfold z5n;split
   ·exact let_u hT _
   split
   ·split<;>simp[uS,uXL,uB,hI,iB]
   split
   ·simp[uS,uXL,uB,hI,iB]
   ·exact flat_u hT _
  ·unfold z1t;exact iL _ _ _ rfl
  ·unfold z75;split
   ·exact h
   split
   ·exact h
   ·exact iL _ _ _ (by simp[uB_app,uB,h,iS])
theorem j21(hT:TkOk T):∀N p s,(∀f∈p.funcs,uB f.body=true)->∀f∈(z3j T N p s).1.funcs,uB f.body=true
 |0,p,s,h=>h
 |N+1,p,s,h=>by
  unfold z3j;split
  ·exact h
  split
  ·exact j21 hT N _ _ h
  ·refine j21 hT N _ _ λf hf=>?_;rcases Aw.1 hf with hf|hf
   ·exact h f hf
   ·rw[Ag.1 hf];exact(j4f hT (big T)).2.1 _ _
end
section
attribute [local irreducible] big
theorem gParse_u(s:ByteArray):∀f∈(z1x s).1.funcs,uB f.body=true:=by
 unfold z1x;have h0:∀f∈pg0.funcs,uB f.body=true:=λf hf=>by cases hf
 split
 ·rename_i h;split
  ·exact h0
  split
  ·exact h0
  split
  ·have:=j21 (zo6 h).1 (big (z1r s).1) ⟨[],[]⟩ ⟨0,false,false⟩ (λf hf=>by cases hf);exact this
  ·exact h0
 ·exact h0
end
mutual
theorem uX_rn(es:List (Value×PV)):∀e:Ex,uX (rnX es e)=uX e
 |.mk k o n nm args=>by rw[rnX,uX,uX,j4w es args]
theorem j4w(es:List (Value×PV)):∀l:List Ex,uXL (rnXL es l)=uXL l
 |[]=>rfl
 |x::r=>by rw[rnXL,uXL,uXL,uX_rn es x,j4w es r]
end
mutual
theorem uS_rn:∀(x:St) (es:List (Value×PV)) (n:Nat),uS (rnS x es n).1=uS x
 |.mk k ty nm args thn els,es,n=>by rw[rnS,uS,uS,<- zr9,j4w,uB_rn thn,uB_rn els]
theorem uB_rn:∀(l:List St) (es:List (Value×PV)) (n:Nat),uB (rnB l es n).1=uB l
 |[],_,_=>rfl
 |x::r,es,n=>by rw[rnB,uB,uB,uS_rn x,uB_rn r]
end
theorem y7q:∀a b:List Nd,nIL (a++b)=(nIL a&&nIL b)
 |[],b=>by simp[nIL]
 |x::r,b=>by simp only[B9,nIL,y7q r b,E9]
theorem nI_put(t k o n:Int)(nm:ByteArray)(args:List Int)(kids:List (List Nd))(s:RiS)(hn:n64 n=true)(hk:nIK kids=true)(h:nIL s.ns=true):nIL (z5y t k o n nm args kids s).2.ns=true:=by
 simp[z5y,y7q,nIL,nIN,hn,hk,h]
theorem zu9(k:Int)(nm:ByteArray)(args:List Int)(ns:List Nd)(h:nIL ns=true):nIL (z6b k nm args ns)=true:=by
 simp[z6b,y7q,nIL,nIN,nIK,zq8,h]
theorem nI_top(p:Pg)(k o n:Int)(nm:ByteArray)(l:List Int)(s:RiS)(hn:n64 n=true)(h:nIL s.ns=true):nIL (zj0 p k o n nm l s).2.ns=true:=by
 unfold zj0
 repeat' split
 all_goals exact nI_put _ _ _ _ _ _ _ _ (by first|exact hn|exact zq8) rfl h
theorem nI_sh(o a:Int)(ns:List Nd)(r:Int×RiS)(h:nIL ns=true)(hr:nIL r.2.ns=true):nIL (z5r o a ns r).2.ns=true:=by
 unfold z5r;split
 all_goals exact nI_put _ _ _ _ _ _ _ _ zq8 (by simp[nIK,zu9,hr,nIL,nIN,zq8,n64_1]) h
mutual
theorem nI_X(p:Pg)(vs:List (Value×PV)):∀(e:Ex)(s:RiS),uX e=true->nIL s.ns=true->nIL (riX p vs e s).2.ns=true
 |.mk k o n nm args,s,hu,h=>by
  rw[uX,A0]at hu;unfold riX;split
  ·exact h
  split
  ·exact nI_Sh p vs o args s hu.2 h
  ·exact nI_top _ _ _ _ _ _ _ hu.1 (nI_XL p vs args s hu.2 h)
theorem nI_XL(p:Pg)(vs:List (Value×PV)):∀(l:List Ex)(s:RiS),uXL l=true->nIL s.ns=true->nIL (riXL p vs l s).2.ns=true
 |[],s,_,h=>h
 |e::r,s,hu,h=>by
  rw[uXL,A0]at hu;exact nI_XL p vs r _ hu.2 (nI_X p vs e s hu.1 h)
theorem nI_Sh(p:Pg)(vs:List (Value×PV))(o:Int):∀(l:List Ex)(s:RiS),uXL l=true->nIL s.ns=true->nIL (riSh p vs o l s).2.ns=true
 |[],s,_,h=>h
 |e::r,s,hu,h=>by
  rw[uXL,A0]at hu;exact nI_Sh2 p vs o _ r _ hu.2 (nI_X p vs e s hu.1 h)
theorem nI_Sh2(p:Pg)(vs:List (Value×PV))(o a:Int):∀(l:List Ex)(s:RiS),uXL l=true->nIL s.ns=true->nIL (zi8 p vs o a s l).2.ns=true
 |[],s,_,h=>h
 |e::r,s,hu,h=>by
  rw[uXL,A0]at hu;exact nI_sh o a s.ns _ h (nI_X p vs e ⟨s.ts,[]⟩ hu.1 rfl)
end
theorem uX_0{l:List Ex}(h:uXL l=true)(i:Nat):uX (l.getD i ex0)=true:=by
 rw[At]
 cases hg:l[i]? with
 |none=>rfl
 |some e =>
  have:∀(l:List Ex),uXL l=true->∀e∈l,uX e=true:=by
   intro l
   induction l with
   |nil=>intro _ e he;cases he
   |cons x r ih =>
    intro h e he;rw[uXL,A0]at h;rcases Am.1 he with rfl|he
    ·exact h.1
    ·exact ih h.2 e he
  exact this l h e (A9 hg)
theorem yl7(k:Int)(z03:List ByteArray)(a:Bool×RiT)(h:nIL a.2.ns=true):nIL (z5b k z03 a)=true:=by
 unfold z5b;split
 ·exact h
 ·exact zu9 _ _ _ _ h
theorem yb7(vs:List (Value×PV))(z03:List ByteArray)(ts:List Int)(ns:List Nd)(jk:List (List ByteArray))(k:Int)(args params:List Int)(kids:List (List Nd))(h:nIL ns=true)(hk:nIK kids=true):nIL (z5q vs z03 ts ns jk k args params kids).2.ns=true:=by
 unfold z5q;split<;>simp[y7q,nIL,nIN,zq8,h,hk]
theorem j1e(p:Pg)(k:Int)(nm:ByteArray)(args:List Ex)(s:RiT)(hu:uXL args=true)(h:nIL s.ns=true):nIL (z8a p k nm args s).ns=true:=by
 have h0:=nI_X p s.vs (args.getD 0 ex0) ⟨s.ts,s.ns⟩ (uX_0 hu 0) h;have h1:=nI_X p s.vs (args.getD 1 ex0) _ (uX_0 hu 1) h0;unfold z8a;split
 ·exact h0
 split
 ·exact zu9 _ _ _ _ h1
 split
 ·exact zu9 _ _ _ _ h0
 ·exact h0
mutual
theorem nI_B(p:Pg):∀(l:List St) (lo:List (List ByteArray)) (s:RiT),uB l=true->nIL s.ns=true->nIL (riB p l lo s).2.ns=true
 |[],lo,s,_,h=>h
 |x::r,lo,s,hu,h=>by
  rw[uB,A0]at hu;have h1:=nI_S p x lo s hu.1 h;unfold riB;split
  ·exact h1
  ·exact nI_B p r lo _ hu.2 h1
theorem nI_S(p:Pg):∀(x:St) (lo:List (List ByteArray)) (s:RiT),uS x=true->nIL s.ns=true->nIL (riS p x lo s).2.ns=true
 |.mk k ty nm args thn els,lo,s,hu,h=>by
  rw[uS,A0,A0]at hu;have hX:=λvs s h=>nI_X p vs (args.getD 0 ex0) s (uX_0 hu.1.1 0) h;have hT:=λlo s h=>nI_B p thn lo s hu.1.2 h;have hE:=λlo s h=>nI_B p els lo s hu.2 h;unfold riS;split
  ·exact yb7 _ _ _ _ _ _ _ _ _ (hX _ _ h) (by rw[nIK,nIK,nIK,yl7 _ _ _ (hT _ _ rfl),yl7 _ _ _ (hE _ _ rfl)];rfl)
  split
  ·split
   ·exact yb7 _ _ _ _ _ _ _ _ _ h (by rw[nIK,nIK,yl7 _ _ _ (hT _ _ rfl)];rfl)
   ·exact yb7 _ _ _ _ _ _ _ _ _ h (by rw[nIK,nIK,z8p,y7q,nIL,nIL,nIN,nIK,nIK,nIK,yl7 _ _ _ (hT _ _ rfl),zu9 _ _ _ _ rfl,hX _ _ rfl];rfl)
  split
  ·exact zu9 _ _ _ _ h
  split
  ·exact zu9 _ _ _ _ h
  split
  ·exact zu9 _ _ _ _ (hX _ _ h)
  ·exact j1e _ _ _ _ _ hu.1.1 h
end
theorem riU_n(s:ByteArray):∀f∈(riU s).1.flows,nIL f.body=true:=by
 have h0:∀f∈un0.flows,nIL f.body=true:=λf hf=>by cases hf
 unfold riU yd5;split
 ·rename_i h;split
  ·intro f hf;have hf:f∈(riUn (rnOf (z1x s).1).1).flows:=hf;unfold riUn at hf;obtain⟨g,hg,rfl⟩:=Bx.1 hf;have hr:uB g.body=true:=by
    unfold rnOf at h hg
    by_cases hy:(z8e (z1x s).1).1=0
    ·rw[if_pos hy]at hg;obtain⟨g0,h1,rfl⟩:=Bx.1 (show g∈(z1x s).1.funcs.map rnF from hg);show uB (rnB _ _ _).1=true;rw[uB_rn];exact gParse_u s g0 h1
    ·rw[if_neg hy]at h;exact absurd h dC0
   exact nI_B _ _ _ _ hr rfl
  ·exact h0
 ·exact h0
end
section
variable {T:List Tk}
theorem yb6{w:ByteArray}{s:Ps}(h:(z0p T w s).over=false):(z0p T w s).at_=s.at_+1/\s.over=false:=by
 unfold z0p at h⊢;split at h
 ·rename_i c;rw[if_pos c];exact⟨rfl,(z4n c).1⟩
 ·rename_i c;rw[if_neg c];split at h
  ·rename_i d;simp[Ps.over,d]at h
  ·simp[Ps.over,Ps.setBad]at h
theorem j4m{k:Int}{s:Ps}(h:(z0n T k s).2.over=false):(z0n T k s).2.at_=s.at_+1/\s.over=false:=by
 unfold z0n at h⊢;split at h
 ·rename_i c;rw[c]at h;cases h
 ·rename_i c;rw[if_neg c];split at h
  ·rename_i d;rw[if_pos d];exact⟨rfl,by simpa using c⟩
  ·simp[Ps.over,Ps.setBad]at h
theorem typed_eq{s:Ps}(h:(z0t T s).2.over=false):(z0t T s).2.at_=s.at_+1/\s.over=false:=by
 unfold z0t at h⊢;split at h
 ·rename_i c;rw[if_pos c];exact⟨rfl,(z4n c).1⟩
 ·rename_i c;rw[if_neg c];exact yb6 h
theorem y7b:∀N p s,p.funcs≠[]->(z3j T N p s).1.arrays=p.arrays
 |0,_,_,_=>rfl
 |N+1,p,s,h=>by
  unfold z3j;split
  ·rfl
  split
  ·rename_i c2;unfold qArr at c2;simp only[A0,Ak]at c2;exact absurd (Au c2.1.2) h
  ·exact y7b N _ _ sI0
theorem ps_eq{s:Ps}(h:s.over=false):s=⟨s.at_,false,false⟩:=by
 obtain⟨a,b,d⟩:=s;unfold Ps.over at h;simp only[Bm]at h;obtain⟨rfl,rfl⟩:=h;rfl
theorem arr_le:∀(k N:Nat)(p:Pg)(s:Ps),pIs T sSo ⟨s.at_+6*k+2,false,false⟩=false->(z3j T N p s).1.arrays.length<=p.arrays.length+k
 |_,0,p,s,_=>Bj _ _
 |k,N+1,p,s,h=>by
  unfold z3j;split
  ·exact Bj _ _
  split
  ·rename_i c2;have hc:pIs T sSo (z0n T 1 (z0t T s).2).2=true:=by unfold qArr at c2;simp only[A0]at c2;exact c2.2
   have ho:=(z4n hc).1;obtain⟨a1,o1⟩:=j4m ho;obtain⟨a2,o2⟩:=typed_eq o1
   match k,h with
   |0,h =>
    rw[ps_eq ho,a1,a2]at hc;rw[show s.at_+6*0+2=s.at_+1+1 by omega]at h;rw[h]at hc
    cases hc
   |k+1,h =>
    cases hs:(z0p T z5h (z0p T sSc (z0n T 0 (z0n T 1 (z0t T s).2).2.next).2)).over with
    |true =>
     cases N with
     |zero=>rw[z3j];simp
     |succ N=>rw[z3j,if_pos (by rw[hs];rfl)];simp
    |false =>
     obtain⟨a3,o3⟩:=yb6 hs;obtain⟨a4,o4⟩:=yb6 o3;obtain⟨a5,o5⟩:=j4m o4;have:=arr_le k N ⟨p.arrays++[⟨(z0n T 1 (z0t T s).2).1,z9d (z0n T 0 (z0n T 1 (z0t T s).2).2.next).1⟩],p.funcs⟩ (z0p T z5h (z0p T sSc (z0n T 0 (z0n T 1 (z0t T s).2).2.next).2)) (by
      rw[a3,a4,a5,z0o,a1,a2,show s.at_+1+1+1+1+1+1+6*k+2=s.at_+6*(k+1)+2 by omega];exact h)
     rw[B5]at this;simp only[Al,Az]at this;omega
  ·rw[y7b N _ _ sI0];exact Bj _ _
theorem yr9(s:ByteArray)(k:Nat)(h:pIs (z1r s).1 sSo ⟨6*k+2,false,false⟩=false):(z1x s).1.arrays.length<=k:=by
 unfold z1x;split
 ·split
  ·exact Ab _
  ·split
   ·exact Ab _
   ·split
    ·have:=arr_le k (big (z1r s).1) ⟨[],[]⟩ ⟨0,false,false⟩ (by simpa using h);unfold z9n;simpa using this
    ·exact Ab _
 ·exact Ab _
theorem y6j(s:ByteArray):∀(N line a:Nat)(out:List Tk),(toks s N line a out).1=[]∨∃r,(toks s N line a out).1=out++r
 |0,_,_,_=>.inl rfl
 |N+1,line,a,out=>by
  unfold toks;split
  ·exact .inr ⟨_,rfl⟩
  ·split
   ·exact y6j s N _ _ out
   ·rename_i t a2 _;rcases y6j s N line a2 (out++[t])with h|⟨r,h⟩
    ·exact .inl h
    ·exact .inr ⟨t::r,by rw[h,Ce];rfl⟩
   ·exact .inl rfl
def pxOk(P:ByteArray)(a:Nat):Bool:=decide (a+3<=P.size)&&decide (a+z4e P a<P.size)&&P.data.toList[a]? != some 47
def px(P:ByteArray):Nat->Nat->Nat->List Tk->Option (Nat×Nat×List Tk)
 |0,line,a,out=>some (line,a,out)
 |k+1,line,a,out=>if pxOk P a then(match P.data.toList[a]? with
  |some b=>(match zt6 P line a b with
   |.skip l2 a2=>px P k l2 a2 out
   |.tok t a2=>px P k line a2 (out++[t])
   |.bad _=>none)
  |none=>none)else none
variable {P R:ByteArray} {a:Nat}
theorem yj0:(P++R).data.toList=P.data.toList++R.data.toList:=by rw[F3,Dn]
theorem yk8(s:ByteArray):s.data.toList.length=s.size:=Bs
theorem bget_app(h:a<P.size):(P++R).data.toList[a]?=P.data.toList[a]?:=by rw[yj0,An (by rw[yk8];exact h)]
theorem run_app(h:a+z4e P a<P.size):z4e (P++R) a=z4e P a:=by
 unfold z4e at h⊢;have hl:=yk8 P;rw[yj0,List.drop_append_of_le_length oM0,List.takeWhile_append,if_neg];rw[En];omega
theorem j0k{n:Nat}(h:a+n<=P.size):(P++R).extract a (a+n)=P.extract a (a+n):=by
 apply G9;rw[Ds,Ds,F3,Array.extract_append];have:a+n-P.data.size=0:=by have:P.data.size=P.size:=rfl;omega
 rw[this];simp
theorem j0l(s:ByteArray)(a n:Nat)(h:a+n<=s.size):(s.extract a s.size).extract 0 n=s.extract a (a+n):=by
 apply G9;rw[Ds,Ds,Ds,Array.extract_extract];rw[By,Dg h]
theorem yp3:(P++R).size=P.size+R.size:=Dd
theorem sgIs_app{w:ByteArray}(h:a+3<=P.size)(hw:w.size<=3):sgIs ((P++R).extract a (P++R).size) w=sgIs (P.extract a P.size) w:=by
 unfold sgIs;have h2:=@yp3 P R;rw[j0l _ _ _ oM0,j0l _ _ _ oM0,j0k oM0,Cm,Cm];rw[show decide (w.size<=min (P++R).size (P++R).size-a)=true from C6 oM0,show decide (w.size<=min P.size P.size-a)=true from C6 oM0]
theorem yp2(h:a+3<=P.size):∀l:List ByteArray,(∀w∈l,w.size<=3)->sgGo ((P++R).extract a (P++R).size) l=sgGo (P.extract a P.size) l
 |[],_=>rfl
 |w::r,hw=>by
  simp only[sgGo];rw[sgIs_app h (hw w (.head _)),yp2 h r λx hx=>hw x (.tail _ hx)]
theorem sgOf_app(h:a+3<=P.size):sgOf ((P++R).extract a (P++R).size)=sgOf (P.extract a P.size):=yp2 h sgL dC0
theorem j4j(h:pxOk P a=true)(line:Nat){b:UInt8}(hb:P.data.toList[a]?=some b):zt6 (P++R) line a b=zt6 P line a b:=by
 unfold pxOk at h;simp only[A0,B6,bne_iff_ne]at h;obtain⟨⟨h1,h2⟩,h3⟩:=h;have h4:b≠47:=λe=>h3 (by rw[hb,e]);unfold zt6;rw[run_app h2,j0k oM0,sgOf_app h1];simp only[h4,false_and,Br]
theorem yd1(N:Nat):∀(k line a:Nat)(out:List Tk){l2 a2:Nat}{o2:List Tk},px P k line a out=some (l2,a2,o2)->toks (P++R) (N+k) line a out=toks (P++R) N l2 a2 o2
 |0,line,a,out,l2,a2,o2,h=>by cases h;rfl
 |k+1,line,a,out,l2,a2,o2,h=>by
  unfold px at h;split at h
  ·rename_i hk;have h1:a+3<=P.size:=by
    have:=hk;unfold pxOk at this;simp only[A0,B6]at this;exact this.1.1
   rw[show N+(k+1)=(N+k)+1 from rfl]
   conv=>lhs;unfold toks
   rw[bget_app oM0];split at h
   ·rename_i b hb;rw[hb];dsimp only;rw[j4j hk line hb];split at h
    iterate 2 ·rename_i h5;rw[h5];exact yd1 N k _ _ _ h
    ·cases h
   ·cases h
  ·cases h
theorem px_is{k l2 a2 i:Nat}{o2:List Tk}(h:px P k 1 0 []=some (l2,a2,o2))(hk:k<=P.size)(hi:i<o2.length)(hq:pIs o2 sSo ⟨i,false,false⟩=false):pIs (z1r (P++R)).1 sSo ⟨i,false,false⟩=false:=by
 unfold z1r;have e:pIs ([]:List Tk) sSo ⟨i,false,false⟩=false:=by
  unfold pIs tkAt;simp
 split
 ·exact e
 ·have hs:=@yp3 P R;obtain⟨N,hN⟩:∃N,(P++R).size+1=N+k:=⟨(P++R).size+1-k,by omega⟩;rw[hN,yd1 N k 1 0 [] h];rcases y6j (P++R) N l2 a2 o2 with h1|⟨r,h1⟩
  ·rw[h1];exact e
  ·rw[h1];have:tkAt (o2++r) ⟨i,false,false⟩=tkAt o2 ⟨i,false,false⟩:=by
    unfold tkAt;rw[At,At,An hi]
   unfold pIs at hq⊢;rw[this];exact hq
theorem yj4(t:List ByteArray):∀(l:List UInt8)(s:ByteArray),∃R,l.foldl (y09 t) s=s++R
 |[],s=>⟨⟨#[]⟩,by apply G9;rw[F3];simp⟩
 |b::r,s=>by
  obtain⟨R,h⟩:=yj4 t r (y09 t s b);refine⟨t.getD (b.toNat%t.length) s_++sNl++R,?_⟩;rw[Dz,h];unfold y09;simp only[ByteArray.append_assoc]
def famPx:Option (Nat×Nat×List Tk):=px fam0 12 1 0 []
theorem famPx_ok:∃l a o,famPx=some (l,a,o)/\8<o.length/\pIs o sSo ⟨8,false,false⟩=false:=by
 have h:(famPx.map λq=>decide (8<q.2.2.length) && !pIs q.2.2 sSo ⟨8,false,false⟩)=some true:=by decide +kernel
 cases hp:famPx with
 |none=>rw[hp]at h;cases h
 |some q =>
  rw[hp]at h;simp only[Da,Ck,A0,B6,Bf]at h;exact⟨_,_,_,rfl,h.1,h.2⟩
theorem fam_arr(k:Int)(l:List UInt8):(z1x (famT k l)).1.arrays.length<=1:=by
 refine yr9 _ 1 ?_;obtain⟨R,hR⟩:=yj4 (z2n k) (l.take 10) fam0;have e:famT k l=fam0++(R++famE):=by
  unfold famT famS;rw[hR,ByteArray.append_assoc]
 rw[e];obtain⟨l2,a2,o2,h1,h2,h3⟩:=famPx_ok;exact px_is h1 (by decide +kernel) h2 h3
end
theorem yu9{u:Un}(hz:(z18 u).1=0):y3y (z3t stB u)=true:=by have:=y3v u;rw[z69 stB hz]at this;exact this
theorem y1l(u:Un){n:Nat}(h:z0h u<=n):z0h (z3t stB u)<=n:=Bi (yq7 stB y3h u) h
theorem i64_two{n:Int}(hn:0<=n/\n<=255):z3i .mul .i64 2 (IntKind.i64.wrap n)=some (.int .i64 (2*n)):=by
 have hw:IntKind.i64.wrap n=n:=Cz n oM0;rw[hw];exact y50 rfl oM0
theorem y8h(l:List UInt8)(ins:List Int)(hi:P64 ins)(n:Int)(hn:0<=n/\n<=255):SC Tryz.prog 4 [.pv (bts l),.pv (ints ins),.pv (.val (.int .u8 n))] [] (λk=>k∈[]) (iBool true) []:=by
 refine SC.vc tb { gh:=[(0,[.len 0])] } [] Tryz.func4 rfl rfl ?_;intro hl;simp only[A6]at hl;have hl:l.length<=9223372036854775807:=hl;have hT:=riU_w (famT 0 l);have hA:=Bi (riU_ar (famT 0 l)) (Bi (fam_arr 0 l) (by decide:1<=2));have hF:=j2w 0 dC0 dC0 l hl;have hU:=riU_n (famT 0 l);have hR:=sc_Rise (famT 0 l);generalize riU (famT 0 l)=q at hT hA hU hR;obtain⟨u,e⟩:=q;dsimp only at hT hA hU hR;have hC:=ze9 u hT.1;have hH:=yd7 u hT.1 zt3;have hg:=λhz=>@z69 stB u hz;have hx:=@y2u u;have hrel:=@same_rel u;have hri:=@yu9 u;have hB:=λ(hz:(z18 u).1=0)=>yd8 (hrel hz hU) hA hT.1 (y1l u hT.1) hz (by rw[hx hz]) hT.2 (ins.take 10) (λy hy=>hi y (List.mem_of_mem_take hy)) (2*n) ⟨by omega,by omega⟩;have hRt:=yo8 (z3t stB u) (y1l u hT.1);refine⟨[],sc_awake,sR,Gd,rfl,[],hF,sR,Gd,rfl,[],hR,sR,Gd,rfl,[],hC,sR,Gd,rfl,z00 (λh1=>?_) λh1=>z00 (λh2=>?_) λh2=>?_⟩
 iterate 2 exact⟨sI,Gd⟩
 ·have hz:(z18 u).1=0:=by simpa using h2
  rw[hg hz]at hH;rw[hri hz]at hRt;exact⟨[],hH,sR,Gd,rfl,[],hRt,sR,Gd,rfl,[],sc_ins ins,sR,Gd,rfl,i64_two hn,[],hB hz,sR,Gd,rfl,sI,Gd⟩
end Go.Proofs.YtjlaalpfpecikaaGreatDoor
