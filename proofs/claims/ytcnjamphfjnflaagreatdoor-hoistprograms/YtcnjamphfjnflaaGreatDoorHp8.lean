/- PART 8 of 9 of a proof: see the last part. -/
import Derived.Test.YtcnjamphfjnflaaGreatDoorHp7
set_option maxRecDepth 20000
set_option maxHeartbeats 8000000
set_option linter.unusedSimpArgs false
set_option linter.unusedVariables false
set_option linter.unusedSectionVars false
namespace Go.Proofs.YtcnjamphfjnflaaGreatDoor
open Go
mutual
def nxX:Ex->Bool
 |.mk k _ _ nm args=>(k==3||decide (nm.size<=20))&&nxL args
def nxL:List Ex->Bool
 |[]=>true
 |x::r=>nxX x&&nxL r
end
mutual
def nxS:St->Bool
 |.mk k _ nm args thn els=>(k==1||k==2||decide (nm.size<=20))&&nxL args&&nxB thn&&nxB els
def nxB:List St->Bool
 |[]=>true
 |x::r=>nxS x&&nxB r
end
theorem y4e{s:ByteArray}(h:s.toList=[]):s.size=0:=by
 rw[z2e]at h;show s.data.size=0;rw[<- Bx,h];rfl
theorem zk9{s:ByteArray}(h:z0k s=true):s.size<=20:=by
 unfold z0k at h;simp only[A0,Bj]at h;have:=h.1.1.1.2;omega
theorem nxX_of:∀N,(∀e:Ex,SizeOf.sizeOf e<N->∀m,rx e m=true->nxX e=true)/\(∀l:List Ex,SizeOf.sizeOf l<N->∀m,rxL l m=true->nxL l=true)
 |0=>⟨λ_ h=>absurd h (Al _),λ_ h=>absurd h (Al _)⟩
 |N+1=>by
  obtain⟨h1,h2⟩:=nxX_of N;refine⟨λe he m hr=>?_,λl hl m hr=>?_⟩
  ·obtain⟨k,o,n,nm,args⟩:=e;simp at he;rw[rx,A0]at hr;rw[nxX,h2 args oM0 m hr.1,Ct];have hr:=hr.2;unfold rOwn at hr;have e0:nm.toList=[]->(k==3||decide (nm.size<=20))=true:=λh=>by rw[Bo];exact .inr (Cb (by rw[y4e h];omega))
   have e1:z0k nm=true->(k==3||decide (nm.size<=20))=true:=λh=>by rw[Bo];exact .inr (Cb (zk9 h))
   repeat' split at hr
   all_goals (try (simp only[A0,Av]at hr))
   ·exact e0 hr.1.2
   ·exact e0 hr.1.2
   ·exact e1 hr.1.2
   ·exact e0 hr.1.2
   ·exact e0 hr.1.2
   ·exact e1 hr.1.2
   ·exact e1 hr.1.2
   ·exact e0 hr.1.2
   ·cases hr
  ·match l with
   |[]=>rfl
   |e::r =>
    simp at hl;rw[rxL,A0,A0]at hr;rw[nxL,h1 e oM0 _ hr.1.2,h2 r oM0 m hr.2];rfl
theorem nxL_of{l:List Ex}(h:∀e∈l,rx e 100=true):nxL l=true:=by
 induction l with
 |nil=>rfl
 |cons e r ih=>rw[nxL,(nxX_of _).1 e (Ab _) 100 (h e (.head _)),ih λq hq=>h q (.tail _ hq)];rfl
theorem nm_sz{b:Bool}{nm:ByteArray}(h:b=z0k nm/\(b=false->nm.toList=[])):nm.size<=20:=by
 cases b with
 |true=>exact zk9 h.1.symm
 |false=>rw[y4e (h.2 rfl)];omega
theorem nxB_of:∀N,(∀x:St,SizeOf.sizeOf x<N->∀m,rst x m=true->nxS x=true)/\(∀l:List St,SizeOf.sizeOf l<N->∀m,rsL l m=true->nxB l=true)
 |0=>⟨λ_ h=>absurd h (Al _),λ_ h=>absurd h (Al _)⟩
 |N+1=>by
  obtain⟨h1,h2⟩:=nxB_of N;refine⟨λx hx m hr=>?_,λl hl m hr=>?_⟩
  ·obtain⟨k,ty,nm,args,thn,els⟩:=x;simp at hx;obtain⟨_,r2,r3,r4,r5⟩:=y1g hr;rw[nxS,nxL_of r2,h2 thn oM0 _ r3,h2 els oM0 _ r4,Ct,Ct,Ct,Bo];exact .inr (Cb (nm_sz r5))
  ·match l with
   |[]=>rfl
   |x::r =>
    simp at hl;rw[rsL,A0]at hr;rw[nxB,h1 x oM0 m hr.1,h2 r oM0 m hr.2];rfl
theorem nxX_rn(es:List (Value×PV)):∀N,(∀e:Ex,SizeOf.sizeOf e<N->nxX (rnX es e)=nxX e)/\(∀l:List Ex,SizeOf.sizeOf l<N->nxL (rnXL es l)=nxL l)
 |0=>⟨λ_ h=>absurd h (Al _),λ_ h=>absurd h (Al _)⟩
 |N+1=>by
  obtain⟨h1,h2⟩:=nxX_rn es N;refine⟨λe he=>?_,λl hl=>?_⟩
  ·obtain⟨k,o,n,nm,args⟩:=e;simp at he;rw[rnX,nxX,nxX,h2 args oM0]
   by_cases k3:k=3
   ·subst k3;rfl
   ·rw[if_neg k3]
  ·match l with
   |[]=>rfl
   |e::r =>
    simp at hl;rw[rnXL,nxL,nxL,h1 e oM0,h2 r oM0]
theorem nxL_rn(es:List (Value×PV))(l:List Ex):nxL (l.map (rnX es))=nxL l:=by rw[<- y1e];exact(nxX_rn es _).2 l (Ab _)
theorem nxB_rn:∀N,(∀x:St,SizeOf.sizeOf x<N->∀es n,nxS x=true->nxS (rnS x es n).1=true)/\(∀l:List St,SizeOf.sizeOf l<N->∀es n,nxB l=true->nxB (rnB l es n).1=true)
 |0=>⟨λ_ h=>absurd h (Al _),λ_ h=>absurd h (Al _)⟩
 |N+1=>by
  obtain⟨h1,h2⟩:=nxB_rn N;refine⟨λx hx es n h=>?_,λl hl es n h=>?_⟩
  ·obtain⟨k,ty,nm,args,thn,els⟩:=x;simp at hx;rw[nxS,A0,A0,A0]at h;rw[rnS,nxS,nxL_rn,h2 thn oM0 _ _ h.1.2,h2 els oM0 _ _ h.2,h.1.1.2,Ct,Ct,Ct];have h4:=h.1.1.1
   by_cases k1:k=1
   ·subst k1;rfl
   by_cases k2:k=2
   ·subst k2;rfl
   rw[show(z1q es k nm n).1=nm by unfold z1q;rw[if_neg k1,if_neg k2]];exact h4
  ·match l with
   |[]=>rfl
   |x::r =>
    simp at hl;rw[nxB,A0]at h;rw[rnB,nxB,h1 x oM0 _ _ h.1,h2 r oM0 _ _ h.2];rfl
theorem nxL_mem{l:List Ex}{e:Ex}(h:nxL l=true)(he:e∈l):nxX e=true:=by
 induction l with
 |nil=>cases he
 |cons x r ih =>
  rw[nxL,A0]at h;rcases Aj.1 he with rfl|he
  ·exact h.1
  ·exact ih h.2 he
theorem j3o(n:Nat)(h:n<=1000000000):(tVal n).size<=30:=by
 have:=Lib.itoa_length_le (n:Int) oM0 oM0;have e:(tVal n).size=1+(Lib.itoa (n:Int)).length:=by
  unfold tVal tNum;rw[A4];show 1+(Lib.itoa (n:Int)).toArray.size=_;rw[Eu]
 omega
def Sh(es:List (Value×PV)):Prop:=∀e∈es,∃s:ByteArray,e.2=vStr s/\s.size<=30
theorem Sh.put{es:List (Value×PV)}(h:Sh es)(a:ByteArray){b:ByteArray}(hb:b.size<=30):Sh (z9g es a b):=λe he=>by
 rcases z45 he with rfl|he
 ·exact⟨b,rfl,hb⟩
 ·exact h e he
theorem Sh.get{es:List (Value×PV)}(h:Sh es)(a:ByteArray):(z8m es a).size<=30:=by
 unfold z8m;split
 ·rename_i s hf;obtain⟨a,ha⟩:=z7j hf;obtain⟨t,h1,h2⟩:=h _ ha;dsimp only at h1
  cases h1
  exact h2
 ·exact Ac _
theorem nt_rn:∀N,(∀x:St,SizeOf.sizeOf x<N->∀es n m,Sh es->n+cnS x<=1000000000->rst x m=true->ntS 30 (rnS x es n).1/\(rnS x es n).2<=n+cnS x/\Sh (z1q es x.kind x.name n).2.1)/\(∀l:List St,SizeOf.sizeOf l<N->∀es n m,Sh es->n+cnL l<=1000000000->rsL l m=true->ntL 30 (rnB l es n).1/\(rnB l es n).2<=n+cnL l)
 |0=>⟨λ_ h=>absurd h (Al _),λ_ h=>absurd h (Al _)⟩
 |N+1=>by
  obtain⟨h1,h2⟩:=nt_rn N;refine⟨λx hx es n m hs hn hr=>?_,λl hl es n m hs hn hr=>?_⟩
  ·obtain⟨k,ty,nm,args,thn,els⟩:=x;simp at hx;obtain⟨_,_,r3,r4,r5⟩:=y1g hr;rw[cnS]at hn;have hv:=j3o n oM0;have ho:(z1q es k nm n).1.size<=30/\(z1q es k nm n).2.2<=n+1/\Sh (z1q es k nm n).2.1:=by
    unfold z1q;split
    ·exact⟨(hs.put nm hv).get nm,Ag _,hs.put nm hv⟩
    ·split
     ·exact⟨hs.get nm,Fd _,hs⟩
     ·exact⟨Bn (nm_sz r5) oM0,Fd _,hs⟩
   obtain⟨o1,o2,o3⟩:=ho;obtain⟨t1,t2⟩:=h2 thn oM0 (z1q es k nm n).2.1 (z1q es k nm n).2.2 _ o3 oM0 r3;obtain⟨e1,e2⟩:=h2 els oM0 (z1q es k nm n).2.1 (rnB thn (z1q es k nm n).2.1 (z1q es k nm n).2.2).2 _ o3 oM0 r4;rw[rnS,ntS,cnS];exact⟨⟨o1,t1,e1⟩,by dsimp only;omega,o3⟩
  ·match l with
   |[]=>exact⟨Gd,Bk _ _⟩
   |x::r =>
    simp at hl;rw[rsL,A0]at hr;rw[cnL]at hn;obtain⟨a1,a2,a3⟩:=h1 x oM0 es n m hs oM0 hr.1;obtain⟨b1,b2⟩:=h2 r oM0 (z1q es x.kind x.name n).2.1 (rnS x es n).2 m a3 oM0 hr.2;rw[rnB,ntL,cnL];exact⟨⟨a1,b1⟩,by dsimp only;omega⟩
theorem j0y{a b:Nat}(hab:a<=b):∀N,(∀x:St,SizeOf.sizeOf x<N->ntS a x->ntS b x)/\(∀l:List St,SizeOf.sizeOf l<N->ntL a l->ntL b l)
 |0=>⟨λ_ h=>absurd h (Al _),λ_ h=>absurd h (Al _)⟩
 |N+1=>by
  obtain⟨h1,h2⟩:=j0y hab N;refine⟨λx hx h=>?_,λl hl h=>?_⟩
  ·obtain⟨k,ty,nm,args,thn,els⟩:=x;simp at hx;rw[ntS]at h⊢;exact⟨Bn h.1 hab,h2 thn oM0 h.2.1,h2 els oM0 h.2.2⟩
  ·match l with
   |[]=>trivial
   |x::r =>
    simp at hl;rw[ntL]at h⊢;exact⟨h1 x oM0 h.1,h2 r oM0 h.2⟩
theorem j20:∀(l:List Pm) (es:List (Value×PV)) (n:Nat),Sh es->n+l.length<=1000000000->Sh (rnPm l es n).2.1/\(rnPm l es n).2.2=n+l.length
 |[],es,n,h,_=>⟨h,rfl⟩
 |x::r,es,n,h,hn=>by
  rw[A1]at hn;obtain⟨h1,h2⟩:=j20 r (z9g es x.name (tVal n)) (n+1) (h.put _ (j3o n oM0)) oM0;rw[rnPm,A1];exact⟨h1,by dsimp only;omega⟩
theorem z7q(a b:List Nd):z1b (a++b)=z1b a+z1b b:=by
 unfold z1b;rw[y6k,B4];omega
theorem z68(k o n:Int)(nm:ByteArray)(a b c:List Int)(ks:List (List Nd)):z1b [.mk k o n nm a b c ks]=1+a.length+b.length+c.length+nm.size+wtK ks:=by simp only[z1b,wtL,wtN,A1,A5];omega
theorem j4i(a:List Nd):wtK [a]=1+z1b a:=by simp only[wtK,z1b];omega
theorem yh5(a b:List Nd):wtK [a,b]=2+z1b a+z1b b:=by simp only[wtK,z1b];omega
theorem yh4:wtK []=0:=rfl
theorem z7r:z1b []=0:=rfl
theorem y3b:∀a b:List Nd,lsz (a++b)=lsz a+lsz b
 |[],b=>by simp[lsz]
 |x::r,b=>by simp only[B9,lsz,y3b r b];omega
theorem zq3(k o n:Int)(nm:ByteArray)(a b c:List Int)(ks:List (List Nd)):lsz [.mk k o n nm a b c ks]=1+kdz ks:=by simp only[lsz,nsz];omega
theorem j0l(a:List Nd):kdz [a]=lsz a:=by simp only[kdz];omega
theorem ya1(a b:List Nd):kdz [a,b]=lsz a+lsz b:=by simp only[kdz];omega
def tw(s:RiS):Nat:=s.ts.length+z1b s.ns
theorem sz0:(⟨#[]⟩:ByteArray).size=0:=rfl
theorem yo7(t k o n:Int)(nm:ByteArray)(args:List Int)(ks:List (List Nd))(s:RiS):tw (z6k t k o n nm args ks s).2=tw s+3+args.length+nm.size+wtK ks/\lsz (z6k t k o n nm args ks s).2.ns=lsz s.ns+1+kdz ks:=by
 unfold z6k tw;refine⟨?_,?_⟩
 ·dsimp only;rw[z7q,z68,B4];simp only[A1,A5];omega
 ·dsimp only;rw[y3b,zq3];omega
theorem tw_top(p:Pg)(k o n:Int)(nm:ByteArray)(l:List Int)(s:RiS)(hn:nm.size<=20):tw (zr4 p k o n nm l s).2<=tw s+23+l.length/\lsz (zr4 p k o n nm l s).2.ns<=lsz s.ns+1:=by
 unfold zr4
 repeat' split
 all_goals (rw[(yo7 ..).1,(yo7 ..).2];simp only[yh4,sz0,A5,kdz];omega)
theorem z21(k:Int)(nm:ByteArray)(args:List Int)(ns:List Nd):z1b (z6r k nm args ns)=z1b ns+1+args.length+nm.size/\lsz (z6r k nm args ns)=lsz ns+1:=by
 unfold z6r;refine⟨?_,?_⟩
 ·rw[z7q,z68];simp only[yh4,A5];omega
 ·rw[y3b,zq3];simp only[kdz]
theorem tw_sh(o a:Int)(ns:List Nd)(r:Int×RiS):tw (z6s o a ns r).2=tw r.2+z1b ns+13/\lsz (z6s o a ns r).2.ns=lsz ns+lsz r.2.ns+4:=by
 unfold z6s;split
 all_goals
  rw[(yo7 ..).1,(yo7 ..).2,yh5,ya1,(z21 ..).1,(z21 ..).2,(z21 ..).1,(z21 ..).2,z68,zq3];unfold tw;simp only[yh4,sz0,A5,A1,kdz,B4];omega
theorem riX_tw(p:Pg)(vs:List (Value×PV)):∀(N:Nat),(∀e:Ex,SizeOf.sizeOf e<N->nxX e=true->∀s,tw (riX p vs e s).2+1<=tw s+27*xz e/\lsz (riX p vs e s).2.ns<=lsz s.ns+4*xz e) /\
 (∀l:List Ex,SizeOf.sizeOf l<N->nxL l=true->∀s,tw (riXL p vs l s).2+l.length<=tw s+27*xzL l/\lsz (riXL p vs l s).2.ns<=lsz s.ns+4*xzL l/\(riXL p vs l s).1.length=l.length) /\
 (∀(o:Int)(l:List Ex),SizeOf.sizeOf l<N->nxL l=true->∀s,tw (riSh p vs o l s).2<=tw s+27*xzL l+13/\lsz (riSh p vs o l s).2.ns<=lsz s.ns+4*xzL l+4) /\
 (∀(o a:Int)(s:RiS)(l:List Ex),SizeOf.sizeOf l<N->nxL l=true->tw (zm4 p vs o a s l).2<=tw s+27*xzL l+13/\lsz (zm4 p vs o a s l).2.ns<=lsz s.ns+4*xzL l+4)
 |0=>⟨λ_ h=>absurd h (Al _),λ_ h=>absurd h (Al _),λ_ _ h=>absurd h (Al _),λ_ _ _ _ h=>absurd h (Al _)⟩
 |N+1=>by
  obtain⟨h1,h2,h3,h4⟩:=riX_tw p vs N;refine⟨λe he hn s=>?_,λl hl hn s=>?_,λo l hl hn s=>?_,λo a s l hl hn=>?_⟩
  ·obtain⟨k,o,n,nm,args⟩:=e;simp at he;rw[nxX,A0]at hn;rw[riX,xz];split
   ·exact⟨by dsimp only;omega,by dsimp only;omega⟩
   ·rename_i k3;split
    ·obtain⟨a1,a2⟩:=h3 o args oM0 hn.2 s;exact⟨by omega,by omega⟩
    ·obtain⟨a1,a2,a3⟩:=h2 args oM0 hn.2 s;have hnm:nm.size<=20:=by
      have:=hn.1;rw[Bo]at this;rcases this with h|h
      ·exact absurd (eq_of_beq h) k3
      ·exact Am h
     obtain⟨b1,b2⟩:=tw_top p k o n nm (riXL p vs args s).1 (riXL p vs args s).2 hnm;exact⟨by omega,by omega⟩
  ·match l with
   |[]=>rw[riXL];exact⟨Ag _,Ag _,rfl⟩
   |e::r =>
    simp at hl;rw[nxL,A0]at hn;rw[riXL,xzL];obtain⟨a1,a2⟩:=h1 e oM0 hn.1 s;obtain⟨b1,b2,b3⟩:=h2 r oM0 hn.2 (riX p vs e s).2;exact⟨by dsimp only[List.length_cons];omega,by dsimp only;omega,by dsimp only[List.length_cons];rw[b3]⟩
  ·match l with
   |[]=>rw[riSh];exact⟨by dsimp only;omega,by dsimp only;omega⟩
   |e::r =>
    simp at hl;rw[nxL,A0]at hn;rw[riSh,xzL];obtain⟨a1,a2⟩:=h1 e oM0 hn.1 s;obtain⟨b1,b2⟩:=h4 o (riX p vs e s).1 (riX p vs e s).2 r oM0 hn.2;exact⟨by omega,by omega⟩
  ·match l with
   |[]=>rw[zm4];exact⟨by dsimp only;omega,by dsimp only;omega⟩
   |e::r =>
    simp at hl;rw[nxL,A0]at hn;rw[zm4,xzL,(tw_sh ..).1,(tw_sh ..).2];obtain⟨a1,a2⟩:=h1 e oM0 hn.1 ⟨s.ts,[]⟩;have e1:tw ⟨s.ts,[]⟩=s.ts.length:=by unfold tw;rw[z7r];rfl
    have e2:lsz []=0:=rfl;dsimp only at a2;rw[e1]at a1;rw[e2]at a2;have e3:tw s=s.ts.length+z1b s.ns:=rfl;exact⟨by omega,by omega⟩
def zr3(l:List Pm):List (Value×PV)×List Int:=l.foldl (λa x=>(riSt a.1 x.name a.2.length,a.2++[x.ty])) ([],[])
def riT0(l:List Pm):RiT:=⟨(zr3 l).1,(zr3 l).2,[],[]⟩
def z7s(p:Pg)(f:Fu):Fl:=⟨f.name,f.ty,f.params.length,(riB p f.body [] (riT0 f.params)).2.ts,(riB p f.body [] (riT0 f.params)).2.ns⟩
theorem ys5(l:List Pm)(x:Pm):zr3 (l++[x])=(riSt (zr3 l).1 x.name (zr3 l).2.length,(zr3 l).2++[x.ty]):=by simp[zr3]
theorem y1a(l:List Pm):(zr3 l).2.length=l.length:=by
 suffices ∀(l:List Pm) (a:List (Value×PV)×List Int),(l.foldl (λa x=>(riSt a.1 x.name a.2.length,a.2++[x.ty])) a).2.length=a.2.length+l.length by
  have:=this l ([],[]);simpa[zr3]using this
 intro l
 induction l with
 |nil=>intro a;simp
 |cons x r ih=>intro a;simp only[Dx];rw[ih];simp;omega
theorem yl8(l:List Pm):RiI (zr3 l).1 (zr3 l).2.length (!l.isEmpty):=by
 suffices ∀(l:List Pm) (a:List (Value×PV)×List Int) (b:Bool),RiI a.1 a.2.length b->RiI (l.foldl (λa x=>(riSt a.1 x.name a.2.length,a.2++[x.ty])) a).1 (l.foldl (λa x=>(riSt a.1 x.name a.2.length,a.2++[x.ty])) a).2.length (b || !l.isEmpty)from by
  have h:=this l ([],[]) false ⟨Cnt.nil,(λe he=>by cases he),λh=>by cases h⟩;simpa[zr3]using h
 intro l
 induction l with
 |nil=>intro a b h;simpa using h
 |cons x r ih =>
  intro a b h;simp only[Dx];have:=ih (riSt a.1 x.name a.2.length,a.2++[x.ty]) true ((h.mono (m:=(a.2++[x.ty]).length) sI0).put x.name (v:=(a.2.length:Int)) oM0 (by simp;omega));exact this.weak λ_=>by simp
theorem j2j(p:Pg)(f:Fu)(hl:f.params.length<=1000000000)(hB:scB p f.body [] (riT0 f.params) (riB p f.body [] (riT0 f.params))) :
 SC Tryz.prog 18 [.pv (.agg [arrs p.arrays,fus p.funcs]),.pv (.agg [vStr f.name,vInt f.ty,pms f.params,sts f.body])] [] (λk=>k∈[]) (.pv (.agg (z7s p f).enc)) []:=by
 refine SC.vc tb { pb:=[102,103,107],ids:=[(10,1),(11,5),(13,4)],gh:=[(2,[.growC 1 2 2 3 1,.growC 1 3 3 73 1,.spC 1 3 3,.growC 4 2 6 46 8]),(8,[.fzC 1 2 2,.fzC 4 2 6])] } [] Tryz.func18 rfl rfl ?_;refine⟨Nat,λi=>[(17,iInt ((i:Nat):Int))],λi=>riW p [] (riT0 (f.params.take i)),λi=>f.params.length-i,λi=>i<=f.params.length,[],0,Ac _,Ge,Gk,?_⟩;intro i hi;refine z00 (λhc=>?_) λhc=>?_
 ·have hlt:i<f.params.length:=z0x (f:=Pm.enc) rfl hc;obtain⟨x,x1,x2,x3,x4⟩:=z0o hlt;have hs:=ys5 (f.params.take i) x;rw[<- x2]at hs;have hn:=y1a (f.params.take i);have hk:=(yl8 (f.params.take i)).cnt;rw[Dg]at hn;have hs1:=Af Prod.fst hs;have hs2:=Af Prod.snd hs;dsimp only at hs1 hs2;exact⟨zu5 x1,rfl,[],zr8 p (zr3 (f.params.take i)).2 ⟨[],[]⟩ x.ty oM0,sR,Gg,rfl,rfl,hk.1,z01 rfl oM0,i+1,z03 hlt,hlt,Ge,⟨boq (by simp only[riT0,hs2]),rwq (by simp only[riT0,hs2]),rfl,rfl,mpq (by simp only[riT0,hs1];rfl),rfl,Gd⟩,rfl,rfl,rfl,rfl⟩
 ·have hge:f.params.length<=i:=z0y (f:=Pm.enc) rfl hc;rw[At hge];unfold z7s;generalize riB p f.body [] (riT0 f.params)=r at hB⊢;exact⟨[],hB,sR,Gk,rfl,rfl,rfl,sE (by rw[A8];rfl),Gd⟩
def un0:Un:=⟨[],[]⟩
def riUn(q:Pg):Un:=⟨q.arrays,q.funcs.map (z7s q)⟩
def ys6(p:Pg)(k:Int):Un×Int:=if (rnOf p).2=0 then(if k=0 then(riUn (rnOf p).1,0)else(un0,2))else(un0,(rnOf p).2)
theorem sc_Rise0(p:Pg)(hR:SC Tryz.prog 17 [.pv p.enc] [] (λk=>k∈[]) (.tup [.pv (rnOf p).1.enc,iInt (rnOf p).2]) [])(hfl:(rnOf p).1.funcs.length<=1000000000)
 (hF:(rnOf p).2=0->∀f∈(rnOf p).1.funcs,f.params.length<=1000000000/\scB (rnOf p).1 f.body [] (riT0 f.params) (riB (rnOf p).1 f.body [] (riT0 f.params))) (k1 k2:Int)
 (hK:(rnOf p).2=0->SC Tryz.prog 19 [.pv (riUn (rnOf p).1).enc] [] (λk=>k∈[]) (.tup [iInt k1,iInt k2]) []) :
 SC Tryz.prog 7 [.pv p.enc] [] (λk=>k∈[]) (.tup [.pv (ys6 p k1).1.enc,iInt (ys6 p k1).2]) []:=by
 refine SC.vc tb { pb:=[107],gh:=[(5,[.growC 105 1 9 59 5]),(10,[.fzC 105 1 9])] } [] Tryz.func7 rfl rfl ?_;unfold ys6;generalize rnOf p=q at hR hfl hF hK⊢;obtain⟨q,e⟩:=q;dsimp only at hR hfl hF hK⊢;refine⟨[],hR,sR,Gd,rfl,z00 (λh=>?_) λh=>?_⟩
 ·have h:¬e=0:=by simpa using h
  rw[if_neg h];exact⟨sT2 (sP (z0g _)),Gd⟩
 have h:e=0:=by simpa using h
 subst h;have hF:=hF rfl;have hK:=hK rfl;rw[if_pos rfl];refine⟨Nat,λi=>[(25,iInt ((i:Nat):Int))],λi=>[(105,.box [.pv (arrs q.arrays),.sl 9 ((q.funcs.take i).map λf=>(z7s q f).enc).length]),(9,.row ⟨59,5⟩ ((q.funcs.take i).map λf=>(z7s q f).enc))],λi=>q.funcs.length-i,λi=>i<=q.funcs.length,[],0,Ac _,Ge,Gf,?_⟩;intro i hi;refine z00 (λhc=>?_) λhc=>?_
 ·have hlt:i<q.funcs.length:=z0x (f:=Fu.enc) rfl hc;obtain⟨x,x1,x2,x3,x4⟩:=z0o hlt;obtain⟨f1,f2⟩:=hF x x4;exact⟨z9r x1,rfl,[],j2j q x f1 f2,sR,Gd,rfl,rfl,z3y rfl,by simp;omega,by simp,z01 rfl oM0,i+1,z03 hlt,hlt,Ge,⟨boq (by rw[x2];simp),rwq (by rw[x2];simp[Fl.enc]),Gd⟩,rfl,rfl,rfl,rfl⟩
 ·have hge:q.funcs.length<=i:=z0y (f:=Fu.enc) rfl hc;rw[At hge];have he:(riUn q).enc=.agg [arrs q.arrays,.seq (q.funcs.map λf=>(z7s q f).enc)]:=by simp[riUn,Un.enc,flws]
  rw[he]at hK;refine⟨rfl,[],hK,sR,Gd,rfl,z00 (λh=>?_) λh=>?_⟩
  ·have h:¬k1=0:=by simpa using h
   rw[if_neg h];exact⟨sT2 (sP (z0g _)),Gd⟩
  ·have h:k1=0:=by simpa using h
   rw[if_pos h,he];exact⟨sI,Gd⟩
def twT(s:RiT):Nat:=s.ts.length+z1b s.ns
theorem z75(vs:List (Value×PV))(z04:List ByteArray):(riOf vs z04).length=z04.length:=by simp[riOf]
theorem y9x(vs:List (Value×PV))(z04:List ByteArray)(ts:List Int)(ns:List Nd)(jk:List (List ByteArray))(k:Int)(args params:List Int)(kids:List (List Nd)) :
 twT (z6j vs z04 ts ns jk k args params kids).2<=ts.length+z1b ns+2*z04.length+1+args.length+params.length+wtK kids/\lsz (z6j vs z04 ts ns jk k args params kids).2.ns=lsz ns+1+kdz kids:=by
 have hl:=z3h (riOf vs z04) ts;rw[z75]at hl;unfold z6j twT;split
 ·refine⟨?_,?_⟩
  ·dsimp only;rw[z7q,z68,sz0];simp only[A5];omega
  ·dsimp only;rw[y3b,zq3];omega
 ·refine⟨?_,?_⟩
  ·dsimp only;rw[z7q,z68,sz0];omega
  ·dsimp only;rw[y3b,zq3];omega
theorem yi1(k:Int)(z04:List ByteArray)(a:Bool×RiT):z1b (z5q k z04 a)<=z1b a.2.ns+1+z04.length/\lsz (z5q k z04 a)<=lsz a.2.ns+1:=by
 unfold z5q;split
 ·exact⟨by omega,by omega⟩
 ·rw[(z21 ..).1,(z21 ..).2,z75,sz0];exact⟨by omega,Ag _⟩
theorem X_tw(p:Pg)(vs:List (Value×PV))(e:Ex)(h:nxX e=true)(s:RiS):(riX p vs e s).2.ts.length+z1b (riX p vs e s).2.ns<=s.ts.length+z1b s.ns+27*xz e/\lsz (riX p vs e s).2.ns<=lsz s.ns+4*xz e:=by
 obtain⟨h1,h2⟩:=(riX_tw p vs _).1 e (Ab _) h s;unfold tw at h1;exact⟨by omega,h2⟩
theorem zq4{l:List Ex}{i:Nat}{e:Ex}(h:nxL l=true)(he:l[i]?=some e):nxX e=true:=nxL_mem h (Ae he)
theorem kid_ts(s:RiT)(z04:List ByteArray):(z2b s z04).ts.length=s.ts.length+z04.length:=by
 have hl:=z3h (riOf s.vs z04) s.ts;rw[z75]at hl;unfold z2b;dsimp only;omega
theorem ri_tw(p:Pg)(M:Nat):∀N,(∀x:St,SizeOf.sizeOf x<N->∀b lp lo s,gS p b lp x=true->nxS x=true->cnS x<=M->(∀l∈lo,l.length<=M)->twT (riS p x lo s).2<=twT s+27*sz x+(30+8*M)*cnS x/\lsz (riS p x lo s).2.ns<=lsz s.ns+4*sz x) /\
 (∀l:List St,SizeOf.sizeOf l<N->∀b lp lo s,gB p b lp l=true->nxB l=true->cnL l<=M->(∀q∈lo,q.length<=M)->twT (riB p l lo s).2<=twT s+27*szL l+(30+8*M)*cnL l/\lsz (riB p l lo s).2.ns<=lsz s.ns+4*szL l)
 |0=>⟨λ_ h=>absurd h (Al _),λ_ h=>absurd h (Al _)⟩
 |N+1=>by
  obtain⟨hS,hB⟩:=ri_tw p M N;refine⟨λx hx b lp lo s hg hn hc hlo=>?_,λl hl b lp lo s hg hn hc hlo=>?_⟩
  ·obtain⟨k,ty,nm,args,thn,els⟩:=x;simp at hx;rw[gS]at hg;rw[nxS,A0,A0,A0]at hn;obtain⟨⟨⟨n1,n2⟩,n3⟩,n4⟩:=hn;rw[cnS]at hc;rw[riS];simp only[cnS,sz];have hK:(30+8*M)*(1+cnL thn+cnL els)=(30+8*M)+(30+8*M)*cnL thn+(30+8*M)*cnL els:=by rw[Ev,Ev,Nat.mul_one]
   rw[hK]
   by_cases h4:k=4
   ·subst h4;rw[if_pos rfl,A0,A0]at hg;rw[if_pos rfl];obtain⟨e,i1,i2,i3,i4⟩:=z9s hg.1.1;rw[i2];obtain⟨j1,j2⟩:=X_tw p s.vs e (zq4 n2 i1) ⟨s.ts,s.ns⟩;generalize riX p s.vs e ⟨s.ts,s.ns⟩=c at j1 j2⊢;dsimp only at j1 j2;obtain⟨a1,a2⟩:=hB thn oM0 b lp lo ⟨s.vs,c.2.ts,[],s.jk⟩ hg.1.2 n3 oM0 hlo;generalize riB p thn lo ⟨s.vs,c.2.ts,[],s.jk⟩=a at a1 a2⊢;obtain⟨d1,d2⟩:=hB els oM0 b lp lo ⟨s.vs,a.2.ts,[],a.2.jk⟩ hg.2 n4 oM0 hlo;generalize riB p els lo ⟨s.vs,a.2.ts,[],a.2.jk⟩=d at d1 d2⊢;have hm:=zv0 s.vs thn els;generalize z0d s.vs [thn,els]=z04 at hm⊢;unfold ze2;obtain⟨r1,r2⟩:=y9x s.vs z04 d.2.ts c.2.ns d.2.jk 10 [c.1] [] [z5q 12 z04 a,z5q 12 z04 d];obtain⟨w1,w2⟩:=yi1 12 z04 a;obtain⟨v1,v2⟩:=yi1 12 z04 d;rw[yh5]at r1;rw[ya1]at r2;unfold twT at a1 d1 r1⊢;simp only[z7r,A1,A5]at a1 d1 r1;rw[show lsz []=0 from rfl]at a2 d2;generalize(30+8*M)*cnL thn=Kt at a1⊢;generalize(30+8*M)*cnL els=Ke at d1⊢;exact⟨by omega,by omega⟩
   by_cases h5:k=5
   ·subst h5;rw[if_neg dC0,if_pos rfl,A0]at hg;rw[if_neg dC0,if_pos rfl];obtain⟨e,i1,i2,i3,i4⟩:=z9s hg.1;rw[i2];have hm:=z88 s.vs thn;generalize z0d s.vs [thn]=z04 at hm⊢;have hlo2:∀q∈lo++[z04],q.length<=M:=λq hq=>by
     rcases Ax.1 hq with h|h
     ·exact hlo q h
     ·rw[An.1 h];omega
    have hk:=kid_ts s z04;have hl:=z3h (riOf s.vs z04) s.ts;have hkn:(z2b s z04).ns=[]:=rfl;rw[z75]at hl;split
    ·obtain⟨a1,a2⟩:=hB thn oM0 b true (lo++[z04]) (z2b s z04) hg.2 n3 oM0 hlo2;generalize riB p thn (lo++[z04]) (z2b s z04)=a at a1 a2⊢;unfold y5l;obtain⟨r1,r2⟩:=y9x s.vs z04 a.2.ts s.ns (z04::a.2.jk) 11 (riOf s.vs z04) (z15 s.ts (riOf s.vs z04)).1 [z5q 13 z04 a];obtain⟨w1,w2⟩:=yi1 13 z04 a;rw[j4i,z75]at r1;rw[j0l]at r2;unfold twT at a1 r1⊢;rw[hkn,z7r]at a1;rw[hkn,show lsz []=0 from rfl]at a2;generalize(30+8*M)*cnL thn=Kt at a1⊢;generalize(30+8*M)*cnL els=Ke;exact⟨by omega,by omega⟩
    ·obtain⟨j1,j2⟩:=X_tw p (z2b s z04).vs e (zq4 n2 i1) ⟨(z2b s z04).ts,[]⟩;generalize riX p (z2b s z04).vs e ⟨(z2b s z04).ts,[]⟩=c at j1 j2⊢;dsimp only at j1 j2;obtain⟨a1,a2⟩:=hB thn oM0 b true (lo++[z04]) ⟨(z2b s z04).vs,c.2.ts,[],s.jk.tail⟩ hg.2 n3 oM0 hlo2;generalize riB p thn (lo++[z04]) ⟨(z2b s z04).vs,c.2.ts,[],s.jk.tail⟩=a at a1 a2⊢;unfold y5m;obtain⟨r1,r2⟩:=y9x s.vs z04 a.2.ts s.ns (z04::a.2.jk) 11 (riOf s.vs z04) (z15 s.ts (riOf s.vs z04)).1 [z9e z04 (z2b s z04).vs c a];obtain⟨w1,w2⟩:=yi1 13 z04 a;have hq:z1b (z9e z04 (z2b s z04).vs c a)=z1b c.2.ns+5+z1b (z5q 13 z04 a)+z04.length/\lsz (z9e z04 (z2b s z04).vs c a)=lsz c.2.ns+2+lsz (z5q 13 z04 a):=by
      unfold z9e;refine⟨?_,?_⟩
      ·rw[z7q,z68,yh5,(z21 ..).1,z75,sz0,z7r];simp only[A1,A5];omega
      ·rw[y3b,zq3,ya1,(z21 ..).2,show lsz []=0 from rfl];omega
     rw[j4i,z75,hq.1]at r1;rw[j0l,hq.2]at r2;unfold twT at a1 r1⊢;simp only[z7r]at a1 j1;rw[show lsz []=0 from rfl]at a2 j2;generalize(30+8*M)*cnL thn=Kt at a1⊢;generalize(30+8*M)*cnL els=Ke;exact⟨by omega,by omega⟩
   rw[if_neg h4,if_neg h5]at hg;rw[if_neg h4,if_neg h5];have hlast:=y05 hlo;generalize(30+8*M)*cnL thn=Kt;generalize(30+8*M)*cnL els=Ke;unfold twT
   by_cases h6:k=6
   ·rw[if_pos h6];dsimp only;rw[(z21 ..).1,(z21 ..).2,z75,sz0];exact⟨by omega,by omega⟩
   by_cases h7:k=7
   ·rw[if_neg h6,if_pos h7];dsimp only;rw[(z21 ..).1,(z21 ..).2,z75,sz0];exact⟨by omega,by omega⟩
   rw[if_neg oM0]at hg;rw[if_neg h6,if_neg h7];have hnm:k=3->nm.size<=20:=λh=>by
    subst h;rw[Bo,Bo]at n1;rcases n1 with(n1|n1)|n1
    ·exact absurd n1 dC0
    ·exact absurd n1 dC0
    ·exact Am n1
   by_cases h8:k=8
   ·subst h8;rw[if_neg dC0,A0]at hg;rw[if_pos rfl];obtain⟨e,i1,i2,i3,i4⟩:=z9s hg.1;rw[i2];obtain⟨j1,j2⟩:=X_tw p s.vs e (zq4 n2 i1) ⟨s.ts,s.ns⟩;dsimp only at j1 j2⊢;rw[(z21 ..).1,(z21 ..).2,sz0];simp only[A1,A5];exact⟨by omega,by omega⟩
   rw[if_neg h8];unfold ze3
   by_cases h3:k=3
   ·have hnm:=hnm h3;subst h3;rw[if_pos rfl]at hg;obtain⟨e,e2,i1,i2,i3,i4,i5,i6,i7⟩:=j03 hg;rw[if_neg dC0,if_pos rfl,i3,i4];obtain⟨j1,j2⟩:=X_tw p s.vs e (zq4 n2 i1) ⟨s.ts,s.ns⟩;obtain⟨m1,m2⟩:=X_tw p s.vs e2 (zq4 n2 i2) (riX p s.vs e ⟨s.ts,s.ns⟩).2;dsimp only at j1 j2⊢;rw[(z21 ..).1,(z21 ..).2];simp only[A1,A5];exact⟨by omega,by omega⟩
   rw[if_neg h3,A0]at hg;obtain⟨e,i1,i2,i3,i4⟩:=z9s hg.1;rw[i2];obtain⟨j1,j2⟩:=X_tw p s.vs e (zq4 n2 i1) ⟨s.ts,s.ns⟩;dsimp only at j1 j2
   by_cases h12:k=1∨k=2
   ·rw[if_pos h12];dsimp only;exact⟨by omega,by omega⟩
   ·rw[if_neg h12,if_neg h3];split
    ·dsimp only;rw[(z21 ..).1,(z21 ..).2,sz0];simp only[A1,A5];exact⟨by omega,by omega⟩
    ·dsimp only;exact⟨by omega,by omega⟩
  ·match l with
   |[]=>rw[riB];exact⟨Bk _ _,Bk _ _⟩
   |x::r =>
    simp at hl;rw[gB,A0]at hg;rw[nxB,A0]at hn;rw[cnL]at hc;obtain⟨a1,a2⟩:=hS x oM0 b lp lo s hg.1 hn.1 oM0 hlo;rw[riB];simp only[cnL,szL];rw[Ev (30+8*M) (cnS x) (cnL r)];generalize(30+8*M)*cnS x=Kx at a1⊢;split
    ·exact⟨by dsimp only;omega,by dsimp only;omega⟩
    ·obtain⟨d1,d2⟩:=hB r oM0 _ lp lo (riS p x lo s).2 hg.2 hn.2 oM0 hlo;exact⟨by omega,by omega⟩
theorem gr_le(M:Nat):∀N,(∀x:St,SizeOf.sizeOf x<N->cnS x<=M->grS x<=8*sz x+(2+2*M)*cnS x)/\(∀l:List St,SizeOf.sizeOf l<N->cnL l<=M->grL l<=8*szL l+(2+2*M)*cnL l)
 |0=>⟨λ_ h=>absurd h (Al _),λ_ h=>absurd h (Al _)⟩
 |N+1=>by
  obtain⟨hS,hB⟩:=gr_le M N;refine⟨λx hx hc=>?_,λl hl hc=>?_⟩
  ·obtain⟨k,ty,nm,args,thn,els⟩:=x;simp at hx;rw[cnS]at hc;have a:=hB thn oM0 oM0;have b:=hB els oM0 oM0;simp only[cnS,sz,grS];rw[show(2+2*M)*(1+cnL thn+cnL els)=(2+2*M)+(2+2*M)*cnL thn+(2+2*M)*cnL els by rw[Ev,Ev,Nat.mul_one]];generalize(2+2*M)*cnL thn=Kt at a⊢;generalize(2+2*M)*cnL els=Ke at b⊢;omega
  ·match l with
   |[]=>exact Ac _
   |x::r =>
    simp at hl;rw[cnL]at hc;have a:=hS x oM0 oM0;have b:=hB r oM0 oM0;simp only[cnL,szL,grL];rw[Ev (2+2*M) (cnS x) (cnL r)];generalize(2+2*M)*cnS x=Kt at a⊢;generalize(2+2*M)*cnL r=Ke at b⊢;omega
structure RnOk(q:Pg):Prop where
 pz:pz q.funcs<=300003
 ar:q.arrays.length<=300003
 cn:pcn q.funcs<=50000
 nmA:∀a∈q.arrays,a.name.size<=20
 nmF:∀f∈q.funcs,f.name.size<=20
 gB:∀f∈q.funcs,gB q (!f.params.isEmpty) false f.body=true
 nx:∀f∈q.funcs,nxB f.body=true
 nt:∀f∈q.funcs,ntL maxLen f.body
theorem y5g{f:Fu}:∀{l:List Fu},f∈l->cnL f.body<=pcn l
 |x::r,h=>by
  rw[pcn];rcases Aj.1 h with rfl|h
  ·omega
  ·have:=y5g h;omega
theorem pz_rn:∀l:List Fu,pz (l.map rnF)=pz l/\pcn (l.map rnF)=pcn l
 |[]=>⟨rfl,rfl⟩
 |f::r=>by
  obtain⟨h1,h2⟩:=pz_rn r;rw[B8,pz,pz,pcn,pcn,h1,h2];have e1:(rnF f).params.length=f.params.length:=z9f _ _ _;have e2:szL (rnF f).body=szL f.body:=rn_sz _ _ _;have e3:cnL (rnF f).body=cnL f.body:=rn_cn _ _ _;rw[e1,e2,e3];exact⟨rfl,rfl⟩
theorem rnOk{p:Pg}(h1:pz p.funcs+p.arrays.length<=300003)(h2:pcn p.funcs<=50000)(hr:rPg p=true)(hy:(z91 p).1=0):RnOk (rnP p):=by
 have hr':=hr;unfold rPg at hr';rw[A0]at hr';obtain⟨ha,hf⟩:=hr';have ha:=Bi.1 ha;have hf:=Bi.1 hf;have hF:∀f∈p.funcs,z0k f.name=true/\rsL f.body 100=true:=λf h=>by
  have:=hf f h;unfold rFu at this;simp only[A0]at this;exact⟨this.1.1.1.1,this.1.2⟩
 obtain⟨e1,e2⟩:=pz_rn p.funcs;have sh0:Sh []:=λe he=>by cases he
 refine⟨?_,?_,?_,λa h=>?_,λf h=>?_,rnF_gB hr hy,λf h=>?_,λf h=>?_⟩
 ·show pz (p.funcs.map rnF)<=_;omega
 ·show p.arrays.length<=_;omega
 ·show pcn (p.funcs.map rnF)<=_;omega
 ·have:=ha a h;simp only[A0]at this;exact zk9 this.1.1
 all_goals obtain⟨g,hg,rfl⟩:=Cc.1 (show f∈p.funcs.map rnF from h)
 ·exact zk9 (hF g hg).1
 ·exact(nxB_rn _).2 g.body (Ab _) _ _ ((nxB_of _).2 g.body (Ab _) 100 (hF g hg).2)
 ·have hpl:=zu6 hg;have hcm:=y5g hg;obtain⟨s1,s2⟩:=j20 g.params [] 0 sh0 oM0;refine(j0y (show 30<=maxLen by decide) _).2 _ (Ab _) ?_;exact((nt_rn _).2 g.body (Ab _) (rnPm g.params [] 0).2.1 (rnPm g.params [] 0).2.2 100 s1 oM0 (hF g hg).2).1
theorem riFun{q:Pg}(h:RnOk q){f:Fu}(hf:f∈q.funcs):f.params.length<=1000000000/\scB q f.body [] (riT0 f.params) (riB q f.body [] (riT0 f.params)):=by
 have hpl:=zu6 hf;have hcm:=y5g hf;have h1:=h.pz;have h2:=h.cn;have h3:=zl1 q.funcs;have h4:=h.ar;have hg:=(gr_le 50000 _).2 f.body (Ab _) oM0;have ht:(riT0 f.params).ts.length=f.params.length:=y1a f.params;refine⟨by omega,(yn1 q ⟨by omega,by omega⟩ _).2 f.body (Ab _) (!f.params.isEmpty) false [] (riT0 f.params) (h.gB f hf) (h.nt f hf) oM0 (yl8 f.params) ⟨by omega,?_,?_,(λl hl=>by cases hl),λe=>by cases e⟩⟩
 ·show 0+_<=_;omega
 ·show 0+0+_<=_;omega
theorem j1k{q:Pg}(h:RnOk q){f:Fu}(hf:f∈q.funcs):(z7s q f).types.length+z1b (z7s q f).body<=f.params.length+27*szL f.body+400030*cnL f.body/\lsz (z7s q f).body<=4*szL f.body:=by
 have hcm:=y5g hf;have h2:=h.cn;obtain⟨a,b⟩:=(ri_tw q 50000 _).2 f.body (Ab _) (!f.params.isEmpty) false [] (riT0 f.params) (h.gB f hf) (h.nx f hf) oM0 (λl hl=>by cases hl);have ht:twT (riT0 f.params)=f.params.length:=by
  unfold twT;rw[show(riT0 f.params).ts.length=f.params.length from y1a f.params];rfl
 rw[ht]at a;have hb:lsz (riT0 f.params).ns=0:=rfl;rw[hb]at b;unfold twT at a;exact⟨by simpa[z7s]using a,by simpa[z7s]using b⟩
theorem riUn_w{q:Pg}(h:RnOk q):z0i (riUn q)<=34000000000/\uSz (riUn q).flows<=4000000:=by
 have h1:=h.pz;have h2:=h.cn;have h4:=h.ar;have key:∀l:List Fu,(∀f∈l,f∈q.funcs)->wtF (l.map (z7s q))+l.length<=27*pz l+400030*pcn l/\uSz (l.map (z7s q))<=4*pz l:=by
  intro l
  induction l with
  |nil=>intro _;exact⟨Ag _,Ag _⟩
  |cons f r ih =>
   intro hm;obtain⟨i1,i2⟩:=ih λx hx=>hm x (.tail _ hx);have hf:=hm f (.head _);obtain⟨a,b⟩:=j1k h hf;have hn:=h.nmF f hf;rw[B8,wtF,uSz,pz,pcn,A1];have e:(z7s q f).name.size=f.name.size:=rfl;rw[e,Ev 400030];generalize 400030*cnL f.body=K1 at a⊢;generalize 400030*pcn r=K2 at i1⊢;exact⟨by omega,by omega⟩
 obtain⟨k1,k2⟩:=key q.funcs λf h=>h;have hA:∀l:List Ar,(∀a∈l,a.name.size<=20)->wtA l<=20*l.length:=by
  intro l
  induction l with
  |nil=>intro _;exact Ag _
  |cons a r ih =>
   intro hm;have:=ih λx hx=>hm x (.tail _ hx);have:=hm a (.head _);rw[wtA,A1];omega
 have hA:=hA q.arrays h.nmA;have hm:400030*pcn q.funcs<=400030*50000:=Nat.mul_le_mul_left _ h2;generalize 400030*pcn q.funcs=K at k1 hm;unfold z0i;have e1:(riUn q).arrays=q.arrays:=rfl;have e2:(riUn q).flows=q.funcs.map (z7s q):=rfl;rw[e1,e2,A8];have h3:=zl1 q.funcs;exact⟨by omega,by omega⟩
def riU(s:ByteArray):Un×Int:=ys6 (z2a s).1 (z4v (riUn (rnOf (z2a s).1).1)).1
theorem rn_ok(s:ByteArray)(h:(rnOf (z2a s).1).2=0):RnOk (rnOf (z2a s).1).1:=by
 unfold rnOf at h⊢
 by_cases hy:(z91 (z2a s).1).1=0
 ·rw[if_pos hy];exact rnOk (y71 s) (j04 s) (zt6 s) hy
 ·rw[if_neg hy]at h;exact absurd h dC0
theorem sc_Rise(s:ByteArray):SC Tryz.prog 7 [.pv (z2a s).1.enc] [] (λk=>k∈[]) (.tup [.pv (riU s).1.enc,iInt (riU s).2]) []:=by
 have hz:=y71 s;refine sc_Rise0 (z2a s).1 (j24 (z2a s).1 oM0 oM0 (zt6 s)) ?_ (λh f hf=>riFun (rn_ok s h) hf) _ (z4v (riUn (rnOf (z2a s).1).1)).2 λh=>SC.anyR (y45 _ (Bn (riUn_w (rn_ok s h)).1 dC0))
 by_cases hy:(z91 (z2a s).1).1=0
 ·have h:(rnOf (z2a s).1).2=0:=by unfold rnOf;rw[if_pos hy]
  have:=(rn_ok s h).pz;have:=zl1 (rnOf (z2a s).1).1.funcs;omega
 ·unfold rnOf;rw[if_neg hy];exact Ac _
theorem un0_w:z0i un0<=34000000000/\uSz un0.flows<=4000000:=⟨by decide,by decide⟩
theorem riU_w(s:ByteArray):z0i (riU s).1<=34000000000/\uSz (riU s).1.flows<=4000000:=by
 unfold riU ys6;split
 ·rename_i h;split
  ·exact riUn_w (rn_ok s h)
  ·exact un0_w
 ·exact un0_w
theorem riU_ar(s:ByteArray):(riU s).1.arrays.length<=(z2a s).1.arrays.length:=by
 unfold riU ys6;split
 ·rename_i h;have e:(rnOf (z2a s).1).1.arrays=(z2a s).1.arrays:=by
   unfold rnOf at h⊢
   by_cases hy:(z91 (z2a s).1).1=0
   ·rw[if_pos hy];rfl
   ·rw[if_neg hy]at h;exact absurd h dC0
  split
  ·show(rnOf (z2a s).1).1.arrays.length<=_;rw[e];exact Ag _
  ·exact Ac _
 ·exact Ac _
section
variable {T:List Tk}
theorem ya8{w:ByteArray}{s:Ps}(h:(z0n T w s).over=false):(z0n T w s).at_=s.at_+1/\s.over=false:=by
 unfold z0n at h⊢;split at h
 ·rename_i c;rw[if_pos c];exact⟨rfl,(z4o c).1⟩
 ·rename_i c;rw[if_neg c];split at h
  ·rename_i d;simp[Ps.over,d]at h
  ·simp[Ps.over,Ps.setBad]at h
theorem j3q{k:Int}{s:Ps}(h:(z0l T k s).2.over=false):(z0l T k s).2.at_=s.at_+1/\s.over=false:=by
 unfold z0l at h⊢;split at h
 ·rename_i c;rw[c]at h;cases h
 ·rename_i c;rw[if_neg c];split at h
  ·rename_i d;rw[if_pos d];exact⟨rfl,by simpa using c⟩
  ·simp[Ps.over,Ps.setBad]at h
theorem typed_eq{s:Ps}(h:(z0r T s).2.over=false):(z0r T s).2.at_=s.at_+1/\s.over=false:=by
 unfold z0r at h⊢;split at h
 ·rename_i c;rw[if_pos c];exact⟨rfl,(z4o c).1⟩
 ·rename_i c;rw[if_neg c];exact ya8 h
theorem y6z:∀N p s,p.funcs≠[]->(z43 T N p s).1.arrays=p.arrays
 |0,_,_,_=>rfl
 |N+1,p,s,h=>by
  unfold z43;split
  ·rfl
  split
  ·rename_i c2;unfold qArr at c2;simp only[A0,Av]at c2;exact absurd (Aw c2.1.2) h
  ·exact y6z N _ _ sI0
theorem ps_eq{s:Ps}(h:s.over=false):s=⟨s.at_,false,false⟩:=by
 obtain⟨a,b,d⟩:=s;unfold Ps.over at h;simp only[Bu]at h;obtain⟨rfl,rfl⟩:=h;rfl
theorem arr_le:∀(k N:Nat)(p:Pg)(s:Ps),pIs T sSo ⟨s.at_+6*k+2,false,false⟩=false->(z43 T N p s).1.arrays.length<=p.arrays.length+k
 |_,0,p,s,_=>Bk _ _
 |k,N+1,p,s,h=>by
  unfold z43;split
  ·exact Bk _ _
  split
  ·rename_i c2;have hc:pIs T sSo (z0l T 1 (z0r T s).2).2=true:=by unfold qArr at c2;simp only[A0]at c2;exact c2.2
   have ho:=(z4o hc).1;obtain⟨a1,o1⟩:=j3q ho;obtain⟨a2,o2⟩:=typed_eq o1
   match k,h with
   |0,h =>
    rw[ps_eq ho,a1,a2]at hc;rw[show s.at_+6*0+2=s.at_+1+1 by omega]at h;rw[h]at hc
    cases hc
   |k+1,h =>
    cases hs:(z0n T z5e (z0n T sSc (z0l T 0 (z0l T 1 (z0r T s).2).2.next).2)).over with
    |true =>
     cases N with
     |zero=>rw[z43];simp
     |succ N=>rw[z43,if_pos (by rw[hs];rfl)];simp
    |false =>
     obtain⟨a3,o3⟩:=ya8 hs;obtain⟨a4,o4⟩:=ya8 o3;obtain⟨a5,o5⟩:=j3q o4;have:=arr_le k N ⟨p.arrays++[⟨(z0l T 1 (z0r T s).2).1,zg7 (z0l T 0 (z0l T 1 (z0r T s).2).2.next).1⟩],p.funcs⟩ (z0n T z5e (z0n T sSc (z0l T 0 (z0l T 1 (z0r T s).2).2.next).2)) (by
      rw[a3,a4,a5,z0m,a1,a2,show s.at_+1+1+1+1+1+1+6*k+2=s.at_+6*(k+1)+2 by omega];exact h)
     rw[B4]at this;simp only[A1,A5]at this;omega
  ·rw[y6z N _ _ sI0];exact Bk _ _
theorem yq1(s:ByteArray)(k:Nat)(h:pIs (z1t s).1 sSo ⟨6*k+2,false,false⟩=false):(z2a s).1.arrays.length<=k:=by
 unfold z2a;split
 ·split
  ·exact Ac _
  ·split
   ·exact Ac _
   ·split
    ·have:=arr_le k (big (z1t s).1) ⟨[],[]⟩ ⟨0,false,false⟩ (by simpa using h);unfold z97;simpa using this
    ·exact Ac _
 ·exact Ac _
theorem y6d(s:ByteArray):∀(N line a:Nat)(out:List Tk),(toks s N line a out).1=[]∨∃r,(toks s N line a out).1=out++r
 |0,_,_,_=>.inl rfl
 |N+1,line,a,out=>by
  unfold toks;split
  ·exact .inr ⟨_,rfl⟩
  ·split
   ·exact y6d s N _ _ out
   ·rename_i t a2 _;rcases y6d s N line a2 (out++[t])with h|⟨r,h⟩
    ·exact .inl h
    ·exact .inr ⟨t::r,by rw[h,C9];rfl⟩
   ·exact .inl rfl
def pxOk(P:ByteArray)(a:Nat):Bool:=decide (a+3<=P.size)&&decide (a+z4f P a<P.size)&&P.data.toList[a]? != some 47
def px(P:ByteArray):Nat->Nat->Nat->List Tk->Option (Nat×Nat×List Tk)
 |0,line,a,out=>some (line,a,out)
 |k+1,line,a,out=>if pxOk P a then(match P.data.toList[a]? with
  |some b=>(match zs7 P line a b with
   |.skip l2 a2=>px P k l2 a2 out
   |.tok t a2=>px P k line a2 (out++[t])
   |.bad _=>none)
  |none=>none)else none
variable {P R:ByteArray} {a:Nat}
theorem yi2:(P++R).data.toList=P.data.toList++R.data.toList:=by rw[ByteArray.data_append,Dl]
theorem yj7(s:ByteArray):s.data.toList.length=s.size:=Bx
theorem bget_app(h:a<P.size):(P++R).data.toList[a]?=P.data.toList[a]?:=by rw[yi2,Aq (by rw[yj7];exact h)]
theorem run_app(h:a+z4f P a<P.size):z4f (P++R) a=z4f P a:=by
 unfold z4f at h⊢;have hl:=yj7 P;rw[yi2,List.drop_append_of_le_length oM0,List.takeWhile_append,if_neg];rw[Em];omega
theorem yz4{n:Nat}(h:a+n<=P.size):(P++R).extract a (a+n)=P.extract a (a+n):=by
 apply ByteArray.ext;rw[Dq,Dq,ByteArray.data_append,Array.extract_append];have:a+n-P.data.size=0:=by have:P.data.size=P.size:=rfl;omega
 rw[this];simp
theorem yz5(s:ByteArray)(a n:Nat)(h:a+n<=s.size):(s.extract a s.size).extract 0 n=s.extract a (a+n):=by
 apply ByteArray.ext;rw[Dq,Dq,Dq,Array.extract_extract];rw[Bz,Dd h]
theorem yn9:(P++R).size=P.size+R.size:=A4
theorem sgIs_app{w:ByteArray}(h:a+3<=P.size)(hw:w.size<=3):sgIs ((P++R).extract a (P++R).size) w=sgIs (P.extract a P.size) w:=by
 unfold sgIs;have h2:=@yn9 P R;rw[yz5 _ _ _ oM0,yz5 _ _ _ oM0,yz4 oM0,Cj,Cj];rw[show decide (w.size<=min (P++R).size (P++R).size-a)=true from Cb oM0,show decide (w.size<=min P.size P.size-a)=true from Cb oM0]
theorem yn8(h:a+3<=P.size):∀l:List ByteArray,(∀w∈l,w.size<=3)->sgGo ((P++R).extract a (P++R).size) l=sgGo (P.extract a P.size) l
 |[],_=>rfl
 |w::r,hw=>by
  simp only[sgGo];rw[sgIs_app h (hw w (.head _)),yn8 h r λx hx=>hw x (.tail _ hx)]
theorem sgOf_app(h:a+3<=P.size):sgOf ((P++R).extract a (P++R).size)=sgOf (P.extract a P.size):=yn8 h sgL dC0
theorem j3n(h:pxOk P a=true)(line:Nat){b:UInt8}(hb:P.data.toList[a]?=some b):zs7 (P++R) line a b=zs7 P line a b:=by
 unfold pxOk at h;simp only[A0,Bj,bne_iff_ne]at h;obtain⟨⟨h1,h2⟩,h3⟩:=h;have h4:b≠47:=λe=>h3 (by rw[hb,e]);unfold zs7;rw[run_app h2,yz4 oM0,sgOf_app h1];simp only[h4,false_and,C3]
theorem yc4(N:Nat):∀(k line a:Nat)(out:List Tk){l2 a2:Nat}{o2:List Tk},px P k line a out=some (l2,a2,o2)->toks (P++R) (N+k) line a out=toks (P++R) N l2 a2 o2
 |0,line,a,out,l2,a2,o2,h=>by cases h;rfl
 |k+1,line,a,out,l2,a2,o2,h=>by
  unfold px at h;split at h
  ·rename_i hk;have h1:a+3<=P.size:=by
    have:=hk;unfold pxOk at this;simp only[A0,Bj]at this;exact this.1.1
   rw[show N+(k+1)=(N+k)+1 from rfl]
   conv=>lhs;unfold toks
   rw[bget_app oM0];split at h
   ·rename_i b hb;rw[hb];dsimp only;rw[j3n hk line hb];split at h
    ·rename_i h5;rw[h5];exact yc4 N k _ _ _ h
    ·rename_i h5;rw[h5];exact yc4 N k _ _ _ h
    ·cases h
   ·cases h
  ·cases h
theorem px_is{k l2 a2 i:Nat}{o2:List Tk}(h:px P k 1 0 []=some (l2,a2,o2))(hk:k<=P.size)(hi:i<o2.length)(hq:pIs o2 sSo ⟨i,false,false⟩=false):pIs (z1t (P++R)).1 sSo ⟨i,false,false⟩=false:=by
 unfold z1t;have e:pIs ([]:List Tk) sSo ⟨i,false,false⟩=false:=by
  unfold pIs tkAt;simp
 split
 ·exact e
 ·have hs:=@yn9 P R;obtain⟨N,hN⟩:∃N,(P++R).size+1=N+k:=⟨(P++R).size+1-k,by omega⟩;rw[hN,yc4 N k 1 0 [] h];rcases y6d (P++R) N l2 a2 o2 with h1|⟨r,h1⟩
  ·rw[h1];exact e
  ·rw[h1];have:tkAt (o2++r) ⟨i,false,false⟩=tkAt o2 ⟨i,false,false⟩:=by
    unfold tkAt;rw[Ay,Ay,Aq hi]
   unfold pIs at hq⊢;rw[this];exact hq
end
section
def kAt(L:List ByteArray)(i:Nat):ByteArray:=L.getD i s_
def KFm:Type:=Nat->ByteArray×Nat
def kNums:List ByteArray:=[⟨#[48]⟩,⟨#[49]⟩,⟨#[50]⟩,⟨#[55]⟩,⟨#[50,53,53]⟩,⟨#[54,52]⟩]
def kUns:List ByteArray:=[⟨#[45]⟩,⟨#[126]⟩,⟨#[105,56]⟩,⟨#[117,49,54]⟩,⟨#[105,51,50]⟩]
def kOps:List ByteArray:=[⟨#[43]⟩,⟨#[45]⟩,⟨#[42]⟩,⟨#[47]⟩,⟨#[37]⟩,⟨#[38]⟩,⟨#[124]⟩,⟨#[94]⟩,⟨#[60,60]⟩,⟨#[62,62]⟩,⟨#[62,62,62]⟩]
def kTrs:List ByteArray:=[⟨#[116,114,117,101]⟩,⟨#[102,97,108,115,101]⟩]
def kCmp:List ByteArray:=[⟨#[60]⟩,⟨#[60,61]⟩,⟨#[62]⟩,⟨#[62,61]⟩,⟨#[61,61]⟩,⟨#[33,61]⟩]
def y2g(l:List UInt8)(v:ByteArray)(rn rt:KFm)(k a:Nat):ByteArray×Nat :=
 if k<2 then(kAt kNums (z2f l a 6),a+1)
 else if k<5 then(v,a)
 else if k=5 then(⟨#[97,91]⟩++v++⟨#[32,38,32,51,93]⟩,a)
 else if k=6 then(⟨#[97,91]⟩++(rn a).1++⟨#[93]⟩,(rn a).2)
 else if k=7 then(kAt kUns (z2f l a 5)++⟨#[40]⟩++(rn (a+1)).1++⟨#[41]⟩,(rn (a+1)).2)
 else if k<11 then(⟨#[40]⟩++(rn a).1++⟨#[32]⟩++kAt kOps (z2f l (rn a).2 11)++⟨#[32]⟩++(rn ((rn a).2+1)).1++⟨#[41]⟩,(rn ((rn a).2+1)).2)
 else if k=11 then(⟨#[114,101,97,100,40,41]⟩,a)
 else if k=12 then(⟨#[99,91]⟩++v++⟨#[32,37,32,51,93]⟩,a)
 else(⟨#[102,40]⟩++(rn a).1++⟨#[44,32]⟩++(rt (rn a).2).1++⟨#[41]⟩,(rt (rn a).2).2)
def y2h(l:List UInt8)(b:ByteArray)(rn rt:KFm)(k a:Nat):ByteArray×Nat :=
 if k=0 then(kAt kTrs (z2f l a 2),a+1)
 else if k<3 then(b,a)
 else if k=3 then(⟨#[33]⟩++b,a)
 else if k<7 then(⟨#[40]⟩++(rn a).1++⟨#[32]⟩++kAt kCmp (z2f l (rn a).2 6)++⟨#[32]⟩++(rn ((rn a).2+1)).1++⟨#[41]⟩,(rn ((rn a).2+1)).2)
 else if k=7 then(⟨#[40]⟩++(rt a).1++⟨#[32,38,38,32]⟩++(rt (rt a).2).1++⟨#[41]⟩,(rt (rt a).2).2)
 else if k=8 then(⟨#[40]⟩++(rt a).1++⟨#[32,124,124,32]⟩++(rt (rt a).2).1++⟨#[41]⟩,(rt (rt a).2).2)
 else(⟨#[103,40]⟩++(rn a).1++⟨#[41]⟩,(rn a).2)
def kK(l:List UInt8)(d n m a:Nat):Nat:=if d<1 then z2f l a n%m else z2f l a n
def kNT(l:List UInt8)(v b:ByteArray):Nat->KFm×KFm
 |0=>(λa=>y2g l v (λa=>(s_,a)) (λa=>(s_,a)) (kK l 0 14 6 a) (a+1),λa=>y2h l b (λa=>(s_,a)) (λa=>(s_,a)) (kK l 0 10 3 a) (a+1))
 |d+1=>(λa=>y2g l v (kNT l v b d).1 (kNT l v b d).2 (kK l (d+1) 14 6 a) (a+1),λa=>y2h l b (kNT l v b d).1 (kNT l v b d).2 (kK l (d+1) 10 3 a) (a+1))
def KOk(F:KFm)(B:Nat):Prop:=∀a,(F a).1.size<=B/\(F a).2<=a+B
theorem z5l(l:List UInt8)(a:Nat){n:Nat}(hn:0<n):z2f l a n<n:=by
 unfold z2f;split
 ·exact hn
 ·exact Gb _ hn
theorem z6p{L:List ByteArray}{i:Nat}(h:i<L.length):L[i]?=some (kAt L i):=by
 unfold kAt;rw[Ay,A9 h];rfl
theorem zg2(L:List ByteArray)(i:Nat)(h:∀w∈L,w.size<=8):(kAt L i).size<=8:=by
 rcases Du i L.length with h1|h1
 ·have:=z6p h1;exact h _ (Ae this)
 ·unfold kAt;rw[Ay,List.getElem?_eq_none h1];exact Ac _
theorem szl(l:List UInt8):(ByteArray.mk (List.toArray l)).size=l.length:=rfl
theorem yj0(l:List UInt8){v:ByteArray}(hv:v.size<=8){rn rt:KFm}{B:Nat}(h1:KOk rn B)(h2:KOk rt B)(k a:Nat):(y2g l v rn rt k a).1.size<=2*B+24/\(y2g l v rn rt k a).2<=a+(2*B+23):=by
 have a1:=zg2 kNums (z2f l a 6) dC0;have a2:=zg2 kUns (z2f l a 5) dC0;have a3:=zg2 kOps (z2f l (rn a).2 11) dC0;have b1:=h1 a;have b2:=h1 (a+1);have b3:=h1 ((rn a).2+1);have b4:=h2 (rn a).2;unfold y2g
 repeat' (first|(split;rename_i h;clear h)|(simp only[A4,szl,A1,A5];omega))
theorem yj1(l:List UInt8){b:ByteArray}(hv:b.size<=8){rn rt:KFm}{B:Nat}(h1:KOk rn B)(h2:KOk rt B)(k a:Nat):(y2h l b rn rt k a).1.size<=2*B+24/\(y2h l b rn rt k a).2<=a+(2*B+23):=by
 have a1:=zg2 kTrs (z2f l a 2) dC0;have a3:=zg2 kCmp (z2f l (rn a).2 6) dC0;have b1:=h1 a;have b3:=h1 ((rn a).2+1);have b4:=h2 a;have b5:=h2 (rt a).2;unfold y2h
 repeat' (first|(split;rename_i h;clear h)|(simp only[A4,szl,A1,A5];omega))
def kB:Nat->Nat
 |0=>24
 |d+1=>2*kB d+24
theorem z7e(l:List UInt8){v b:ByteArray}(hv:v.size<=8)(hb:b.size<=8):∀d,KOk (kNT l v b d).1 (kB d)/\KOk (kNT l v b d).2 (kB d)
 |0=>by
  have h0:KOk (λa=>(s_,a)) 0:=λa=>⟨Ag _,Ag _⟩
  exact⟨λa=>by have:=yj0 l hv h0 h0 (kK l 0 14 6 a) (a+1);simp only[kNT,kB];omega,λa=>by have:=yj1 l hb h0 h0 (kK l 0 10 3 a) (a+1);simp only[kNT,kB];omega⟩
 |d+1=>by
  obtain⟨h1,h2⟩:=z7e l hv hb d;exact⟨λa=>by have:=yj0 l hv h1 h2 (kK l (d+1) 14 6 a) (a+1);simp only[kNT,kB];omega,λa=>by have:=yj1 l hb h1 h2 (kK l (d+1) 10 3 a) (a+1);simp only[kNT,kB];omega⟩
section
attribute [local irreducible] z2f kAt
def MkN(l:List UInt8)(f:FuncId)(v b:ByteArray)(d:Int)(F:KFm)(B:Nat):Prop:=∀a,a+B<=1000000000->SC Tryz.prog f [.ptr 1 0,iStr v,iStr b,iInt d] (mkO l a) (λk=>k∈[]) (iStr (F a).1) (mkO l (F a).2)
theorem z4r(l:List UInt8)(hl:l.length<=9223372036854775807)(n:Nat)(hn:0<n)(a:Nat)(ha:a<=1000000000):SC Tryz.prog 41 [.ptr 1 0,.pv (.val (.int .i64 (n:Int)))] (mkO l a) (λk=>k∈[]) (iInt (z2f l a n:Nat)) (mkO l (a+1)):=sc_pick l a ha n hn hl
theorem z4c(d:Nat)(h:d<=1000)(hd:0<d):z3d .sub .i64 ((d:Nat):Int) 1=some (.int .i64 ((d-1:Nat):Int)):=z2x oM0 oM0
theorem y1m(l:List UInt8)(hl:l.length<=9223372036854775807){v b:ByteArray}(hv:v.size<=8)(hb:b.size<=8)(d:Nat)(hd:d<=1000){rn rt:KFm}{B:Nat}(hB:B<=100000000)(h1:KOk rn B)(h2:KOk rt B)
 (sn:0<d->MkN l 21 v b ((d-1:Nat):Int) rn B) (st:0<d->MkN l 22 v b ((d-1:Nat):Int) rt B) :
 MkN l 21 v b (d:Int) (λa=>y2g l v rn rt (kK l d 14 6 a) (a+1)) (2*B+24):=by
 intro a ha;show SC _ _ _ _ _ (iStr (y2g l v rn rt (kK l d 14 6 a) (a+1)).1) (mkO l (y2g l v rn rt (kK l d 14 6 a) (a+1)).2);generalize hR:y2g l v rn rt (kK l d 14 6 a) (a+1)=R;refine SC.vc tb { jn:=[4] } [] Tryz.func21 rfl rfl ?_;have hk:0<d∨kK l d 14 6 a<6:=by
  rcases Nat.eq_zero_or_pos d with h|h
  ·subst h;exact .inr (Gb _ dC0)
  ·exact .inl h
 refine⟨[],z4r l hl 14 dC0 a oM0,sR,Ge,rfl,Unit,λ_=>[(9,iInt (kK l d 14 6 a:Nat))],λ_=>[],λ_=>True,[],?_,?_⟩
 ·refine z00 (λc=>?_) λc=>?_
  ·have c:=Am c;exact⟨r64 (z:=((z2f l a 14%6:Nat):Int)) dC0 (by rw[Int.tmod_eq_emod_of_nonneg oM0];omega),(),Gd,⟨ivq (by unfold kK;rw[if_pos oM0]),Gd⟩,Gd,rfl,rfl,rfl,rfl⟩
  ·have c:=Ak c;exact⟨(),Gd,⟨ivq (by unfold kK;rw[if_neg oM0]),Gd⟩,Gd,rfl,rfl,rfl,rfl⟩
 ·rintro _ _;generalize kK l d 14 6 a=K at hk hR⊢;unfold y2g at hR;have n0:=h1 (a+1);have n1:=h1 (a+1+1);have n2:=h1 ((rn (a+1)).2+1);have n3:=h2 (rn (a+1)).2;have g1:=zg2 kUns (z2f l (a+1) 5) dC0;have g2:=zg2 kOps (z2f l (rn (a+1)).2 11) dC0;refine z00 (λc=>?_) λc0=>z00 (λc=>?_) λc1=>z00 (λc=>?_) λc2=>z00 (λc=>?_) λc3=>z00 (λc=>?_) λc4=>z00 (λc=>?_) λc5=>z00 (λc=>?_) λc6=>z00 (λc=>?_) λc7=>?_
  all_goals try replace c0:¬K<2:=by have:=Ak c0;omega
  all_goals try replace c1:¬K<5:=by have:=Ak c1;omega
  all_goals try replace c2:¬K=5:=by have:=Aa.1 c2;omega
  all_goals try replace c3:¬K=6:=by have:=Aa.1 c3;omega
  all_goals try replace c4:¬K=7:=by have:=Aa.1 c4;omega
  all_goals try replace c5:¬K<11:=by have:=Ak c5;omega
  all_goals try replace c6:¬K=11:=by have:=Aa.1 c6;omega
  all_goals try replace c7:¬K=12:=by have:=Aa.1 c7;omega
  ·rw[if_pos (by have:=Am c;omega)]at hR;subst hR;exact⟨[],z4r l hl 6 dC0 (a+1) oM0,sR,Ge,rfl,z02 (f:=eTx) (z6p (L:=kNums) (z5l l (a+1) (n:=6) dC0)),rfl,sI,rfl,Gd⟩
  ·rw[if_neg c0,if_pos (by have:=Am c;omega)]at hR;subst hR;exact⟨sI,rfl,Gd⟩
  ·rw[if_neg c0,if_neg c1,if_pos (by have:=eq_of_beq c;omega)]at hR;subst hR
   repeat' (first|exact⟨sI,rfl,Gd⟩|refine⟨z09 (by simp only[A4,szl,A1,A5];omega),?_⟩)
  ·rw[if_neg c0,if_neg c1,if_neg c2,if_pos (by have:=eq_of_beq c;omega)]at hR;subst hR;have hd0:0<d:=by have:=eq_of_beq c;omega
   have q1:=sn hd0 (a+1) oM0;refine⟨z4c d hd hd0,[],q1,sR,Ge,rfl,?_⟩
   repeat' (first|exact⟨sI,rfl,Gd⟩|refine⟨z09 (by simp only[A4,szl,A1,A5];omega),?_⟩)
  ·rw[if_neg c0,if_neg c1,if_neg c2,if_neg c3,if_pos (by have:=eq_of_beq c;omega)]at hR;subst hR;have hd0:0<d:=by have:=eq_of_beq c;omega
   have q1:=sn hd0 (a+1+1) oM0;refine⟨[],z4r l hl 5 dC0 (a+1) oM0,sR,Ge,rfl,z02 (f:=eTx) (z6p (L:=kUns) (z5l l (a+1) (n:=5) dC0)),rfl,z09 (by simp only[A4,szl,A1,A5];omega),z4c d hd hd0,[],q1,sR,Ge,rfl,?_⟩
   repeat' (first|exact⟨sI,rfl,Gd⟩|refine⟨z09 (by simp only[A4,szl,A1,A5];omega),?_⟩)
  ·rw[if_neg c0,if_neg c1,if_neg c2,if_neg c3,if_neg c4,if_pos (by have:=Am c;omega)]at hR;subst hR;have hd0:0<d:=by omega
   have q1:=sn hd0 (a+1) oM0;have q2:=sn hd0 ((rn (a+1)).2+1) oM0;refine⟨z4c d hd hd0,[],q1,sR,Ge,rfl,z09 (by simp only[A4,szl,A1,A5];omega),z09 (by simp only[A4,szl,A1,A5];omega),[],z4r l hl 11 dC0 (rn (a+1)).2 oM0,sR,Ge,rfl,z02 (f:=eTx) (z6p (L:=kOps) (z5l l (rn (a+1)).2 (n:=11) dC0)),rfl,z09 (by simp only[A4,szl,A1,A5];omega),z09 (by simp only[A4,szl,A1,A5];omega),z4c d hd hd0,[],q2,sR,Ge,rfl,?_⟩
   repeat' (first|exact⟨sI,rfl,Gd⟩|refine⟨z09 (by simp only[A4,szl,A1,A5];omega),?_⟩)
  ·rw[if_neg c0,if_neg c1,if_neg c2,if_neg c3,if_neg c4,if_neg c5,if_pos (by have:=eq_of_beq c;omega)]at hR;subst hR;exact⟨sI,rfl,Gd⟩
  ·rw[if_neg c0,if_neg c1,if_neg c2,if_neg c3,if_neg c4,if_neg c5,if_neg c6,if_pos (by have:=eq_of_beq c;omega)]at hR;subst hR
   repeat' (first|exact⟨sI,rfl,Gd⟩|refine⟨z09 (by simp only[A4,szl,A1,A5];omega),?_⟩)
  ·rw[if_neg c0,if_neg c1,if_neg c2,if_neg c3,if_neg c4,if_neg c5,if_neg c6,if_neg c7]at hR;subst hR;have hd0:0<d:=by omega
   have q1:=sn hd0 (a+1) oM0;have q2:=st hd0 (rn (a+1)).2 oM0;refine⟨z4c d hd hd0,[],q1,sR,Ge,rfl,z09 (by simp only[A4,szl,A1,A5];omega),z09 (by simp only[A4,szl,A1,A5];omega),z4c d hd hd0,[],q2,sR,Ge,rfl,?_⟩
   repeat' (first|exact⟨sI,rfl,Gd⟩|refine⟨z09 (by simp only[A4,szl,A1,A5];omega),?_⟩)
theorem zn1(l:List UInt8)(hl:l.length<=9223372036854775807){v b:ByteArray}(hb:b.size<=8)(d:Nat)(hd:d<=1000){rn rt:KFm}{B:Nat}(hB:B<=100000000)(h1:KOk rn B)(h2:KOk rt B)
 (sn:0<d->MkN l 21 v b ((d-1:Nat):Int) rn B) (st:0<d->MkN l 22 v b ((d-1:Nat):Int) rt B) :
 MkN l 22 v b (d:Int) (λa=>y2h l b rn rt (kK l d 10 3 a) (a+1)) (2*B+24):=by
 intro a ha;show SC _ _ _ _ _ (iStr (y2h l b rn rt (kK l d 10 3 a) (a+1)).1) (mkO l (y2h l b rn rt (kK l d 10 3 a) (a+1)).2);generalize hR:y2h l b rn rt (kK l d 10 3 a) (a+1)=R;refine SC.vc tb { jn:=[4] } [] Tryz.func22 rfl rfl ?_;have hk:0<d∨kK l d 10 3 a<3:=by
  rcases Nat.eq_zero_or_pos d with h|h
  ·subst h;exact .inr (Gb _ dC0)
  ·exact .inl h
 refine⟨[],z4r l hl 10 dC0 a oM0,sR,Ge,rfl,Unit,λ_=>[(9,iInt (kK l d 10 3 a:Nat))],λ_=>[],λ_=>True,[],?_,?_⟩
 ·refine z00 (λc=>?_) λc=>?_
  ·have c:=Am c;exact⟨r64 (z:=((z2f l a 10%3:Nat):Int)) dC0 (by rw[Int.tmod_eq_emod_of_nonneg oM0];omega),(),Gd,⟨ivq (by unfold kK;rw[if_pos oM0]),Gd⟩,Gd,rfl,rfl,rfl,rfl⟩
  ·have c:=Ak c;exact⟨(),Gd,⟨ivq (by unfold kK;rw[if_neg oM0]),Gd⟩,Gd,rfl,rfl,rfl,rfl⟩
 ·rintro _ _;generalize kK l d 10 3 a=K at hk hR⊢;unfold y2h at hR;have n0:=h1 (a+1);have n1:=h2 (a+1);have n2:=h1 ((rn (a+1)).2+1);have n3:=h2 (rt (a+1)).2;have g2:=zg2 kCmp (z2f l (rn (a+1)).2 6) dC0;refine z00 (λc=>?_) λc0=>z00 (λc=>?_) λc1=>z00 (λc=>?_) λc2=>z00 (λc=>?_) λc3=>z00 (λc=>?_) λc4=>z00 (λc=>?_) λc5=>?_
  all_goals try replace c0:¬K=0:=by have:=Aa.1 c0;omega
  all_goals try replace c1:¬K<3:=by have:=Ak c1;omega
  all_goals try replace c2:¬K=3:=by have:=Aa.1 c2;omega
  all_goals try replace c3:¬K<7:=by have:=Ak c3;omega
  all_goals try replace c4:¬K=7:=by have:=Aa.1 c4;omega
  all_goals try replace c5:¬K=8:=by have:=Aa.1 c5;omega
  ·rw[if_pos (by have:=eq_of_beq c;omega)]at hR;subst hR;exact⟨[],z4r l hl 2 dC0 (a+1) oM0,sR,Ge,rfl,z02 (f:=eTx) (z6p (L:=kTrs) (z5l l (a+1) (n:=2) dC0)),rfl,sI,rfl,Gd⟩
  ·rw[if_neg c0,if_pos (by have:=Am c;omega)]at hR;subst hR;exact⟨sI,rfl,Gd⟩
  ·rw[if_neg c0,if_neg c1,if_pos (by have:=eq_of_beq c;omega)]at hR;subst hR
   repeat' (first|exact⟨sI,rfl,Gd⟩|refine⟨z09 (by simp only[A4,szl,A1,A5];omega),?_⟩)
  ·rw[if_neg c0,if_neg c1,if_neg c2,if_pos (by have:=Am c;omega)]at hR;subst hR;have hd0:0<d:=by omega
   have q1:=sn hd0 (a+1) oM0;have q2:=sn hd0 ((rn (a+1)).2+1) oM0;refine⟨z4c d hd hd0,[],q1,sR,Ge,rfl,z09 (by simp only[A4,szl,A1,A5];omega),z09 (by simp only[A4,szl,A1,A5];omega),[],z4r l hl 6 dC0 (rn (a+1)).2 oM0,sR,Ge,rfl,z02 (f:=eTx) (z6p (L:=kCmp) (z5l l (rn (a+1)).2 (n:=6) dC0)),rfl,z09 (by simp only[A4,szl,A1,A5];omega),z09 (by simp only[A4,szl,A1,A5];omega),z4c d hd hd0,[],q2,sR,Ge,rfl,?_⟩
   repeat' (first|exact⟨sI,rfl,Gd⟩|refine⟨z09 (by simp only[A4,szl,A1,A5];omega),?_⟩)
  ·rw[if_neg c0,if_neg c1,if_neg c2,if_neg c3,if_pos (by have:=eq_of_beq c;omega)]at hR;subst hR;have hd0:0<d:=by omega
   have q1:=st hd0 (a+1) oM0;have q2:=st hd0 (rt (a+1)).2 oM0;refine⟨z4c d hd hd0,[],q1,sR,Ge,rfl,z09 (by simp only[A4,szl,A1,A5];omega),z09 (by simp only[A4,szl,A1,A5];omega),z4c d hd hd0,[],q2,sR,Ge,rfl,?_⟩
   repeat' (first|exact⟨sI,rfl,Gd⟩|refine⟨z09 (by simp only[A4,szl,A1,A5];omega),?_⟩)
  ·rw[if_neg c0,if_neg c1,if_neg c2,if_neg c3,if_neg c4,if_pos (by have:=eq_of_beq c;omega)]at hR;subst hR;have hd0:0<d:=by omega
   have q1:=st hd0 (a+1) oM0;have q2:=st hd0 (rt (a+1)).2 oM0;refine⟨z4c d hd hd0,[],q1,sR,Ge,rfl,z09 (by simp only[A4,szl,A1,A5];omega),z09 (by simp only[A4,szl,A1,A5];omega),z4c d hd hd0,[],q2,sR,Ge,rfl,?_⟩
   repeat' (first|exact⟨sI,rfl,Gd⟩|refine⟨z09 (by simp only[A4,szl,A1,A5];omega),?_⟩)
  ·rw[if_neg c0,if_neg c1,if_neg c2,if_neg c3,if_neg c4,if_neg c5]at hR;subst hR;have hd0:0<d:=by omega
   have q1:=sn hd0 (a+1) oM0;refine⟨z4c d hd hd0,[],q1,sR,Ge,rfl,?_⟩
   repeat' (first|exact⟨sI,rfl,Gd⟩|refine⟨z09 (by simp only[A4,szl,A1,A5];omega),?_⟩)
theorem y88(l:List UInt8)(hl:l.length<=9223372036854775807){v b:ByteArray}(hv:v.size<=8)(hb:b.size<=8):∀d,d<=3->kB d<=1000/\MkN l 21 v b (d:Int) (kNT l v b d).1 (kB d)/\MkN l 22 v b (d:Int) (kNT l v b d).2 (kB d)
 |0,_=>by
  have h0:KOk (λa=>(s_,a)) 0:=λa=>⟨Ag _,Ag _⟩
  exact⟨by decide,y1m l hl hv hb 0 oM0 oM0 h0 h0 (λh=>absurd h oM0) (λh=>absurd h oM0),zn1 l hl hb 0 oM0 oM0 h0 h0 (λh=>absurd h oM0) (λh=>absurd h oM0)⟩
 |d+1,hd=>by
  obtain⟨h0,h1,h2⟩:=y88 l hl hv hb d oM0;obtain⟨k1,k2⟩:=z7e l hv hb d
  exact⟨by match d,hd with
   |0,_=>decide
   |1,_=>decide
   |2,_=>decide,y1m l hl hv hb (d+1) oM0 oM0 k1 k2 (λ_=>h1) (λ_=>h2),zn1 l hl hb (d+1) oM0 oM0 k1 k2 (λ_=>h1) (λ_=>h2)⟩
end
end
section
def kZ:ByteArray:=⟨#[122]⟩
def kW:ByteArray:=⟨#[119]⟩
def kLv(v b:ByteArray):List ByteArray:=[⟨#[98,114,101,97,107,59,10]⟩,⟨#[99,111,110,116,105,110,117,101,59,10]⟩,⟨#[105,102,32,40]⟩++b++⟨#[41,32,123,10,98,114,101,97,107,59,10,125,10]⟩,⟨#[105,102,32,40]⟩++v++⟨#[32,62,32,51,41,32,123,10,99,111,110,116,105,110,117,101,59,10,125,10]⟩]
def kEn:List ByteArray:=[⟨#[52]⟩,⟨#[57]⟩,⟨#[51,48]⟩]
def kRe(b:ByteArray):List ByteArray:=[⟨#[120]⟩,⟨#[120,32,43,32,49]⟩,⟨#[48]⟩,⟨#[102,40,120,44,32]⟩++b++⟨#[41]⟩]
def kBF:Type:=ByteArray->ByteArray->Bool->KFm
def kStB(l:List UInt8)(v b:ByteArray)(bl:kBF)(D lp:Bool)(k a:Nat):ByteArray×Nat :=
 if k<3 then(v++⟨#[32,61,32]⟩++((kNT l v b 2).1 a).1++⟨#[59,10]⟩,((kNT l v b 2).1 a).2)
 else if k=3 then(b++⟨#[32,61,32]⟩++((kNT l v b 2).2 a).1++⟨#[59,10]⟩,((kNT l v b 2).2 a).2)
 else if k=4 then(⟨#[112,114,105,110,116,40]⟩++((kNT l v b 2).1 a).1++⟨#[41,59,10]⟩,((kNT l v b 2).1 a).2)
 else if k=5 then(⟨#[97,91]⟩++((kNT l v b 1).1 a).1++⟨#[32,38,32,51,93,32,61,32]⟩++((kNT l v b 2).1 ((kNT l v b 1).1 a).2).1++⟨#[59,10]⟩,((kNT l v b 2).1 ((kNT l v b 1).1 a).2).2)
 else if decide (k=6)&&lp then(kAt (kLv v b) (z2f l a 4),a+1)
 else if decide (k=7)&&D then
  (⟨#[105,102,32,40]⟩++b++⟨#[41,32,123,10,105,110,116,32,122,32,61,32]⟩++((kNT l v b 1).1 a).1++⟨#[59,10,98,111,111,108,32,119,32,61,32]⟩++((kNT l kZ b 1).2 ((kNT l v b 1).1 a).2).1++⟨#[59,10]⟩++(bl kZ kW lp ((kNT l kZ b 1).2 ((kNT l v b 1).1 a).2).2).1++v++⟨#[32,61,32,122,59,10,125,10]⟩,(bl kZ kW lp ((kNT l kZ b 1).2 ((kNT l v b 1).1 a).2).2).2)
 else if decide (k<10)&&D then
  if z2f l (bl v b lp ((kNT l v b 2).2 a).2).2 2=1 then(⟨#[105,102,32,40]⟩++((kNT l v b 2).2 a).1++⟨#[41,32,123,10]⟩++(bl v b lp ((kNT l v b 2).2 a).2).1++⟨#[125,32,101,108,115,101,32,123,10]⟩++(bl v b lp ((bl v b lp ((kNT l v b 2).2 a).2).2+1)).1++⟨#[125,10]⟩,(bl v b lp ((bl v b lp ((kNT l v b 2).2 a).2).2+1)).2)
  else(⟨#[105,102,32,40]⟩++((kNT l v b 2).2 a).1++⟨#[41,32,123,10]⟩++(bl v b lp ((kNT l v b 2).2 a).2).1++⟨#[125,10]⟩,(bl v b lp ((kNT l v b 2).2 a).2).2+1)
 else if decide (k<12)&&D then
  (⟨#[119,104,105,108,101,32,40]⟩++((kNT l v b 1).2 a).1++⟨#[41,32,123,10]⟩++(bl v b true ((kNT l v b 1).2 a).2).1++v++⟨#[32,61,32]⟩++v++⟨#[32,43,32,49,59,10,105,102,32,40]⟩++v++⟨#[32,62,32]⟩++kAt kEn (z2f l (bl v b true ((kNT l v b 1).2 a).2).2 3)++⟨#[41,32,123,10,98,114,101,97,107,59,10,125,10,125,10]⟩,(bl v b true ((kNT l v b 1).2 a).2).2+1)
 else if decide (k=12) && !(v.toList==kZ.toList)then(⟨#[105,102,32,40]⟩++b++⟨#[41,32,123,10,114,101,116,117,114,110,32]⟩++kAt (kRe b) (z2f l a 4)++⟨#[59,10,125,10]⟩,a+1)
 else(v++⟨#[32,61,32]⟩++v++⟨#[32,45,32,49,59,10]⟩,a)
def y77(st:KFm):Nat->ByteArray->Nat->ByteArray×Nat
 |0,s,a=>(s,a)
 |i+1,s,a=>y77 st i (s++(st a).1) (st a).2
def kBlB(l:List UInt8)(st:KFm):KFm:=λa=>y77 st (z2f l a 5) s_ (a+1)
def kStm(l:List UInt8):Nat->kBF
 |0,v,b,lp=>λa=>kStB l v b (λ_ _ _ a=>(s_,a)) false lp (z2f l a 13) (a+1)
 |d+1,v,b,lp=>λa=>kStB l v b (λv b lp=>kBlB l (kStm l d v b lp)) true lp (z2f l a 13) (a+1)
def kBlk(l:List UInt8)(d:Nat)(v b:ByteArray)(lp:Bool):KFm:=kBlB l (kStm l d v b lp)
def kBf(bl:kBF)(B:Nat):Prop:=∀v b lp,v.size<=8->b.size<=8->KOk (bl v b lp) B
section
attribute [local irreducible] z2f kAt kNT
def BdM(B C:Nat)(r:ByteArray×Nat):Prop:=r.1.size<=B/\r.2<=C
theorem BdM.ite{B C:Nat}{c:Prop}[Decidable c]{x y:ByteArray×Nat}(h1:BdM B C x)(h2:BdM B C y):BdM B C (if c then x else y):=by split<;>assumption
theorem j0j(l:List UInt8){v b:ByteArray}(hv:v.size<=8)(hb:b.size<=8){bl:kBF}{B:Nat}(hB:kBf bl B)(D lp:Bool)(k a:Nat):(kStB l v b bl D lp k a).1.size<=2*B+600/\(kStB l v b bl D lp k a).2<=a+(2*B+599):=by
 have hz:kZ.size<=8:=by decide
 have hw:kW.size<=8:=by decide
 have e1:kB 1=72:=rfl;have e2:kB 2=168:=rfl;have a1:(kAt (kLv v b) (z2f l a 4)).size<=100:=by
  rcases Du (z2f l a 4) (kLv v b).length with h1|h1
  ·have:=Ae (z6p h1);have key:∀x∈kLv v b,x.size<=100:=λx hx=>by
    unfold kLv at hx;simp only[Aj,Bs,Ez]at hx;rcases hx with h|h|h|h<;>rw[h]<;>(first|decide|(simp only[A4,szl,A1,A5];omega))
   exact key _ this
  ·unfold kAt;rw[Ay,List.getElem?_eq_none h1];exact Ac _
 have a2:(kAt (kRe b) (z2f l a 4)).size<=100:=by
  rcases Du (z2f l a 4) (kRe b).length with h1|h1
  ·have:=Ae (z6p h1);have key:∀x∈kRe b,x.size<=100:=λx hx=>by
    unfold kRe at hx;simp only[Aj,Bs,Ez]at hx;rcases hx with h|h|h|h<;>rw[h]<;>(first|decide|(simp only[A4,szl,A1,A5];omega))
   exact key _ this
  ·unfold kAt;rw[Ay,List.getElem?_eq_none h1];exact Ac _
 have a3:=λi=>zg2 kEn i dC0;have n1:=λa=>(z7e l hv hb 1).1 a;have n2:=λa=>(z7e l hv hb 2).1 a;have t1:=λa=>(z7e l hv hb 1).2 a;have t2:=λa=>(z7e l hv hb 2).2 a;have z1:=λa=>(z7e l hz hb 1).2 a;have b1:=λlp a=>hB v b lp hv hb a;have b2:=λlp a=>hB kZ kW lp hz hw a;rw[e1]at n1 t1 z1;rw[e2]at n2 t2;unfold kStB;have n1a:=n1 a;have n2a:=n2 a;have t1a:=t1 a;have t2a:=t2 a;have x1:=n2 ((kNT l v b 1).1 a).2;have x2:=z1 ((kNT l v b 1).1 a).2;have x3:=b2 lp ((kNT l kZ b 1).2 ((kNT l v b 1).1 a).2).2;have x4:=b1 lp ((kNT l v b 2).2 a).2;have x5:=b1 lp ((bl v b lp ((kNT l v b 2).2 a).2).2+1);have x6:=b1 true ((kNT l v b 1).2 a).2;have x7:=a3 (z2f l (bl v b true ((kNT l v b 1).2 a).2).2 3);clear n1 n2 t1 t2 z1 b1 b2 a3;show BdM (2*B+600) (a+(2*B+599)) _
 repeat' (first|refine BdM.ite ?_ ?_|(show _/\_;simp only[A4,szl,A1,A5];omega))
theorem yi9{st:KFm}{B:Nat}(h:KOk st B):∀i s a,(y77 st i s a).1.size<=s.size+i*B/\(y77 st i s a).2<=a+i*B
 |0,s,a=>by simp[y77]
 |i+1,s,a=>by
  have h1:=yi9 h i (s++(st a).1) (st a).2;have h2:=h a;rw[A4]at h1;rw[Nat.succ_mul];simp only[y77];omega
def kS:Nat->Nat
 |0=>600
 |d+1=>8*kS d+602
theorem y9y(l:List UInt8){st:KFm}{B:Nat}(h:KOk st B):KOk (kBlB l st) (4*B+1):=λa=>by
 have h1:=yi9 h (z2f l a 5) s_ (a+1);have h2:z2f l a 5<=4:=C1 (z5l l a dC0);have h3:=Bw B h2;have h4:s_.size=0:=rfl;unfold kBlB;omega
theorem y0d(l:List UInt8):∀d,kBf (kStm l d) (kS d)
 |0=>λv b lp hv hb a=>by
  have:=j0j l hv hb (bl:=λ_ _ _ a=>(s_,a)) (B:=0) (λ_ _ _ _ _ a=>⟨Ag _,Ag _⟩) false lp (z2f l a 13) (a+1)
  simp only[kStm,kS];omega
 |d+1=>λv b lp hv hb a=>by
  have h1:kBf (λv b lp=>kBlB l (kStm l d v b lp)) (4*kS d+1):=λv b lp hv hb=>y9y l (y0d l d v b lp hv hb);have:=j0j l hv hb h1 true lp (z2f l a 13) (a+1);simp only[kStm,kS];omega
def MkS(l:List UInt8)(f:FuncId)(v b:ByteArray)(d:Int)(lp:Bool)(F:KFm)(B:Nat):Prop:=∀a,a+B<=1000000000->SC Tryz.prog f [.ptr 1 0,iStr v,iStr b,iInt d,iBool lp] (mkO l a) (λk=>k∈[]) (iStr (F a).1) (mkO l (F a).2)
theorem y3x(l:List UInt8)(hl:l.length<=9223372036854775807){v b:ByteArray}(d:Int)(lp:Bool){F:KFm}{B:Nat}(hB:B<=100000000)(h0:KOk F B)(h:MkS l 42 v b d lp F B) :
 MkS l 20 v b d lp (kBlB l F) (4*B+1):=by
 intro a ha;refine SC.vc tb {} [] Tryz.func20 rfl rfl ?_;have hp:z2f l a 5<=4:=C1 (z5l l a dC0);refine⟨[],z4r l hl 5 dC0 a oM0,sR,Ge,rfl,?_⟩;unfold kBlB;generalize hR:y77 F (z2f l a 5) s_ (a+1)=R;refine⟨Nat×ByteArray×Nat,λx=>[(12,iInt ((x.1:Nat):Int)),(11,iStr x.2.1)],λx=>mkO l x.2.2,λx=>x.1,λx=>R=y77 F x.1 x.2.1 x.2.2/\x.1<=4/\x.2.1.size+x.1*B<=4*B/\x.2.2+x.1*B<=a+1+4*B,[],(z2f l a 5,s_,a+1),
  ⟨hR.symm,hp,by have:=Bw B hp;have h4:s_.size=0:=rfl;dsimp only;omega,by have:=Bw B hp;dsimp only;omega⟩,Gf,Ge,?_⟩
 rintro⟨i,s,p⟩ ⟨i1,i2,i3,i4⟩;dsimp only at i1 i2 i3 i4;refine z00 (λc=>?_) λc=>?_
 ·have c:=Am c;obtain⟨j,rfl⟩:∃j,i=j+1:=⟨i-1,by dsimp only at c;omega⟩;rw[Nat.succ_mul]at i3 i4;have h1:=h0 p;exact⟨[],h p oM0,sR,Ge,rfl,z09 (by dsimp only;omega),z2x (z:=((j:Nat):Int)) (by dsimp only;omega) oM0,(j,s++(F p).1,(F p).2),Ab _,
   ⟨i1,by dsimp only;omega,by rw[A4];dsimp only;omega,by dsimp only;omega⟩,Gf,Ge,rfl,rfl,rfl,rfl⟩
 ·have c:=Ak c;obtain rfl:i=0:=by dsimp only at c;omega
  subst i1;exact⟨sI,rfl,Gd⟩
theorem y89(l:List UInt8)(hl:l.length<=9223372036854775807){v b:ByteArray}(hv:v.size<=8)(hb:b.size<=8)(d:Nat)(hd:d<=1000)(D:Bool)(hD:decide (((d:Nat):Int) > 0)=D)(lp:Bool){bl:kBF}{B:Nat}(hB:B<=100000000)(h0:kBf bl B)
 (sb:0<d->∀v b lp,v.size<=8->b.size<=8->MkS l 20 v b ((d-1:Nat):Int) lp (bl v b lp) B) :
 MkS l 42 v b (d:Int) lp (λa=>kStB l v b bl D lp (z2f l a 13) (a+1)) (2*B+600):=by
 intro a ha;show SC _ _ _ _ _ (iStr (kStB l v b bl D lp (z2f l a 13) (a+1)).1) (mkO l (kStB l v b bl D lp (z2f l a 13) (a+1)).2);generalize hR:kStB l v b bl D lp (z2f l a 13) (a+1)=R;refine SC.vc tb { jn:=[1000001] } [] Tryz.func42 rfl rfl ?_;refine⟨[],z4r l hl 13 dC0 a oM0,sR,Ge,rfl,?_⟩;generalize z2f l a 13=K at hR⊢;unfold kStB at hR;have e6:((K:Int)==6)=decide (K=6):=by rw[Ck];simp;omega
 have e7:((K:Int)==7)=decide (K=7):=by rw[Ck];simp;omega
 have e12:((K:Int)==12)=decide (K=12):=by rw[Ck];simp;omega
 have l10:decide ((K:Int)<10)=decide (K<10):=by rw[Ck];simp;omega
 have l12:decide ((K:Int)<12)=decide (K<12):=by rw[Ck];simp;omega
 have hz:kZ.size<=8:=by decide
 have hw:kW.size<=8:=by decide
 have z8:kZ.size=1:=rfl;have eB1:kB 1=72:=rfl;have eB2:kB 2=168:=rfl;obtain⟨_,N1,T1⟩:=y88 l hl hv hb 1 dC0;obtain⟨_,N2,T2⟩:=y88 l hl hv hb 2 dC0;obtain⟨_,_,Z1⟩:=y88 l hl hz hb 1 dC0;have n1:=(z7e l hv hb 1).1 (a+1);have n2:=(z7e l hv hb 2).1 (a+1);have t1:=(z7e l hv hb 1).2 (a+1);have t2:=(z7e l hv hb 2).2 (a+1);rw[eB1]at N1 T1 Z1 n1 t1;rw[eB2]at N2 T2 n2 t2;have dec:D=true->0<d:=λh=>by rw[h]at hD;have:=Am hD;omega
 refine⟨Unit,λ_=>[(17,iBool (decide ((K:Int)<3)))],λ_=>[],λ_=>True,[],⟨(),Gd,Ge,Gd,rfl,rfl,rfl,rfl⟩,λ_ _=>z00 (λc=>?_) λc=>?_⟩
 ·rw[if_pos (by have:=Am c;omega)]at hR;subst hR;refine⟨z09 (by simp only[A4,szl,A1,A5];omega),[],N2 (a+1) oM0,sR,Ge,rfl,?_⟩
  repeat' (first|exact⟨sI,rfl,Gd⟩|refine⟨z09 (by simp only[A4,szl,A1,A5];omega),?_⟩)
 have c0:¬(K<3):=by have:=Ak c;omega
 clear c;refine⟨Unit,λ_=>[(28,iBool ((K:Int)==3))],λ_=>[],λ_=>True,[],⟨(),Gd,Ge,Gd,rfl,rfl,rfl,rfl⟩,λ_ _=>z00 (λc=>?_) λc=>?_⟩
 ·rw[if_neg c0,if_pos (by have:=eq_of_beq c;omega)]at hR;subst hR;refine⟨z09 (by simp only[A4,szl,A1,A5];omega),[],T2 (a+1) oM0,sR,Ge,rfl,?_⟩
  repeat' (first|exact⟨sI,rfl,Gd⟩|refine⟨z09 (by simp only[A4,szl,A1,A5];omega),?_⟩)
 have c1:¬(K=3):=by have:=Aa.1 c;omega
 clear c;refine⟨Unit,λ_=>[(39,iBool ((K:Int)==4))],λ_=>[],λ_=>True,[],⟨(),Gd,Ge,Gd,rfl,rfl,rfl,rfl⟩,λ_ _=>z00 (λc=>?_) λc=>?_⟩
 ·rw[if_neg c0,if_neg c1,if_pos (by have:=eq_of_beq c;omega)]at hR;subst hR;refine⟨[],N2 (a+1) oM0,sR,Ge,rfl,?_⟩
  repeat' (first|exact⟨sI,rfl,Gd⟩|refine⟨z09 (by simp only[A4,szl,A1,A5];omega),?_⟩)
 have c2:¬(K=4):=by have:=Aa.1 c;omega
 clear c;refine⟨Unit,λ_=>[(48,iBool ((K:Int)==5))],λ_=>[],λ_=>True,[],⟨(),Gd,Ge,Gd,rfl,rfl,rfl,rfl⟩,λ_ _=>z00 (λc=>?_) λc=>?_⟩
 ·rw[if_neg c0,if_neg c1,if_neg c2,if_pos (by have:=eq_of_beq c;omega)]at hR;subst hR;have m2:=(z7e l hv hb 2).1 ((kNT l v b 1).1 (a+1)).2;rw[eB2]at m2;refine⟨[],N1 (a+1) oM0,sR,Ge,rfl,z09 (by simp only[A4,szl,A1,A5];omega),z09 (by simp only[A4,szl,A1,A5];omega),[],N2 ((kNT l v b 1).1 (a+1)).2 oM0,sR,Ge,rfl,?_⟩
  repeat' (first|exact⟨sI,rfl,Gd⟩|refine⟨z09 (by simp only[A4,szl,A1,A5];omega),?_⟩)
 have c3:¬(K=5):=by have:=Aa.1 c;omega
 clear c;refine⟨Unit,λ_=>[(64,iBool (decide (K=6)&&lp))],λ_=>[],λ_=>True,[],z00 (λc=>⟨(),Gd,⟨by rw[<- e6,c];rfl,Gd⟩,Gd,rfl,rfl,rfl,rfl⟩) (λc=>⟨(),Gd,⟨by rw[<- e6,c];rfl,Gd⟩,Gd,rfl,rfl,rfl,rfl⟩),λ_ _=>z00 (λc=>?_) λc=>?_⟩
 ·rw[if_neg c0,if_neg c1,if_neg c2,if_neg c3,if_pos c]at hR;subst hR;exact⟨z09 (by simp only[A4,szl,A1,A5];omega),z09 (by simp only[A4,szl,A1,A5];omega),z09 (by simp only[A4,szl,A1,A5];omega),z09 (by simp only[A4,szl,A1,A5];omega),[],z4r l hl 4 dC0 (a+1) oM0,sR,Ge,rfl,z02 (f:=eTx) (z6p (L:=kLv v b) (z5l l (a+1) (n:=4) dC0)),rfl,sI,rfl,Gd⟩
 have c4:¬((decide (K=6)&&lp)=true):=by rw[c];decide
 clear c;refine⟨Unit,λ_=>[(81,iBool (decide (K=7)&&D))],λ_=>[],λ_=>True,[],z00 (λc=>⟨(),Gd,⟨by rw[<- e7,c,hD];rfl,Gd⟩,Gd,rfl,rfl,rfl,rfl⟩) (λc=>⟨(),Gd,⟨by rw[<- e7,c];rfl,Gd⟩,Gd,rfl,rfl,rfl,rfl⟩),λ_ _=>z00 (λc=>?_) λc=>?_⟩
 ·rw[if_neg c0,if_neg c1,if_neg c2,if_neg c3,if_neg c4,if_pos c]at hR;subst hR;have hd0:=dec (by cases D with|true=>rfl|false=>rw[Cy]at c;cases c);have m1:=(z7e l hz hb 1).2 ((kNT l v b 1).1 (a+1)).2;rw[eB1]at m1;have m2:=h0 kZ kW lp hz hw ((kNT l kZ b 1).2 ((kNT l v b 1).1 (a+1)).2).2;refine⟨z09 (by simp only[A4,szl,A1,A5];omega),z09 (by simp only[A4,szl,A1,A5];omega),[],N1 (a+1) oM0,sR,Ge,rfl,z09 (by simp only[A4,szl,A1,A5];omega),z09 (by simp only[A4,szl,A1,A5];omega),[],Z1 ((kNT l v b 1).1 (a+1)).2 oM0,sR,Ge,rfl,z09 (by simp only[A4,szl,A1,A5];omega),z09 (by simp only[A4,szl,A1,A5];omega),z4c d hd hd0,[],sb hd0 kZ kW lp hz hw ((kNT l kZ b 1).2 ((kNT l v b 1).1 (a+1)).2).2 oM0,sR,Ge,rfl,?_⟩
  repeat' (first|exact⟨sI,rfl,Gd⟩|refine⟨z09 (by simp only[A4,szl,A1,A5];omega),?_⟩)
 have c5:¬((decide (K=7)&&D)=true):=by rw[c];decide
 clear c;refine⟨Unit,λ_=>[(111,iBool (decide (K<10)&&D))],λ_=>[],λ_=>True,[],z00 (λc=>⟨(),Gd,⟨by rw[<- l10,c,hD];rfl,Gd⟩,Gd,rfl,rfl,rfl,rfl⟩) (λc=>⟨(),Gd,⟨by rw[<- l10,c];rfl,Gd⟩,Gd,rfl,rfl,rfl,rfl⟩),λ_ _=>z00 (λc=>?_) λc=>?_⟩
 ·rw[if_neg c0,if_neg c1,if_neg c2,if_neg c3,if_neg c4,if_neg c5,if_pos c]at hR;subst hR;have hd0:=dec (by cases D with|true=>rfl|false=>rw[Cy]at c;cases c);have m1:=h0 v b lp hv hb ((kNT l v b 2).2 (a+1)).2;have m2:=h0 v b lp hv hb ((bl v b lp ((kNT l v b 2).2 (a+1)).2).2+1);refine⟨[],T2 (a+1) oM0,sR,Ge,rfl,z09 (by simp only[A4,szl,A1,A5];omega),z09 (by simp only[A4,szl,A1,A5];omega),z4c d hd hd0,[],sb hd0 v b lp hv hb ((kNT l v b 2).2 (a+1)).2 oM0,sR,Ge,rfl,z09 (by simp only[A4,szl,A1,A5];omega),?_⟩;refine⟨Unit,λ_=>[(135,iBool ((z2f l (bl v b lp ((kNT l v b 2).2 (a+1)).2).2 2:Int)==1))],λ_=>mkO l ((bl v b lp ((kNT l v b 2).2 (a+1)).2).2+1),λ_=>True,[1],⟨[],z4r l hl 2 dC0 _ oM0,sR,Ge,rfl,(),Gd,Ge,Ge,rfl,rfl,rfl,rfl⟩,λ_ _=>z00 (λk=>?_) λk=>?_⟩
  ·rw[if_pos (by have:=eq_of_beq k;omega)];refine⟨z09 (by simp only[A4,szl,A1,A5];omega),z4c d hd hd0,[],sb hd0 v b lp hv hb _ oM0,sR,Ge,rfl,?_⟩
   repeat' (first|exact⟨sI,rfl,Gd⟩|refine⟨z09 (by simp only[A4,szl,A1,A5];omega),?_⟩)
  ·rw[if_neg (by have:=Aa.1 k;omega)]
   repeat' (first|exact⟨sI,rfl,Gd⟩|refine⟨z09 (by simp only[A4,szl,A1,A5];omega),?_⟩)
 have c6:¬((decide (K<10)&&D)=true):=by rw[c];decide
 clear c;refine⟨Unit,λ_=>[(148,iBool (decide (K<12)&&D))],λ_=>[],λ_=>True,[],z00 (λc=>⟨(),Gd,⟨by rw[<- l12,c,hD];rfl,Gd⟩,Gd,rfl,rfl,rfl,rfl⟩) (λc=>⟨(),Gd,⟨by rw[<- l12,c];rfl,Gd⟩,Gd,rfl,rfl,rfl,rfl⟩),λ_ _=>z00 (λc=>?_) λc=>?_⟩
 ·rw[if_neg c0,if_neg c1,if_neg c2,if_neg c3,if_neg c4,if_neg c5,if_neg c6,if_pos c]at hR;subst hR;have hd0:=dec (by cases D with|true=>rfl|false=>rw[Cy]at c;cases c);have m1:=h0 v b true hv hb ((kNT l v b 1).2 (a+1)).2;have m2:=zg2 kEn (z2f l (bl v b true ((kNT l v b 1).2 (a+1)).2).2 3) dC0;refine⟨[],T1 (a+1) oM0,sR,Ge,rfl,z09 (by simp only[A4,szl,A1,A5];omega),z09 (by simp only[A4,szl,A1,A5];omega),z4c d hd hd0,[],sb hd0 v b true hv hb ((kNT l v b 1).2 (a+1)).2 oM0,sR,Ge,rfl,z09 (by simp only[A4,szl,A1,A5];omega),z09 (by simp only[A4,szl,A1,A5];omega),z09 (by simp only[A4,szl,A1,A5];omega),z09 (by simp only[A4,szl,A1,A5];omega),z09 (by simp only[A4,szl,A1,A5];omega),z09 (by simp only[A4,szl,A1,A5];omega),z09 (by simp only[A4,szl,A1,A5];omega),[],z4r l hl 3 dC0 (bl v b true ((kNT l v b 1).2 (a+1)).2).2 oM0,sR,Ge,rfl,z02 (f:=eTx) (z6p (L:=kEn) (z5l l (bl v b true ((kNT l v b 1).2 (a+1)).2).2 (n:=3) dC0)),rfl,?_⟩
  repeat' (first|exact⟨sI,rfl,Gd⟩|refine⟨z09 (by simp only[A4,szl,A1,A5];omega),?_⟩)
 have c7:¬((decide (K<12)&&D)=true):=by rw[c];decide
 clear c;refine⟨Unit,λ_=>[(186,iBool (decide (K=12) && !(v.toList==kZ.toList)))],λ_=>[],λ_=>True,[],z00 (λc=>⟨(),Gd,⟨by rw[<- e12,c];rfl,Gd⟩,Gd,rfl,rfl,rfl,rfl⟩) (λc=>⟨(),Gd,⟨by rw[<- e12,c];rfl,Gd⟩,Gd,rfl,rfl,rfl,rfl⟩),λ_ _=>z00 (λc=>?_) λc=>?_⟩
 ·rw[if_neg c0,if_neg c1,if_neg c2,if_neg c3,if_neg c4,if_neg c5,if_neg c6,if_neg c7,if_pos c]at hR;subst hR;have m2:(kAt (kRe b) (z2f l (a+1) 4)).size<=100:=by
   have:=Ae (z6p (L:=kRe b) (z5l l (a+1) (n:=4) dC0));have key:∀x∈kRe b,x.size<=100:=λx hx=>by
    unfold kRe at hx;simp only[Aj,Bs,Ez]at hx;rcases hx with h|h|h|h<;>rw[h]<;>(first|decide|(simp only[A4,szl,A1,A5];omega))
   exact key _ this
  refine⟨z09 (by simp only[A4,szl,A1,A5];omega),z09 (by simp only[A4,szl,A1,A5];omega),z09 (by simp only[A4,szl,A1,A5];omega),z09 (by simp only[A4,szl,A1,A5];omega),[],z4r l hl 4 dC0 (a+1) oM0,sR,Ge,rfl,z02 (f:=eTx) (z6p (L:=kRe b) (z5l l (a+1) (n:=4) dC0)),rfl,?_⟩
  repeat' (first|exact⟨sI,rfl,Gd⟩|refine⟨z09 (by simp only[A4,szl,A1,A5];omega),?_⟩)
 have c8:¬((decide (K=12) && !(v.toList==kZ.toList))=true):=by rw[c];decide
 clear c;rw[if_neg c0,if_neg c1,if_neg c2,if_neg c3,if_neg c4,if_neg c5,if_neg c6,if_neg c7,if_neg c8]at hR;subst hR
 repeat' (first|exact⟨sI,rfl,Gd⟩|refine⟨z09 (by simp only[A4,szl,A1,A5];omega),?_⟩)
end
end
section
theorem j0i{d:Nat}(h:d<=3):kS d<=400000:=by
 match d,h with
 |0,_=>decide
 |1,_=>decide
 |2,_=>decide
 |3,_=>decide
theorem y5y(l:List UInt8)(hl:l.length<=9223372036854775807):∀d:Nat,d<=3->∀v b lp,v.size<=8->b.size<=8->MkS l 42 v b (d:Int) lp (kStm l d v b lp) (kS d)/\MkS l 20 v b (d:Int) lp (kBlk l d v b lp) (4*kS d+1)
 |0,_,v,b,lp,hv,hb=>by
  have h0:kBf (λ_ _ _ a=>(s_,a)) 0:=λ_ _ _ _ _ a=>⟨Ag _,Ag _⟩;have h1:=y89 l hl hv hb 0 dC0 false dC0 lp dC0 h0 (λh=>absurd h dC0)
  exact⟨h1,y3x l hl (((0:Nat):Int)) lp dC0 (y0d l 0 v b lp hv hb) h1⟩
 |d+1,hd,v,b,lp,hv,hb=>by
  have ih:=y5y l hl d oM0;have hk:=j0i (d:=d) oM0;have hk2:=j0i hd;have h0:kBf (λv b lp=>kBlk l d v b lp) (4*kS d+1):=λv b lp hv hb=>y9y l (y0d l d v b lp hv hb);have h1:=y89 l hl hv hb (d+1) oM0 true sI0 lp oM0 h0 (λ_ v b lp hv hb=>(ih v b lp hv hb).2);rw[show 2*(4*kS d+1)+600=kS (d+1) by simp only[kS];omega]at h1;exact⟨h1,y3x l hl (((d+1:Nat):Int)) lp oM0 (y0d l (d+1) v b lp hv hb) h1⟩
def kX:ByteArray:=⟨#[120]⟩
def kB_:ByteArray:=⟨#[98]⟩
def y4r:ByteArray:=⟨#[105,110,116,32,97,91,52,93,59,10,105,110,116,32,99,91,51,93,59,10]⟩
def y4s(l:List UInt8)(s:ByteArray)(a:Nat):ByteArray×Nat :=
 (s++⟨#[105,110,116,32,102,40,105,110,116,32,120,44,32,98,111,111,108,32,98,41,32,123,10]⟩++(kBlk l 2 kX kB_ false a).1++⟨#[114,101,116,117,114,110,32]⟩++((kNT l kX kB_ 2).1 (kBlk l 2 kX kB_ false a).2).1++⟨#[59,10,125,10]⟩,((kNT l kX kB_ 2).1 (kBlk l 2 kX kB_ false a).2).2)
def j07(l:List UInt8)(s:ByteArray)(a:Nat):ByteArray×Nat :=
 (s++⟨#[98,111,111,108,32,103,40,105,110,116,32,120,41,32,123,10,98,111,111,108,32,98,32,61,32,120,32,62,32,50,59,10]⟩++(kBlk l 1 kX kB_ false a).1++⟨#[114,101,116,117,114,110,32]⟩++((kNT l kX kB_ 2).2 (kBlk l 1 kX kB_ false a).2).1++⟨#[59,10,125,10]⟩,((kNT l kX kB_ 2).2 (kBlk l 1 kX kB_ false a).2).2)
def good3(l:List UInt8)(s:ByteArray)(a:Nat):ByteArray×Nat :=
 (s++⟨#[105,110,116,32,109,97,105,110,40,41,32,123,10,105,110,116,32,120,32,61,32,51,59,10,98,111,111,108,32,98,32,61,32,102,97,108,115,101,59,10]⟩++(kBlk l 3 kX kB_ false a).1++⟨#[114,101,116,117,114,110,32]⟩++((kNT l kX kB_ 2).1 (kBlk l 3 kX kB_ false a).2).1++⟨#[59,10,125,10]⟩,((kNT l kX kB_ 2).1 (kBlk l 3 kX kB_ false a).2).2)
def y06(l:List UInt8):ByteArray:=(good3 l (j07 l (y4s l y4r 0).1 (y4s l y4r 0).2).1 (j07 l (y4s l y4r 0).1 (y4s l y4r 0).2).2).1
theorem yq2(s:ByteArray)(h:(z2a s).2.1≠0):(z2a s).1=pg0:=by
 unfold z2a at h⊢;split
 ·rename_i h0;rw[if_pos h0]at h;split
  ·rfl
  ·rename_i h1;rw[if_neg h1]at h;split
   ·rfl
   ·rename_i h2;rw[if_neg h2]at h;split
    ·rename_i h3;rw[if_pos h3]at h;exact absurd rfl h
    ·rfl
 ·rfl
theorem y9z(l:List UInt8)(d:Nat){v b:ByteArray}(hv:v.size<=8)(hb:b.size<=8)(lp:Bool)(a:Nat):(kBlk l d v b lp a).1.size<=4*kS d+1/\(kBlk l d v b lp a).2<=a+(4*kS d+1):=y9y l (y0d l d v b lp hv hb) a
section
attribute [local irreducible] kNT kBlk z2a
theorem sc_Good(l:List UInt8)(hl:l.length<=9223372036854775807):SC Tryz.prog 8 [.pv (bts l)] [] (λk=>k∈[]) (.pv (z2a (y06 l)).1.enc) []:=by
 refine SC.vc tb { ids:=[(10,1)] } [] Tryz.func8 rfl rfl ?_;have hx:kX.size<=8:=by decide
 have hb:kB_.size<=8:=by decide
 have e2:kB 2=168:=rfl;have s1:=j0i (d:=1) dC0;have s2:=j0i (d:=2) dC0;have s3:=j0i (d:=3) dC0;have b1:=(y5y l hl 1 dC0 kX kB_ false hx hb).2;have b2:=(y5y l hl 2 dC0 kX kB_ false hx hb).2;have b3:=(y5y l hl 3 dC0 kX kB_ false hx hb).2;obtain⟨_,N2,T2⟩:=y88 l hl hx hb 2 dC0;have n2:=(z7e l hx hb 2).1;have t2:=(z7e l hx hb 2).2;rw[e2]at N2 T2 n2 t2;have hP:=yq2 (y06 l);have hQ:=sc_Parse (y06 l);unfold y06 good3 j07 y4s y4r at hP hQ⊢;dsimp only at hP hQ⊢;have p0:=y9z l 2 hx hb false 0;have p1:=n2 (kBlk l 2 kX kB_ false 0).2;refine⟨z09 (by simp only[A4,szl,A1,A5];omega),[],b2 0 oM0,sR,Ge,rfl,z09 (by simp only[A4,szl,A1,A5];omega),z09 (by simp only[A4,szl,A1,A5];omega),[],N2 _ oM0,sR,Ge,rfl,z09 (by simp only[A4,szl,A1,A5];omega),z09 (by simp only[A4,szl,A1,A5];omega),?_⟩;generalize hr1:(kNT l kX kB_ 2).1 (kBlk l 2 kX kB_ false 0).2=r1 at p1 hP hQ⊢;generalize kBlk l 2 kX kB_ false 0=r0 at p0 p1 hP hQ⊢;clear hr1;have p2:=y9z l 1 hx hb false r1.2;have p3:=t2 (kBlk l 1 kX kB_ false r1.2).2;refine⟨z09 (by simp only[A4,szl,A1,A5];omega),[],b1 r1.2 oM0,sR,Ge,rfl,z09 (by simp only[A4,szl,A1,A5];omega),z09 (by simp only[A4,szl,A1,A5];omega),[],T2 _ oM0,sR,Ge,rfl,z09 (by simp only[A4,szl,A1,A5];omega),z09 (by simp only[A4,szl,A1,A5];omega),?_⟩;generalize hr3:(kNT l kX kB_ 2).2 (kBlk l 1 kX kB_ false r1.2).2=r3 at p3 hP hQ⊢;generalize kBlk l 1 kX kB_ false r1.2=r2 at p2 p3 hP hQ⊢;clear hr3;have p4:=y9z l 3 hx hb false r3.2;have p5:=n2 (kBlk l 3 kX kB_ false r3.2).2;refine⟨z09 (by simp only[A4,szl,A1,A5];omega),[],b3 r3.2 oM0,sR,Ge,rfl,z09 (by simp only[A4,szl,A1,A5];omega),z09 (by simp only[A4,szl,A1,A5];omega),[],N2 _ oM0,sR,Ge,rfl,z09 (by simp only[A4,szl,A1,A5];omega),z09 (by simp only[A4,szl,A1,A5];omega),?_⟩
 generalize(kNT l kX kB_ 2).1 (kBlk l 3 kX kB_ false r3.2).2=r5 at p5 hP hQ⊢;generalize kBlk l 3 kX kB_ false r3.2=r4 at p4 p5 hP hQ⊢;replace hQ:=hQ (by simp only[A4,szl,A1,A5];omega);refine⟨[],hQ,sR,Gd,rfl,z00 (λc=>?_) λc=>?_⟩
 ·have:=hP (by simpa using c);rw[this];exact⟨sP (z0g _),Gd⟩
 ·exact⟨sI,Gd⟩
end
end
def j08:ByteArray:=y4r++⟨#[105,110,116,32,102,40,105,110,116,32,120,44,32,98,111,111,108,32,98,41,32,123,10]⟩
def j09:Option (Nat×Nat×List Tk):=px j08 20 1 0 []
theorem j0a:∃l a o,j09=some (l,a,o)/\14<o.length/\pIs o sSo ⟨14,false,false⟩=false:=by
 have h:(j09.map λq=>decide (14<q.2.2.length) && !pIs q.2.2 sSo ⟨14,false,false⟩)=some true:=by decide +kernel
 cases hp:j09 with
 |none=>rw[hp]at h;cases h
 |some q =>
  rw[hp]at h;simp only[D9,Cp,A0,Bj,Bg]at h;exact⟨_,_,_,rfl,h.1,h.2⟩
theorem good_pre(l:List UInt8):∃R,y06 l=j08++R:=by
 unfold y06;obtain⟨R1,h1⟩:∃R,(y4s l y4r 0).1=j08++R:=⟨_,by unfold y4s j08;simp only[ByteArray.append_assoc];rfl⟩;obtain⟨R2,h2⟩:∃R,(j07 l (y4s l y4r 0).1 (y4s l y4r 0).2).1=j08++R:=⟨_,by rw[h1];unfold j07;simp only[ByteArray.append_assoc];rfl⟩;exact⟨_,by rw[h2];unfold good3;simp only[ByteArray.append_assoc];rfl⟩
theorem good_arr(l:List UInt8):(z2a (y06 l)).1.arrays.length<=2:=by
 refine yq1 _ 2 ?_;obtain⟨R,e⟩:=good_pre l;rw[e];obtain⟨l2,a2,o2,h1,h2,h3⟩:=j0a;exact px_is h1 (by decide +kernel) h2 h3
theorem y9u{u:Un}(hz:(z1e u).1=0):y2z (z3u u)=true:=by have:=y1c u;rw[z83 hz]at this;exact this
theorem i64_two{n:Int}(hn:0<=n/\n<=255):z3d .mul .i64 2 (IntKind.i64.wrap n)=some (.int .i64 (2*n)):=by
 have hw:IntKind.i64.wrap n=n:=D0 n oM0;rw[hw];exact y4v rfl oM0
theorem zw5(l:List UInt8)(ins:List Int)(n:Int)(hn:0<=n/\n<=255):SC Tryz.prog 3 [.pv (bts l),.pv (ints ins),.pv (.val (.int .u8 n))] [] (λk=>k∈[]) (iBool true) []:=by
 refine SC.vc tb { gh:=[(0,[.len 0])] } [] Tryz.func3 rfl rfl ?_;intro hl;simp only[A8]at hl;have hl:l.length<=9223372036854775807:=hl;have hT:=riU_w (y06 l);have hA:=Bn (riU_ar (y06 l)) (good_arr l);have hF:=sc_Good l hl;have hR:=sc_Rise (y06 l);generalize riU (y06 l)=q at hT hA hR;obtain⟨u,e⟩:=q;dsimp only at hT hA hR;have hC:=ze4 u hT.1;have hH:=y5s u hT.1 y09;have hg:=@z83 u;have hx:=@zh0 u;have hrel:=@j0e u;have hri:=@y9u u;have hB:=λ(hz:(z1e u).1=0)=>yc9 (hrel hz) hA hT.1 (by rw[y6i];exact hT.1) hz (by rw[hx hz]) hT.2 (ins.take 10) (2*n) ⟨by omega,by omega⟩;have hRt:=yn4 (z3u u) (by rw[y6i];exact hT.1);refine⟨[],sc_awake,sR,Gd,rfl,[],hF,sR,Gd,rfl,[],hR,sR,Gd,rfl,[],hC,sR,Gd,rfl,z00 (λh1=>?_) λh1=>z00 (λh2=>?_) λh2=>?_⟩
 ·exact⟨sI,Gd⟩
 ·exact⟨sI,Gd⟩
 ·have hz:(z1e u).1=0:=by simpa using h2
  rw[hg hz]at hH;rw[hri hz]at hRt;exact⟨[],hH,sR,Gd,rfl,[],hRt,sR,Gd,rfl,[],sc_ins ins,sR,Gd,rfl,i64_two hn,[],hB hz,sR,Gd,rfl,sI,Gd⟩
end Go.Proofs.YtcnjamphfjnflaaGreatDoor
