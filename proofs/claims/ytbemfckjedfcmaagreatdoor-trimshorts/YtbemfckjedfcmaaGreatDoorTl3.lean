/- PART 3 of 9 of a proof: see the last part. -/
import Derived.Test.YtbemfckjedfcmaaGreatDoorTl2
set_option maxRecDepth 20000
set_option maxHeartbeats 8000000
set_option linter.unusedSimpArgs false
set_option linter.unusedVariables false
set_option linter.unusedSectionVars false
namespace Go.Proofs.YtbemfckjedfcmaaGreatDoor
open Go
mutual
theorem yq6:∀ x:Nd,z3r x=(cnN 14 x != 0)
 | .mk kind op n name args outs params ks=>by
  have hk:=y31 ks;simp only [z3r,cnN,hk]
  by_cases h14:kind=14
  ·subst h14;simp
  ·by_cases h10:kind=10
   ·subst h10;simp
   ·simp [h14,h10]
theorem z4h:∀ l:List Nd,z11 l=(kcL 14 l != 0)
 | []=>rfl
 | x::r=>by
  simp only [z11,kcL,yq6 x,z4h r];rw [Cz];simp only [Bk,bne_iff_ne,ne_eq];omega
theorem y31:∀ ks:List (List Nd),z3q ks=(cnK 14 ks != 0)
 | []=>rfl
 | l::r=>by
  simp only [z3q,cnK,z4h l,y31 r];rw [Cz];simp only [Bk,bne_iff_ne,ne_eq];omega
end
def Cx13 (w w':Wh) (n:Nat):Prop:=n=0∨(w'.Loop=w.Loop/\w'.Next=w.Next)
def Cx14 (w w':Wh) (n:Nat):Prop:=n=0∨(w'.Loop=w.Loop/\w'.Left=w.Left)
def Cx12 (w w':Wh) (x:Nd):Prop:=x.kind=12->(w'.If=w.If/\w'.Yield=w.Yield)
theorem Cx13.part {w w':Wh} {n m:Nat} (h:Cx13 w w' n) (hm:n=0->m=0):Cx13 w w' m:=h.imp hm id
theorem Cx14.part {w w':Wh} {n m:Nat} (h:Cx14 w w' n) (hm:n=0->m=0):Cx14 w w' m:=h.imp hm id
theorem j3l (u:Un) (f:Fl) (x:Nd) (s:List Int) (w w':Wh) (h12:Cx12 w w' x) (h13:Cx13 w w' (cnN 13 x)) (h14:Cx14 w w' (cnN 14 x)):z7v u f x s w'=z7v u f x s w:=by
 have e12:(x.kind==12)=true->(w'.If=w.If/\w'.Yield=w.Yield):=λh=>h12 (by simpa using h);have e13:(x.kind==13)=true->(w'.Loop=w.Loop/\w'.Next=w.Next):=λh=>h13.resolve_left (by rw [z9o,if_pos h];omega);have e14:(x.kind==14)=true->(w'.Loop=w.Loop/\w'.Left=w.Left):=λh=>h14.resolve_left (by rw [z9o,if_pos h];omega);unfold z7v
 by_cases k12:(x.kind==12)=true
 ·obtain ⟨a,b⟩:=e12 k12;rw [a,b];have k13:(x.kind==13)=false:=by simp at k12 ⊢;omega
  have k14:(x.kind==14)=false:=by simp at k12 ⊢;omega
  simp only [k12,k13,k14,C1,Ag,Bj]
 by_cases k13:(x.kind==13)=true
 ·obtain ⟨a,b⟩:=e13 k13;rw [a,b];have k12':(x.kind==12)=false:=by simpa using k12
  have k14:(x.kind==14)=false:=by simp at k13 ⊢;omega
  simp only [k12',k13,k14,C1,Ag,Bj]
 by_cases k14:(x.kind==14)=true
 ·obtain ⟨a,b⟩:=e14 k14;rw [a,b];have k12':(x.kind==12)=false:=by simpa using k12
  have k13':(x.kind==13)=false:=by simpa using k13
  simp only [k12',k13',k14,C1,Ag,Bj]
 have k12':(x.kind==12)=false:=by simpa using k12
 have k13':(x.kind==13)=false:=by simpa using k13
 have k14':(x.kind==14)=false:=by simpa using k14
 simp only [k12',k13',k14',Ag,Bj]
mutual
theorem yk2 (u:Un) (f:Fl):∀ (x:Nd) (deep deep':Int) (w w':Wh) (all:List Int),deep'<=deep->Cx12 w w' x->Cx13 w w' (cnN 13 x)->Cx14 w w' (cnN 14 x)->z4r u f deep w all x=true->z4r u f deep' w' all x=true
 | .mk kind op n name args outs params ks,deep,deep',w,w',all,hd,h12,h13,h14,hv=>by
  have hb:=z1e u f deep _ all hv
  by_cases h10:kind=10
  ·obtain ⟨a,b,hk⟩:=z34 hb h10;rw [z52 u f deep w all hb h10 hk] at hv;rw [z52 u f deep' w' all hb h10 hk];simp only [A0,z3z] at hv ⊢;simp only [Nd.kids] at hk
   match ks,hk with
   | [a',b'],hk =>
    cases hk
    subst h10;have z13:∀ {c:Nat},cnN 13 (.mk 10 op n name args outs params [a,b])=0->(kcL 13 a=0/\kcL 13 b=0):=λ{_} h=>by simp only [cnN,cnK] at h;simp at h;exact h
    have z14:∀ {c:Nat},cnN 14 (.mk 10 op n name args outs params [a,b])=0->(kcL 14 a=0/\kcL 14 b=0):=λ{_} h=>by simp only [cnN,cnK] at h;simp at h;exact h
    have A:=y77 u f a (deep+1) (deep'+1) (w1 w f (.mk 10 op n name args outs params [a,b])) (w1 w' f (.mk 10 op n name args outs params [a,b])) all oM0 (λ_ _ _=>⟨rfl,rfl⟩) (h13.imp (λh=>(z13 (c:=0) h).1) id) (h14.imp (λh=>(z14 (c:=0) h).1) id) hv.1.1.1.2.2;have B:=y77 u f b (deep+1) (deep'+1) (w1 w f (.mk 10 op n name args outs params [a,b])) (w1 w' f (.mk 10 op n name args outs params [a,b])) all oM0 (λ_ _ _=>⟨rfl,rfl⟩) (h13.imp (λh=>(z13 (c:=0) h).2) id) (h14.imp (λh=>(z14 (c:=0) h).2) id) hv.1.1.2.2;exact ⟨⟨⟨⟨hv.1.1.1.1,hv.1.1.1.2.1,A⟩,hv.1.1.2.1,B⟩,hv.1.2⟩,hv.2⟩
  by_cases h11:kind=11
  ·obtain ⟨a,hk⟩:=z1r hb h11;rw [z2y u f deep w all hb h11 hk] at hv;rw [z2y u f deep' w' all hb h11 hk];simp only [A0,z3z] at hv ⊢;simp only [Nd.kids] at hk
   match ks,hk with
   | [a'],hk =>
    cases hk
    have A:=y77 u f a (deep+1) (deep'+1) (w2 f (.mk kind op n name args outs params [a])) (w2 f (.mk kind op n name args outs params [a])) (all++params) oM0 (λ_ _ _=>⟨rfl,rfl⟩) (.inr ⟨rfl,rfl⟩) (.inr ⟨rfl,rfl⟩) hv.1.1.2.2;exact ⟨⟨⟨hv.1.1.1,hv.1.1.2.1,A⟩,hv.1.2⟩,hv.2⟩
  have e10:(kind==10)=false:=by simpa using h10
  have e11:(kind==11)=false:=by simpa using h11
  rw [z1c u f deep w all hb e10 e11] at hv;rw [z1c u f deep' w' all hb e10 e11,j3l u f _ all w w' h12 h13 h14];exact hv
theorem y77 (u:Un) (f:Fl):∀ (l:List Nd) (deep deep':Int) (w w':Wh) (all:List Int),deep'<=deep->(∀ x∈l,Cx12 w w' x)->Cx13 w w' (kcL 13 l)->Cx14 w w' (kcL 14 l)->vGo u f deep w all l=true->vGo u f deep' w' all l=true
 | [],_,_,_,_,_,_,_,_,_,_=>by simp [vGo]
 | x::r,deep,deep',w,w',all,hd,h12,h13,h14,hv=>by
  simp only [vGo,A0] at hv ⊢;simp only [kcL] at h13 h14;refine ⟨⟨⟨?_,yk2 u f x deep deep' w w' all hd (h12 x (.head _)) (h13.part oM0) (h14.part oM0) hv.1.1.2⟩,hv.1.2⟩,y77 u f r deep deep' w w' _ hd (λy hy=>h12 y (.tail _ hy)) (h13.part oM0) (h14.part oM0) hv.2⟩;have:=hv.1.1.1;simp only [Bc,C3] at this ⊢;omega
end
theorem zq1 {x:Nd} (h:z03 x=false):x.kind≠12/\x.kind≠13/\x.kind≠14:=by
 refine ⟨λe=>?_,λe=>?_,λe=>?_⟩<;>(unfold z03 at h;simp [e,z0q] at h)
theorem j1h (u:Un) (f:Fl):∀ (l:List Nd) (deep deep':Int) (w w':Wh) (all:List Int),deep'<=deep->Cx13 w w' (kcL 13 l)->Cx14 w w' (kcL 14 l)->vPre u f deep w all l=true->vPre u f deep' w' all l=true
 | [],_,_,_,_,_,_,_,_,_=>rfl
 | x::r,deep,deep',w,w',all,hd,h13,h14,hv=>by
  simp only [vPre,A0] at hv ⊢;simp only [kcL] at h13 h14;refine ⟨⟨⟨?_,yk2 u f x deep deep' w w' all hd (λe=>absurd e (zq1 (by simpa using hv.1.2)).1) (h13.part oM0) (h14.part oM0) hv.1.1.2⟩,hv.1.2⟩,j1h u f r deep deep' w w' _ hd (h13.part oM0) (h14.part oM0) hv.2⟩;have:=hv.1.1.1;simp only [Bc,C3] at this ⊢;omega
theorem y9o {u:Un} {f:Fl} {deep:Int} {w:Wh} {all:List Int} {x:Nd} (hv:z4r u f deep w all x=true) (hc:z03 x=true):x.outs=[]:=by
 have hb:=z1e u f deep _ all hv;have ok:y0p x=true->x.outs=[]:=λh=>by
  unfold y0p at h;rw [hc] at h;simp only [El,E9,Ap] at h;exact As oM0
 by_cases h10:x.kind=10
 ·obtain ⟨a,b,hk⟩:=z34 hb h10;rw [z52 u f deep w all hb h10 hk] at hv;simp only [A0] at hv;exact ok hv.1.2
 by_cases h11:x.kind=11
 ·obtain ⟨a,hk⟩:=z1r hb h11;rw [z2y u f deep w all hb h11 hk] at hv;simp only [A0] at hv;exact ok hv.1.2
 have e10:(x.kind==10)=false:=by simpa using h10
 have e11:(x.kind==11)=false:=by simpa using h11
 rw [z1c u f deep w all hb e10 e11] at hv;have hE:z0q x.kind=true:=by
  unfold z03 at hc;simpa only [e10,e11,Cl,Ag,Bj] using hc
 have hk:x.kind=12∨x.kind=13∨x.kind=14∨x.kind=15:=by
  simp only [z0q,Bk,A0,Ap,B7] at hE;omega
 have hz:∀ b:Bool,SForm.ok ⟨b,none⟩ f.types x.outs=true->x.outs=[]:=λb h=>by
  simp only [SForm.ok,A0,Ap] at h;exact As oM0
 unfold z7v at hv;rcases hk with e | e | e | e<;>(simp only [e] at hv;exact hz _ hv)
theorem ya8 {x:Nd} (h:z03 x=true->x.outs=[]):z9v x=x:=by
 unfold z9v;split
 ·rename_i hc
  cases x
  simp only [Nd.outs] at h;rw [h hc];rfl
 ·rfl
mutual
theorem tidyN (u:Un) (f:Fl):∀ (x:Nd) (deep:Int) (w:Wh) (all:List Int),z4r u f deep w all x=true->tdN x=x
 | .mk kind op n name args outs params ks,deep,w,all,hv=>by
  have hb:=z1e u f deep _ all hv;have fin:tdK ks=ks->tdN (.mk kind op n name args outs params ks) = .mk kind op n name args outs params ks:=λh=>by
   unfold tdN;rw [h];exact ya8 λhc=>y9o hv hc
  apply fin
  by_cases h10:kind=10
  ·obtain ⟨a,b,hk⟩:=z34 hb h10;rw [z52 u f deep w all hb h10 hk] at hv;simp only [A0,z3z] at hv;simp only [Nd.kids] at hk
   match ks,hk with
   | [a',b'],hk =>
    cases hk
    simp only [tdK,j49 u f a _ _ _ hv.1.1.1.2.2,j49 u f b _ _ _ hv.1.1.2.2]
  by_cases h11:kind=11
  ·obtain ⟨a,hk⟩:=z1r hb h11;rw [z2y u f deep w all hb h11 hk] at hv;simp only [A0,z3z] at hv;simp only [Nd.kids] at hk
   match ks,hk with
   | [a'],hk =>
    cases hk
    simp only [tdK,j49 u f a _ _ _ hv.1.1.2.2]
  have e10:(kind==10)=false:=by simpa using h10
  have e11:(kind==11)=false:=by simpa using h11
  have hk0:ks=[]:=zc9 hb e10 e11;rw [hk0];simp [tdK]
theorem j49 (u:Un) (f:Fl):∀ (l:List Nd) (deep:Int) (w:Wh) (all:List Int),vGo u f deep w all l=true->tdL l=l
 | [],_,_,_,_=>by simp [tdL]
 | x::r,deep,w,all,hv=>by
  simp only [vGo,A0,Ap] at hv;have h1:=tidyN u f x deep w all hv.1.1.2;have h2:=j49 u f r deep w _ hv.2;unfold tdL;rw [h1,h2]
  cases hc:z03 x with
  | false=>simp
  | true =>
   rw [hc] at hv;have:r=[]:=by
    have:=hv.1.2
    cases r with
    | nil=>rfl
    | cons _ _=>simp at this
   simp [this]
end
theorem Rel.mono {tys all all':List Int} {to:TT} (h:Rel tys to all all') (c:List Int):Rel tys to all (all'++c):=λv hv h0 h1=>(h v hv h0 h1).mono c
theorem z4n:∀ (l m:List Int) (to:TT) (v:Int),v∉l->aGet v (z0h l m to)=aGet v to
 | [],_,_,_,_=>by simp [z0h]
 | _::_,[],_,_,_=>by simp [z0h]
 | a::l,t::m,to,v,h=>by
  simp only [Ah,not_or] at h;simp only [z0h];rw [z4n l m _ v h.2,zj0,if_neg h.1]
theorem y43 {tys all':List Int}:∀ (l m:List Int) (to:TT),l.Nodup->l.length=m.length->z12 tys all' m (l.map λv=>tys.getD v.toNat 0)=true->∀ v∈l,∃ t,aGet v (z0h l m to)=some t/\z8f tys all' t (tys.getD v.toNat 0)=true
 | [],_,_,_,_,_,v,hv=>by simp at hv
 | _::_,[],_,_,hl,_,_,_=>by simp at hl
 | a::l,t::m,to,hn,hl,h,v,hv=>by
  simp only [Az,z12,A0] at h;obtain ⟨hn1,hn2⟩:=Dp.1 hn;simp only [z0h];rcases Ah.1 hv with rfl | hv
  ·exact ⟨t,by rw [z4n l m _ v hn1,zj0,if_pos rfl],h.1⟩
  ·exact y43 l m _ hn2 (by simpa using hl) h.2 v hv
theorem j4f {tys l:List Int} (h:inR tys.length l):r8of tys l=l.map λv=>tys.getD v.toNat 0:=by
 unfold r8of;rw [if_pos];rw [Ba];intro v hv;simp only [zl5,A0,B7];exact h v hv
theorem z4d {tys all l to:List Int} (hr:inR tys.length to) (h:z07 tys all l (r8of tys to)=true):l.length=to.length:=by
 rw [j4f hr] at h;unfold z07 at h;simp only [A0,A5,Ap] at h;omega
theorem zn2 {tys all all' l m:List Int} {to:TT} (hty:∀ v:Int,0<=v->v<tys.length->tys.getD v.toNat 0≠0) (hr:Rel tys to all all') (hn:l.Nodup) (hin:inR tys.length l) (h:z07 tys all' m (r8of tys l)=true):Rel tys (z0h l m to) (all++l) all':=λv hv h0 h1=>by
 have hl:=z4d hin h;rw [j4f hin] at h;unfold z07 at h;simp only [A0] at h
 by_cases hm:v∈l
 ·obtain ⟨t,h2,h3⟩:=y43 l m to hn hl.symm h.2 v hm;obtain ⟨u1,u2,u3,u4⟩:=y22.1 h3;have e:z0l (z0h l m to) v=t:=by unfold z0l;rw [h2];rfl
  rw [e];exact ⟨u1,u2,u3,u4.resolve_left (hty v h0 h1)⟩
 ·have e:z0l (z0h l m to) v=z0l to v:=by unfold z0l;rw [z4n l m to v hm]
  rw [e];refine hr v ?_ h0 h1;rw [Ce,Bk] at hv;exact hv.resolve_right λhc=>hm (List.contains_iff_mem.1 hc)
def HT (f:Fl):Prop:=∀ v:Int,0<=v->v<f.types.length->f.types.getD v.toNat 0≠0
theorem z5c {A B:List Nd} (h:B≠[]):z0f (A++B)=z0f B:=by unfold z0f;rw [y4x h]
theorem y2a {A B:List Nd} (h:B≠[]):z1d (A++B)=z1d B:=by unfold z1d;rw [y4x h]
theorem z42 (x:Nd):z0f [x]=x.kind:=rfl
theorem y4y {l:List Nd} (h:l≠[]):∃ x∈l,l.getLast? = some x:=by
 cases hg:l.getLast? with
 | none=>exact absurd (List.getLast?_eq_none_iff.1 hg) h
 | some x=>exact ⟨x,List.mem_of_getLast? hg,rfl⟩
theorem y4w {l:List Nd} (h:∀ y∈l,z03 y=false):z1d l=false:=by
 by_cases e:l=[]
 ·subst e;rfl
 ·obtain ⟨x,hx,hg⟩:=y4y e;unfold z1d;rw [hg];exact h x hx
theorem j1i {u:Un} {f:Fl} {deep:Int} {w:Wh}:∀ {l:List Nd} {all:List Int},vPre u f deep w all l=true->∀ y∈l,z03 y=false
 | x::r,all,h,y,hy=>by
  simp only [vPre,A0] at h;rcases Ah.1 hy with rfl | hy
  ·simpa using h.1.2
  ·exact j1i h.2 y hy
theorem yk7 {u:Un} {f:Fl} {deep:Int} {w:Wh} {M out:List Nd} {all:List Int} (h:vPre u f deep w all M=true) (ho:z1d out=false):z1d (out++M)=false:=by
 by_cases e:M=[]
 ·subst e;simpa using ho
 ·rw [y2a e];exact y4w (j1i h)
theorem j0g {u:Un} {f:Fl} {deep:Int} {w:Wh}:∀ {l:List Nd} {all:List Int},vGo u f deep w all l=true->∀ y∈l,∃ s,z4r u f deep w s y=true
 | x::r,all,h,y,hy=>by
  simp only [vGo,A0] at h;rcases Ah.1 hy with rfl | hy
  ·exact ⟨_,h.1.1.2⟩
  ·exact j0g h.2 y hy
theorem y4p {u:Un} {f:Fl} {deep:Int} {w:Wh} {e:Nd}:∀ {A:List Nd} {all:List Int},vGo u f deep w all (A++[e])=true->vPre u f deep w all A=true/\z4r u f deep w (all++A.flatMap Nd.outs) e=true
 | [],all,h=>by
  simp only [Do,vGo,A0] at h
  exact ⟨rfl,by simpa using h.1.1.2⟩
 | x::r,all,h=>by
  simp only [B6,vGo,A0] at h;obtain ⟨h1,h2⟩:=y4p h.2;have hc:z03 x=false:=by
   have:=h.1.2
   cases r<;>simpa using this
  simp only [vPre,A0,Dj];exact ⟨⟨⟨h.1.1,by rw [hc];rfl⟩,h1⟩,by rw [<- Ca];exact h2⟩
theorem form12 {u:Un} {f:Fl} {x:Nd} {s:List Int} {w:Wh} (h:x.kind=12):z7v u f x s w=⟨w.If&&z07 f.types s x.args w.Yield,none⟩:=by unfold z7v;simp [h]
theorem form14 {u:Un} {f:Fl} {x:Nd} {s:List Int} {w:Wh} (h:x.kind=14):z7v u f x s w=⟨w.Loop&&z07 f.types s x.args w.Left,none⟩:=by unfold z7v;simp [h]
theorem yk1 {u:Un} {f:Fl} {deep:Int} {w:Wh} {s:List Int} {x:Nd} (h:z4r u f deep w s x=true) (hk:x.kind=12):w.If=true/\z07 f.types s x.args w.Yield=true:=by
 rw [z1c u f deep w s (z1e u f deep w s h) (by simp [hk]) (by simp [hk]),form12 hk] at h;simp only [SForm.ok,A0] at h;exact h.1
theorem node14 {u:Un} {f:Fl} {deep:Int} {w:Wh} {s:List Int} {x:Nd} (h:z4r u f deep w s x=true) (hk:x.kind=14):z07 f.types s x.args w.Left=true:=by
 rw [z1c u f deep w s (z1e u f deep w s h) (by simp [hk]) (by simp [hk]),form14 hk] at h;simp only [SForm.ok,A0] at h;exact h.1.2
theorem no12 {u:Un} {f:Fl} {deep:Int} {w:Wh} {l:List Nd} {all:List Int} (hw:w.If=false) (h:vGo u f deep w all l=true):∀ y∈l,y.kind≠12:=λy hy e=>by
 obtain ⟨s,hs⟩:=j0g h y hy;have:=(yk1 hs e).1;rw [hw] at this;cases this
theorem zh0:∀ {l:List Nd} {k:Int},k=13∨k=14->z0f l=k->1<=kcL k l:=λ{l k} hk h=>by
 have hne:l≠[]:=by intro e;subst e;simp [z0f] at h;omega
 obtain ⟨x,hx,hg⟩:=y4y hne;have e:l=l.dropLast++[x]:=by
  have:=List.dropLast_concat_getLast hne;rw [List.getLast?_eq_some_getLast hne] at hg;rw [Bn hg] at this;exact this.symm
 unfold z0f at h;rw [hg] at h;rw [e,z94];simp only [kcL,z9o];rw [if_pos (by simpa using h)];omega
theorem zh1 {l:List Nd} (hne:l≠[]):∃ A e,l=A++[e]/\l.dropLast=A/\z0f l=e.kind/\z3m l=e.args:=by
 obtain ⟨x,hx,hg⟩:=y4y hne;have e:l=l.dropLast++[x]:=by
  have:=List.dropLast_concat_getLast hne;rw [List.getLast?_eq_some_getLast hne] at hg;rw [Bn hg] at this;exact this.symm
 exact ⟨l.dropLast,x,e,rfl,by unfold z0f;rw [hg],by unfold z3m;rw [hg]⟩
def y4s:List (List Nd)->Bool
 | [a,b]=>z2v a b
 | _=>false
def yr9:List (List Nd)->Bool
 | [a]=>!a.isEmpty&&z2s a
 | _=>false
mutual
def fiN:Nd->Bool
 | .mk kind _ _ _ _ _ _ ks=>!(kind==10&&y4s ks) && !(kind==11&&yr9 ks)&&fiK ks
def fiL:List Nd->Bool
 | []=>true
 | x::r=>fiN x&&fiL r
def fiK:List (List Nd)->Bool
 | []=>true
 | l::r=>fiL l&&fiK r
end
theorem yh7 (x:Nd):fiN x=(!(x.kind==10&&y4s x.kids) && !(x.kind==11&&yr9 x.kids)&&fiK x.kids):=by cases x;simp only [fiN,Nd.kind,Nd.kids]
theorem y9s:∀ a b:List Nd,fiL (a++b)=(fiL a&&fiL b)
 | [],b=>by simp [fiL]
 | x::r,b=>by simp only [B6,fiL,y9s r b,Ev]
structure TPost (u:Un) (f:Fl) (deep:Int) (w:Wh) (all':List Int) (to:TT) (l N:List Nd) (to':TT):Prop where
 run:∀ out,z1d out=false->trR out to l=(out++N,to')
 good:∀ out,z1d out=false->gdR out to l=true
 valid:vGo u f deep w all' N=true
 ne:N≠[]
 l12:z0f N=12↔z0f l=12
 l14:z0f N=14↔z0f l=14
 cn:∀ k,k=13∨k=14->kcL k N=kcL k l
 keys:∀ v,v∉dL l->aGet v to'=aGet v to
 fine:fiL N=true
theorem TPost.raw {u:Un} {f:Fl} {deep:Int} {w:Wh} {all':List Int} {to to':TT} {l N:List Nd} (h:TPost u f deep w all' to l N to'):trR [] to l=(N,to'):=by
 have:=h.run [] rfl;simpa using this
theorem TPost.tr {u:Un} {f:Fl} {deep:Int} {w:Wh} {all':List Int} {to to':TT} {l N:List Nd} (h:TPost u f deep w all' to l N to'):trL to l=(N,to'):=by
 unfold trL;rw [h.raw];simp only [j49 u f N deep w all' h.valid]
def TP (u:Un) (f:Fl) (l:List Nd):Prop:=∀ (deep:Int) (w:Wh) (all all':List Int) (to:TT),HT f->l≠[]->(dL l).Nodup->(∀ v∈dL l,all.contains v=false)->(∀ v∈dL l,aGet v to=none) ->
 Rel f.types to all all'->vGo u f deep w all l=true->∃ N to',TPost u f deep w all' to l N to'
structure NPost (u:Un) (f:Fl) (deep:Int) (w:Wh) (all all':List Int) (to:TT) (x:Nd) (M:List Nd) (to':TT):Prop where
 run:trN to x=(M,to')
 good:gdN to x=true
 keys:∀ v,v∉dN x->aGet v to'=aGet v to
 cn:∀ k,k=13∨k=14->kcL k M=cnN k x
 fine:fiL M=true
 post:(z03 x=true/\vGo u f deep w all' M=true/\M≠[]/\(z0f M=12↔x.kind=12)/\(z0f M=14↔x.kind=14)) ∨
  (z03 x=false/\vPre u f deep w all' M=true/\Rel f.types to' (all++x.outs) (all'++M.flatMap Nd.outs))
theorem y0f {u:Un} {f:Fl} {deep:Int} {w:Wh} {all all':List Int} {to to':TT} {x y:Nd} (hd:¬ deep > 100) (run:trN to x=([y],to')) (good:gdN to x=true) (keys:∀ v,v∉dN x->aGet v to'=aGet v to)
 (cn:∀ k,k=13∨k=14->cnN k y=cnN k x) (hf:fiN y=true) (hv:z4r u f deep w all' y=true) (hc:z03 y=z03 x) (hk:y.kind=x.kind) (ho:y.outs=x.outs) (hr:Rel f.types to' (all++x.outs) (all'++x.outs)):NPost u f deep w all all' to x [y] to':=by
 refine ⟨run,good,keys,λk h=>by simp only [kcL,cn k h,Ch],by simp only [fiL,hf,C7],?_⟩
 cases hx:z03 x with
 | true =>
  refine .inl ⟨rfl,?_,by simp,by rw [z42,hk],by rw [z42,hk]⟩;simp only [vGo,A0,hc,hx,hv]
  simp [hd]
 | false =>
  refine .inr ⟨rfl,?_,by simpa [ho] using hr⟩;simp only [vPre,A0,hc,hx,hv];simp [hd]
theorem za3 {x:Nd} {a b:List Nd} (hk:x.kind=10) (h:x.kids=[a,b]):z03 x=(z2e a != 12&&z2e b != 12):=by
 unfold z03;rw [hk,h];rfl
theorem z55 {x:Nd} {a:List Nd} (hk:x.kind=11) (h:x.kids=[a]):z03 x = !z11 a:=by
 unfold z03;rw [hk,h];rfl
theorem z97 (l:List Nd):z2e l=12↔z0f l=12:=by
 unfold z2e z0f
 cases l.getLast? with
 | none=>simp
 | some x =>
  dsimp only
  by_cases h:x.kind=12
  ·simp [h,z0q]
  ·by_cases h2:z0q x.kind=true
   ·rw [if_pos h2]
   ·rw [if_neg h2];constructor
    ·intro e;cases e
    ·intro e;exact absurd e h
theorem y7f {a b:List Nd} (h:z0f a=12↔z0f b=12):(z2e a != 12)=(z2e b != 12):=by
 have h2:=(z97 a).trans (h.trans (z97 b).symm)
 by_cases e:z2e a=12
 ·rw [e,h2.1 e]
 ·have e2:¬ z2e b=12:=λq=>e (h2.2 q);have a1:(z2e a != 12)=true:=bne_iff_ne.2 e;have b1:(z2e b != 12)=true:=bne_iff_ne.2 e2;rw [a1,b1]
theorem j0s {a b:List Nd} (h:kcL 14 a=kcL 14 b):z11 a=z11 b:=by rw [z4h,z4h,h]
theorem if_t (u:Un) (f:Fl) (x:Nd) (ih:∀ q∈x.kids,TP u f q) (deep:Int) (w:Wh) (all all':List Int) (to:TT) (hty:HT f) (hd:¬ deep > 100) (hnd:(dN x).Nodup) (hall:∀ v∈dN x,all.contains v=false) (hto:∀ v∈dN x,aGet v to=none)
 (hr:Rel f.types to all all') (hv:z4r u f deep w all x=true) (h10:x.kind=10):∃ M to',NPost u f deep w all all' to x M to':=by
 have hb:=z1e u f deep _ all hv;obtain ⟨a,b,hk⟩:=z34 hb h10;rw [z52 u f deep w all hb h10 hk] at hv;simp only [A0] at hv;have hdn:dN x=dL a++(dL b++x.outs):=dN_if hb h10 hk;rw [hdn] at hnd hall hto;obtain ⟨n1,n2,n3⟩:=Co.1 hnd;obtain ⟨n4,n5,n6⟩:=Co.1 n2;have hva:=hv.1.1.1.2;have hvb:=hv.1.1.2;simp only [z3z,A0] at hva hvb;obtain ⟨Na,to1,pa⟩:=ih a (by rw [hk];simp) (deep+1) (w1 w f x) all all' to hty (by intro e;subst e;simp at hva) n1 (λv hv=>hall v (by simp [hv])) (λv hv=>hto v (by simp [hv])) hr hva.2;have hrb:Rel f.types to1 all all':=hr.congr λv hv=>pa.keys v λhm=>by
  have:=hall v (by simp [hm]);rw [hv] at this;cases this
 obtain ⟨Nb,to2,pb⟩:=ih b (by rw [hk];simp) (deep+1) (w1 w f x) all all' to1 hty (by intro e;subst e;simp at hvb) n4 (λv hv=>hall v (by simp [hv])) (λv hv=>(pa.keys v λhm=>n3 v hm v (by simp [hv]) rfl).trans (hto v (by simp [hv]))) hrb hvb.2;have hrc:Rel f.types to2 all all':=hrb.congr λv hv=>pb.keys v λhm=>by
  have:=hall v (by simp [hm]);rw [hv] at this;cases this
 have hks:trKs to x.kids=([Na,Nb],to2):=by
  rw [hk,z4c,pa.tr,z4c,pb.tr];rfl
 have hgk:gdKs to x.kids=true:=by
  rw [hk];simp only [gdKs,pa.good [] rfl,pa.raw,pb.good [] rfl,C7]
 have hkeys:∀ v,v∉dN x->aGet v to2=aGet v to:=λv hv=>by
  rw [hdn] at hv;simp only [Ay,not_or] at hv;rw [pb.keys v hv.2.1,pa.keys v hv.1]
 have h10b:(x.kind==10)=true:=by simp [h10]
 have h11b:(x.kind==11)=false:=by simp [h10]
 have hcx:∀ k,k=13∨k=14->cnN k x=kcL k Na+kcL k Nb:=λk hk2=>by
  rw [z9o,if_neg (by rw [h10];rcases hk2 with rfl | rfl<;>decide),if_pos h10b,hk,pa.cn k hk2,pb.cn k hk2];simp [cnK]
 have hrun:=zf9 to x;rw [if_neg (by simp [h11b]),if_pos h10b] at hrun;have hkk:(trA to x).kids=x.kids:=rfl;unfold z85 at hrun;rw [hkk,hks] at hrun;have hgood:gdN to x=(true&&true&&(!z2v Na Nb||decide (x.outs.length<=(z8i Na).length))):=by
  rw [y76,if_neg (by simp [h11b]),if_pos h10b,hgk,hks,hk];rfl
 by_cases hid:z2v Na Nb=true
 ·rw [if_pos (show z2v (kid0 [Na,Nb]) (kid1 [Na,Nb])=true from hid)] at hrun
  match hNa:Na,hNb:Nb,hid with
  | [ya],[yb],hid =>
   subst hNa hNb;simp only [z2v,A0,Ap] at hid;obtain ⟨s,hya⟩:=j0g pa.valid ya (.head _);have hva2:=pa.valid;simp only [vGo,A0] at hva2;have hty2:=(yk1 hva2.1.1.2 hid.1.1).2;have hin:inR f.types.length x.outs:=z1o hv.2;have hlen:=z4d hin hty2;have hca:cnN 13 ya=0/\cnN 14 ya=0/\cnN 13 yb=0/\cnN 14 yb=0:=by
    refine ⟨?_,?_,?_,?_⟩<;>(rw [z9o];simp [hid.1.1,hid.1.2])
   refine ⟨[],z0h x.outs ya.args to2,hrun,?_,λv hv=>?_,λk hk2=>?_,rfl,.inr ⟨?_,rfl,?_⟩⟩
   ·rw [hgood];rw [Av,Av,Bk];exact .inr (By (show x.outs.length<=ya.args.length by omega))
   ·rw [z4n _ _ _ v (λhm=>hv (by rw [hdn];simp [hm]))];exact hkeys v hv
   ·rw [hcx k hk2];rcases hk2 with rfl | rfl<;>simp [kcL,hca]
   ·rw [za3 h10 hk];have:z2e a=12:=(z97 a).2 (pa.l12.1 (by rw [z42];exact hid.1.1));rw [this];rfl
   ·simpa using zn2 hty hrc n5 hin hty2
 ·have hid2:z2v Na Nb=false:=by simpa using hid
  rw [if_neg (show ¬ z2v (kid0 [Na,Nb]) (kid1 [Na,Nb])=true from hid)] at hrun;have hvo:(z7t f.types x.outs (zer x.outs))=true:=hv.2;have hcl:z03 (.mk x.kind x.op x.n x.name (x.args.map (z0l to)) x.outs x.params [Na,Nb])=z03 x:=by
   rw [za3 h10 hk,za3 (x:=.mk x.kind x.op x.n x.name (x.args.map (z0l to)) x.outs x.params [Na,Nb]) h10 rfl,y7f pa.l12,y7f pb.l12]
  refine ⟨[.mk x.kind x.op x.n x.name (x.args.map (z0l to)) x.outs x.params [Na,Nb]],to2,y0f hd hrun ?_ hkeys (λk hk2=>?_) ?_ ?_ hcl rfl rfl ?_⟩
  ·rw [hgood,hid2];rfl
  ·rw [hcx k hk2];show cnN k (.mk x.kind x.op x.n x.name (x.args.map (z0l to)) x.outs x.params [Na,Nb])=_;unfold cnN;rw [if_neg (by rw [h10];rcases hk2 with rfl | rfl<;>decide),if_pos h10b];simp [cnK]
  ·rw [yh7];show (!(x.kind==10&&z2v Na Nb) && !(x.kind==11&&false)&&fiK [Na,Nb])=true;rw [hid2];simp only [fiK,pa.fine,pb.fine,Ct,C7,D3]
  ·have hb2:z22 (.mk x.kind x.op x.n x.name (x.args.map (z0l to)) x.outs x.params [Na,Nb])=true:=by
    have:=hb
    cases x
    simp only [Nd.kids] at hk;subst hk;exact this
   rw [z52 u f deep w all' hb2 h10 rfl];simp only [A0,z3z];have hne:∀ {N:List Nd},N≠[]->(!N.isEmpty)=true:=λ{N} h=>by cases N with | nil=>exact absurd rfl h | cons _ _=>rfl
   refine ⟨⟨⟨⟨zn9 hr hv.1.1.1.1,hne pa.ne,pa.valid⟩,hne pb.ne,pb.valid⟩,?_⟩,hvo⟩;have:=hv.1.2;unfold y0p at this ⊢;rw [hcl];exact this
  ·exact hrc.outs λv hv=>by
    rw [pb.keys v λhm=>n6 v hm v hv rfl,pa.keys v λhm=>n3 v hm v (by simp [hv]) rfl];exact hto v (by simp [hv])
theorem loop_t (u:Un) (f:Fl) (x:Nd) (ih:∀ q∈x.kids,TP u f q) (deep:Int) (w:Wh) (all all':List Int) (to:TT) (hty:HT f) (hd:¬ deep > 100) (hnd:(dN x).Nodup) (hall:∀ v∈dN x,all.contains v=false) (hto:∀ v∈dN x,aGet v to=none)
 (hr:Rel f.types to all all') (hv:z4r u f deep w all x=true) (h11:x.kind=11):∃ M to',NPost u f deep w all all' to x M to':=by
 have hb:=z1e u f deep _ all hv;obtain ⟨a,hk⟩:=z1r hb h11;rw [z2y u f deep w all hb h11 hk] at hv;simp only [A0] at hv;have hdn:dN x=x.params++(dL a++x.outs):=y4h hk;rw [hdn] at hnd hall hto;obtain ⟨n1,n2,n3⟩:=Co.1 hnd;obtain ⟨n4,n5,n6⟩:=Co.1 n2;have hva:=hv.1.1.2;simp only [z3z,A0] at hva;have hne:a≠[]:=by intro e;subst e;simp at hva
 have hinp:inR f.types.length x.params:=z1o hv.1.1.1.2;have hino:inR f.types.length x.outs:=z1o hv.2;have htp:z07 f.types all' (x.args.map (z0l to)) (r8of f.types x.params)=true:=zn9 hr hv.1.1.1.1;have hpl:x.args.length=x.params.length:=z4d hinp hv.1.1.1.1;have h11b:(x.kind==11)=true:=by simp [h11]
 have h10b:(x.kind==10)=false:=by simp [h11]
 have hda:∀ v∈dL a,(all++x.params).contains v=false:=λv hm=>by
  rw [Ce,hall v (by simp [hm]),Bs,<- Ds,List.contains_iff_mem];exact λhp=>n3 v hp v (by simp [hm]) rfl
 have hcx:∀ k,k=13∨k=14->cnN k x=0:=λk hk2=>by
  rw [z9o,if_neg (by rw [h11];rcases hk2 with rfl | rfl<;>decide),if_neg (by simp [h10b])]
 have hrun:=zf9 to x;rw [if_pos h11b] at hrun;unfold zc5 at hrun;rw [show (trA to x).kids=x.kids from rfl,show (trA to x).params=x.params from rfl,show (trA to x).outs=x.outs from rfl,show (trA to x).args=x.args.map (z0l to) from rfl,hk] at hrun;have hgood:=y76 to x;rw [if_pos h11b,hk,show (trA to x).args=x.args.map (z0l to) from rfl] at hgood;have hpd:decide (x.params.length<=x.args.length)=true:=By oM0;rw [hpd] at hgood
 by_cases ho:z2s a=true
 ·rw [if_pos (show z2s (kid0 [a])=true from ho)] at hrun hgood;have hr1:Rel f.types (z0h x.params (x.args.map (z0l to)) to) (all++x.params) all':=zn2 hty hr n1 hinp htp;obtain ⟨Na,to2,pa⟩:=ih a (by rw [hk];simp) (deep+1) (w2 f x) (all++x.params) all' (z0h x.params (x.args.map (z0l to)) to) hty hne n4 hda
   (λv hm=>(z4n _ _ _ v λhp=>n3 v hp v (by simp [hm]) rfl).trans (hto v (by simp [hm]))) hr1 hva.2
  have hks:trKs (z0h x.params (x.args.map (z0l to)) to) [a]=([Na],to2):=by rw [z4c,pa.tr];rfl
  have hgk:gdKs (z0h x.params (x.args.map (z0l to)) to) [a]=true:=by simp only [gdKs,pa.good [] rfl,C7]
  rw [hks] at hrun hgood;rw [hgk] at hgood;have hkeys:∀ v,v∉x.params->v∉dL a->aGet v to2=aGet v to:=λv h1 h2=>by rw [pa.keys v h2,z4n _ _ _ v h1]
  have hr2:Rel f.types to2 all all':=hr.congr λv hv=>hkeys v (λhm=>by have:=hall v (by simp [hm]);rw [hv] at this;cases this) λhm=>by
   have:=hall v (by simp [hm]);rw [hv] at this;cases this
  simp only [z2s,A0,Bk,Ap] at ho;have c13:kcL 13 Na=0:=by rw [pa.cn 13 (.inl rfl)];exact ho.1
  have hnb:(!(kid0 ([Na],to2).1).isEmpty)=true:=by
   show (!Na.isEmpty)=true
   cases hN:Na with
   | nil=>exact absurd hN pa.ne
   | cons _ _=>rfl
  rw [hnb] at hgood
  by_cases hl:z0f Na=14
  ·have hlb:(z0f (kid0 ([Na],to2).1)==14)=true:=by show (z0f Na==14)=true;simp [hl]
   rw [if_pos hlb] at hrun;obtain ⟨A,e,hA,hA2,hA3,hA4⟩:=zh1 pa.ne;have hla:=pa.l14.1 hl;have h1:=zh0 (.inr rfl) hla;have c14:kcL 14 a=1:=by omega
   have hek:e.kind=14:=by rw [<- hA3];exact hl
   have ce:cnN 14 e=1:=by rw [z9o];simp [hek]
   have cA:kcL 14 A=0:=by
    have h2:=pa.cn 14 (.inr rfl);rw [hA,z94] at h2;simp only [kcL,ce] at h2;omega
   have cA13:kcL 13 A=0:=by
    rw [hA,z94] at c13;omega
   have hsp:=pa.valid;rw [hA] at hsp;obtain ⟨s1,s2⟩:=y4p hsp;have hte:=node14 s2 hek;have hlen:=z4d hino hte;have hfA:fiL A=true:=by
    have:=pa.fine;rw [hA,y9s,A0] at this;exact this.1
   refine ⟨A,z0h x.outs e.args to2,?_,?_,λv hv=>?_,λk hk2=>?_,hfA,.inr ⟨?_,?_,?_⟩⟩
   ·rw [hrun];show (Na.dropLast,z0h x.outs (z3m Na) to2)=_;rw [hA2,hA4]
   ·rw [hgood];have hlb2:(z0f (kid0 ([Na],to2).1) != 14)=false:=by rw [bne,hlb];rfl
    rw [hlb2];simp only [Ad,At,Bs,Av];exact By (show x.outs.length<=(z3m Na).length by rw [hA4];omega)
   ·rw [hdn] at hv;simp only [Ay,not_or] at hv;rw [z4n _ _ _ v hv.2.2];exact hkeys v hv.1 hv.2.1
   ·rw [hcx k hk2];rcases hk2 with rfl | rfl
    ·exact cA13
    ·exact cA
   ·rw [z55 h11 hk,z4h,c14];rfl
   ·exact j1h u f A (deep+1) deep (w2 f x) w all' oM0 (.inl cA13) (.inl cA) s1
   ·exact zn2 hty (hr2.mono _) n5 hino hte
  ·have hlb:(z0f (kid0 ([Na],to2).1)==14)=false:=by show (z0f Na==14)=false;simp [hl]
   rw [if_neg (by rw [hlb];simp)] at hrun;have hla:z0f a≠14:=λh=>hl (pa.l14.2 h);have c14:kcL 14 a=0:=by
    rcases ho.2 with h | h
    ·exact h
    ·exact absurd h.2 hla
   have c14':kcL 14 Na=0:=by rw [pa.cn 14 (.inr rfl)];exact c14
   have hno:=no12 (w:=w2 f x) rfl pa.valid;obtain ⟨A,e,hA,hA2,hA3,hA4⟩:=zh1 pa.ne;refine ⟨Na,to2,hrun,?_,λv hv=>?_,λk hk2=>?_,pa.fine,.inl ⟨?_,?_,pa.ne,⟨λh=>?_,λh=>?_⟩,⟨λh=>absurd h hl,λh=>?_⟩⟩⟩
   ·rw [hgood];have hlb2:(z0f (kid0 ([Na],to2).1) != 14)=true:=by rw [bne,hlb];rfl
    rw [hlb2];rfl
   ·rw [hdn] at hv;simp only [Ay,not_or] at hv;exact hkeys v hv.1 hv.2.1
   ·rw [hcx k hk2];rcases hk2 with rfl | rfl
    ·exact c13
    ·exact c14'
   ·rw [z55 h11 hk,z4h,c14];rfl
   ·exact y77 u f Na (deep+1) deep (w2 f x) w all' oM0 (λy hy e=>absurd e (hno y hy)) (.inl c13) (.inl c14') pa.valid
   ·rw [hA3] at h;exact absurd h (hno e (by rw [hA];simp))
   ·rw [h11] at h;cases h
   ·rw [h11] at h;cases h
 ·rw [if_neg (show ¬ z2s (kid0 [a])=true from ho)] at hrun hgood;have hrp:Rel f.types to (all++x.params) (all'++x.params):=hr.outs λv hv=>hto v (by simp [hv]);obtain ⟨Na,to2,pa⟩:=ih a (by rw [hk];simp) (deep+1) (w2 f x) (all++x.params) (all'++x.params) to hty hne n4 hda (λv hm=>hto v (by simp [hm])) hrp hva.2;have hks:trKs to [a]=([Na],to2):=by rw [z4c,pa.tr];rfl
  have hgk:gdKs to [a]=true:=by simp only [gdKs,pa.good [] rfl,C7]
  rw [hks] at hrun;rw [hgk] at hgood;have hr2:Rel f.types to2 all all':=hr.congr λv hv=>pa.keys v λhm=>by
   have:=hall v (by simp [hm]);rw [hv] at this;cases this
  have hcl:z03 (.mk x.kind x.op x.n x.name (x.args.map (z0l to)) x.outs x.params [Na])=z03 x:=by
   rw [z55 h11 hk,z55 (x:=.mk x.kind x.op x.n x.name (x.args.map (z0l to)) x.outs x.params [Na]) h11 rfl,j0s (pa.cn 14 (.inr rfl))]
  refine ⟨[.mk x.kind x.op x.n x.name (x.args.map (z0l to)) x.outs x.params [Na]],to2,y0f hd hrun (by rw [hgood];rfl) (λv hv=>?_) (λk hk2=>?_) ?_ ?_ hcl rfl rfl ?_⟩
  ·rw [hdn] at hv;simp only [Ay,not_or] at hv;exact pa.keys v hv.2.1
  ·rw [hcx k hk2];show cnN k (.mk x.kind x.op x.n x.name (x.args.map (z0l to)) x.outs x.params [Na])=_;unfold cnN;rw [if_neg (by rw [h11];rcases hk2 with rfl | rfl<;>decide),if_neg (by simp [h10b])]
  ·have hoN:z2s Na=false:=by
    have:z2s Na=z2s a:=by
     unfold z2s;rw [pa.cn 13 (.inl rfl),pa.cn 14 (.inr rfl)]
     by_cases h:z0f Na=14
     ·rw [h,pa.l14.1 h]
     ·have h2:¬ z0f a=14:=λq=>h (pa.l14.2 q);rw [Ab.2 h,Ab.2 h2]
    rw [this];simpa using ho
   rw [yh7];show (!(x.kind==10&&false) && !(x.kind==11&&(!Na.isEmpty&&z2s Na))&&fiK [Na])=true;rw [hoN];simp only [fiK,pa.fine,Ct,C7,D3]
  ·have hb2:z22 (.mk x.kind x.op x.n x.name (x.args.map (z0l to)) x.outs x.params [Na])=true:=by
    have:=hb
    cases x
    simp only [Nd.kids] at hk;subst hk;exact this
   rw [z2y u f deep w all' hb2 h11 rfl];simp only [A0,z3z];have hnb:(!Na.isEmpty)=true:=by
    cases hN:Na with
    | nil=>exact absurd hN pa.ne
    | cons _ _=>rfl
   refine ⟨⟨⟨⟨htp,hv.1.1.1.2⟩,hnb,pa.valid⟩,?_⟩,hv.2⟩;have:=hv.1.2;unfold y0p at this ⊢;rw [hcl];exact this
  ·exact hr2.outs λv hv=>by
    rw [pa.keys v λhm=>n6 v hm v hv rfl];exact hto v (by simp [hv])
theorem yk3 (u:Un) (f:Fl) (x:Nd) (ih:∀ q∈x.kids,TP u f q) (deep:Int) (w:Wh) (all all':List Int) (to:TT) (hty:HT f) (hd:¬ deep > 100) (hnd:(dN x).Nodup) (hall:∀ v∈dN x,all.contains v=false) (hto:∀ v∈dN x,aGet v to=none)
 (hr:Rel f.types to all all') (hv:z4r u f deep w all x=true):∃ M to',NPost u f deep w all all' to x M to':=by
 by_cases h10:x.kind=10
 ·exact if_t u f x ih deep w all all' to hty hd hnd hall hto hr hv h10
 by_cases h11:x.kind=11
 ·exact loop_t u f x ih deep w all all' to hty hd hnd hall hto hr hv h11
 have hb:=z1e u f deep _ all hv;have e10:(x.kind==10)=false:=by simpa using h10
 have e11:(x.kind==11)=false:=by simpa using h11
 rw [z1c u f deep w all hb e10 e11] at hv;have hrun:=zf9 to x;rw [if_neg (by simp [e11]),if_neg (by simp [e10])] at hrun;have hgood:=y76 to x;rw [if_neg (by simp [e11]),if_neg (by simp [e10])] at hgood;have hb2:z22 (trA to x)=true:=by cases x;exact hb
 have hfi:fiN (trA to x)=true:=by
  rw [yh7,show (trA to x).kind=x.kind from rfl,show (trA to x).kids=x.kids from rfl,e10,e11,zc9 hb e10 e11];rfl
 refine ⟨_,_,y0f hd hrun hgood (λ_ _=>rfl) (λk _=>by cases x;rfl) hfi ?_ (by cases x;rfl) rfl rfl (hr.outs λv hv=>hto v (by rw [y28];simp [hv]))⟩;rw [z1c u f deep w all' hb2 e10 e11];exact j3m (x:=x) rfl rfl rfl rfl rfl hr hv
theorem go_t (u:Un) (f:Fl):∀ (l:List Nd),(∀ x∈l,∀ q∈x.kids,TP u f q)->TP u f l
 | [],_=>λ_ _ _ _ _ _ h=>absurd rfl h
 | [x],ih=>λdeep w all all' to hty _ hnd hall hto hr hv=>by
  simp only [vGo,A0,Ap,List.isEmpty_nil] at hv;have hd:¬ deep > 100:=by simpa using hv.1.1.1
  have hdl:dL [x]=dN x:=by simp [dL]
  rw [hdl] at hnd hall hto;obtain ⟨M,to',p⟩:=yk3 u f x (ih x (.head _)) deep w all all' to hty hd hnd hall hto hr hv.1.1.2;rcases p.post with ⟨c1,c2,c3,c4,c5⟩ | ⟨c1,_⟩
  ·refine ⟨M,to',⟨λout ho=>?_,λout ho=>?_,c2,c3,c4.trans (by rw [z42]),c5.trans (by rw [z42]),λk hk=>by rw [p.cn k hk];simp [kcL],λv hv=>p.keys v (by rwa [hdl] at hv),p.fine⟩⟩
   ·simp only [trR,p.run];split<;>rfl
   ·simp only [gdR,p.good,Bb,C7]
  ·rw [hv.1.2] at c1;cases c1
 | x::y::r,ih=>λdeep w all all' to hty _ hnd hall hto hr hv=>by
  unfold vGo at hv;simp only [A0,Ap,List.isEmpty_cons] at hv;have hd:¬ deep > 100:=by simpa using hv.1.1.1
  have hdl:dL (x::y::r)=dN x++dL (y::r):=by rw [dL]
  rw [hdl] at hnd hall hto;obtain ⟨n1,n2,n3⟩:=Co.1 hnd;obtain ⟨M,to',p⟩:=yk3 u f x (ih x (.head _)) deep w all all' to hty hd n1 (λv hv=>hall v (by simp [hv])) (λv hv=>hto v (by simp [hv])) hr hv.1.1.2;rcases p.post with ⟨c1,_⟩ | ⟨c1,c2,c3⟩
  ·rw [hv.1.2] at c1;cases c1
  ·obtain ⟨N,to2,q⟩:=go_t u f (y::r) (λz hz=>ih z (.tail _ hz)) deep w (all++x.outs) (all'++M.flatMap Nd.outs) to' hty sI0 n2 (λv hm=>by
    rw [Ce,hall v (by simp [hm]),Bs,<- Ds,List.contains_iff_mem];exact λho=>n3 v (by rw [y28];simp [ho]) v hm rfl) (λv hm=>(p.keys v λhn=>n3 v hn v hm rfl).trans (hto v (by simp [hm]))) c3 hv.2
   have hop:∀ out,z1d out=false->z1d (out++(trN to x).1)=false:=λout ho=>by rw [p.run];exact yk7 c2 ho
   refine ⟨M++N,to2,⟨λout ho=>?_,λout ho=>?_,go_app u f deep w M N all' q.ne c2 q.valid,λe=>q.ne (List.append_eq_nil_iff.1 e).2,?_,?_,λk hk=>?_,λv hv=>?_,by rw [y9s,p.fine,q.fine];rfl⟩⟩
   ·have h1:=hop out ho;rw [trR,if_neg (by rw [h1];simp),p.run];rw [p.run] at h1;rw [q.run _ h1,Ca]
   ·have h1:=hop out ho;rw [gdR,p.good,Av,h1,Bs];rw [p.run] at h1 ⊢;exact q.good _ h1
   ·rw [z5c q.ne,show x::y::r=[x]++(y::r) from rfl,z5c sI0];exact q.l12
   ·rw [z5c q.ne,show x::y::r=[x]++(y::r) from rfl,z5c sI0];exact q.l14
   ·rw [z94,p.cn k hk,q.cn k hk];simp [kcL]
   ·rw [hdl] at hv;simp only [Ay,not_or] at hv;rw [q.keys v hv.2,p.keys v hv.1]
theorem zn6 (u:Un) (f:Fl):∀ (N:Nat) (l:List Nd),SizeOf.sizeOf l<N->TP u f l
 | 0,_,h=>absurd h (Ae _)
 | N+1,l,hN=>go_t u f l λx hx q hq=>zn6 u f N q (B4 (z79 hx rfl hq) (Bv hN))
theorem j09 {u:Un} {f:Fl} (h:z4o u f=true):HT f:=λv h0 h1=>by
 unfold z4o at h;simp only [A0] at h;have ht:=h.1.2;rw [Ba] at ht;have hlt:v.toNat<f.types.length:=by omega
 have:=ht (f.types[v.toNat]) (Cu hlt);rw [Ax,A7 hlt];simp only [C4];intro e;rw [e] at this;simp at this
theorem zj2 {u:Un} {f:Fl} (hF:z4o u f=true):∃ N to',TPost u f 1 z3n (iota f.params.toNat) [] f.body N to':=by
 have h:=zj7 hF;have hp:=z92 hF;have hv:=h.1;simp only [z3z,A0] at hv;exact zn6 u f _ f.body (A4 _) 1 z3n (iota f.params.toNat) (iota f.params.toNat) [] (j09 hF) (by intro e;rw [e] at hv;simp at hv) h.2.1 (λv hm=>by
  have:=h.2.2 v hm
  cases hc:(iota f.params.toNat).contains v with
  | false=>rfl
  | true=>rw [y00 hp hc] at this;cases this) (λ_ _=>rfl) (λv hv v0 v1=>⟨hv,v0,v1,rfl⟩) hv.2
theorem yq8 (x:Nd):List.Sublist (dN (z9v x)) (dN x):=by
 unfold z9v;split
 ·rw [y28,y28];exact (List.Sublist.refl _).append ((List.Sublist.refl _).append (List.nil_sublist _))
 ·exact .refl _
mutual
theorem j47:∀ x:Nd,List.Sublist (dN (tdN x)) (dN x)
 | .mk kind op n name args outs params ks=>by
  unfold tdN;refine (yq8 _).trans ?_;simp only [dN];exact (List.Sublist.refl _).append ((j46 ks).append (List.Sublist.refl _))
theorem y6a:∀ l:List Nd,List.Sublist (dL (tdL l)) (dL l)
 | []=>.refl _
 | x::r=>by
  unfold tdL;split
  ·simp only [dL,Cn];exact (j47 x).trans (List.sublist_append_left _ _)
  ·simp only [dL];exact (j47 x).append (y6a r)
theorem j46:∀ ks:List (List Nd),List.Sublist (dK (tdK ks)) (dK ks)
 | []=>.refl _
 | l::r=>by
  simp only [tdK,dK];exact (y6a l).append (j46 r)
end
theorem kid0_sub:∀ K:List (List Nd),List.Sublist (dL (kid0 K)) (dK K)
 | []=>by simp [kid0,dL,dK]
 | l::r=>by simp only [kid0,dK,Cj,C4];exact List.sublist_append_left _ _
theorem zt0:∀ l:List Nd,List.Sublist (dL l.dropLast) (dL l)
 | []=>.refl _
 | [x]=>List.nil_sublist _
 | x::y::r=>by
  rw [List.dropLast_cons_cons];simp only [dL];exact (List.Sublist.refl _).append (zt0 (y::r))
mutual
theorem j4e:∀ (x:Nd) (to:TT),List.Sublist (dL (trN to x).1) (dN x)
 | .mk kind op n name args outs params ks,to=>by
  have one:∀ K:List (List Nd),List.Sublist (dK K) (dK ks)->List.Sublist (dL [.mk kind op n name (args.map (z0l to)) outs params K]) (dN (.mk kind op n name args outs params ks)):=λK h=>by
   simp only [dL,dN,Cn];exact (List.Sublist.refl _).append (h.append (List.Sublist.refl _))
  have inn:∀ L:List Nd,List.Sublist (dL L) (dK ks)->List.Sublist (dL L) (dN (.mk kind op n name args outs params ks)):=λL h=>by
   simp only [dN];exact (h.trans (List.sublist_append_left _ _)).trans (List.sublist_append_right _ _)
  unfold trN;split
  ·split
   ·have h:=(kid0_sub _).trans (zy6 ks (z0h params (args.map (z0l to)) to));split
    ·exact inn _ ((zt0 _).trans h)
    ·exact inn _ h
   ·exact one _ (zy6 ks to)
  ·split
   ·split
    ·exact List.nil_sublist _
    ·exact one _ (zy6 ks to)
   ·exact one _ (.refl _)
theorem yf9:∀ (l out:List Nd) (to:TT),List.Sublist (dL (trR out to l).1) (dL out++dL l)
 | [],out,to=>by simp [trR,dL]
 | x::r,out,to=>by
  have h1:=j4e x to;unfold trR;split
  ·simp only [j00,dL];exact (List.Sublist.refl _).append (h1.trans (List.sublist_append_left _ _))
  ·refine (yf9 r _ _).trans ?_;simp only [j00,dL,Ca];exact (List.Sublist.refl _).append (h1.append (List.Sublist.refl _))
theorem zy6:∀ (ks:List (List Nd)) (to:TT),List.Sublist (dK (trKs to ks).1) (dK ks)
 | [],_=>by simp [trKs,dK]
 | l::r,to=>by
  have h:=(y6a (trR [] to l).1).trans (yf9 l [] to);simp only [trKs,dK];exact (by simpa [dL] using h:List.Sublist _ (dL l)).append (zy6 r _)
end
mutual
theorem wt_tdN:∀ x:Nd,wtN (tdN x)<=wtN x
 | .mk kind op n name args outs params ks=>by
  have hk:=wt_tdK ks;unfold tdN z9v;split
  ·simp only [wtN,Nd.name,Nd.args,Nd.params,Nd.kids,At];omega
  ·simp only [wtN];omega
theorem y9e:∀ l:List Nd,(tdL l).length+wtL (tdL l)<=l.length+wtL l
 | []=>Aa _
 | x::r=>by
  have h1:=wt_tdN x;have h2:=y9e r;unfold tdL;split
  ·simp only [Ad,At,wtL];omega
  ·simp only [Ad,wtL];omega
theorem wt_tdK:∀ ks:List (List Nd),wtK (tdK ks)<=wtK ks
 | []=>Aa _
 | l::r=>by
  have h1:=y9e l;have h2:=wt_tdK r;simp only [tdK,wtK];omega
end
theorem wt_kid0:∀ K:List (List Nd),(kid0 K).length+wtL (kid0 K)<=wtK K
 | []=>by simp [kid0,wtL,wtK]
 | l::r=>by simp only [kid0,wtK,Cj,C4];omega
theorem y25:∀ l:List Nd,l.dropLast.length+wtL l.dropLast<=l.length+wtL l
 | []=>Aa _
 | [x]=>by simp [wtL]
 | x::y::r=>by
  have h:=y25 (y::r);rw [List.dropLast_cons_cons];simp only [Ad,wtL] at h ⊢;omega
mutual
theorem wt_trN:∀ (x:Nd) (to:TT),(trN to x).1.length+wtL (trN to x).1<=1+wtN x
 | .mk kind op n name args outs params ks,to=>by
  unfold trN;split
  ·split
   ·have h1:=y6m ks (z0h params (args.map (z0l to)) to);have h2:=wt_kid0 (trKs (z0h params (args.map (z0l to)) to) ks).1;have h3:=y25 (kid0 (trKs (z0h params (args.map (z0l to)) to) ks).1);split
    ·simp only [wtN];omega
    ·simp only [wtN];omega
   ·have h1:=y6m ks to;simp only [wtL,wtN,Ad,At,A5];omega
  ·split
   ·split
    ·simp [wtL]
    ·have h1:=y6m ks to;simp only [wtL,wtN,Ad,At,A5];omega
   ·simp only [wtL,wtN,Ad,At,A5];omega
theorem yo9:∀ (l out:List Nd) (to:TT),(trR out to l).1.length+wtL (trR out to l).1<=out.length+wtL out+(l.length+wtL l)
 | [],out,to=>by simp [trR,wtL]
 | x::r,out,to=>by
  have h1:=wt_trN x to;have h2:=yo9 r (out++(trN to x).1) (trN to x).2;rw [B3,y24] at h2;unfold trR;split
  ·simp only [B3,y24,Ad,wtL];omega
  ·simp only [Ad,wtL];omega
theorem y6m:∀ (ks:List (List Nd)) (to:TT),wtK (trKs to ks).1<=wtK ks
 | [],_=>by simp [trKs]
 | l::r,to=>by
  have h1:=yo9 l [] to;have h2:=y9e (trR [] to l).1;have h3:=y6m r (trR [] to l).2;simp only [At,wtL] at h1;simp only [trKs,wtK];omega
end
theorem zp8 (l:List Nd):z0u (trB l)<=z0u l:=by
 have h1:=yo9 l [] [];have h2:=y9e (trR [] [] l).1;simp only [At,wtL] at h1;unfold z0u trB trL;dsimp only;omega
mutual
theorem yf8 (u:Un) (f:Fl):∀ (x:Nd) (deep:Int) (w:Wh) (all:List Int),z4r u f deep w all x=true->y6d x=true
 | .mk kind op n name args outs params ks,deep,w,all,hv=>by
  have hb:=z1e u f deep _ all hv
  by_cases h10:kind=10
  ·obtain ⟨a,b,hk⟩:=z34 hb h10;rw [z52 u f deep _ all hb h10 hk] at hv;simp only [A0,z3z] at hv;simp only [Nd.kids] at hk
   match ks,hk with
   | [a',b'],hk =>
    cases hk
    subst h10;simp only [y6d,y93,A0,C7];exact ⟨⟨rfl,rfl⟩,⟨hv.1.1.1.2.1,z7s u f a _ _ _ hv.1.1.1.2.2⟩,hv.1.1.2.1,z7s u f b _ _ _ hv.1.1.2.2⟩
  by_cases h11:kind=11
  ·obtain ⟨a,hk⟩:=z1r hb h11;rw [z2y u f deep _ all hb h11 hk] at hv;simp only [A0,z3z] at hv;have hpl:args.length=params.length:=z4d (z1o hv.1.1.1.2) hv.1.1.1.1;simp only [Nd.kids] at hk
   match ks,hk with
   | [a'],hk =>
    cases hk
    subst h11;simp only [y6d,y93,A0,C7];exact ⟨⟨rfl,by rw [hpl];simp⟩,hv.1.1.2.1,z7s u f a _ _ _ hv.1.1.2.2⟩
  have e10:(kind==10)=false:=by simpa using h10
  have e11:(kind==11)=false:=by simpa using h11
  have hk0:ks=[]:=zc9 hb e10 e11;subst hk0;simp only [y6d,y93,bne,e10,e11,D3,B9,C7]
theorem z7s (u:Un) (f:Fl):∀ (l:List Nd) (deep:Int) (w:Wh) (all:List Int),vGo u f deep w all l=true->zw3 l=true
 | [],_,_,_,_=>rfl
 | x::r,deep,w,all,hv=>by
  simp only [vGo,A0] at hv;simp only [zw3,A0];exact ⟨yf8 u f x deep w all hv.1.1.2,z7s u f r deep w _ hv.2⟩
end
def trGood (l:List Nd):Prop:=zw3 l=true/\gdR [] [] l=true
theorem yw5 {u:Un} (h:(z65 u).1=0):∀ f∈u.flows,trGood f.body:=by
 rw [zr8] at h;intro f hf;have hF:=((z6a u).1 h).2 f hf;have hb:=(zj7 hF).1;simp only [z3z,A0] at hb;obtain ⟨N,to',p⟩:=zj2 hF;exact ⟨z7s u f f.body 1 _ _ hb.2,p.good [] rfl⟩
theorem y2n {u:Un} (h:(z1b u).1=0):z1b (z47 trB u)=(0,0) :=
 check_m trB h λf hf hB=>by
  obtain ⟨N,to',p⟩:=zj2 (((z6a u).1 h).2 f hf);have e:trB f.body=N:=by unfold trB;rw [p.tr]
  refine ⟨?_,?_⟩
  ·rw [e];simp only [z3z,A0];refine ⟨?_,p.valid⟩
   cases hN:N with
   | nil=>exact absurd hN p.ne
   | cons _ _=>rfl
  ·have hs:List.Sublist (dL (trB f.body)) (dL f.body):=by
    have:=(y6a (trR [] [] f.body).1).trans (yf9 f.body [] []);show List.Sublist (dL (tdL (trR [] [] f.body).1)) (dL f.body);simpa [dL] using this
   exact ⟨hB.2.1.sublist hs,λv hv=>hB.2.2 v (hs.subset hv)⟩
def y45 (u:Un):Bool:=u.flows.all λf=>fiL f.body
theorem y3j (u:Un):y45 (z7g trB u).1=true:=by
 by_cases h:(z1b u).1=0
 ·rw [z60 trB h];unfold y45;rw [Ba];intro g hg;obtain ⟨f,hf,rfl⟩:=C5.1 (show g∈u.flows.map (z4t trB) from hg);obtain ⟨N,to',p⟩:=zj2 (((z6a u).1 h).2 f hf);have e:trB f.body=N:=by unfold trB;rw [p.tr]
  show fiL (trB f.body)=true;rw [e];exact p.fine
 ·rw [y3a trB h];rfl
theorem EqT.stand:∀ {l m p:List Int} {to:TT} {S a a2 b:List Int},EqT to S a b->l.Nodup->(∀ v∈l,v∉S)->l.length=m.length->mOf b m=some p->mSet a l p=some a2->EqT (z0h l m to) (S++l) a2 b
 | [],m,p,to,S,a,a2,b,h,_,_,_,_,h2=>by
  cases h2
  have:z0h [] m to=to:=by cases m<;>rfl
  rw [this,Cn];exact h
 | v::l,[],_,_,_,_,_,_,_,_,_,hl,_,_=>by simp at hl
 | v::l,t::m,p,to,S,a,a2,b,h,hn,hs,hl,h1,h2=>by
  obtain ⟨y,p',a1,rfl,g1,g2⟩:=zb0 h2;simp only [mOf,Ak,A1] at h1;obtain ⟨y',e1,q,e2,e3⟩:=h1;obtain ⟨rfl,rfl⟩:=List.cons.inj e3;obtain ⟨n1,n2⟩:=Dp.1 hn;have h3:EqT (aPut v t to) (S++[v]) a1 b:=by
   intro x hx;rw [zk1 g1]
   by_cases e:x=v
   ·subst e;rw [if_pos rfl];have:z0l (aPut x t to) x=t:=by unfold z0l;rw [zj0,if_pos rfl];rfl
    rw [this,e1]
   ·rw [if_neg e];have:z0l (aPut v t to) x=z0l to x:=by unfold z0l;rw [zj0,if_neg e]
    rw [this];exact h x ((Ay.1 hx).resolve_right λhh=>e (Aj.1 hh))
  have h4:=EqT.stand h3 n2 (λw hw hm=>by
   rcases Ay.1 hm with hm | hm
   ·exact hs w (.tail _ hw) hm
   ·exact n1 (Aj.1 hm ▸ hw)) (by simpa using hl) e2 g2
  rw [Ca] at h4;exact h4
def LA (u:Un) (f:Fl) (l:List Nd):Prop:=∀ (deep:Int) (w:Wh) (all all':List Int) (to:TT) (N:List Nd) (to':TT),HT f->l≠[]->New f (dL l) all all' to->vGo u f deep w all l=true->TPost u f deep w all' to l N to' ->
 ∀ (K:List KF) (t0:TT) (S0 S1:List Int) (y nx lv:Bool),Ends t0 to S0 S1 all->(K=[]∨(kcL 13 l=0/\kcL 14 l=0/\w.If=false))->(kcL 13 l≠0->nx=true)->(kcL 14 l≠0->lv=true)->(z0f l=12->y=true) ->
 LRel 0 0 (EqT to all) l K N (TEnd t0 S0 S1 y nx lv)
def LB (u:Un) (f:Fl) (l:List Nd):Prop:=∀ (deep:Int) (w:Wh) (all all':List Int) (to:TT) (N:List Nd) (to':TT),HT f->l≠[]->New f (dL l) all all' to->vGo u f deep w all l=true->TPost u f deep w all' to l N to' ->
 ∀ (g:KF) (K:List KF) (R':List Nd) (t0:TT) (S0 S1:List Int) (y nx lv:Bool) (tX:TT) (SX:List Int),Ends t0 to S0 S1 all->z0f l=g.k->(g.k=12∨g.k=14)->kcL 13 l=0->(kcL 14 l=0∨(g.k=14/\kcL 14 l=1)) ->
 (∀ a b p a2,EqT to' all a b->mOf b (z3m N)=some p->mSet a g.outs p=some a2->EqT tX SX a2 b)->LRel 0 0 (EqT tX SX) g.rest K R' (TEnd t0 S0 S1 y nx lv)->LRel 0 0 (EqT to all) l (g::K) (N.dropLast++R') (TEnd t0 S0 S1 y nx lv)
def NR (u:Un) (f:Fl) (x:Nd):Prop:=∀ (deep:Int) (w:Wh) (all all':List Int) (to:TT) (M:List Nd) (to':TT),HT f->New f (dN x) all all' to->z4r u f deep w all x=true->NPost u f deep w all all' to x M to' ->
 ∀ (r:List Nd) (K:List KF) (R':List Nd) (t0:TT) (S0 S1:List Int) (y nx lv:Bool),Ends t0 to S0 S1 all->(K=[]∨(cnN 13 x=0/\cnN 14 x=0))->(cnN 13 x≠0->nx=true)->(cnN 14 x≠0->lv=true)->(x.kind=12->K=[]/\y=true) ->
 (z03 x=false->LRel 0 0 (EqT to' (all++x.outs)) r K R' (TEnd t0 S0 S1 y nx lv))->(z03 x=true->r=[]/\R'=[])->LRel 0 0 (EqT to all) (x::r) K (M++R') (TEnd t0 S0 S1 y nx lv)
theorem rest_r {J:VR} {r:List Nd} {K:List KF} {R':List Nd} {E:ER} {x:Nd} (hL:z03 x=false->LRel 0 0 J r K R' E):LRel 0 0 (λa b=>z03 x=false/\J a b) r K R' E:=by
 cases hc:z03 x with
 | true=>exact .dead λ_ _ h=>by cases h.1
 | false=>exact .weak (λ_ _ h=>h.2) (hL hc)
theorem if_r (u:Un) (f:Fl) (x:Nd) (ih:∀ q∈x.kids,LA u f q/\LB u f q) (h10:x.kind=10):NR u f x:=by
 intro deep w all all' to M to' hty nw hv p r K R' t0 S0 S1 y nx lv he hK h13 h14 _ hL hC;have hb:=z1e u f deep _ all hv;obtain ⟨a,b,hk⟩:=z34 hb h10;rw [z52 u f deep w all hb h10 hk] at hv;simp only [A0] at hv;have hdn:dN x=dL a++(dL b++x.outs):=dN_if hb h10 hk;have hva:=hv.1.1.1.2;have hvb:=hv.1.1.2;simp only [z3z,A0] at hva hvb;have hna:a≠[]:=by intro e;subst e;simp at hva
 have hnb:b≠[]:=by intro e;subst e;simp at hvb
 obtain ⟨n1,n2,n3⟩:=Co.1 (hdn ▸ nw.nd);obtain ⟨n4,n5,n6⟩:=Co.1 n2;have ma:∀ v∈dL a,v∈dN x:=λv h=>by rw [hdn];simp [h]
 have mb:∀ v∈dL b,v∈dN x:=λv h=>by rw [hdn];simp [h]
 have mo:∀ v∈x.outs,v∈dN x:=λv h=>by rw [hdn];simp [h]
 have nwa:=nw.sub n1 ma;obtain ⟨Na,to1,pa⟩:=zn6 u f _ a (A4 _) (deep+1) (w1 w f x) all all' to hty hna n1 nwa.fa nwa.ft nw.rel hva.2;have k1:∀ v∈all,aGet v to1=aGet v to:=λv hv'=>pa.keys v λhm=>nw.na (ma v hm) hv';have nwb:New f (dL b) all all' to1:=(nw.sub n4 mb).to k1 λv hm=>pa.keys v λh=>n3 v h v (by simp [hm]) rfl;obtain ⟨Nb,to2,pb⟩:=zn6 u f _ b (A4 _) (deep+1) (w1 w f x) all all' to1 hty hnb n4 nwb.fa nwb.ft nwb.rel hvb.2;have k2:∀ v∈all,aGet v to2=aGet v to1:=λv hv'=>pb.keys v λhm=>nw.na (mb v hm) hv';have k3:∀ v∈all,z0l to2 v=z0l to v:=λv hv'=>z72 ((k2 v hv').trans (k1 v hv'));have hks:trKs to x.kids=([Na,Nb],to2):=by rw [hk,z4c,pa.tr,z4c,pb.tr];rfl
 have hrun:=zf9 to x;rw [if_neg (by simp [h10]),if_pos (by simp [h10]),p.run] at hrun;unfold z85 at hrun;rw [show (trA to x).kids=x.kids from rfl,hks] at hrun;have hcx:∀ k,k=13∨k=14->cnN k x=kcL k a+kcL k b:=λk hk2=>by
  rw [z9o,if_neg (by rw [h10];rcases hk2 with rfl | rfl<;>decide),if_pos (by simp [h10]),hk];simp [cnK]
 have hse:=z2k hv.1.1.1.1;have hino:inR f.types.length x.outs:=z1o hv.2
 by_cases hid:z2v Na Nb=true
 ·rw [if_pos (show z2v (kid0 [Na,Nb]) (kid1 [Na,Nb])=true from hid)] at hrun
  match hNa:Na,hNb:Nb,hid with
  | [ya],[yb],hid =>
   subst hNa hNb;simp only [z2v,A0,Ap] at hid;have la:z0f a=12:=pa.l12.1 (by rw [z42];exact hid.1.1);have lb:z0f b=12:=pb.l12.1 (by rw [z42];exact hid.1.2);have cy:∀ (y:Nd) k,y.kind=12->k=13∨k=14->kcL k [y]=0:=λy k e hk2=>by
    simp only [kcL,z9o,e];rcases hk2 with rfl | rfl<;>rfl
   have ca:∀ k,k=13∨k=14->kcL k a=0:=λk hk2=>(pa.cn k hk2).symm.trans (cy ya k hid.1.1 hk2);have cb:∀ k,k=13∨k=14->kcL k b=0:=λk hk2=>(pb.cn k hk2).symm.trans (cy yb k hid.1.2 hk2);obtain ⟨rfl,rfl⟩:=Dh hrun.symm;have cl:z03 x=false:=by rw [za3 h10 hk,(z97 a).2 la];rfl
   have hva2:=pa.valid;simp only [vGo,A0] at hva2;have hlen:=z4d hino (yk1 hva2.1.1.2 hid.1.1).2;have hst:∀ tt,(∀ v∈all,z0l tt v=z0l to2 v)->∀ a b p a2,EqT tt all a b->mOf b ya.args=some p->mSet a x.outs p=some a2->EqT (z0h x.outs ya.args to2) (all++x.outs) a2 b:=λtt ht a b p a2 hI g1 g2 =>
    EqT.stand (hI.sub λv hv=>⟨hv,ht v hv⟩) n5 (λv hv hm=>nw.na (mo v hv) hm) hlen.symm g1 g2
   refine .fork h10 hk ?_ ?_
   ·exact (ih a (by rw [hk];simp)).2 (deep+1) (w1 w f x) all all' to [ya] to1 hty hna nwa hva.2 pa ⟨12,x.outs,r⟩ K R' t0 S0 S1 y nx lv _ _ he la (.inl rfl) (ca 13 (.inl rfl)) (.inl (ca 14 (.inr rfl)))
     (hst to1 λv hv=>(z72 (k2 v hv)).symm) (hL cl)
   ·refine .weak (λa b hI=>hI.sub λv hv=>⟨hv,(z72 (k1 v hv)).symm⟩) ((ih b (by rw [hk];simp)).2 (deep+1) (w1 w f x) all all' to1 [yb] to2 hty hnb nwb hvb.2 pb ⟨12,x.outs,r⟩ K R' t0 S0 S1 y nx lv _ _ (he.step (λ_ h=>h) k1) lb (.inl rfl) (cb 13 (.inl rfl)) (.inl (cb 14 (.inr rfl)))
     (λa b p a2 hI g1 g2=>hst to2 (λ_ _=>rfl) a b p a2 hI (by rw [hid.2];exact g1) g2) (hL cl))
 ·rw [if_neg (show ¬ z2v (kid0 [Na,Nb]) (kid1 [Na,Nb])=true from hid)] at hrun;obtain ⟨rfl,rfl⟩:=Dh hrun.symm;have hy:∀ q,(q=a∨q=b)->z0f q=12->(!z03 x)=true:=λq hq e=>by
   rw [za3 h10 hk];rcases hq with rfl | rfl<;>rw [(z97 q).2 e]<;>simp
  have hn:∀ q k,k=13∨k=14->(q=a∨q=b)->kcL k q≠0->(cnN k x != 0)=true:=λq k hk2 hq e=>by
   have:=hcx k hk2;rw [bne_iff_ne];rcases hq with rfl | rfl<;>omega
  refine .ite (J:=λa b=>z03 x=false/\EqT to2 (all++x.outs) a b) (E2:=TEnd to all S1 (!z03 x) (cnN 13 x != 0) (cnN 14 x != 0)) h10 h10 hk rfl (λa b p p' hI g g'=>?_) ?_ ?_ (λn p p' a b he2=>?_) (rest_r hL)
  ·have e:=hI.mof hse;rw [g] at e;have e2:mOf b (x.args.map (z0l to))=some p':=g';rw [e] at e2;rw [Bn e2]
  ·exact (ih a (by rw [hk];simp)).1 (deep+1) (w1 w f x) all all' to Na to1 hty hna nwa hva.2 pa [] to all S1 _ _ _ ⟨λv hv=>⟨hv,rfl⟩,λv hv=>⟨(he.s1 v hv).1,rfl⟩⟩ (.inl rfl) (hn a 13 (.inl rfl) (.inl rfl)) (hn a 14 (.inr rfl) (.inl rfl)) (hy a (.inl rfl))
  ·exact .weak (λa b hI=>hI.sub λv hv=>⟨hv,(z72 (k1 v hv)).symm⟩) ((ih b (by rw [hk];simp)).1 (deep+1) (w1 w f x) all all' to1 Nb to2 hty hnb nwb hvb.2 pb [] to all S1 _ _ _ ⟨λv hv=>⟨hv,z72 (k1 v hv)⟩,λv hv=>⟨(he.s1 v hv).1,z72 (k1 v (he.s1 v hv).1)⟩⟩ (.inl rfl) (hn b 13 (.inl rfl) (.inr rfl)) (hn b 14 (.inr rfl) (.inr rfl)) (hy b (.inr rfl)))
  ·rcases he2 with ⟨rfl,hy2,rfl,hI⟩ | ⟨rfl,hy2,rfl,hI⟩ | ⟨rfl,hy2,rfl,hI⟩ | ⟨rfl,rfl⟩
   ·refine .inl ⟨rfl,λa2 b2 g g'=>⟨by simpa using hy2,EqT.sets (hI.sub λv hv=>⟨hv,(k3 v hv).symm⟩) g g' (λv hv hm=>?_) λv hv=>?_⟩⟩
    ·rw [k3 v hv] at hm;exact nw.stv v hv _ (mo _ hm) rfl
    ·rw [pb.keys v λhm=>n6 v hm v hv rfl,pa.keys v λhm=>n3 v hm v (by simp [hv]) rfl];exact nw.ft v (mo v hv)
   ·have h0:=bne_iff_ne.1 hy2;exact .inr ⟨by decide,by decide,.inl (hK.resolve_right λh=>h0 h.1),.inr (.inl ⟨rfl,h13 h0,rfl,hI.sub λv hv=>⟨hv,(he.s1 v hv).2⟩⟩)⟩
   ·have h0:=bne_iff_ne.1 hy2;exact .inr ⟨by decide,by decide,.inl (hK.resolve_right λh=>h0 h.2),.inr (.inr (.inl ⟨rfl,h14 h0,rfl,hI.sub λv hv=>⟨hv,(he.s1 v hv).2⟩⟩))⟩
   ·exact .inr ⟨by decide,by decide,.inr rfl,.inr (.inr (.inr ⟨rfl,rfl⟩))⟩
theorem loop_r (u:Un) (f:Fl) (x:Nd) (ih:∀ q∈x.kids,LA u f q/\LB u f q) (h11:x.kind=11):NR u f x:=by
 intro deep w all all' to M to' hty nw hv p r K R' t0 S0 S1 y nx lv he hK h13 h14 _ hL hC;have hb:=z1e u f deep _ all hv;obtain ⟨a,hk⟩:=z1r hb h11;rw [z2y u f deep w all hb h11 hk] at hv;simp only [A0] at hv;have hdn:dN x=x.params++(dL a++x.outs):=y4h hk;have hva:=hv.1.1.2;simp only [z3z,A0] at hva;have hne:a≠[]:=by intro e;subst e;simp at hva
 obtain ⟨n1,n2,n3⟩:=Co.1 (hdn ▸ nw.nd);obtain ⟨n4,n5,n6⟩:=Co.1 n2;have mp:∀ v∈x.params,v∈dN x:=λv h=>by rw [hdn];simp [h]
 have ma:∀ v∈dL a,v∈dN x:=λv h=>by rw [hdn];simp [h]
 have mo:∀ v∈x.outs,v∈dN x:=λv h=>by rw [hdn];simp [h]
 have hinp:inR f.types.length x.params:=z1o hv.1.1.1.2;have hino:inR f.types.length x.outs:=z1o hv.2;have htp:z07 f.types all' (x.args.map (z0l to)) (r8of f.types x.params)=true:=zn9 nw.rel hv.1.1.1.1;have hpl:x.args.length=x.params.length:=z4d hinp hv.1.1.1.1;have hse:=z2k hv.1.1.1.1;have hda:∀ v∈dL a,(all++x.params).contains v=false:=λv hm=>by
  rw [Ce,nw.fa v (ma v hm),Bs,<- Ds,List.contains_iff_mem];exact λhp=>n3 v hp v (by simp [hm]) rfl
 have hinr:inR f.types.length (all++x.params):=λv hv=>by
  rcases Ay.1 hv with h | h
  ·exact nw.inr v h
  ·exact hinp v h
 have hrun:=zf9 to x;rw [if_pos (by simp [h11]),p.run] at hrun;unfold zc5 at hrun;rw [show (trA to x).kids=x.kids from rfl,show (trA to x).params=x.params from rfl,show (trA to x).outs=x.outs from rfl,show (trA to x).args=x.args.map (z0l to) from rfl,hk] at hrun
 by_cases ho:z2s a=true
 ·rw [if_pos (show z2s (kid0 [a])=true from ho)] at hrun;have hr1:Rel f.types (z0h x.params (x.args.map (z0l to)) to) (all++x.params) all':=zn2 hty nw.rel n1 hinp htp;have nwa:New f (dL a) (all++x.params) all' (z0h x.params (x.args.map (z0l to)) to) :=
   ⟨n4,hda,λv hm=>nw.fb v (ma v hm),λv hm=>(z4n _ _ _ v λhp=>n3 v hp v (by simp [hm]) rfl).trans (nw.ft v (ma v hm)),hr1,hinr⟩
  obtain ⟨Na,to2,pa⟩:=zn6 u f _ a (A4 _) (deep+1) (w2 f x) (all++x.params) all' (z0h x.params (x.args.map (z0l to)) to) hty hne n4 hda nwa.ft hr1 hva.2;have hks:trKs (z0h x.params (x.args.map (z0l to)) to) [a]=([Na],to2):=by rw [z4c,pa.tr];rfl
  rw [hks] at hrun;have k1:∀ v∈all,aGet v (z0h x.params (x.args.map (z0l to)) to)=aGet v to:=λv hv=>z4n _ _ _ v λhp=>nw.na (mp v hp) hv;have ent:∀ a b p a2,EqT to all a b->mOf a x.args=some p->mSet a x.params p=some a2->EqT (z0h x.params (x.args.map (z0l to)) to) (all++x.params) a2 b:=λa b p a2 hI g g2 =>
   hI.stand n1 (λv hv hm=>nw.na (mp v hv) hm) (by simp [hpl]) (by rw [hI.mof hse];exact g) g2
  simp only [z2s,A0,Bk,Ap] at ho;have heA:Ends t0 (z0h x.params (x.args.map (z0l to)) to) S0 S1 (all++x.params):=he.step (λv hv=>Bp _ hv) k1
  by_cases hl:z0f Na=14
  ·have hlb:(z0f (kid0 ([Na],to2).1)==14)=true:=by show (z0f Na==14)=true;simp [hl]
   rw [if_pos hlb] at hrun;obtain ⟨rfl,rfl⟩:=Dh hrun.symm;have hla:=pa.l14.1 hl;have h1:=zh0 (.inr rfl) hla;have c14:kcL 14 a=1:=by omega
   have cl:z03 x=false:=by rw [z55 h11 hk,z4h,c14];rfl
   obtain ⟨A,e,hA,hA2,hA3,hA4⟩:=zh1 pa.ne;have hsp:=pa.valid;rw [hA] at hsp;obtain ⟨s1,s2⟩:=y4p hsp;have hlen:=z4d hino (node14 s2 (by rw [<- hA3];exact hl));refine .once h11 hk ent ((ih a (by rw [hk];simp)).2 (deep+1) (w2 f x) (all++x.params) all' _ Na to2 hty hne nwa hva.2 pa ⟨14,x.outs,r⟩ K R' t0 S0 S1 y nx lv _ _ heA hla (.inr rfl) ho.1 (.inr ⟨rfl,c14⟩) (λa b p a2 hI g1 g2=>?_) (hL cl));exact EqT.stand (hI.sub λv hv=>⟨Bp _ hv,rfl⟩) n5 (λv hv hm=>nw.na (mo v hv) hm) (show x.outs.length=(z3m Na).length by rw [hA4];exact hlen.symm) g1 g2
  ·have hlb:(z0f (kid0 ([Na],to2).1)==14)=false:=by show (z0f Na==14)=false;simp [hl]
   rw [if_neg (by rw [hlb];simp)] at hrun;obtain ⟨rfl,rfl⟩:=Dh hrun.symm;have hla:z0f a≠14:=λh=>hl (pa.l14.2 h);have c14:kcL 14 a=0:=by
    rcases ho.2 with h | h
    ·exact h
    ·exact absurd h.2 hla
   have cl:z03 x=true:=by rw [z55 h11 hk,z4h,c14];rfl
   obtain ⟨rfl,rfl⟩:=hC cl;rw [Cn];refine .once h11 hk ent ((ih a (by rw [hk];simp)).1 (deep+1) (w2 f x) (all++x.params) all' _ Na to2 hty hne nwa hva.2 pa _ t0 S0 S1 y nx lv heA (.inr ⟨ho.1,c14,rfl⟩) (λh=>absurd ho.1 h) (λh=>absurd c14 h) λh=>?_);have:=ya2 hva.2 ((z97 a).2 h)
   cases this
 ·rw [if_neg (show ¬ z2s (kid0 [a])=true from ho)] at hrun;have hrp:Rel f.types to (all++x.params) (all'++x.params):=nw.rel.outs λv hv=>nw.ft v (mp v hv);have nwa:New f (dL a) (all++x.params) (all'++x.params) to:=⟨n4,hda,λv hm hh=>by
   rcases Ay.1 hh with h | h
   ·exact nw.fb v (ma v hm) h
   ·exact n3 v h v (by simp [hm]) rfl,λv hm=>nw.ft v (ma v hm),hrp,hinr⟩
  obtain ⟨Na,to2,pa⟩:=zn6 u f _ a (A4 _) (deep+1) (w2 f x) (all++x.params) (all'++x.params) to hty hne n4 hda nwa.ft hrp hva.2;have hks:trKs to [a]=([Na],to2):=by rw [z4c,pa.tr];rfl
  rw [hks] at hrun;obtain ⟨rfl,rfl⟩:=Dh hrun.symm;have k2:∀ v∈all,z0l to2 v=z0l to v:=λv hv=>z72 (pa.keys v λhm=>nw.na (ma v hm) hv);have hcl:z03 x = !z11 a:=z55 h11 hk;have sp:∀ a b p a2 b2,EqT to all a b->mSet a x.params p=some a2->mSet b x.params p=some b2->EqT to (all++x.params) a2 b2:=λa b p a2 b2 hI g g' =>
   hI.sets g g' (λv hv hm=>nw.stv v hv _ (mp _ hm) rfl) λv hv=>nw.ft v (mp v hv)
  refine .loop (I2:=EqT to (all++x.params)) (J:=λa b=>z03 x=false/\EqT to2 (all++x.outs) a b) (E2:=TEnd to [] all false true (kcL 14 a != 0)) h11 h11 hk rfl (λa b p p' a2 b2 hI g g' t t'=>?_) ?_ (λn p p' a b he2=>?_) (rest_r hL)
  ·have e:=hI.mof hse;rw [g] at e;have e2:mOf b (x.args.map (z0l to))=some p':=g';rw [e] at e2;obtain rfl:=Bn e2;exact sp _ _ _ _ _ hI t t'
  ·exact (ih a (by rw [hk];simp)).1 (deep+1) (w2 f x) (all++x.params) (all'++x.params) to Na to2 hty hne nwa hva.2 pa [] to [] all false true _ ⟨λv hv=>by simp at hv,λv hv=>⟨Bp _ hv,rfl⟩⟩ (.inl rfl) (λ_=>rfl) (λh=>bne_iff_ne.2 h) λh=>by
    have:=ya2 hva.2 ((z97 a).2 h)
    cases this
  ·rcases he2 with ⟨_,hy2,_⟩ | ⟨rfl,hy2,rfl,hI⟩ | ⟨rfl,hy2,rfl,hI⟩ | ⟨rfl,rfl⟩
   ·cases hy2
   ·exact .inr (.inr ⟨rfl,λa2 b2 g g'=>sp _ _ _ _ _ hI g g'⟩)
   ·refine .inr (.inl ⟨rfl,λa2 b2 g g'=>⟨by rw [hcl,z4h,hy2];rfl,EqT.sets (hI.sub λv hv=>⟨hv,(k2 v hv).symm⟩) g g' (λv hv hm=>?_) λv hv=>?_⟩⟩)
    ·rw [k2 v hv] at hm;exact nw.stv v hv _ (mo _ hm) rfl
    ·rw [pa.keys v λhm=>n6 v hm v hv rfl];exact nw.ft v (mo v hv)
   ·exact .inl ⟨rfl,.inr (.inr (.inr ⟨rfl,rfl⟩))⟩
theorem lst_cons {x:Nd} {l:List Nd} (h:l≠[]):z2e (x::l)=z2e l:=by
 cases l with
 | nil=>exact absurd rfl h
 | cons y r=>simp [z2e,Fm]
theorem last_one (x:Nd):z2e [x]=if z0q x.kind then x.kind else 0:=by simp [z2e]
def NEnd (w:Wh) (x:Nd) (r:Rres):Prop:=(r.1.1=0/\z03 x=false)∨EOk w (x.kind==12) (z3r x) r
def LTot (u:Un) (n:Nat) (B M:Int) (d:Nat):Prop:=∀ f deep w seen l a s,l≠[]->vGo u f deep w seen l=true->a.length=f.types.length->Inv n B M s->3*s.fuel+1<=(d:Int) ->
 ∃ r,z2d u d l a s=some r/\Inv n B M r.2.2/\(Live r.2.2->r.2.2.fuel<s.fuel/\EOk w (z2e l==12) (z11 l) r)
def PTot (u:Un) (n:Nat) (B M:Int) (d:Nat):Prop:=∀ f deep x q seen a p s,x.kids=[q]->q≠[]->vGo u f deep (w2 f x) seen q=true->inR f.types.length x.params->inR f.types.length x.outs->p.length=x.params.length->a.length=f.types.length->Inv n B M s->3*s.fuel+2<=(d:Int) ->
 ∃ r,z3u u d x a p s=some r/\Inv n B M r.2.2/\(Live r.2.2->(r.1.1=0/\z11 q=true)∨(r.1.1=15/\r.1.2.length=1))
def CTot (u:Un) (n:Nat) (B M:Int) (d:Nat):Prop:=∀ k p s,0<=k->(∃ g,u.flows[k.toNat]? = some g/\(p.length:Int)=g.params)->Inv n B M s->3*s.fuel+2<=(d:Int)->∃ r,z4i u d k p s=some r/\Inv n B M r.2
def STot (u:Un) (n:Nat) (B M:Int) (d:Nat):Prop:=∀ x p s,SumOk u x p.length->InvS n B M s->3*s.fuel+3<=(d:Int)->∃ r,mSum u d x p s=some r/\Inv n B M r.2
theorem node_tot {u:Un} {n:Nat} {B M:Int} (hB:B<=4611686018427387903) (hv:∀ g∈u.flows,VF u g) {d:Nat} (i1:LTot u n B M d) (i2:PTot u n B M d) (i4:STot u n B M d)
 {f:Fl} {deep:Int} {w:Wh} {seen:List Int} {x:Nd} {a:List Int} {s:Rs} (hx:z4r u f deep w seen x=true) (ha:a.length=f.types.length) (hl:Live s) (hi:Inv n B M s) (hf:1<=s.fuel) (hd:3*s.fuel+1<=((d+1:Nat):Int)) :
 ∃ p r,mOf a x.args=some p/\z5o (z2d u d) (z3u u d) (mSum u d) x p a (dec s)=some r/\Inv n B M r.2.2/\(Live r.2.2->r.2.2.fuel<s.fuel/\NEnd w x r):=by
 have hb:=z1e u f deep w seen hx;have hiS:InvS n B M (dec s):=⟨(z4s hi.ok hf).1,(z4s hi.ok hf).2,by have:=hi.out;show (s.out.length:Int)+(s.fuel - 1)+1<=M;omega,hi.ar⟩;have hi1:Inv n B M (dec s):=⟨hiS.ok,by have:=hiS.out;omega,hiS.ar⟩;have hdf:(dec s).fuel=s.fuel - 1:=rfl;have ne:∀ {i:Int},x.kind≠i->(x.kind==i)=false:=λh=>Ab.2 h
 by_cases h10:x.kind=10
 ·obtain ⟨q0,q1,hk⟩:=z34 hb h10;rw [z52 u f deep w seen hb h10 hk] at hx;simp only [A0,z3z] at hx;obtain ⟨⟨⟨⟨v1,v2⟩,v3⟩,v4⟩,v5⟩:=hx;obtain ⟨t1,t2⟩:=zn8 v1;have hou:=z1o v5;obtain ⟨p,hp,hpl⟩:=y51 (a:=a) (l:=x.args) (by rw [ha];exact t2);obtain ⟨c,hc⟩:=zt5 (p:=p) (i:=0) (by rw [hpl,t1];decide);have hq:∃ q,x.kids[if c != 0 then 0 else 1]? = some q/\q≠[]/\vGo u f (deep+1) (w1 w f x) seen q=true/\(q=q0∨q=q1):=by
   rw [hk]
   by_cases hc0:(c != 0)=true
   ·rw [if_pos hc0];exact ⟨q0,rfl,by simpa using v2.1,v2.2,.inl rfl⟩
   ·rw [if_neg hc0];exact ⟨q1,rfl,by simpa using v3.1,v3.2,.inr rfl⟩
  obtain ⟨q,hq1,hq2,hq3,hq4⟩:=hq;obtain ⟨r2,g1,g2,g3⟩:=i1 f (deep+1) (w1 w f x) seen q a (dec s) hq2 hq3 ha hi1 (by rw [hdf];omega);have hlen:=z8j g1;have hlv:z11 q=true->z3r x=true:=λh=>by
   rw [z6f,h10,hk];rcases hq4 with rfl | rfl<;>simp [z3q,h]
  have hcl:z2e q=12->z03 x=false:=λh=>by
   rcases hq4 with rfl | rfl<;>simp [z03,h10,hk,kid0,kid1,h]
  by_cases hov:z16 r2.2.2=true
  ·refine ⟨p,r2,hp,?_,g2,λh=>by rw [z0t h] at hov;cases hov⟩;unfold z5o;simp only [h10,show ((10:Int)==1)=false from rfl,show ((10:Int)==2)=false from rfl,show ((10:Int)==12)=false from rfl,show ((10:Int)==13)=false from rfl,show ((10:Int)==14)=false from rfl,show ((10:Int)==15)=false from rfl,show ((10:Int)==10)=true from rfl,Fq,Ag,Bj,C1,hc,Bo,hq1,g1,hov,El,Cl]
  ·have hov':z16 r2.2.2=false:=by simpa using hov
   have hL2:=z80.1 hov';obtain ⟨e1,e2⟩:=g3 hL2
   by_cases h12:r2.1.1=12
   ·rcases e2 with ⟨_,e3,_,e4⟩ | ⟨e3,_⟩ | ⟨e3,_⟩ | ⟨e3,_⟩
    ·rw [show (w1 w f x).Yield=r8of f.types x.outs from rfl,zx8 hou] at e4;obtain ⟨a2,h2⟩:=zx5 (l:=x.outs) (p:=r2.1.2) (a:=r2.2.1) (by rw [hlen,ha];exact hou) e4;refine ⟨p,((0,[]),a2,r2.2.2),hp,?_,g2,λ_=>⟨by show r2.2.2.fuel<s.fuel;have:=hdf;omega,.inl ⟨rfl,hcl (by simpa using e3)⟩⟩⟩;unfold z5o;simp only [h10,show ((10:Int)==1)=false from rfl,show ((10:Int)==2)=false from rfl,show ((10:Int)==12)=false from rfl,show ((10:Int)==13)=false from rfl,show ((10:Int)==14)=false from rfl,show ((10:Int)==15)=false from rfl,show ((10:Int)==10)=true from rfl,Fq,Ag,Bj,C1,hc,Bo,hq1,g1,hov',h12,D3,Av,show ((12:Int)==12)=true from rfl,h2,D7]
    ·rw [h12] at e3;exact absurd e3 dC0
    ·rw [h12] at e3;exact absurd e3 dC0
    ·rw [h12] at e3;exact absurd e3 dC0
   ·refine ⟨p,r2,hp,?_,g2,λ_=>⟨by have:=hdf;omega,.inr ?_⟩⟩
    ·unfold z5o;have hc12:(!false&&r2.1.1==12)=false:=by simpa using h12
     simp only [h10,show ((10:Int)==1)=false from rfl,show ((10:Int)==2)=false from rfl,show ((10:Int)==12)=false from rfl,show ((10:Int)==13)=false from rfl,show ((10:Int)==14)=false from rfl,show ((10:Int)==15)=false from rfl,show ((10:Int)==10)=true from rfl,Fq,Ag,Bj,C1,hc,Bo,hq1,g1,hov',hc12]
    ·rcases e2 with ⟨e3,_⟩ | e3 | ⟨e3,e4,e5⟩ | e3
     ·exact absurd e3 h12
     ·exact .inr (.inl e3)
     ·exact .inr (.inr (.inl ⟨e3,hlv e4,e5⟩))
     ·exact .inr (.inr (.inr e3))
 by_cases h11:x.kind=11
 ·obtain ⟨q,hk⟩:=z1r hb h11;rw [z2y u f deep w seen hb h11 hk] at hx;simp only [A0,z3z] at hx;obtain ⟨⟨⟨⟨v1,v2⟩,v3⟩,v4⟩,v5⟩:=hx;obtain ⟨t1,t2⟩:=zn8 v1;have hpi:=z1o v2;rw [zx8 hpi] at t1;obtain ⟨p,hp,hpl⟩:=y51 (a:=a) (l:=x.args) (by rw [ha];exact t2);obtain ⟨r,g1,g2,g3⟩:=i2 f (deep+1) x q _ a p (dec s) hk (by simpa using v3.1) v3.2 hpi (z1o v5) (by rw [hpl,t1]) ha hi1 (by rw [hdf];omega);refine ⟨p,r,hp,?_,g2,λhL=>⟨?_,?_⟩⟩
  ·unfold z5o;simp only [h11,show ((11:Int)==1)=false from rfl,show ((11:Int)==2)=false from rfl,show ((11:Int)==12)=false from rfl,show ((11:Int)==13)=false from rfl,show ((11:Int)==14)=false from rfl,show ((11:Int)==15)=false from rfl,show ((11:Int)==10)=false from rfl,show ((11:Int)==11)=true from rfl,Fq,Ag,Bj,C1,g1]
  ·have:=(zj5 hB g1 hi1.ok).fuel;omega
  ·rcases g3 hL with ⟨e1,e2⟩ | ⟨e1,e2⟩
   ·exact .inl ⟨e1,by simp [z03,h11,hk,kid0,e2]⟩
   ·exact .inr (.inr (.inr (.inr ⟨e1,e2⟩)))
 rw [z1c u f deep w seen hb (ne h10) (ne h11)] at hx;obtain ⟨s1,s2,s3,s4,s12,s13,s14,s15⟩:=smp_ok hv hx;obtain ⟨p,hp,hpl⟩:=y51 (a:=a) (l:=x.args) (by rw [ha];exact s2);have cl:z03 x=z0q x.kind:=by unfold z03;rw [ne h10,ne h11];rfl
 by_cases h1:x.kind=1∨x.kind=2
 ·have ho:=s4 h1
  obtain ⟨o,os,he⟩:∃ o os,x.outs=o::os:=by cases hxo:x.outs with
   | nil=>exact absurd hxo ho
   | cons o os=>exact ⟨o,os,rfl⟩
  obtain ⟨a2,h2⟩:=y63 (a:=a) (i:=o) (y:=x.n) (by rw [ha];exact s1 o (by rw [he];exact .head _));refine ⟨p,((0,[]),a2,dec s),hp,?_,hi1,λ_=>⟨by show s.fuel - 1<s.fuel;omega,.inl ⟨rfl,?_⟩⟩⟩
  ·unfold z5o;rw [if_pos (by rcases h1 with h1 | h1<;>rw [h1]<;>rfl),he];simp only [Cj,Bo,h2,D7]
  ·rw [cl];rcases h1 with h1 | h1<;>rw [h1]<;>rfl
 have n1:(x.kind==1||x.kind==2)=false:=by rw [Bt];exact ⟨ne λh=>h1 (.inl h),ne λh=>h1 (.inr h)⟩
 by_cases hE:12<=x.kind/\x.kind<=15
 ·refine ⟨p,((x.kind,p),a,dec s),hp,?_,hi1,λ_=>⟨by show s.fuel - 1<s.fuel;omega,.inr ?_⟩⟩
  ·unfold z5o;rw [n1,if_neg dC0,if_pos (by rcases (show x.kind=12∨x.kind=13∨x.kind=14∨x.kind=15 by omega) with e | e | e | e<;>rw [e]<;>rfl)]
  ·rcases (show x.kind=12∨x.kind=13∨x.kind=14∨x.kind=15 by omega) with e | e | e | e
   ·exact .inl ⟨e,by rw [e];rfl,(s12 e).1,by rw [<- (s12 e).2];exact hpl⟩
   ·exact .inr (.inl ⟨e,by rw [<- s13 e];exact hpl⟩)
   ·exact .inr (.inr (.inl ⟨e,by rw [z6f,e];rfl,by rw [<- s14 e];exact hpl⟩))
   ·exact .inr (.inr (.inr ⟨e,by rw [<- s15 e];exact hpl⟩))
 have n2:(x.kind==12||x.kind==13||x.kind==14||x.kind==15)=false:=by simp;omega
 obtain ⟨q,g1,g2⟩:=i4 x p (dec s) (by rw [hpl];exact s3) hiS (by rw [hdf];omega);have hfq:=(y9q hB g1 hiS.ok hiS.ok1).fuel;have cl0:z03 x=false:=by rw [cl];simp [z0q];omega
 have hnode:∀ r1,(if !z16 q.2&&decide (0<x.outs.length) then (x.outs[0]?).bind λo=>(setV a o q.1).map λv'=>(((0,[]),v',q.2):Rres) else some ((0,[]),a,q.2))=some r1->z5o (z2d u d) (z3u u d) (mSum u d) x p a (dec s)=some r1:=λr1 h=>by
  unfold z5o;rw [n1,n2,ne h10,ne h11];simp only [Ag,Bj,g1,Bo];exact h
 by_cases hov:(!z16 q.2&&decide (0<x.outs.length))=true
 ·obtain ⟨o,os,he⟩:∃ o os,x.outs=o::os:=by cases hxo:x.outs with
   | nil=>rw [hxo] at hov;simp at hov
   | cons o os=>exact ⟨o,os,rfl⟩
  obtain ⟨a2,h2⟩:=y63 (a:=a) (i:=o) (y:=q.1) (by rw [ha];exact s1 o (by rw [he];exact .head _));exact ⟨p,((0,[]),a2,q.2),hp,hnode _ (by rw [if_pos hov,he];simp [h2]),g2,λ_=>⟨by show q.2.fuel<s.fuel;omega,.inl ⟨rfl,cl0⟩⟩⟩
 ·exact ⟨p,((0,[]),a,q.2),hp,hnode _ (if_neg hov),g2,λ_=>⟨by show q.2.fuel<s.fuel;omega,.inl ⟨rfl,cl0⟩⟩⟩
theorem list_tot {u:Un} {n:Nat} {B M:Int} (hB:B<=4611686018427387903) (hv:∀ g∈u.flows,VF u g) {d:Nat} (i1:LTot u n B M d) (i2:PTot u n B M d) (i4:STot u n B M d):LTot u n B M (d+1):=by
 intro f deep w seen l a s hne hg ha hi hd
 cases l with
 | nil=>exact absurd rfl hne
 | cons x l =>
  cases hov:z16 s with
  | true =>
   have:z9y s=(false,s):=by unfold z9y;rw [hov];rfl
   refine ⟨((0,[]),a,s),by rw [z2d,this],hi,λh=>by rw [z0t h] at hov;cases hov⟩
  | false =>
   have hl:=z80.1 hov;unfold vGo at hg;simp only [A0,Ap] at hg;obtain ⟨⟨⟨_,v2⟩,v3⟩,v4⟩:=hg;rcases y44 hB hi.ok hl with ⟨hf,hs⟩ | ⟨hf,hs⟩
   ·refine ⟨((0,[]),a,gone s),by rw [z2d,hs],⟨hi.ok,hi.out,hi.ar⟩,λh=>?_⟩;have:=h.1
    cases this
   ·obtain ⟨p,r1,g1,g2,g3,g4⟩:=node_tot hB hv i1 i2 i4 v2 ha hl hi hf hd;have hlen:r1.2.1.length=a.length:=y7n (λ_ _ _ _ h=>(zp7 u d).1 _ _ _ _ h) (λ_ _ _ _ _ h=>(zp7 u d).2 _ _ _ _ _ h) g2
    by_cases hov1:z16 r1.2.2=true
    ·exact ⟨r1,by rw [z2d,hs];simp only [g1,Bo,g2,hov1,B9,C1],g3,λh=>by rw [z0t h] at hov1;cases hov1⟩
    ·have hov1':z16 r1.2.2=false:=by simpa using hov1
     obtain ⟨f1,f2⟩:=g4 (z80.1 hov1')
     by_cases hk0:r1.1.1=0
     ·have hc:z03 x=false:=by
       rcases f2 with ⟨_,h⟩ | ⟨h,_⟩ | ⟨h,_⟩ | ⟨h,_⟩ | ⟨h,_⟩
       ·exact h
       all_goals rw [hk0] at h;exact absurd h dC0
      have hlne:l≠[]:=by rw [hc] at v3;intro e;rw [e] at v3;cases v3
      obtain ⟨r,q1,q2,q3⟩:=i1 f deep w _ l r1.2.1 r1.2.2 hlne v4 (by rw [hlen,ha]) g3 (by have:=hi.ok.1;omega);refine ⟨r,by rw [z2d,hs];simp only [g1,Bo,g2,hov1',hk0,Bs,show ((0:Int) != 0)=false from rfl,Ag,Bj,q1],q2,λh=>?_⟩;obtain ⟨z1,z2⟩:=q3 h;refine ⟨by omega,?_⟩;rw [lst_cons hlne];rcases z2 with z | z | ⟨z1,z2,z3⟩ | z
      ·exact .inl z
      ·exact .inr (.inl z)
      ·exact .inr (.inr (.inl ⟨z1,by simp [z11,z2],z3⟩))
      ·exact .inr (.inr (.inr z))
     ·have hk1:(false||r1.1.1 != 0)=true:=by simpa using hk0
      refine ⟨r1,by rw [z2d,hs];simp only [g1,Bo,g2,hov1',hk1,C1],g3,λ_=>⟨f1,?_⟩⟩;rcases f2 with ⟨h,_⟩ | ⟨z1,z2,z3,z4⟩ | z | ⟨z1,z2,z3⟩ | z
      ·exact absurd h hk0
      ·have hxk:x.kind=12:=by simpa using z2
       have hc:z03 x=true:=by unfold z03;rw [hxk];rfl
       have hl0:l=[]:=by rw [hc] at v3;cases l with
        | nil=>rfl
        | cons y r=>cases v3
       refine .inl ⟨z1,?_,z3,z4⟩;rw [hl0,last_one,hxk];rfl
      ·exact .inr (.inl z)
      ·exact .inr (.inr (.inl ⟨z1,by simp [z11,z2],z3⟩))
      ·exact .inr (.inr (.inr z))
theorem loop_tot {u:Un} {n:Nat} {B M:Int} {d:Nat} (i1:LTot u n B M d) (i2:PTot u n B M d):PTot u n B M (d+1):=by
 intro f deep x q seen a p s hk hq hg hpi hoi hp ha hi hd;obtain ⟨a2,h2⟩:=zx5 (l:=x.params) (p:=p) (a:=a) (by rw [ha];exact hpi) hp;obtain ⟨r1,g1,g2,g3⟩:=i1 f deep (w2 f x) seen q a2 s hq hg (by rw [z4z h2,ha]) hi oM0;have hlen:=(z8j g1).trans (z4z h2);have hk0:x.kids[0]? = some q:=by rw [hk];rfl
 by_cases hov:z16 r1.2.2=true
 ·exact ⟨r1,by rw [z3u,h2];simp only [Bo,hk0,g1,hov,B9,C1],g2,λh=>by rw [z0t h] at hov;cases hov⟩
 ·have hov':z16 r1.2.2=false:=by simpa using hov
  obtain ⟨f1,f2⟩:=g3 (z80.1 hov');rcases f2 with ⟨_,_,h,_⟩ | ⟨z1,z2⟩ | ⟨z1,z2,z3⟩ | ⟨z1,z2⟩
  ·cases h
  ·rw [show (w2 f x).Next=r8of f.types x.params from rfl,zx8 hpi] at z2;obtain ⟨r,q1,q2,q3⟩:=i2 f deep x q seen r1.2.1 r1.1.2 r1.2.2 hk hq hg hpi hoi z2 (by rw [hlen,ha]) g2 oM0;exact ⟨r,by rw [z3u,h2];simp only [Bo,hk0,g1,hov',z1,Bs,show ((13:Int)==15)=false from rfl,show ((13:Int)==14)=false from rfl,Ag,Bj,q1],q2,q3⟩
  ·rw [show (w2 f x).Left=r8of f.types x.outs from rfl,zx8 hoi] at z3;obtain ⟨a3,h3⟩:=zx5 (l:=x.outs) (p:=r1.1.2) (a:=r1.2.1) (by rw [hlen,ha];exact hoi) z3;exact ⟨((0,[]),a3,r1.2.2),by rw [z3u,h2];simp only [Bo,hk0,g1,hov',z1,Bs,show ((14:Int)==15)=false from rfl,show ((14:Int)==14)=true from rfl,Ag,Bj,C1,h3,D7],g2,λ_=>.inl ⟨rfl,z2⟩⟩
  ·exact ⟨r1,by rw [z3u,h2];simp only [Bo,hk0,g1,hov',z1,Bs,show ((15:Int)==15)=true from rfl,C1],g2,λ_=>.inr ⟨z1,z2⟩⟩
theorem call_tot {u:Un} {n:Nat} {B M:Int} (hv:∀ g∈u.flows,VF u g) {d:Nat} (i1:LTot u n B M d):CTot u n B M (d+1):=by
 rintro k p s hk ⟨g,hg,hp⟩ hi hd;obtain ⟨v1,v2,v3,v4⟩:=hv g (Ai hg);simp only [z3z,A0] at v1;have hpl:p.length<=g.types.length:=by omega
 obtain ⟨r1,g1,g2,_⟩:=i1 g 1 z3n _ g.body (p++List.replicate (g.types.length - p.length) 0) s (by simpa using v1.1) v1.2 (by simp;omega) hi oM0;have e:z4i u (d+1) k p s=(if z16 r1.2.2 then some (0,r1.2.2) else some (r1.1.2.headD 0,r1.2.2)):=by
  rw [z4i,if_pos hk,hg,Bo,if_pos ⟨hpl,by omega⟩,g1,Bo]
 rw [e];split
 ·exact ⟨_,rfl,g2⟩
 ·exact ⟨_,rfl,g2⟩
theorem j4c {u:Un} {n:Nat} {B M:Int} (hB:B<=4611686018427387903) (hM:M<=1073741824) (hn:n=u.arrays.length) (hv:∀ g∈u.flows,VF u g):∀ d,LTot u n B M d/\PTot u n B M d/\CTot u n B M d/\STot u n B M d
 | 0=>⟨λf deep w seen l a s _ _ _ hi hd=>by have:=hi.ok.1;omega,λf deep x q seen a p s _ _ _ _ _ _ _ hi hd=>by have:=hi.ok.1;omega,λk p s _ _ hi hd=>by have:=hi.ok.1;omega,λx p s _ hi hd=>by have:=hi.ok.1;omega⟩
 | d+1=>by
  obtain ⟨i1,i2,i3,i4⟩:=j4c hB hM hn hv d;exact ⟨list_tot hB hv i1 i2 i4,loop_tot i1 i2,call_tot hv i1,λx p s hx hi hd=>sum_tot hB hM hn hv i3 x p s hx hi hd⟩
def G (m:Bool) (N k w:Nat) (F F':Int):Prop:=if m then F<=F'+k else F'*(N+1)+w<=F
theorem g_mul (F':Int) (N:Nat):(F' - 1)*((N:Int)+1)=F'*(N+1) - N - 1:=by rw [Int.sub_mul];omega
theorem G.step {m:Bool} {N k w:Nat} {F F':Int} (h:G m N k w F F') (hw:1<=w):G m N k (N+1) (F - 1) (F' - 1):=by
 unfold G at h ⊢
 cases m with
 | true=>simp only [C1] at h ⊢;omega
 | false =>
  simp only [Ag,Bj] at h ⊢;rw [g_mul];generalize F'*((N:Int)+1)=P at h ⊢;omega
theorem G.weak {m:Bool} {N k w k2 w2:Nat} {F F':Int} (h:G m N k w F F') (hk:k<=k2) (hw:w2<=w):G m N k2 w2 F F':=by
 unfold G at h ⊢
 cases m with
 | true=>simp only [C1] at h ⊢;omega
 | false=>simp only [Ag,Bj] at h ⊢;omega
theorem G.left {m:Bool} {N k w:Nat} {F F':Int} (h:G m N k (w+1) F F'):G m N k w (F - 1) F':=by
 unfold G at h ⊢
 cases m with
 | true=>simp only [C1] at h ⊢;omega
 | false=>simp only [Ag,Bj] at h ⊢;omega
theorem G.pay {m:Bool} {N k w:Nat} {F F':Int} (h:G m N (k+1) (w+1) F F'):G m N k w (F - 1) F':=by
 unfold G at h ⊢
 cases m with
 | true=>simp only [C1] at h ⊢;omega
 | false=>simp only [Ag,Bj] at h ⊢;omega
theorem G.right {m:Bool} {N k w:Nat} {F F':Int} (h:G m N k w F F'):G m N (k+1) w F (F' - 1):=by
 unfold G at h ⊢
 cases m with
 | true=>simp only [C1] at h ⊢;omega
 | false =>
  simp only [Ag,Bj] at h ⊢;rw [g_mul];generalize F'*((N:Int)+1)=P at h ⊢;omega
structure Alike (s s':Rs):Prop where
 l:Live s
 l':Live s'
 ins:s'.ins=s.ins
 ar:s'.ar=s.ar
 out:s'.out=s.out
 code:s'.code=s.code
structure RelR (m:Bool) (N k w c:Nat) (s s':Rs):Prop where
 al:Alike s s'
 g:G m N k w s.fuel s'.fuel
 co:s'.cost<=s.cost+c
structure Halt (m:Bool) (s s':Rs):Prop where
 st:s.st≠0
 st':s'.st=s.st
 sp:s.spent=false
 sp':s'.spent=false
 out:s'.out=s.out
 code:s'.code=s.code
 co:s'.cost<=s.cost
 fu:m=true->s.fuel<=s'.fuel
def Cut (m:Bool) (s s':Rs):Prop:=if m then s.spent=true/\s.st=0/\s.out <+: s'.out else s'.spent=true/\s'.st=0/\s'.out <+: s.out
inductive RR (m:Bool) (N:Nat) (E:ER) (r r':Rres):Prop
 | ok:r'.1.1=r.1.1->E r.1.1 r.1.2 r'.1.2 r.2.1 r'.2.1->RelR m N 0 (N+1) 0 r.2.2 r'.2.2->RR m N E r r'
 | halt:Halt m r.2.2 r'.2.2->RR m N E r r'
 | cut:Cut m r.2.2 r'.2.2->RR m N E r r'
inductive RC (m:Bool) (N:Nat) (q q':Int × Rs):Prop
 | ok:q'.1=q.1->RelR m N 0 (N+1) 0 q.2 q'.2->RC m N q q'
 | halt:Halt m q.2 q'.2->RC m N q q'
 | cut:Cut m q.2 q'.2->RC m N q q'
theorem Halt.over {m:Bool} {s s':Rs} (h:Halt m s s'):z16 s=true/\z16 s'=true:=by
 have h1:=h.st;have h2:=h.st';unfold z16;rw [h2];have:(s.st != 0)=true:=by simpa using h1
 rw [this,Bb,Bb];exact ⟨rfl,rfl⟩
section
section
variable {u v:Un} {D:Nat} {B:Int} {m:Bool} {N:Nat}
theorem y2i {k w c:Nat} {E:ER} {s s':Rs} {a:List Int} {r r':Rres} (h:RelR m N k w c s s') (hw:1<=w) (hf:s.fuel<1) (h0:0<=s'.fuel) (ho:s'.out <+: r'.2.2.out) (hr:r=((0,[]),a,gone s)):RR m N E r r':=by
 subst hr
 cases m with
 | true=>exact .cut (by unfold Cut;rw [if_pos rfl];exact ⟨rfl,h.al.l.2,by show s.out <+: _;rw [<- h.al.out];exact ho⟩)
 | false =>
  have:=h.g;unfold G at this;simp only [Ag,Bj] at this;have h2:0<=s'.fuel*((N:Int)+1):=Fz h0 oM0;omega
theorem poor (hB:B<=4611686018427387903) {k c:Nat} {I:VR} {l:List Nd} {K:List KF} {l':List Nd} {E:ER} (h:LRel k c I l K l' E) :
 ∀ (D:Nat) (a:List Int) (s:Rs) (r:Rres),KRun u D l K a s r->Oks B s->Live s->l≠[]->s.fuel<=k->r.2.2.spent=true/\r.2.2.st=0/\r.2.2.out=s.out:=by
 have G0:∀ {s:Rs} {a:List Int} {r:Rres},Live s->r=((0,[]),a,gone s)->r.2.2.spent=true/\r.2.2.st=0/\r.2.2.out=s.out:=λhl e=>by subst e;exact ⟨rfl,hl.2,rfl⟩
 have Z:∀ {D:Nat} {l:List Nd} {K:List KF} {a:List Int} {s:Rs} {r:Rres},KRun u D l K a s r->Oks B s->Live s->l≠[]->s.fuel<=(0:Nat)->r.2.2.spent=true/\r.2.2.st=0/\r.2.2.out=s.out:=by
  intro D l K a s r hk ho hl hn hf
  cases l with
  | nil=>exact absurd rfl hn
  | cons x l =>
   rcases zv8 hB hk ho hl with ⟨_,e⟩ | ⟨e,_⟩
   ·exact G0 hl e
   ·exact absurd hf (by simp;omega)
 have ne:∀ {k c:Nat} {I:VR} {l:List Nd} {K:List KF} {l':List Nd} {E:ER} {f:Int},LRel k c I l K l' E->1<=f->f<=k->l≠[]:=by
  intro k c I l K l' E f h h1 h2 e;have:=LRel.nil h e;subst this;simp at h2;omega
 induction h with
 | dead _=>exact λ_ _ _ _=>Z
 | weak _ _ ih=>exact ih
 | both hx _ _ _ hL ih =>
  intro D a s r hk ho hl hn hf;rcases y79 hB hx hk ho hl with ⟨_,e⟩ | ⟨e,a2,_,h2⟩
  ·exact G0 hl e
  ·have t:=ih _ _ _ _ h2 (zt8 ho e) (y50 (z6x hl)) (ne hL e hf) (by show s.fuel - 1<=_;omega)
   exact t
 | skip hx _ hL ih =>
  intro D a s r hk ho hl hn hf;rcases y79 hB hx hk ho hl with ⟨_,e⟩ | ⟨e,a2,_,h2⟩
  ·exact G0 hl e
  ·have t:=ih _ _ _ _ h2 (zt8 ho e) (y50 (z6x hl)) (ne hL e hf) (by show s.fuel - 1<=_;omega)
   exact t
 | paid hx _ hne hL ih =>
  intro D a s r hk ho hl hn hf;rcases y79 hB hx hk ho hl with ⟨_,e⟩ | ⟨e,a2,_,h2⟩
  ·exact G0 hl e
  ·have t:=ih _ _ _ _ h2 (zt8 ho e) (y50 (z6x hl)) hne (by show s.fuel - 1<=_;omega)
   exact t
 | add _ _ _ _ ih =>
  intro D a s r hk ho hl hn hf
  exact ih _ _ _ _ hk ho hl hn oM0
 | eff=>exact λ_ _ _ _=>Z
 | ite=>exact λ_ _ _ _=>Z
 | ender=>exact λ_ _ _ _=>Z
 | loop hx _ hq _ _ hL _ _ ih _ =>
  intro D a s r hk ho hl hn hf;rcases zv8 hB hk ho hl with ⟨_,e⟩ | ⟨e,d1,p,r1,_,_,h3,h4⟩
  ·exact G0 hl e
  ·have h5:=z75 h3 (by rw [hx];rfl);have ho1:=(z4s ho e).1;obtain ⟨d2,v2,q2,r2,rfl,_,g2,g3,g4⟩:=z5d h5;rw [hq] at g2;obtain rfl:=Bn g2;have h6:=ih d2 v2 (dec s) r2 ⟨d2,r2,Aa _,g3,by split<;>rfl⟩ ho1 (z6x hl) (ne hL e hf) (by show s.fuel - 1<=_;omega);have hov:z16 r2.2.2=true:=by unfold z16;rw [h6.1];rfl
   rw [hov] at g4
   cases g4
   rcases h4 with ⟨_,h4⟩ | ⟨h4,_⟩ | ⟨h4,_⟩
   ·subst h4;exact h6
   ·rw [z0t h4] at hov;cases hov
   ·rw [z0t h4] at hov;cases hov
 | once hx hq _ hL ih =>
  intro D a s r hk ho hl hn hf;rcases y7z hB hx hq hk ho hl with ⟨_,e⟩ | ⟨e,p,a2,_,_,h2⟩
  ·exact G0 hl e
  ·have t:=ih _ _ _ _ h2 (z4s ho e).1 (z6x hl) (ne hL e hf) (by show s.fuel - 1<=_;omega)
   exact t
 | leave hy hy2 _ hL ih =>
  intro D a s r hk ho hl hn hf;rcases y30 hB hy hy2 hk ho hl with ⟨_,e⟩ | ⟨e,p,a2,_,_,h2⟩
  ·exact G0 hl e
  ·have t:=ih _ _ _ _ h2 (z4s ho e).1 (z6x hl) (ne hL e hf) (by show s.fuel - 1<=_;omega)
   exact t
 | fork hx hq hL0 hL1 ih0 ih1 =>
  intro D a s r hk ho hl hn hf;rcases y72 hB hx hq hk ho hl with ⟨_,e⟩ | ⟨e,q,hq',h2⟩
  ·exact G0 hl e
  ·rcases hq' with rfl | rfl
   ·have t:=ih0 _ _ _ _ h2 (z4s ho e).1 (z6x hl) (ne hL0 e hf) (by show s.fuel - 1<=_;omega);exact t
   ·have t:=ih1 _ _ _ _ h2 (z4s ho e).1 (z6x hl) (ne hL1 e hf) (by show s.fuel - 1<=_;omega);exact t
theorem yx7 {k w c:Nat} {I:VR} {l:List Nd} {K:List KF} {l':List Nd} {E:ER} {a b:List Int} {s s':Rs} {r r':Rres} (hB:B<=4611686018427387903) (hL:LRel k c I l K l' E) (hn:l≠[]) (hk:KRun u D l K a s r) (ho:Oks B s)
 (h:RelR m N k w c s s') (hf:s'.fuel<1) (hr:r'=((0,[]),b,gone s')):RR m N E r r':=by
 subst hr;refine .cut ?_;unfold Cut
 cases m with
 | true =>
  rw [if_pos rfl];have hg:=h.g;unfold G at hg;simp only [C1] at hg;obtain ⟨h1,h2,h3⟩:=poor hB hL _ _ _ _ hk ho h.al.l hn oM0
  exact ⟨h1,h2,by rw [h3];show s.out <+: s'.out;rw [h.al.out];exact Cg _⟩
 | false =>
  rw [if_neg dC0];refine ⟨rfl,h.al.l'.2,?_⟩;show s'.out <+: _;rw [h.al.out];exact hk.out hB ho
def upd (s:Rs) (ins:List Int) (ar:List (List Int)) (st:Int) (out:List Int):Rs:={ bmp s with ins:=ins,ar:=ar,st:=st,out:=out }
theorem j3z {d d':Nat} {x x':Nd} {p:List Int} {s s':Rs} {q q':Int × Rs} (hk:x'.kind=x.kind) (hop:x'.op=x.op) (hnm:x'.name=x.name) (h7:x.kind≠7) (hA:v.arrays=u.arrays)
 (hB:B<=4611686018427387903) (ho:Oks B s) (ho':Oks B s') (hal:Alike s s') (h:mSum u d x p s=some q) (h':mSum v d' x' p s'=some q') :
 q'.1=q.1/\∃ ins ar st out,q.2=upd s ins ar st out/\q'.2=upd s' ins ar st out:=by
 obtain ⟨d,rfl⟩:=z7z h;obtain ⟨d',rfl⟩:=z7z h';have e:=zs9 hB ho;have e':=zs9 hB ho';obtain ⟨hl,hl',i1,i2,i3,i4⟩:=hal;have U:bmp s=upd s s.ins s.ar s.st s.out:=rfl;have U':bmp s'=upd s' s.ins s.ar s.st s.out:=by unfold upd bmp;rw [<- i1,<- i2,<- i3,hl.2,<- hl'.2]
 have ne:∀ {i:Int},x.kind≠i->(x.kind==i)=false:=λh=>Ab.2 h;have ne':∀ {i:Int},x.kind≠i->(x'.kind==i)=false:=λh=>Ab.2 (by rw [hk];exact h)
 by_cases k3:x.kind=3
 ·obtain ⟨a0,g1,rfl⟩:=zd2 h (Ap.2 k3);obtain ⟨a0',g1',rfl⟩:=zd2 h' (Ap.2 (hk.trans k3));rw [g1] at g1';cases g1'
  rw [e,e',hop];exact ⟨rfl,_,_,_,_,U,U'⟩
 by_cases k4:x.kind=4
 ·obtain ⟨a0,a1,g1,g2,rfl⟩:=zd3 h (Ap.2 k4);obtain ⟨a0',a1',g1',g2',rfl⟩:=zd3 h' (Ap.2 (hk.trans k4));rw [g1] at g1';cases g1'
  rw [g2] at g2';cases g2'
  rw [e,e',hop];refine ⟨rfl,?_⟩
  cases (mTwo x.op a0 a1).2 with
  | true=>exact ⟨_,_,_,_,U,U'⟩
  | false=>exact ⟨s.ins,s.ar,2,s.out,rfl,by show ({ bmp s' with st:=2 }:Rs)=_;rw [U'];rfl⟩
 have cell:∀ (k n:Int) (q q':Bool × Rs),za8 (bmp s) k n=some q->za8 (bmp s') k n=some q'->q'.1=q.1/\((q.1=false->q.2=upd s s.ins s.ar 3 s.out/\q'.2=upd s' s.ins s.ar 3 s.out)):=by
  intro k n q q' g g';rw [U'] at g';unfold za8 at g g';have S:({ upd s' s.ins s.ar s.st s.out with st:=3 }:Rs)=upd s' s.ins s.ar 3 s.out:=rfl;split at g
  ·rename_i c1;rw [if_pos c1] at g'
   cases g;cases g'
   exact ⟨rfl,λ_=>⟨rfl,S⟩⟩
  ·rename_i c1;rw [if_neg c1] at g';split at g
   ·rename_i c2;rw [if_pos c2] at g';obtain ⟨row,r1,r2⟩:=Ak.1 g;obtain ⟨row',r1',r2'⟩:=Ak.1 g';have:s.ar[k.toNat]? = some row:=r1;have h2:s.ar[k.toNat]? = some row':=r1';rw [this] at h2;cases h2
    split at r2
    ·rename_i c3;rw [if_pos c3] at r2'
     cases r2;cases r2'
     exact ⟨rfl,λ_=>⟨rfl,S⟩⟩
    ·rename_i c3;rw [if_neg c3] at r2'
     cases r2;cases r2'
     exact ⟨rfl,λh=>by cases h⟩
   ·cases g
 by_cases k5:x.kind=5
 ·obtain ⟨a0,b,t,g1,g2,g3⟩:=z8n h k5;obtain ⟨a0',b',t',g1',g2',g3'⟩:=z8n h' (hk.trans k5);rw [g1] at g1';cases g1'
  rw [e] at g2 g3;rw [e'] at g2' g3';rw [hA,hnm] at g2' g3';obtain ⟨c1,c2⟩:=cell _ _ _ _ g2 g2';have c1:b'=b:=c1;subst c1;rcases g3 with ⟨rfl,rfl⟩ | ⟨rfl,row,y,h4,h5,rfl⟩
  ·rcases g3' with ⟨_,rfl⟩ | ⟨h0,_⟩
   ·obtain ⟨c3,c4⟩:=c2 rfl;exact ⟨rfl,_,_,_,_,c3,c4⟩
   ·cases h0
  ·rcases g3' with ⟨h0,_⟩ | ⟨_,row',y',h4',h5',rfl⟩
   ·cases h0
   ·rw [U'] at h4';have e1:s.ar[(z0e x.name u.arrays 0).toNat]? = some row:=h4;have e2:s.ar[(z0e x.name u.arrays 0).toNat]? = some row':=h4';rw [e1] at e2;cases e2
    rw [h5] at h5';cases h5'
    exact ⟨rfl,_,_,_,_,U,U'⟩
 by_cases k6:x.kind=6
 ·obtain ⟨a0,b,t,g1,g2,g3⟩:=z7b h k6;obtain ⟨a0',b',t',g1',g2',g3'⟩:=z7b h' (hk.trans k6);rw [g1] at g1';cases g1'
  rw [e] at g2 g3;rw [e'] at g2' g3';rw [hA,hnm] at g2' g3';obtain ⟨c1,c2⟩:=cell _ _ _ _ g2 g2';have c1:b'=b:=c1;subst c1;rcases g3 with ⟨rfl,rfl⟩ | ⟨rfl,row,y,h4,h5,rfl⟩
  ·rcases g3' with ⟨_,rfl⟩ | ⟨h0,_⟩
   ·obtain ⟨c3,c4⟩:=c2 rfl;exact ⟨rfl,_,_,_,_,c3,c4⟩
   ·cases h0
  ·rcases g3' with ⟨h0,_⟩ | ⟨_,row',y',h4',h5',rfl⟩
   ·cases h0
   ·rw [U'] at h4';have e1:s.ar[(z0e x.name u.arrays 0).toNat]? = some row:=h4;have e2:s.ar[(z0e x.name u.arrays 0).toNat]? = some row':=h4';rw [e1] at e2;cases e2
    rw [h5] at h5';cases h5'
    refine ⟨rfl,s.ins,s.ar.set (z0e x.name u.arrays 0).toNat (row.set a0.toNat y),s.st,s.out,rfl,?_⟩;rw [U'];rfl
 by_cases k9:x.kind=9
 ·obtain ⟨a0,g1,_,rfl⟩:=z8o h (Ap.2 k9);obtain ⟨a0',g1',_,rfl⟩:=z8o h' (Ap.2 (hk.trans k9));rw [g1] at g1';cases g1'
  rw [e,e',U',i3];exact ⟨rfl,s.ins,s.ar,s.st,s.out++[a0],rfl,rfl⟩
 by_cases k8:x.kind=8
 ·have R1:=zb3 h (Ap.2 k8);have R2:=zb3 h' (Ap.2 (hk.trans k8));rw [e] at R1;rw [e',U',i1] at R2;rcases R1 with ⟨c1,rfl⟩ | ⟨y,z,c1,rfl⟩
  ·rcases R2 with ⟨c2,rfl⟩ | ⟨y',z',c2,rfl⟩
   ·exact ⟨rfl,s.ins,s.ar,4,s.out,rfl,rfl⟩
   ·rw [c1] at c2;cases c2
  ·rcases R2 with ⟨c2,rfl⟩ | ⟨y',z',c2,rfl⟩
   ·rw [c1] at c2;cases c2
   ·rw [c1] at c2;cases c2
    exact ⟨rfl,z,s.ar,s.st,s.out,rfl,rfl⟩
 ·obtain rfl:=zb2 h (ne k3) (ne k4) (ne k5) (ne k6) (ne h7) (ne k9) (ne k8);obtain rfl:=zb2 h' (ne' k3) (ne' k4) (ne' k5) (ne' k6) (ne' h7) (ne' k9) (ne' k8);rw [e,e'];exact ⟨rfl,_,_,_,_,U,U'⟩
end
end
section
def HCall (u v:Un) (D:Nat) (B:Int) (m:Bool) (N:Nat):Prop:=∀ e e' k p s s' q q',e<D->z4i u e k p s=some q->z4i v e' k p s'=some q'->Oks B s->Oks B s'->RelR m N 0 (N+1) 0 s s'->RC m N q q'
inductive RN (m:Bool) (N:Nat) (J:VR) (F:Int->Prop) (E:ER) (r r':Rres):Prop
 | go:r.1.1=0->r'.1.1=0->RelR m N 0 (N+1) 0 r.2.2 r'.2.2->J r.2.1 r'.2.1->RN m N J F E r r'
 | fin:r.1.1≠0->r'.1.1=r.1.1->F r.1.1->RelR m N 0 (N+1) 0 r.2.2 r'.2.2->E r.1.1 r.1.2 r'.1.2 r.2.1 r'.2.1->RN m N J F E r r'
 | halt:Halt m r.2.2 r'.2.2->RN m N J F E r r'
 | cut:Cut m r.2.2 r'.2.2->RN m N J F E r r'
theorem z76 {s:Rs} (h:s.spent=true):z16 s=true:=by unfold z16;rw [h];rfl
section
variable {u v:Un} {D:Nat} {B:Int} {m:Bool} {N:Nat}
theorem RelR.weak {k w c k2 w2 c2:Nat} {s s':Rs} (h:RelR m N k w c s s') (hk:k<=k2) (hw:w2<=w) (hc:c<=c2):RelR m N k2 w2 c2 s s':=⟨h.al,h.g.weak hk hw,by have:=h.co;omega⟩
theorem RelR.dec {k w c:Nat} {s s':Rs} (h:RelR m N k w c s s') (hw:1<=w):RelR m N k (N+1) c (dec s) (dec s'):=⟨⟨h.al.l,h.al.l',h.al.ins,h.al.ar,h.al.out,h.al.code⟩,h.g.step hw,h.co⟩
theorem sum_sim (hB:B<=4611686018427387903) (hA:v.arrays=u.arrays) (hP:∀ name,z06 name v.flows 0=z06 name u.flows 0) (HC:HCall u v D B m N) {d d':Nat} (hd:d<=D) {x x':Nd} {p:List Int} {s s':Rs} {q q':Int × Rs}
 (hk:x'.kind=x.kind) (hop:x'.op=x.op) (hnm:x'.name=x.name) (h:mSum u d x p s=some q) (h':mSum v d' x' p s'=some q') (ho:Oks B s) (ho':Oks B s') (ho1:s.cost+s.fuel+1<=B) (ho1':s'.cost+s'.fuel+1<=B)
 (hr:RelR m N 0 (N+1) 0 s s'):RC m N q q':=by
 by_cases k7:x.kind=7
 ·obtain ⟨d,rfl⟩:=z7z h;obtain ⟨d',rfl⟩:=z7z h';have g:=zb1 h (Ap.2 k7);have g':=zb1 h' (Ap.2 (hk.trans k7));rw [zs9 hB ho] at g;rw [zs9 hB ho',hnm,hP] at g';have hb:∀ {s:Rs},Oks B s->s.cost+s.fuel+1<=B->Oks B (bmp s):=λ{s} ho ho1=>⟨ho.1,by have:=ho.2.1;show 0<=s.cost+1;omega,by show s.cost+1+s.fuel<=B;omega⟩;refine HC _ _ _ _ _ _ _ _ oM0 g g' (hb ho ho1) (hb ho' ho1') ⟨⟨hr.al.l,hr.al.l',hr.al.ins,hr.al.ar,hr.al.out,hr.al.code⟩,hr.g,?_⟩;have:=hr.co;show s'.cost+1<=s.cost+1+(0:Nat);omega
 ·obtain ⟨h1,ins,ar,st,out,h2,h3⟩:=j3z hk hop hnm k7 hA hB ho ho' hr.al h h';have hco:q'.2.cost<=q.2.cost:=by rw [h2,h3];have:=hr.co;show s'.cost+1<=s.cost+1;omega
  by_cases hst:st=0
  ·subst hst;refine .ok h1 ⟨?_,?_,by simpa using hco⟩
   ·rw [h2,h3];exact ⟨⟨hr.al.l.1,rfl⟩,⟨hr.al.l'.1,rfl⟩,rfl,rfl,rfl,hr.al.code⟩
   ·rw [h2,h3];exact hr.g
  ·refine .halt ⟨by rw [h2];exact hst,by rw [h2,h3];rfl,by rw [h2];exact hr.al.l.1,by rw [h3];exact hr.al.l'.1,by rw [h2,h3];rfl,by rw [h2,h3];exact hr.al.code,hco,λhm=>?_⟩;have:=hr.g;unfold G at this;rw [if_pos hm] at this;rw [h2,h3];show s.fuel<=s'.fuel;simpa using this
theorem zl3 {l:List Nd} {K:List KF} {r1 r:Rres} (h:KNext u D l K r1 r) (ho:z16 r1.2.2=true):r=r1:=by
 rcases h with ⟨_,h⟩ | ⟨h,_⟩ | ⟨h,_⟩
 ·exact h
 ·rw [z0t h] at ho;cases ho
 ·rw [z0t h] at ho;cases ho
theorem y54 (hB:B<=4611686018427387903) {D':Nat} {J:VR} {F:Int->Prop} {E:ER} {l l':List Nd} {K:List KF} {r1 r1' r r':Rres} (h:KNext u D l K r1 r) (h':KNext v D' l' [] r1' r') (ho:Oks B r1.2.2) (ho':Oks B r1'.2.2)
 (hR:RN m N J F E r1 r1') (hF:∀ n,F n->K=[]∨n=15) (hN:lsz l+ksz K<=N)
 (ih:∀ (D':Nat) (a b:List Int) (s s':Rs) (r r':Rres),KRun u D l K a s r->KRun v D' l' [] b s' r'->Oks B s->Oks B s'->RelR m N 0 (lsz l+ksz K) 0 s s'->lsz l+ksz K<=N->J a b->RR m N E r r'):RR m N E r r':=by
 cases hR with
 | go e e' hr hJ =>
  rcases h with ⟨h,_⟩ | ⟨_,h,_⟩ | ⟨_,_,h⟩
  ·rw [z0t hr.al.l] at h;cases h
  ·exact absurd e h
  ·rcases h' with ⟨h',_⟩ | ⟨_,h',_⟩ | ⟨_,_,h'⟩
   ·rw [z0t hr.al.l'] at h';cases h'
   ·exact absurd e' h'
   ·exact ih _ _ _ _ _ _ _ h h' ho ho' (hr.weak (Aa _) oM0 (Aa _)) hN hJ
 | fin e e' hf hr hE =>
  rcases h with ⟨h,_⟩ | ⟨_,_,h⟩ | ⟨_,h,_⟩
  ·rw [z0t hr.al.l] at h;cases h
  ·rcases h' with ⟨h',_⟩ | ⟨_,_,h'⟩ | ⟨_,h',_⟩
   ·rw [z0t hr.al.l'] at h';cases h'
   ·obtain rfl:r'=r1':=h';have hr1:r=r1:=by
     rcases hF _ hf with rfl | k15
     ·exact h
     ·cases K with
      | nil=>exact h
      | cons f K=>unfold KFin at h;rw [if_pos k15] at h;exact h
    subst hr1;exact .ok e' hE hr
   ·exact absurd (e'.symm.trans h') e
  ·exact absurd h e
 | halt hh =>
  obtain ⟨o1,o2⟩:=hh.over;rw [zl3 h o1,zl3 h' o2]
  exact .halt hh
 | cut hc =>
  refine .cut ?_;unfold Cut at hc ⊢
  cases m with
  | true =>
   simp only [C1] at hc ⊢;rw [zl3 h (z76 hc.1)]
   exact ⟨hc.1,hc.2.1,hc.2.2.trans (h'.out hB ho')⟩
  | false =>
   simp only [Ag,Bj] at hc ⊢;rw [zl3 h' (z76 hc.1)];exact ⟨hc.1,hc.2.1,hc.2.2.trans (h.out hB ho)⟩
theorem y87 (hB:B<=4611686018427387903) {d:Nat} {x:Nd} {r1 r:Rres} (ho:Oks B r1.2.2)
 (h:(if z16 r1.2.2||r1.1.1==15 then some r1 else if r1.1.1==14 then (mSet r1.2.1 x.outs r1.1.2).map λv=>((0,[]),v,r1.2.2) else z3u u d x r1.2.1 r1.1.2 r1.2.2)=some r):r1.2.2.out <+: r.2.2.out/\(z16 r1.2.2=true->r=r1):=by
 split at h
 ·cases h;exact ⟨Cg _,λ_=>rfl⟩
 ·rename_i hn;refine ⟨?_,λho=>absurd (by rw [ho];rfl) hn⟩;split at h
  ·obtain ⟨v3,_,rfl⟩:=A1.1 h;exact Cg _
  ·exact (zj5 hB h ho).out
theorem yj5 (hB:B<=4611686018427387903) {k c:Nat} {I2 J:VR} {E E2:ER} {x x':Nd} {q q':List Nd} (hq:x.kids=[q]) (hq':x'.kids=[q']) (hN:lsz q<=N)
 (ih:∀ (D':Nat) (a b:List Int) (s s':Rs) (r r':Rres),KRun u D q [] a s r->KRun v D' q' [] b s' r'->Oks B s->Oks B s'->RelR m N k (lsz q+ksz []) c s s'->lsz q+ksz []<=N->I2 a b->RR m N E2 r r')
 (hE:∀ n p p' a b,E2 n p p' a b->(n=15/\E 15 p p' a b)∨(n=14/\∀ a2 b2,mSet a x.outs p=some a2->mSet b x'.outs p'=some b2->J a2 b2)∨(n=13/\∀ a2 b2,mSet a x.params p=some a2->mSet b x'.params p'=some b2->I2 a2 b2)) :
 ∀ (d d':Nat) (a b p p':List Int) (s s':Rs) (r r':Rres),d<=D->z3u u d x a p s=some r->z3u v d' x' b p' s'=some r'->Oks B s->Oks B s'->RelR m N k (lsz q) c s s' ->
  (∀ a2 b2,mSet a x.params p=some a2->mSet b x'.params p'=some b2->I2 a2 b2)->RN m N J (λn=>n=15) E r r'
 | 0,_,_,_,_,_,_,_,_,_,_,h,_,_,_,_,_=>by simp [z3u] at h
 | d+1,d',a,b,p,p',s,s',r,r',hd,h,h',ho,ho',hr,hI=>by
  obtain ⟨d1,v2,q2,r1,e,g1,g2,g3,g4⟩:=z5d h;obtain ⟨d1',v2',q2',r1',e',g1',g2',g3',g4'⟩:=z5d h';obtain rfl:d1=d:=by omega
  rw [hq] at g2;rw [hq'] at g2';obtain rfl:=Bn g2;obtain rfl:=Bn g2';have R:=ih d1' v2 v2' s s' r1 r1' ⟨d1,r1,by omega,g3,by split<;>rfl⟩ ⟨d1',r1',Aa _,g3',by split<;>rfl⟩ ho ho' hr hN (hI _ _ g1 g1');have o1:=(z7x hB g3 ho).ok;have o1':=(z7x hB g3' ho').ok;have W:=y87 hB o1 g4;have W':=y87 hB o1' g4'
  cases R with
  | halt hh =>
   obtain ⟨t1,t2⟩:=hh.over;rw [W.2 t1,W'.2 t2]
   exact .halt hh
  | cut hc =>
   refine .cut ?_;unfold Cut at hc ⊢
   cases m with
   | true =>
    simp only [C1] at hc ⊢;rw [W.2 (z76 hc.1)]
    exact ⟨hc.1,hc.2.1,hc.2.2.trans W'.1⟩
   | false =>
    simp only [Ag,Bj] at hc ⊢;rw [W'.2 (z76 hc.1)]
    exact ⟨hc.1,hc.2.1,hc.2.2.trans W.1⟩
  | ok ek eE hr2 =>
   rw [z0t hr2.al.l] at g4;rw [z0t hr2.al.l',ek] at g4';obtain ⟨⟨n,pp⟩,va,sa⟩:=r1;obtain ⟨⟨n',pp'⟩,vb,sb⟩:=r1';obtain rfl:n'=n:=ek;rcases hE _ _ _ _ _ eE with ⟨rfl,h15⟩ | ⟨rfl,h14⟩ | ⟨rfl,h13⟩
   ·cases g4;cases g4'
    exact .fin (show (15:Int)≠0 by decide) rfl rfl hr2 h15
   ·obtain ⟨w,g5,rfl⟩:=A1.1 g4;obtain ⟨w',g5',rfl⟩:=A1.1 g4';exact .go rfl rfl hr2 (h14 _ _ g5 g5')
   ·exact yj5 hB hq hq' hN ih hE d1 d1' va vb pp pp' sa sb r r' oM0 g4 g4' o1 o1' (hr2.weak (A6 _) oM0 (A6 _)) h13
end
end
section
section
variable {u v:Un} {D:Nat} {B:Int} {m:Bool} {N:Nat}
theorem zb5 (x:Nd):1<=nsz x:=by rw [y37];omega
theorem j3h {x:Nd} {q:Int × Rs} {a:List Int} {r1:Rres} (hl:Live q.2)
 (h:(if !z16 q.2&&decide (0<x.outs.length) then (x.outs[0]?).bind λo=>(setV a o q.1).map λv'=>((0,[]),v',q.2) else some ((0,[]),a,q.2))=some r1):∃ a2,setO x.outs a q.1 a2/\r1=((0,[]),a2,q.2):=by
 rw [z0t hl] at h
 cases ho:x.outs with
 | nil=>rw [ho] at h;cases h;exact ⟨a,rfl,rfl⟩
 | cons o os =>
  rw [ho] at h;simp only [D3,Av,Ad,Nat.zero_lt_succ,decide_true,C1,Cj,Bo,A1] at h;obtain ⟨a2,h1,rfl⟩:=h;exact ⟨a2,h1,rfl⟩
theorem y7o {x:Nd} {q:Int × Rs} {a:List Int} {r1:Rres}
 (h:(if !z16 q.2&&decide (0<x.outs.length) then (x.outs[0]?).bind λo=>(setV a o q.1).map λv'=>((0,[]),v',q.2) else some ((0,[]),a,q.2))=some r1):r1.2.2=q.2:=by
 split at h
 ·simp only [Ak,A1] at h;obtain ⟨o,_,v',_,rfl⟩:=h;rfl
 ·cases h;rfl
theorem sound (hB:B<=4611686018427387903) (hA:v.arrays=u.arrays) (hP:∀ name,z06 name v.flows 0=z06 name u.flows 0) (HC:HCall u v D B m N)
 {k c:Nat} {I:VR} {l:List Nd} {K:List KF} {l':List Nd} {E:ER} (h:LRel k c I l K l' E) :
 ∀ (D':Nat) (a b:List Int) (s s':Rs) (r r':Rres),KRun u D l K a s r->KRun v D' l' [] b s' r'->Oks B s->Oks B s'->RelR m N k (lsz l+ksz K) c s s'->lsz l+ksz K<=N->I a b->RR m N E r r':=by
 induction h with
 | dead hd=>intro D' a b s s' r r' h h' ho ho' hr hN hI;exact absurd hI (hd a b)
 | weak hw _ ih=>intro D' a b s s' r r' h h' ho ho' hr hN hI;exact ih D' a b s s' r r' h h' ho ho' hr hN (hw a b hI)
 | @both k c I J x x' l K l' E hx hx' hcc hJ hL ih =>
  intro D' a b s s' r r' h h' ho ho' hr hN hI;have hs:=zb5 x;have ez:lsz (x::l)=nsz x+lsz l:=rfl;rcases y79 hB hx h ho hr.al.l with ⟨hf,e⟩ | ⟨hf,a2,ha,hk⟩
  ·exact y2i hr oM0 hf ho'.1 (h'.out hB ho') e
  rcases y79 hB hx' h' ho' hr.al.l' with ⟨hf',e'⟩ | ⟨hf',b2,hb,hk'⟩
  ·exact yx7 hB (LRel.both hx hx' hcc hJ hL) (Eg _ _) h ho hr hf' e'
  have h2:=hr.dec oM0;refine ih D' a2 b2 _ _ r r' hk hk' (zt8 ho hf) (zt8 ho' hf') ⟨⟨h2.al.l,h2.al.l',h2.al.ins,h2.al.ar,h2.al.out,h2.al.code⟩,h2.g.weak (Aa _) oM0,?_⟩ oM0 (hJ _ _ _ _ hI ha hb);have:=hr.co
  show s'.cost+(hc x':Int)<=s.cost+(hc x:Int)+(c:Int);omega
 | @skip k c I J x l K l' E hx hJ hL ih =>
  intro D' a b s s' r r' h h' ho ho' hr hN hI;have hs:=zb5 x;have ez:lsz (x::l)=nsz x+lsz l:=rfl;rcases y79 hB hx h ho hr.al.l with ⟨hf,e⟩ | ⟨hf,a2,ha,hk⟩
  ·exact y2i hr oM0 hf ho'.1 (h'.out hB ho') e
  refine ih D' a2 b _ _ r r' hk h' (zt8 ho hf) ho' ⟨⟨hr.al.l,hr.al.l',hr.al.ins,hr.al.ar,hr.al.out,hr.al.code⟩,(hr.g.weak (Aa _) (w2:=lsz l+ksz K+1) oM0).left,?_⟩ oM0 (hJ _ _ _ hI ha);have:=hr.co
  show s'.cost<=s.cost+(hc x:Int)+(c:Int);omega
 | @paid k c I J x l K l' E hx hJ hne hL ih =>
  intro D' a b s s' r r' h h' ho ho' hr hN hI;have hs:=zb5 x;have ez:lsz (x::l)=nsz x+lsz l:=rfl;rcases y79 hB hx h ho hr.al.l with ⟨hf,e⟩ | ⟨hf,a2,ha,hk⟩
  ·exact y2i hr oM0 hf ho'.1 (h'.out hB ho') e
  refine ih D' a2 b _ _ r r' hk h' (zt8 ho hf) ho' ⟨⟨hr.al.l,hr.al.l',hr.al.ins,hr.al.ar,hr.al.out,hr.al.code⟩,(hr.g.weak (Aa _) (w2:=lsz l+ksz K+1) oM0).pay,?_⟩ oM0 (hJ _ _ _ hI ha);have:=hr.co
  show s'.cost<=s.cost+(hc x:Int)+(c:Int);omega
 | @add k c I J x' l K l' E hx' hne hJ hL ih =>
  intro D' a b s s' r r' h h' ho ho' hr hN hI;rcases y79 hB hx' h' ho' hr.al.l' with ⟨hf',e'⟩ | ⟨hf',b2,hb,hk'⟩
  ·exact yx7 hB (LRel.add hx' hne hJ hL) hne h ho hr hf' e'
  refine ih D' a b2 _ _ r r' h hk' ho (zt8 ho' hf') ⟨⟨hr.al.l,hr.al.l',hr.al.ins,hr.al.ar,hr.al.out,hr.al.code⟩,hr.g.right,?_⟩ hN (hJ _ _ _ hI hb);have:=hr.co
  show s'.cost+(hc x':Int)<=s.cost+((c+hc x':Nat):Int);omega
 | @eff I J x x' l K l' E hk hkk hop hnm hlen hp hJ hL ih =>
  intro D' a b s s' r r' h h' ho ho' hr hN hI;have hs:=zb5 x;have ez:lsz (x::l)=nsz x+lsz l:=rfl;rcases zv8 hB h ho hr.al.l with ⟨hf,e⟩ | ⟨hf,d1,p,r1,hd,g1,g2,g3⟩
  ·exact y2i hr oM0 hf ho'.1 (h'.out hB ho') e
  rcases zv8 hB h' ho' hr.al.l' with ⟨hf',e'⟩ | ⟨hf',d1',p',r1',hd',g1',g2',g3'⟩
  ·exact yx7 hB (LRel.eff hk hkk hop hnm hlen hp hJ hL) (Eg _ _) h ho hr hf' e'
  obtain ⟨k1,k2,k10,k11,k12,k13,k14,k15⟩:=hk;have ne:∀ {i:Int},x.kind≠i->(x.kind==i)=false:=λh=>Ab.2 h;have ne':∀ {i:Int},x.kind≠i->(x'.kind==i)=false:=λh=>Ab.2 (by rw [hkk];exact h);obtain ⟨q,t1,t2⟩:=z8m g2 (by rw [ne k1,ne k2];rfl) (by rw [ne k12,ne k13,ne k14,ne k15];rfl) (ne k10) (ne k11);obtain ⟨q',t1',t2'⟩:=z8m g2' (by rw [ne' k1,ne' k2];rfl) (by rw [ne' k12,ne' k13,ne' k14,ne' k15];rfl) (ne' k10) (ne' k11);have hpp:=hp _ _ _ _ hI g1 g1';subst hpp;have h2:=hr.dec oM0;obtain ⟨o1,o2⟩:=z4s ho hf;obtain ⟨o1',o2'⟩:=z4s ho' hf';have e1:r1.2.2=q.2:=y7o t2;have e1':r1'.2.2=q'.2:=y7o t2';have R:RN m N J (λn=>K=[]∨n=15) E r1 r1':=by
   cases sum_sim hB hA hP HC oM0 hkk hop hnm t1 t1' o1 o1' o2 o2' h2 with
   | ok hv hrel =>
    obtain ⟨a2,s1,rfl⟩:=j3h hrel.al.l t2;obtain ⟨b2,s2,rfl⟩:=j3h hrel.al.l' t2';rw [hv] at s2
    exact .go rfl rfl hrel (hJ _ _ _ _ _ hI s1 s2)
   | halt hh=>exact .halt (by rw [e1,e1'];exact hh)
   | cut hh=>exact .cut (by rw [e1,e1'];exact hh)
  exact y54 hB g3 g3' (by rw [e1];exact (y9q hB t1 o1 o2).ok) (by rw [e1'];exact (y9q hB t1' o1' o2').ok) R (λ_ h=>h) oM0 ih
 | @ite I J E2 x x' q0 q1 q0' q1' l K l' E hk hk' hq hq' hp hL0 hL1 hE hL ih0 ih1 ih =>
  intro D' a b s s' r r' h h' ho ho' hr hN hI;have hs:=zb5 x;have ez:lsz (x::l)=nsz x+lsz l:=rfl;have ezx:nsz x=1+(lsz q0+(lsz q1+0)):=by rw [y37,hq];rfl
  rcases zv8 hB h ho hr.al.l with ⟨hf,e⟩ | ⟨hf,d1,p,r1,hd,g1,g2,g3⟩
  ·exact y2i hr oM0 hf ho'.1 (h'.out hB ho') e
  rcases zv8 hB h' ho' hr.al.l' with ⟨hf',e'⟩ | ⟨hf',d1',p',r1',hd',g1',g2',g3'⟩
  ·exact yx7 hB (LRel.ite hk hk' hq hq' hp hL0 hL1 hE hL) (Eg _ _) h ho hr hf' e'
  have hpp:=hp _ _ _ _ hI g1 g1';obtain ⟨a0,q,r2,t1,t2,t3,t4⟩:=zk8 g2 (by rw [hk];rfl);obtain ⟨a0',q',r2',t1',t2',t3',t4'⟩:=zk8 g2' (by rw [hk'];rfl);rw [t1,t1'] at hpp;obtain rfl:=Bn hpp;have h2:=hr.dec oM0;obtain ⟨o1,o2⟩:=z4s ho hf;obtain ⟨o1',o2'⟩:=z4s ho' hf';have R2:RR m N E2 r2 r2':=by
   rw [hq] at t2;rw [hq'] at t2'
   by_cases c0:(a0' != 0)=true
   ·rw [if_pos c0] at t2 t2';obtain rfl:q0=q:=by simpa using t2
    obtain rfl:q0'=q':=by simpa using t2'
    exact ih0 d1' a b _ _ r2 r2' ⟨d1,r2,by omega,t3,by split<;>rfl⟩ ⟨d1',r2',Aa _,t3',by split<;>rfl⟩ o1 o1' (h2.weak (Aa _) (by simp [ksz];omega) (Aa _)) (by simp [ksz];omega) hI
   ·rw [if_neg c0] at t2 t2';obtain rfl:q1=q:=by simpa using t2
    obtain rfl:q1'=q':=by simpa using t2'
    exact ih1 d1' a b _ _ r2 r2' ⟨d1,r2,by omega,t3,by split<;>rfl⟩ ⟨d1',r2',Aa _,t3',by split<;>rfl⟩ o1 o1' (h2.weak (Aa _) (by simp [ksz];omega) (Aa _)) (by simp [ksz];omega) hI
  have x1:=(z7x hB t3 o1).ok;have x1':=(z7x hB t3' o1').ok;have SS:∀ {x:Nd} {r2 r1:Rres},(if !z16 r2.2.2&&r2.1.1==12 then (mSet r2.2.1 x.outs r2.1.2).map λv'=>(((0,[]),v',r2.2.2):Rres) else some r2)=some r1->r1.2.2=r2.2.2:=by
   intro x r2 r1 h;split at h
   ·obtain ⟨w,_,rfl⟩:=A1.1 h;rfl
   ·cases h;rfl
  have e1:=SS t4;have e1':=SS t4';have R:RN m N J (λn=>K=[]∨n=15) E r1 r1':=by
   cases R2 with
   | halt hh=>exact .halt (by rw [e1,e1'];exact hh)
   | cut hh=>exact .cut (by rw [e1,e1'];exact hh)
   | ok ek eE hr2 =>
    rw [z0t hr2.al.l] at t4;rw [z0t hr2.al.l',ek] at t4';obtain ⟨⟨n,pp⟩,va,sa⟩:=r2;obtain ⟨⟨n',pp'⟩,vb,sb⟩:=r2';obtain rfl:n'=n:=ek;rcases hE _ _ _ _ _ eE with ⟨rfl,h12⟩ | ⟨n12,n0,hKn,hEE⟩
    ·obtain ⟨w,g5,rfl⟩:=A1.1 t4;obtain ⟨w',g5',rfl⟩:=A1.1 t4';exact .go rfl rfl hr2 (h12 _ _ g5 g5')
    ·have c:(!false&&n'==12)=false:=by simpa using n12
     simp only [c] at t4 t4'
     cases t4;cases t4'
     exact .fin n0 rfl hKn hr2 hEE
  exact y54 hB g3 g3' (by rw [e1];exact x1) (by rw [e1'];exact x1') R (λ_ h=>h) oM0 ih
 | @loop k c I I2 J E2 x x' q q' l K l' E hk hk' hq hq' hI2 hL2 hE hL ih2 ih =>
  intro D' a b s s' r r' h h' ho ho' hr hN hI;have hs:=zb5 x;have ez:lsz (x::l)=nsz x+lsz l:=rfl;have ezx:nsz x=1+(lsz q+0):=by rw [y37,hq];rfl
  rcases zv8 hB h ho hr.al.l with ⟨hf,e⟩ | ⟨hf,d1,p,r1,hd,g1,g2,g3⟩
  ·exact y2i hr oM0 hf ho'.1 (h'.out hB ho') e
  rcases zv8 hB h' ho' hr.al.l' with ⟨hf',e'⟩ | ⟨hf',d1',p',r1',hd',g1',g2',g3'⟩
  ·exact yx7 hB (LRel.loop hk hk' hq hq' hI2 hL2 hE hL) (Eg _ _) h ho hr hf' e'
  have t:=z75 g2 (by rw [hk];rfl);have t':=z75 g2' (by rw [hk'];rfl);have h2:=hr.dec oM0;obtain ⟨o1,_⟩:=z4s ho hf;obtain ⟨o1',_⟩:=z4s ho' hf';have R:=yj5 hB hq hq' oM0 ih2 hE d1 d1' a b p p' _ _ r1 r1' oM0 t t' o1 o1' (h2.weak (Aa _) oM0 (Aa _)) λa2 b2=>hI2 a b p p' a2 b2 hI g1 g1'
  exact y54 hB g3 g3' (zj5 hB t o1).ok (zj5 hB t' o1').ok R (λn hn=>.inr hn) oM0 ih
 | @ender I x x' l K l' E h1 h2 hkk hKn hE =>
  intro D' a b s s' r r' h h' ho ho' hr hN hI;have hs:=zb5 x;have ez:lsz (x::l)=nsz x+lsz l:=rfl;rcases zp1 hB h1 h2 h ho hr.al.l with ⟨hf,e⟩ | ⟨hf,p,g1,g2⟩
  ·exact y2i hr oM0 hf ho'.1 (h'.out hB ho') e
  rcases zp1 hB (by rw [hkk];exact h1) (by rw [hkk];exact h2) h' ho' hr.al.l' with ⟨hf',e'⟩ | ⟨hf',p',g1',g2'⟩
  ·exact yx7 (l':=x'::l') hB (LRel.ender h1 h2 hkk hKn hE) (Eg _ _) h ho hr hf' e'
  obtain rfl:r'=((x'.kind,p'),b,dec s'):=g2';obtain rfl:r=((x.kind,p),a,dec s):=by
   rcases hKn with rfl | k15
   ·exact g2
   ·cases K with
    | nil=>exact g2
    | cons f K=>unfold KFin at g2;rw [show (((x.kind,p),a,dec s):Rres).1.1=15 from k15,if_pos rfl] at g2;exact g2
  exact .ok hkk (hE _ _ _ _ hI g1 g1') (hr.dec oM0)
 | @once k c I J x q l K l' E hk hq hJ hL ih =>
  intro D' a b s s' r r' h h' ho ho' hr hN hI;have ez:lsz (x::l)=nsz x+lsz l:=rfl;have ezx:nsz x=1+(lsz q+0):=by rw [y37,hq];rfl
  have ek:ksz (⟨14,x.outs,l⟩::K)=lsz l+ksz K:=rfl;rcases y7z hB hk hq h ho hr.al.l with ⟨hf,e⟩ | ⟨hf,p,a2,g1,g2,g3⟩
  ·exact y2i hr oM0 hf ho'.1 (h'.out hB ho') e
  exact ih D' a2 b _ _ r r' g3 h' (z4s ho hf).1 ho' ⟨⟨hr.al.l,hr.al.l',hr.al.ins,hr.al.ar,hr.al.out,hr.al.code⟩,(hr.g.weak (Aa _) (w2:=lsz q+(lsz l+ksz K)+1) oM0).left,hr.co⟩ oM0 (hJ _ _ _ _ hI g1 g2)
 | @leave k c I J y l f K l' E hk hk2 hJ hL ih =>
  intro D' a b s s' r r' h h' ho ho' hr hN hI;have hs:=zb5 y;have ez:lsz (y::l)=nsz y+lsz l:=rfl;have ek:ksz (f::K)=lsz f.rest+ksz K:=rfl;rcases y30 hB hk hk2 h ho hr.al.l with ⟨hf,e⟩ | ⟨hf,p,a2,g1,g2,g3⟩
  ·exact y2i hr oM0 hf ho'.1 (h'.out hB ho') e
  exact ih D' a2 b _ _ r r' g3 h' (z4s ho hf).1 ho' ⟨⟨hr.al.l,hr.al.l',hr.al.ins,hr.al.ar,hr.al.out,hr.al.code⟩,(hr.g.weak (Aa _) (w2:=lsz f.rest+ksz K+1) oM0).left,hr.co⟩ oM0 (hJ _ _ _ _ hI g1 g2)
 | @fork k c I x q0 q1 l K l' E hk hq hL0 hL1 ih0 ih1 =>
  intro D' a b s s' r r' h h' ho ho' hr hN hI;have ez:lsz (x::l)=nsz x+lsz l:=rfl;have ezx:nsz x=1+(lsz q0+(lsz q1+0)):=by rw [y37,hq];rfl
  have ek:ksz (⟨12,x.outs,l⟩::K)=lsz l+ksz K:=rfl;rcases y72 hB hk hq h ho hr.al.l with ⟨hf,e⟩ | ⟨hf,q,hq',g3⟩
  ·exact y2i hr oM0 hf ho'.1 (h'.out hB ho') e
  rcases hq' with rfl | rfl
  ·exact ih0 D' a b _ _ r r' g3 h' (z4s ho hf).1 ho' ⟨⟨hr.al.l,hr.al.l',hr.al.ins,hr.al.ar,hr.al.out,hr.al.code⟩,(hr.g.weak (Aa _) (w2:=lsz q+(lsz l+ksz K)+1) oM0).left,hr.co⟩ oM0 hI
  ·exact ih1 D' a b _ _ r r' g3 h' (z4s ho hf).1 ho' ⟨⟨hr.al.l,hr.al.l',hr.al.ins,hr.al.ar,hr.al.out,hr.al.code⟩,(hr.g.weak (Aa _) (w2:=lsz q+(lsz l+ksz K)+1) oM0).left,hr.co⟩ oM0 hI
def EF:ER:=λ_ p p' _ _=>p'.headD 0=p.headD 0
def FRel (N:Nat) (f g:Fl):Prop:=g.types.length=f.types.length/\lsz f.body<=N/\LRel 0 0 (λa b=>a=b/\a.length=f.types.length) f.body [] g.body EF
theorem y6s (hB:B<=4611686018427387903) (hA:v.arrays=u.arrays) (hP:∀ name,z06 name v.flows 0=z06 name u.flows 0)
 (hF:∀ (i:Nat) f g,u.flows[i]? = some f->v.flows[i]? = some g->FRel N f g):∀ D,HCall u v D B m N
 | 0=>λe _ _ _ _ _ _ _ h=>absurd h (Ae e)
 | D+1=>by
  intro e e' k p s s' q q' he h h' ho ho' hr;have HC:=y6s hB hA hP hF D;obtain ⟨d1,f,r1,rfl,hk,hf,hl1,_,h1,rfl⟩:=z74 h;obtain ⟨d1',g,r1',rfl,_,hg,hl1',_,h1',rfl⟩:=z74 h';obtain ⟨ht,hsz,hL⟩:=hF _ _ _ hf hg;have R:=sound hB hA hP HC hL d1' _ _ s s' r1 r1' ⟨d1,r1,by omega,h1,by split<;>rfl⟩ ⟨d1',r1',Aa _,h1',by split<;>rfl⟩ ho ho' (hr.weak (Aa _) (by simp [ksz];omega) (Aa _)) (by simp [ksz];omega) ⟨by rw [ht],by simp;omega⟩
  cases R with
  | ok ek eE hr2 =>
   refine .ok ?_ hr2;rw [z0t hr2.al.l,z0t hr2.al.l']
   exact eE
  | halt hh=>exact .halt hh
  | cut hc=>exact .cut hc
end
end
section
variable {P:Program} {c:Cx} {R1:Nat->Prop} {o:Oper} {fr:Fr} {σ:Heap'}
def y4d (ns:List Int):ByteArray:=ns.foldl (λr n=>r.push (UInt8.ofNat n.toNat)) ByteArray.empty
def zz1:List (List PV)->Option (List Int)
 | []=>some []
 | [.val (.int .u8 n)]::r=>match zz1 r with
  | some l=>some (n::l)
  | none=>none
 | _=>none
theorem yp2:∀ {els:List (List PV)} {ns:List Int},zz1 els=some ns->els=ns.map λn=>[.val (.int .u8 n)]:=by
 intro els
 induction els with
 | nil=>intro ns h;cases h;rfl
 | cons x r ih =>
  intro ns h;unfold zz1 at h;split at h
  ·rename_i h1;cases h1
  ·rename_i n r' h1
   cases h1
   split at h
   ·rename_i l hl
    cases h
    rw [ih hl];rfl
   ·cases h
  ·cases h
theorem yb1 {s t e:TypeId} {x:Operand} {els:List (List PV)} {ns:List Int} (ho:o.op = .convert s t x) (hx:fr.ev x=some (.pv (.seq els))) (hn:zz1 els=some ns)
 (hs:P.underlying s=some (.slice e)) (he:P.underlying e=some (.int .u8)) (hd:P.underlying t=some .string):OkV P c R1 o fr σ (.pv (.val (.string (y4d ns)))):=by
 have hels:=yp2 hn;refine λρ w a h=>?_;have hr:=(h.ev hx).inv_seq;generalize hv:a.eval x=v at hr
 cases hr with
 | seq _ ad cap b off u ha hb hl hm hc hrp =>
  refine ⟨.string (y4d ns),λw2 h2=>?_,z3f _⟩;have hlen:els.length=(ns.map (Value.int .u8)).length:=by rw [hels];simp
  simp only [execOp,ho,hv,Af];rw [run_convert_bytes_string w2 s t e ad els.length cap hs he hd]
  cases ad with
  | none =>
   have h0:els=[]:=Bw λhne=>by cases ha hne
   have hn0:ns=[]:=by rw [h0] at hels;cases ns with | nil=>rfl | cons _ _=>cases hels
   subst hn0
   rfl
  | some ad =>
   have hload:(loadCells ad els.length).run P w2 = .ok (ns.map (Value.int .u8)).toArray w2:=by
    rw [hlen];refine run_loadCells_list w2 ad _ λj v hj=>?_;rw [B8] at hj;obtain ⟨n,hn1,rfl⟩:=A1.1 hj;have hej:els[j]? = some [.val (.int .u8 n)]:=by rw [hels,B8,hn1];rfl
    have hne:els≠[]:=λe=>by rw [e] at hej;cases hej
    have hc2:=hc j _ hej 0 _ rfl;have hr2:=hrp j _ hej 0 _ rfl;have hu:u j 0 = .int .u8 n:=by
     generalize u j 0=q at hr2
     cases hr2
     rfl
    rw [hu] at hc2
    cases ha hne
    have hcell:=(Di (a:=⟨b,off+j*1+0,none⟩) (h2 b (hb hne).2 (.inl (hb hne).1))).trans hc2;rw [show (⟨b,off,none⟩:Addr).add j=⟨b,off+j,none⟩ by cases j<;>simp [Addr.add]];simpa using hcell
   rw [run_bytesToString w2 ad els.length cap ns hload];rfl
end
section
variable {P:Program} {c:Cx} {fr:Fr} {hp:Hp} {Q:Exit->Fr->Heap'->Prop}
theorem ok_max {R1:Nat->Prop} {o:Oper} {σ:Heap'} {t:TypeId} {x y:Operand} {k:IntKind} {m n:Int} (ho:o.op = .call { callee:=.builtin .max,args:=#[x,y],argTypes:=#[t,t] }) (hx:fr.ev x=some (.pv (.val (.int k m)))) (hy:fr.ev y=some (.pv (.val (.int k n)))) :
 OkV P c R1 o fr σ (.pv (.val (.int k (if m<n then n else m)))):=by
 intro ρ w a h;refine ⟨.int k (if m<n then n else m),λw2 _=>?_,z3f _⟩;simp [execOp,ho,z0v h hx,z0v h hy,resolve,invoke,builtin,Builtin.max_,Builtin.max2]
end
section
def sw (a b k:Nat):Nat:=bif Nat.beq k a then b else bif Nat.beq k b then a else k
theorem sw_sw (a b k:Nat):sw a b (sw a b k)=k:=by
 unfold sw
 by_cases h1:k=a
 ·subst h1;have e1:Nat.beq k k=true:=Dc k;simp only [e1,Dx]
  by_cases h2:b=k
  ·subst h2;simp
  ·have e2:Nat.beq b k=false:=z40 h2;have e3:Nat.beq b b=true:=Dc b;simp [e2,e3]
 ·have e1:Nat.beq k a=false:=z40 h1;simp only [e1,Cy]
  by_cases h2:k=b
  ·subst h2;simp
  ·have e2:Nat.beq k b=false:=z40 h2;simp [e1,e2]
mutual
def IV.ren (p:Nat->Nat):IV->IV
 | .pv x=>.pv x
 | .ptr k off=>.ptr (p k) off
 | .sl k len=>.sl (p k) len
 | .rpt k len off=>.rpt (p k) len off
 | .sp k n len=>.sp (p k) n len
 | .bs k n=>.bs (p k) n
 | .mp k=>.mp (p k)
 | .tnil k T=>.tnil (p k) T
 | .agg cs=>.agg (renL p cs)
 | .tup cs=>.tup (renL p cs)
 | .fn f xs ys=>.fn f (renL p xs) (renL p ys)
def renL (p:Nat->Nat):List IV->List IV
 | []=>[]
 | x::r=>x.ren p::renL p r
end
theorem zx9 (p:Nat->Nat):∀ xs:List IV,renL p xs=xs.map (IV.ren p)
 | []=>rfl
 | x::r=>by simp [renL,zx9 p r]
theorem z67 {p:Nat->Nat} {xs:List IV} {j:Nat} {c:IV} (h:(renL p xs)[j]? = some c):∃ x,xs[j]? = some x/\c=x.ren p:=by
 rw [zx9,B8,A1] at h;obtain ⟨x,h1,rfl⟩:=h;exact ⟨x,h1,rfl⟩
theorem zd6 (p:Nat->Nat) (xs:List IV):(renL p xs).length=xs.length:=by rw [zx9,A5]
def HO.ren (p:Nat->Nat):HO->HO
 | .box cs=>.box (renL p cs)
 | .row s els=>.row s els
 | .map es=>.map es
def renP (p:Nat->Nat) (l:List (Nat × HO)):List (Nat × HO):=l.map λx=>(p x.1,x.2.ren p)
section
variable {p:Nat->Nat} (hp:∀ k,p (p k)=k) {F:Nat->Prop} {ρ:Loc} {σ σ':Heap'} {w:World}
include hp
theorem y0q {b:Nat}:owned F (λk=>ρ (p k)) b↔owned F ρ b:=by
 constructor
 ·rintro (h | ⟨k,c,h⟩)
  ·exact .inl h
  ·exact .inr ⟨p k,c,h⟩
 ·rintro (h | ⟨k,c,h⟩)
  ·exact .inl h
  ·exact .inr ⟨p k,c,by show ρ (p (p k))=_;rw [hp];exact h⟩
theorem y5g (hσ:∀ k,σ' (p k)=(σ k).map (HO.ren p)) {x:IV} {v:Value} (h:RepI F ρ σ w x v):RepI F (λk=>ρ (p k)) σ' w (x.ren p) v:=by
 induction h with
 | pv q v h=>exact .pv q v (h.own λb hb=>(y0q hp).1 hb)
 | ptr k off v h =>
  refine .ptr _ off v λcs' h'=>?_;rw [hσ,A1] at h';obtain ⟨o,h1,h2⟩:=h'
  cases o with
  | box cs=>obtain ⟨b,c,h3,h4⟩:=h cs h1;exact ⟨b,c,by rw [hp];exact h3,h4⟩
  | row=>cases h2
  | map=>cases h2
 | sl k len v h =>
  refine .sl _ len v λs els h'=>?_;rw [hσ,A1] at h';obtain ⟨o,h1,h2⟩:=h'
  cases o with
  | row s' els'=>cases h2;rw [hp];exact h _ _ h1
  | box=>cases h2
  | map=>cases h2
 | sp k n len v h =>
  refine .sp _ n len v λs els h'=>?_;rw [hσ,A1] at h';obtain ⟨o,h1,h2⟩:=h'
  cases o with
  | row s' els'=>cases h2;rw [hp];exact h _ _ h1
  | box=>cases h2
  | map=>cases h2
 | rpt k len off v h =>
  refine .rpt _ len off v λs els h'=>?_;rw [hσ,A1] at h';obtain ⟨o,h1,h2⟩:=h'
  cases o with
  | row s' els'=>cases h2;rw [hp];exact h _ _ h1
  | box=>cases h2
  | map=>cases h2
 | bs k n v h =>
  refine .bs _ n v λcs' h'=>?_;rw [hσ,A1] at h';obtain ⟨o,h1,h2⟩:=h'
  cases o with
  | box cs=>obtain ⟨b,c,h3,h4⟩:=h cs h1;exact ⟨b,c,by rw [hp];exact h3,h4⟩
  | row=>cases h2
  | map=>cases h2
 | tnil k T v h =>
  refine .tnil _ T v λcs' h'=>?_;rw [hσ,A1] at h';obtain ⟨o,h1,h2⟩:=h'
  cases o with
  | box cs=>obtain ⟨b,h3,h4⟩:=h cs h1;exact ⟨b,by rw [hp];exact h3,h4⟩
  | row=>cases h2
  | map=>cases h2
 | mp k v h =>
  refine .mp _ v λes h'=>?_;rw [hσ,A1] at h';obtain ⟨o,h1,h2⟩:=h'
  cases o with
  | map es'=>cases h2;rw [hp];exact h _ h1
  | row=>cases h2
  | box=>cases h2
 | agg cs vs u hl hv _ ih =>
  refine .agg _ vs u (by rw [zd6];exact hl) (λj c hj=>?_) λj c hj=>?_
  ·obtain ⟨x,h1,rfl⟩:=z67 hj;exact hv j x h1
  ·obtain ⟨x,h1,rfl⟩:=z67 hj;exact ih j x h1
 | tup cs vs u hl hv _ ih =>
  refine .tup _ vs u (by rw [zd6];exact hl) (λj c hj=>?_) λj c hj=>?_
  ·obtain ⟨x,h1,rfl⟩:=z67 hj;exact hv j x h1
  ·obtain ⟨x,h1,rfl⟩:=z67 hj;exact ih j x h1
 | fn f xs ys vs ws u t hl hv _ hl' hv' _ ih ih' =>
  refine .fn f _ _ vs ws u t (by rw [zd6];exact hl) (λj c hj=>?_) (λj c hj=>?_) (by rw [zd6];exact hl') (λj c hj=>?_) λj c hj=>?_
  ·obtain ⟨x,h1,rfl⟩:=z67 hj;exact hv j x h1
  ·obtain ⟨x,h1,rfl⟩:=z67 hj;exact ih j x h1
  ·obtain ⟨x,h1,rfl⟩:=z67 hj;exact hv' j x h1
  ·obtain ⟨x,h1,rfl⟩:=z67 hj;exact ih' j x h1
mutual
theorem j1n:∀ x:IV,(x.ren p).ren p=x
 | .pv _=>rfl
 | .ptr k off=>by simp only [IV.ren,hp]
 | .sl k len=>by simp only [IV.ren,hp]
 | .rpt k len off=>by simp only [IV.ren,hp]
 | .sp k n len=>by simp only [IV.ren,hp]
 | .bs k n=>by simp only [IV.ren,hp]
 | .mp k=>by simp only [IV.ren,hp]
 | .tnil k T=>by simp only [IV.ren,hp]
 | .agg cs=>by simp only [IV.ren,z8v cs]
 | .tup cs=>by simp only [IV.ren,z8v cs]
 | .fn f xs ys=>by simp only [IV.ren,z8v xs,z8v ys]
theorem z8v:∀ xs:List IV,renL p (renL p xs)=xs
 | []=>rfl
 | x::r=>by simp only [renL,j1n x,z8v r]
end
theorem HO.ren_ren (o:HO):(o.ren p).ren p=o:=by cases o<;>simp [HO.ren,z8v hp]
theorem repO_ren (hσ:∀ k,σ' (p k)=(σ k).map (HO.ren p)) {b c:Nat} {o:HO} (h:RepO F ρ σ w b c o):RepO F (λk=>ρ (p k)) σ' w b c (o.ren p):=by
 cases h with
 | box cs e a u h1 h2 h3 h4 =>
  refine .box _ e a u h1 (by rw [zd6];exact h2) (λj x hj=>?_) λj x hj=>?_
  ·obtain ⟨y,h5,rfl⟩:=z67 hj;exact h3 j y h5
  ·obtain ⟨y,h5,rfl⟩:=z67 hj;exact y5g hp hσ (h4 j y h5)
 | row s els a u h1 h2 h3 h4 h5 h6 h7=>exact .row s els a u h1 h2 h3 h4 h5 h6 λi el hi j x hj=>(h7 i el hi j x hj).own λb hb=>(y0q hp).1 hb
 | map es a t u h1 h2 h3 h4=>exact .map es a t u h1 h2 h3 λi k q hi=>(h4 i k q hi).own λb hb=>(y0q hp).1 hb
theorem yl0 (hσ:∀ k,σ' (p k)=(σ k).map (HO.ren p)) (h:RelH F ρ σ w):RelH F (λk=>ρ (p k)) σ' w where
 inj k k' b c c' h1 h2:=by
  have:=h.inj _ _ _ _ _ h1 h2;rw [<- hp k,this,hp]
 apart k b c h1:=h.apart _ _ _ h1
 old:=h.old
 obj k b c h1:=by
  obtain ⟨o,h2,h3⟩:=h.obj _ _ _ h1;refine ⟨o.ren p,?_,repO_ren hp hσ h3⟩;have:=hσ (p k);rw [hp,h2] at this;exact this
 real k o h1 h2:=by
  have h3:=hσ (p k);rw [hp,h1] at h3;obtain ⟨o',h4,h5⟩:=A1.1 h3.symm;obtain ⟨s,rfl⟩:=h.real _ _ h4 h2;exact ⟨s,h5.symm⟩
end
theorem j4h {p:Nat->Nat} (hp:∀ k,p (p k)=k) {F R:Nat->Prop} {ρ ρ1:Loc} {σ σ1 τ τ1:Heap'} {w w':World} (hσ:∀ k,τ (p k)=(σ k).map (HO.ren p)) (hσ1:∀ k,τ1 (p k)=(σ1 k).map (HO.ren p)) (t:Trans F R ρ σ w ρ1 σ1 w') :
 Trans F (λk=>R (p k)) (λk=>ρ (p k)) τ w (λk=>ρ1 (p k)) τ1 w' where
 os:=t.os
 tape:=t.tape
 output:=t.output
 size:=t.size
 blk b hb h:=t.blk b hb λk c hk=>by
  have:=h (p k) c (by rw [hp];exact hk)
  rwa [hp] at this
 own k b c h hb:=t.own _ b c h hb
 box k cs cs' h h':=by
  have e:=hσ (p k);have e':=hσ1 (p k);rw [hp,h] at e;rw [hp,h'] at e';obtain ⟨o,h1,h2⟩:=A1.1 e.symm;obtain ⟨o',h3,h4⟩:=A1.1 e'.symm
  cases o with
  | box cs0=>cases o' with
   | box cs1=>exact t.box _ _ _ h1 h3
   | row=>cases h4
   | map=>cases h4
  | row=>cases h2
  | map=>cases h2
 map k cs cs' h h':=by
  have e:=hσ (p k);have e':=hσ1 (p k);rw [hp,h] at e;rw [hp,h'] at e';obtain ⟨o,h1,h2⟩:=A1.1 e.symm;obtain ⟨o',h3,h4⟩:=A1.1 e'.symm
  cases o with
  | map cs0=>cases o' with
   | map cs1=>exact t.map _ _ _ h1 h3
   | row=>cases h4
   | box=>cases h4
  | row=>cases h2
  | box=>cases h2
 row k s s' els els' h h' hl:=by
  have e:=hσ (p k);have e':=hσ1 (p k);rw [hp,h] at e;rw [hp,h'] at e';obtain ⟨o,h1,h2⟩:=A1.1 e.symm;obtain ⟨o',h3,h4⟩:=A1.1 e'.symm
  cases o with
  | row s0 cs0=>cases o' with
   | row s1 cs1=>cases h2;cases h4;exact t.row _ _ _ _ _ h1 h3 hl
   | map=>cases h4
   | box=>cases h4
  | map=>cases h2
  | box=>cases h2
 grow k s s' els els' h h':=by
  have e:=hσ (p k);have e':=hσ1 (p k);rw [hp,h] at e;rw [hp,h'] at e';obtain ⟨o,h1,h2⟩:=A1.1 e.symm;obtain ⟨o',h3,h4⟩:=A1.1 e'.symm
  cases o with
  | row s0 cs0=>cases o' with
   | row s1 cs1=>cases h2;cases h4;exact t.grow _ _ _ _ _ h1 h3
   | map=>cases h4
   | box=>cases h4
  | map=>cases h2
  | box=>cases h2
 kindB k cs' h':=by
  have e':=hσ1 (p k);have e:=hσ (p k);rw [hp,h'] at e';rw [hp] at e;obtain ⟨o',h3,h4⟩:=A1.1 e'.symm
  cases o' with
  | box cs1 =>
   rcases t.kindB _ _ h3 with h5 | ⟨cs,h5⟩
   ·rw [h5] at e;exact .inl e
   ·rw [h5] at e;exact .inr ⟨_,e⟩
  | row=>cases h4
  | map=>cases h4
 kindM k cs' h':=by
  have e':=hσ1 (p k);have e:=hσ (p k);rw [hp,h'] at e';rw [hp] at e;obtain ⟨o',h3,h4⟩:=A1.1 e'.symm
  cases o' with
  | map cs1 =>
   rcases t.kindM _ _ h3 with h5 | ⟨cs,h5⟩
   ·rw [h5] at e;exact .inl e
   ·rw [h5] at e;exact .inr ⟨_,e⟩
  | row=>cases h4
  | box=>cases h4
 kindR k s cs' h':=by
  have e':=hσ1 (p k);have e:=hσ (p k);rw [hp,h'] at e';rw [hp] at e;obtain ⟨o',h3,h4⟩:=A1.1 e'.symm
  cases o' with
  | row s1 cs1 =>
   cases h4
   rcases t.kindR _ _ _ h3 with h5 | ⟨cs,h5⟩
   ·rw [h5] at e;exact .inl e
   ·rw [h5] at e;exact .inr ⟨_,e⟩
  | map=>cases h4
  | box=>cases h4
theorem beq_ren {p:Nat->Nat} (hp:∀ k,p (p k)=k) (a k:Nat):Nat.beq (p a) (p k)=Nat.beq a k:=by
 by_cases h:a=k
 ·subst h;simp
 ·rw [z40 h,z40 λe=>h (by rw [<- hp a,e,hp])]
theorem zd1 {p:Nat->Nat} (hp:∀ k,p (p k)=k):∀ (l:List (Nat × HO)) (k:Nat),look (up (renP p l)) (p k)=(look (up l) k).map (HO.ren p)
 | [],_=>rfl
 | (a,o)::r,k=>by
  simp only [renP,up,Az,look];rw [beq_ren hp]
  cases Nat.beq a k with
  | true=>rfl
  | false=>exact zd1 hp r k
theorem SC.ren {P:Program} {p:Nat->Nat} (hp:∀ k,p (p k)=k) {f:FuncId} {args:List IV} {pre post:List (Nat × HO)} {R:Nat->Prop} {r:IV} (h:SC P f args pre R r post):SC P f (renL p args) (renP p pre) (λk=>R (p k)) (r.ren p) (renP p post):=by
 intro F ρ w vs hkept hrel hargs;have hb:∀ (l:List (Nat × HO)) (k:Nat),look (up l) (p k)=(look (up (renP p l)) k).map (HO.ren p):=by
  intro l k;have:=zd1 hp l (p k);rw [hp] at this;rw [this]
  cases look (up l) (p k) with
  | none=>rfl
  | some o=>exact A8 some (HO.ren_ren hp o).symm
 have h1:RelH F (λk=>ρ (p k)) (look (up pre)) w:=yl0 hp (hb pre) hrel;have h2:RepL F (λk=>ρ (p k)) (look (up pre)) w args vs:=by
  refine ⟨by rw [<- hargs.1,zd6],λj x hj=>?_⟩;obtain ⟨v,h3,h4⟩:=hargs.2 j (x.ren p) (by rw [zx9,B8,hj];rfl);have h5:=y5g hp (hb pre) h4;rw [j1n hp] at h5;exact ⟨v,h3,h5⟩
 refine Calls.mono (h F _ w vs (hkept.mono λb hb=>hb.elim .inl λ⟨k,c,hk⟩=>.inr ⟨p k,c,hk⟩) h1 h2) λe w' hq=>?_;obtain ⟨ρ',v,h3,h4,h5,h6⟩:=hq;refine ⟨λk=>ρ' (p k),v,h3,y5g hp (zd1 hp post) h4,yl0 hp (zd1 hp post) h5,?_⟩;have:=j4h hp (zd1 hp pre) (zd1 hp post) h6;simpa only [hp] using this
theorem SC.sw {P:Program} {f:FuncId} {args:List IV} {pre post:List (Nat × HO)} {R:Nat->Prop} {r:IV} (a b:Nat) (h:SC P f args pre R r post):SC P f (renL (sw a b) args) (renP (sw a b) pre) (λk=>R (Proofs.YtbemfckjedfcmaaGreatDoor.sw a b k)) (r.ren (Proofs.YtbemfckjedfcmaaGreatDoor.sw a b)) (renP (Proofs.YtbemfckjedfcmaaGreatDoor.sw a b) post):=h.ren (sw_sw a b)
end
section
variable {P:Program} {c:Cx} {R1:Nat->Prop} {o:Oper} {fr:Fr} {hp:Hp} {σ:Heap'} {Q:Exit->Fr->Heap'->Prop}
theorem Names.one {Q:Nat->Prop} {x:IV} (h:Names Q x):∃ k,Q k/\Names (· = k) x:=by
 induction h with
 | ptr h=>exact ⟨_,h,.ptr rfl⟩
 | sl h=>exact ⟨_,h,.sl rfl⟩
 | rpt h=>exact ⟨_,h,.rpt rfl⟩
 | sp h=>exact ⟨_,h,.sp rfl⟩
 | bs h=>exact ⟨_,h,.bs rfl⟩
 | mp h=>exact ⟨_,h,.mp rfl⟩
 | tnil h=>exact ⟨_,h,.tnil rfl⟩
 | agg hc _ ih=>obtain ⟨k,h1,h2⟩:=ih;exact ⟨k,h1,.agg hc h2⟩
 | tup hc _ ih=>obtain ⟨k,h1,h2⟩:=ih;exact ⟨k,h1,.tup hc h2⟩
 | fn1 hc _ ih=>obtain ⟨k,h1,h2⟩:=ih;exact ⟨k,h1,.fn1 hc h2⟩
 | fn2 hc _ ih=>obtain ⟨k,h1,h2⟩:=ih;exact ⟨k,h1,.fn2 hc h2⟩
open Classical in
theorem SC.stepN {ns:List Nat} {f:FuncId} {args:List IV} {pre post:List (Nat × HO)} {R:Nat->Prop} {r:IV} {hp:Hp} {ρ:Loc} {w:World} {a:Act} {vs:List Value} (hsc:SC P f args pre R r post)
 (h:All c ρ (look hp) w fr a) (hargs:RepL c.F ρ (look hp) w args vs) (hpre:∀ k o,look (up pre) k=some o->look hp k=some o) (hdom:post.map (·.1)=ns++pre.map (·.1)) (hσ0:∀ k∈ns,look hp k=none) (hc0:∀ k∈ns,c.σ k=none) (hfr0:∀ k∈ns,nmFr k fr=false) (hhp0:∀ k∈ns,nmHp k hp=false)
 (hR:∀ k,c.R k->look (up pre) k=none∨R k) (hr:only (post.map (·.1)) r=true) (hpost:z8s (post.map (·.1)) post=true) :
 Calls P f vs.toArray w λe w'=>∃ ρ' v,e = .returned v/\All c ρ' (look (up post++hp)) w' fr a/\RepI c.F ρ' (look (up post++hp)) w' r v:=by
 have hd:∀ k,look (up post) k=none↔look (up pre) k=none/\k∉ns:=λk=>by
  rw [z2r,z2r,hdom,Ay,not_or];exact And.comm
 have hpp:∀ k,look (up post) k≠none->look hp k≠none->look (up pre) k≠none:=λk e e1 e2=>by
  by_cases e3:k∈ns
  ·exact e1 (hσ0 k e3)
  ·exact e ((hd k).2 ⟨e2,e3⟩)
 let ρ1:Loc:=λk=>if look (up pre) k=none then none else ρ k
 let F1:Nat->Prop:=λb=>c.F b∨∃ k cc,ρ k=some (b,cc)/\look (up pre) k=none
 have h1in:∀ k,look (up pre) k≠none -> ρ1 k = ρ k:=λk hk=>if_neg hk;have h1out:∀ k,look (up pre) k=none -> ρ1 k=none:=λk hk=>if_pos hk;have h1:∀ k l,ρ1 k=some l->look (up pre) k≠none /\ ρ k=some l:=λk l hk=>by
  by_cases e:look (up pre) k=none
  ·rw [h1out k e] at hk;cases hk
  ·exact ⟨e,(h1in k e) ▸ hk⟩
 have hown1:∀ b,owned F1 ρ1 b->owned c.F ρ b:=λb hb=>by
  rcases hb with (hb | ⟨k,cc,hk,_⟩) | ⟨k,cc,hk⟩
  ·exact .inl hb
  ·exact .inr ⟨k,cc,hk⟩
  ·exact .inr ⟨k,cc,(h1 k _ hk).2⟩
 have hconv:∀ x:IV,¬ Names (λk=>¬ ∀ o,look (up pre) k=some o->look hp k=some o /\ ρ1 k = ρ k) x:=λx hx=>by
  obtain ⟨k,hk⟩:=hx.some;exact hk λo ho=>⟨hpre k o ho,h1in k (by simp [ho])⟩
 have hrel1:RelH F1 ρ1 (look (up pre)) w:=by
  refine ⟨λk k' b cc cc' hk hk'=>h.rel.inj k k' b cc cc' (h1 _ _ hk).2 (h1 _ _ hk').2,λk b cc hk hb=>?_,λb hb=>?_,λk b cc hk=>?_,λk o hk hρ=>?_⟩
  ·rcases hb with hb | ⟨k',cc',hk',hn⟩
   ·exact h.rel.apart k b cc (h1 _ _ hk).2 hb
   ·obtain rfl:=h.rel.inj _ _ _ _ _ (h1 _ _ hk).2 hk';exact (h1 _ _ hk).1 hn
  ·rcases hb with hb | ⟨k',cc',hk',_⟩
   ·exact h.rel.old b hb
   ·exact h.rel.lt hk'
  ·obtain ⟨hne,hk2⟩:=h1 _ _ hk;obtain ⟨o1,ho1,ho2⟩:=h.rel.obj k b cc hk2
   cases hl:look (up pre) k with
   | none=>exact absurd hl hne
   | some o2 =>
    rw [hpre k o2 hl] at ho1;cases ho1
    exact ⟨_,rfl,ho2.conv hown1 λx _=>hconv x⟩
  ·rw [h1in k (by simp [hk])] at hρ;exact h.rel.real k o (hpre k o hk) hρ
 refine (hsc F1 ρ1 w vs (h.kept.mono hown1) hrel1 ⟨hargs.1,λj x hj=>?_⟩).mono ?_
 ·obtain ⟨v,hv,hx⟩:=hargs.2 j x hj;exact ⟨v,hv,hx.conv hown1 (hconv x)⟩
 rintro e w' ⟨ρ2,v,rfl,hv,hrel2,t⟩
 let ρ':Loc:=λk=>if look (up post) k=none then ρ k else ρ2 k
 have h2in:∀ k,look (up post) k≠none -> ρ' k = ρ2 k:=λk hk=>if_neg hk;have h2out:∀ k,look (up post) k=none -> ρ' k = ρ k:=λk hk=>if_pos hk;have h2none:∀ k,look (up post) k=none -> ρ2 k=none:=λk hk=>by
  cases h3:ρ2 k with
  | none=>rfl
  | some l =>
   obtain ⟨o1,ho1,_⟩:=hrel2.obj k l.1 l.2 h3;rw [hk] at ho1;cases ho1
 have hσin:∀ k,look (up post) k≠none->look (up post++hp) k=look (up post) k:=λk hk=>by
  rw [z58]
  cases h3:look (up post) k with
  | none=>exact absurd h3 hk
  | some o=>rfl
 have hσout:∀ k,look (up post) k=none->look (up post++hp) k=look hp k:=λk hk=>by
  rw [z58,hk];rfl
 have hown2:∀ b,owned c.F ρ' b->owned F1 ρ2 b:=λb hb=>by
  rcases hb with hb | ⟨k,cc,hk⟩
  ·exact .inl (.inl hb)
  ·by_cases e:look (up post) k=none
   ·rw [h2out k e] at hk;exact .inl (.inr ⟨k,cc,hk,((hd k).1 e).1⟩)
   ·rw [h2in k e] at hk;exact .inr ⟨k,cc,hk⟩
 have hconv2:∀ x:IV,only (post.map (·.1)) x=true -> ¬ Names (λk=>¬ ∀ o,look (up post++hp) k=some o->look (up post) k=some o /\ ρ' k = ρ2 k) x:=λx hx hn=>by
  refine y39 hx (hn.imp λk hk hmem=>hk λo ho=>?_);have hne:look (up post) k≠none:=λe=>(z2r.1 e) hmem;rw [hσin k hne] at ho;exact ⟨ho,h2in k hne⟩
 have T:Trans c.F (λk=>look (up pre) k=none∨R k) ρ (look hp) w ρ' (look (up post++hp)) w':=by
  refine ⟨t.os,t.tape,t.output,t.size,λb hb hall=>t.blk b hb λk cc hk=>?_,λk b cc hk hb=>?_,λk cs cs' e1 e2=>?_,λk cs cs' e1 e2=>?_,λk s s' els els' e1 e2 hl=>?_,λk s s' els els' e1 e2=>?_,λk cs' e2=>?_,λk cs' e2=>?_,λk s els' e2=>?_⟩
  ·obtain ⟨hne,hk2⟩:=h1 _ _ hk;exact (hall k cc hk2).resolve_left hne
  ·by_cases e:look (up post) k=none
   ·rwa [h2out k e] at hk
   ·rw [h2in k e] at hk;exact (h1 _ _ (t.own k b cc hk hb)).2
  all_goals by_cases e:look (up post) k=none
  ·exact h2out k e
  ·cases h3:look (up pre) k with
   | none=>exact absurd h3 (hpp k e (by simp [e1]))
   | some o =>
    rw [hpre k o h3] at e1;cases e1
    rw [hσin k e] at e2;rw [h2in k e,t.box k _ _ h3 e2,h1in k (by simp [h3])]
  ·exact h2out k e
  ·cases h3:look (up pre) k with
   | none=>exact absurd h3 (hpp k e (by simp [e1]))
   | some o =>
    rw [hpre k o h3] at e1;cases e1
    rw [hσin k e] at e2;rw [h2in k e,t.map k _ _ h3 e2,h1in k (by simp [h3])]
  ·exact h2out k e
  ·cases h3:look (up pre) k with
   | none=>exact absurd h3 (hpp k e (by simp [e1]))
   | some o =>
    rw [hpre k o h3] at e1;cases e1
    rw [hσin k e] at e2;rw [h2in k e,t.row k _ _ _ _ h3 e2 hl,h1in k (by simp [h3])]
  ·rw [hσout k e,e1] at e2;cases e2;exact Aa _
  ·cases h3:look (up pre) k with
   | none=>exact absurd h3 (hpp k e (by simp [e1]))
   | some o =>
    rw [hpre k o h3] at e1;cases e1
    rw [hσin k e] at e2;exact t.grow k _ _ _ _ h3 e2
  ·rw [hσout k e] at e2;exact .inr ⟨_,e2⟩
  ·rw [hσin k e] at e2;rcases t.kindB k _ e2 with h3 | ⟨cs,h3⟩
   ·by_cases e3:k∈ns
    ·exact .inl (hσ0 k e3)
    ·exact absurd ((hd k).2 ⟨h3,e3⟩) e
   ·exact .inr ⟨cs,hpre k _ h3⟩
  ·rw [hσout k e] at e2;exact .inr ⟨_,e2⟩
  ·rw [hσin k e] at e2;rcases t.kindM k _ e2 with h3 | ⟨cs,h3⟩
   ·by_cases e3:k∈ns
    ·exact .inl (hσ0 k e3)
    ·exact absurd ((hd k).2 ⟨h3,e3⟩) e
   ·exact .inr ⟨cs,hpre k _ h3⟩
  ·rw [hσout k e] at e2;exact .inr ⟨_,e2⟩
  ·rw [hσin k e] at e2;rcases t.kindR k _ _ e2 with h3 | ⟨cs,h3⟩
   ·by_cases e3:k∈ns
    ·exact .inl (hσ0 k e3)
    ·exact absurd ((hd k).2 ⟨h3,e3⟩) e
   ·exact .inr ⟨cs,hpre k _ h3⟩
 have hnone:∀ k,(look hp k=none/\look (up post++hp) k≠none)->k∈ns:=λk hk=>by
  by_cases e:look (up post) k=none
  ·rw [hσout k e] at hk;exact absurd hk.1 hk.2
  ·refine Bw λe3=>?_;have e4:look (up pre) k≠none:=λh3=>e ((hd k).2 ⟨h3,e3⟩)
   cases h3:look (up pre) k with
   | none=>exact e4 h3
   | some o=>rw [hpre k o h3] at hk;cases hk.1
 have hnn:∀ x:IV,(∀ k∈ns,nm k x=false) -> ¬ Names (λk=>look hp k=none/\look (up post++hp) k≠none) x:=λx hx hn=>by
  obtain ⟨k,hk,hk2⟩:=(hn.imp hnone).one;have:=hx k hk;rw [y57 hk2] at this;cases this
 refine ⟨ρ',v,rfl,h.step T hR ⟨λk k' b cc cc' hk hk'=>?_,λk b cc hk hb=>?_,λb hb=>B4 (h.rel.old b hb) t.size,λk b cc hk=>?_,λk o hk hρ=>?_⟩ (λk e1 e2=>hc0 k (hnone k ⟨e1,e2⟩)) λ_ x hx=>hnn x λk hk=>zx7 (hfr0 k hk) hx,hv.conv hown2 (hconv2 r hr)⟩
 ·by_cases e:look (up post) k=none<;>by_cases e':look (up post) k'=none
  ·rw [h2out k e] at hk;rw [h2out k' e'] at hk';exact h.rel.inj _ _ _ _ _ hk hk'
  ·rw [h2out k e] at hk;rw [h2in k' e'] at hk';exact absurd (.inr ⟨k,cc,hk,((hd k).1 e).1⟩) (hrel2.apart _ _ _ hk')
  ·rw [h2in k e] at hk;rw [h2out k' e'] at hk';exact absurd (.inr ⟨k',cc',hk',((hd k').1 e').1⟩) (hrel2.apart _ _ _ hk)
  ·rw [h2in k e] at hk;rw [h2in k' e'] at hk';exact hrel2.inj _ _ _ _ _ hk hk'
 ·by_cases e:look (up post) k=none
  ·rw [h2out k e] at hk;exact h.rel.apart _ _ _ hk hb
  ·rw [h2in k e] at hk;exact hrel2.apart _ _ _ hk (.inl hb)
 ·by_cases e:look (up post) k=none
  ·rw [h2out k e] at hk;obtain ⟨o1,ho1,ho2⟩:=h.rel.obj k b cc hk;refine ⟨o1,(hσout k e).trans ho1,ho2.keep T (t.blk b (h.rel.lt hk) λk' cc' hk'=>?_) λx ⟨cs,h3,h4⟩=>hnn x λk hk=>by subst h3;exact z7d (zl1 (hhp0 k hk) ho1) h4⟩;obtain ⟨hne,hk2⟩:=h1 _ _ hk';obtain rfl:=h.rel.inj _ _ _ _ _ hk hk2;exact absurd ((hd _).1 e).1 hne
  ·rw [h2in k e] at hk;obtain ⟨o1,ho1,ho2⟩:=hrel2.obj k b cc hk;refine ⟨o1,(hσin k e).trans ho1,ho2.conv hown2 λx ⟨cs,h3,h4⟩=>hconv2 x ?_⟩;subst h3;exact z7f (z8t hpost (z1l ho1)) h4
 ·by_cases e:look (up post) k=none
  ·rw [hσout k e] at hk;rw [h2out k e] at hρ;exact h.rel.real k o hk hρ
  ·rw [hσin k e] at hk;rw [h2in k e] at hρ;exact hrel2.real k o hk hρ
theorem j14 {ns:List Nat} {f:FuncId} {os:Array Operand} {tys:Array TypeId} {xs args:List IV} {pre post:List (Nat × HO)} {R:Nat->Prop} {r:IV} {hp:Hp} (hsc:SC P f args pre R r post) (hf:z6b P f)
 (ho:o.op = .call { callee:=.value (.func f),args:=os,argTypes:=tys }) (hx:evs fr os.toList=some xs) (hs:Subs (look hp) xs args) (hpre:∀ k o,look (up pre) k=some o->look hp k=some o) (hdom:post.map (·.1)=ns++pre.map (·.1)) (hσ0:∀ k∈ns,look hp k=none) (hc0:∀ k∈ns,c.σ k=none) (hfr0:∀ k∈ns,nmFr k fr=false) (hhp0:∀ k∈ns,nmHp k hp=false)
 (hR:∀ k,c.R k->look (up pre) k=none∨R k) (hr:only (post.map (·.1)) r=true) (hpost:z8s (post.map (·.1)) post=true):Ok P c o fr (look hp) r (look (up post++hp)):=by
 intro ρ w a K Q h hK;obtain ⟨fn,hfn,hname,hbody⟩:=hf;have hargs:=hs _ _ _ _ (zg4 h hx);have hrun:(execOp a.eval o).run P w = .ok (.enter f (os.toList.map a.eval).toArray) w:=by
  have hcall:(callFunc f (os.toList.map a.eval).toArray).run P w = .ok (.enter f (os.toList.map a.eval).toArray) w:=by
   unfold callFunc;simp only [Af];show (Result.andThen (.ok P w) _)=_;simp only [Ao,hfn,hname,hbody];rfl
  simp only [execOp,ho,resolve,Act.eval,Deferred.ofValue,Af,Ci,Ao,invoke];rw [<- hcall]
  congr 2
  apply Fh;simp
 unfold Oper.wp;rw [hrun,Fb];refine (hsc.stepN h hargs hpre hdom hσ0 hc0 hfr0 hhp0 hR hr hpost).mono ?_;rintro e w' ⟨ρ',v,rfl,h1,h2⟩;exact hK ρ' w' v h1 h2
structure K5 (P:Program) (t:TypeId) (f0 f1 f2 f3 f4:Field):Prop where
 hu:P.underlying t=some (.struct #[f0,f1,f2,f3,f4])
 hs:P.stoodInHeld t=false
 t0:P.underlying f0.type=some (.int .i64)
 t1:P.underlying f1.type=some (.int .i64)
 t2:P.underlying f2.type=some (.int .i64)
 t3:P.underlying f3.type=some (.int .i64)
 t4:P.underlying f4.type=some (.int .i64)
 n0:f0.name ≠ "_"
 n1:f1.name ≠ "_"
 n2:f2.name ≠ "_"
 n3:f3.name ≠ "_"
 n4:f4.name ≠ "_"
 o0:f0.offset=0
 o1:f1.offset=1
 o2:f2.offset=2
 o3:f3.offset=3
 o4:f4.offset=4
section
variable {kt:TypeId} {f0 f1 f2 f3 f4:Field}
end
end
section
variable {P:Program} {c:Cx} {o:Oper} {fr:Fr} {hp:Hp}
theorem All.flatRow {ρ:Loc} {w:World} {a:Act} (h:All c ρ (look hp) w fr a) {x:Operand} {k n:Nat} {s:RT} {els:List (List PV)} (hx:fr.ev x=some (.sl k n)) (hk:look hp k=some (.row s els)) (hn:els.length=n) (hone:∀ el∈els,∀ x∈el,x.one=true) :
 FlatV (owned c.F ρ) w s.n els (a.eval x):=by
 rcases h.row hx hk hn with ⟨b,cc,r,u,hv,hρ,h3,h4,hc,hcm,hwe,hcells,hu⟩ | ⟨hv,hρ,hnil⟩
 ·have key:∀ q,q<els.length*s.n->∃ el x,els[q / s.n]? = some el/\el.length=s.n/\el[q % s.n]? = some x/\x.one=true:=λq hq=>by
   obtain ⟨h1,h2,h3⟩:=y4m hq;have he:=hwe _ (Cu h1);exact ⟨els[q / s.n],els[q / s.n][q % s.n]'oM0,A7 h1,he,A7 _,hone _ (Cu h1) _ (Cu _)⟩
  refine ⟨some ⟨b,0,none⟩,cc,u,by rw [hv,hn],λ_=>⟨_,rfl,λj y hj=>?_⟩,λy hy=>?_,hu⟩
  ·have hq:j<els.length*s.n:=by have:=(A3.1 hj).1;simpa using this
   obtain ⟨el,x,h1,h2,h5,_⟩:=key j hq;have hy:y=u (j / s.n) (j % s.n):=by simpa [hq] using hj.symm
   have:=hcells _ el h1 _ x h5;rw [Cv,hy,z5i h3,Bu,<- this,(y4m hq).2.2]
  ·obtain ⟨q,hq,rfl⟩:=C5.1 hy;obtain ⟨el,x,h1,h2,h5,h6⟩:=key q (by simpa using hq);exact (hu _ el h1 _ x h5).one h6
 ·subst hnil;exact ⟨none,0,λ_ _=>undef,by simpa using hv,λhne=>absurd rfl hne,λy hy=>by simp at hy,λi el hi=>by simp at hi⟩
theorem y59 {t:TypeId} {x y:Operand} {k n k2 n2 by_:Nat} {s:RT} {els news:List (List PV)} (ho:o.op = .call { callee:=.builtin .append,args:=#[x,y],argTypes:=#[t,t] }) (hx:fr.ev x=some (.sl k n)) (hy:fr.ev y=some (.sl k2 n2))
 (hk:look hp k=some (.row s els)) (hn:els.length=n) (hk2:look hp k2=some (.row s news)) (hn2:news.length=n2) (hR:¬ c.R k) (ht:P.underlying t=some (.slice s.e)) (hi:(P.info? s.e).map (λi=>(i.size,i.bytes,(i.zero.map λz=>z.cells.size)))=some (s.n,by_,some s.n)) (hs:0<s.n)
 (hw:∀ el∈news,el.length=s.n) (hone:∀ el∈news,∀ x∈el,x.one=true) (hmax:n+news.length<=maxLen) (hb:(n+news.length)*by_<=140737488355328) :
 Ok P c o fr (look hp) (.sl k (n+news.length)) (look ((k,some (.row s (els++news)))::hp)) :=
 zf5 ho hx (λρ w a h=>h.flatRow hy hk2 hn2 hone) hk hn hR ht hi hs hw hmax hb
theorem zf4 {t e:TypeId} {len s:Nat} {parts:Array (Nat × Operand)} {xs:List (Nat × IV)} {z:Value} {out:List IV} {ρ:Loc} {w:World} {a:Act} (h:All c ρ (look hp) w fr a) (ho:o.op = .buildSlice t len parts) (hx:z4p fr parts.toList=some xs)
 (hu:P.underlying t=some (.slice e)) (hz:((P.info? e).bind (·.zero))=some z) (hs:(P.info? e).map (·.size)=some s) (hzs:z.cells.size=s) (hpos:Nat.ble 1 s=true) (hsmall:Nat.ble (len*s) (2 ^ 24)=true)
 (hf:z6c (λi=>some (i*s,s)) (zh7 z len) xs=some out) (hfirm:z6d (look hp) xs) :
 ∃ vs,z6v c.F ρ (look hp) w out vs/\out.length=len*s/\(execOp a.eval o).run P w = .ok (.value (.slice (some ⟨w.heap.size,0,none⟩) len len)) (w.alloc (.cells vs e)):=by
 have hpos':0<s:=Aw hpos;have hsmall':=Aw hsmall;have hzv:(zeroValue e).run P w = .ok z w:=by
  cases hq:P.info? e with
  | none=>simp [hq] at hz
  | some i=>simp [hq] at hz;simp [zeroValue,typeInfo,hq,hz]
 obtain ⟨hl,hv⟩:=z78 h hx;obtain ⟨hrl,hrg⟩:=y0w (z:=z) oM0 len;have hrep:z6v c.F ρ (look hp) w (zh7 z len) ((Array.range (len*s)).map (z.cells[· % z.cells.size]!)):=by
  refine ⟨by simp [hrl,hzs],λj x hj=>?_⟩;have hjl:j<len*s:=by have:=(A3.1 hj).1;rw [hrl,hzs] at this;exact this
  rw [hrg j x hj];exact ⟨_,by simp [hjl],z3f _⟩
 have hlenfill:out.length=len*s:=by
  have:∀ (ps:List (Nat × IV)) (cs out:List IV),z6c (λi=>some (i*s,s)) cs ps=some out->out.length=cs.length:=by
   intro ps
   induction ps with
   | nil=>intro cs out h;cases h;rfl
   | cons p r ih =>
    intro cs out h;simp only [z6c] at h
    cases hc:Nat.beq (z8c p.2).length s&&Nat.ble (p.1*s+s) cs.length with
    | false=>rw [hc] at h;cases h
    | true =>
     rw [hc] at h;simp only [A0] at hc;have h1:=Ac hc.1;have h2:=Aw hc.2;rw [ih _ _ h,zb7 oM0]
  rw [this _ _ _ hf,hrl,hzs]
 obtain ⟨vs,h1,h2⟩:=zj6 hrep hl (λj i x hj=>by
  obtain ⟨v,h3,h4⟩:=hv j i x hj;exact ⟨v,h3,h4,hfirm _ (Ai hj)⟩) hf
 have hparts:(parts.map λ(i,x)=>(i,a.eval x)).toList=parts.toList.map λp=>(p.1,a.eval p.2):=by simp
 have hrun:(execOp a.eval o).run P w = .ok (.value (.slice (some ⟨w.heap.size,0,none⟩) len len)) (w.alloc (.cells vs e)):=by
  have hnr:(newRow e vs).run P w = .ok ⟨w.heap.size,0,none⟩ (w.alloc (.cells vs e)):=rfl;simp only [execOp,ho,Instr.buildSlice,Af,B5 hu,z18 hs,Ao];rw [if_neg oM0]
  by_cases h0:len*s=0
  ·have h1':Instr.fill (λi=>some (i*s,s)) ((Array.range (len*s)).map ((#[]:Array Value)[· % (#[]:Array Value).size]!)) (List.map (λp=>(p.fst,a.eval p.snd)) parts.toList)=some vs:=by
    have e1:∀ f:Nat->Value,(Array.range (len*s)).map f = #[]:=λf=>by rw [h0];simp
    rw [e1] at h1 ⊢;exact h1
   simp only [if_pos h0,Af,Ci,Ao,hparts];rw [h1'];simp only [Af,hnr,Ao];rfl
  ·simp only [if_neg h0,Af,Ci,Ao,hzv,hparts];rw [h1];simp only [Af,hnr,Ao];rfl
 exact ⟨vs,h2,hlenfill,hrun⟩
theorem zv9 {k:Nat} {t e:TypeId} {len s:Nat} {parts:Array (Nat × Operand)} {xs:List (Nat × IV)} {z:Value} {out:List IV} {ps:List PV} (ho:o.op = .buildSlice t len parts) (hx:z4p fr parts.toList=some xs)
 (hu:P.underlying t=some (.slice e)) (hz:((P.info? e).bind (·.zero))=some z) (hs:(P.info? e).map (·.size)=some s) (hzs:z.cells.size=s) (hpos:Nat.ble 1 s=true) (hsmall:Nat.ble (len*s) (2 ^ 24)=true)
 (hf:z6c (λi=>some (i*s,s)) (zh7 z len) xs=some out) (hfirm:z6d (look hp) xs) (hps:z7i out=some ps) (hσ:look hp k=none) (hc:c.σ k=none) (hfr:nmFr k fr=false) (hhp:nmHp k hp=false) :
 Ok P c o fr (look hp) (.sl k len) (look ((k,some (.row ⟨e,s⟩ (z7w s len ps)))::hp)):=by
 intro ρ w a K Q h hK;have hpos':0<s:=Aw hpos;have hsmall':=Aw hsmall;obtain ⟨vs,h2,hlenfill,hrun⟩:=zf4 h ho hx hu hz hs hzs hpos hsmall hf hfirm;unfold Oper.wp;rw [hrun];obtain ⟨hpl,hpg⟩:=z8u hps;have hel:∀ i el,(z7w s len ps)[i]? = some el->el.length=s/\∀ j x,el[j]? = some x->ps[i*s+j]? = some x:=λi el hi=>zo8 s len ps i el hi oM0;have hcl:=z91 s len ps;have hlm:len<=maxLen:=by simp only [maxLen];have:len<=len*s:=Eo _ hpos';omega
 refine hK (z1u ρ k (some (w.heap.size,len))) _ _ (h.alloc hσ hc hfr hhp len _ _ λ_ keep=>?_) (.sl _ _ _ λs' els' h'=>?_)
 ·refine .row ⟨e,s⟩ _ vs (λi j=>vs.getD (i*s+j) undef) (z3b w _) (by have:=h2.1;simp only;omega) oM0 hlm (λel hel'=>?_) (λi el hi j x hj=>?_) λi el hi j x hj=>?_
  ·obtain ⟨i,hi⟩:=List.getElem?_of_mem hel';exact (hel i el hi).1
  ·obtain ⟨h5,h6⟩:=hel i el hi;obtain ⟨v,h7,_⟩:=h2.2 _ _ (hpg _ _ (h6 j x hj));simp [Au,h7]
  ·obtain ⟨h5,h6⟩:=hel i el hi;obtain ⟨v,h7,h8⟩:=h2.2 _ _ (hpg _ _ (h6 j x hj));simp only [Au,h7,C4]
   cases h8 with
   | pv _ _ h8=>exact keep _ _ h8
 ·rw [z39] at h';cases h'
  exact ⟨by omega,λ_=>.inl ⟨w.heap.size,len,z0b,rfl⟩⟩
def nilP:PV->PV
 | .val (.slice none 0 0)=>.seq []
 | x=>x
theorem nilP_sub (x:PV):PSub x (nilP x):=by
 unfold nilP;split
 ·exact PSub.nil
 ·exact PSub.refl _
theorem y0e:∀ cs:List PV,PSubs cs (cs.map nilP)
 | []=>trivial
 | x::r=>⟨nilP_sub x,y0e r⟩
theorem z0d (cs:List PV):PSub (.agg cs) (.agg (cs.map nilP)):=PSub.agg (y0e cs)
end
section
variable {P:Program} {c:Cx} {R1:Nat->Prop} {o:Oper} {fr:Fr} {hp:Hp} {σ:Heap'} {Q:Exit->Fr->Heap'->Prop}
theorem All.bs {ρ:Loc} {w:World} {a:Act} (h:All c ρ (look hp) w fr a) {x:Operand} {k n:Nat} {cs:List IV} (hx:fr.ev x=some (.bs k n)) (hk:look hp k=some (.box cs)) :
 ∃ (b cc cap:Nat) (e:TypeId) (r:Array Value) (u:Nat->Value),a.eval x = .slice (some ⟨b,0,none⟩) n cap/\n<=cap/\cap<=maxLen /\ ρ k=some (b,cc)/\w.heap[b]? = some (.cells r e (0,0))/\cs.length<=r.size/\(∀ j x,cs[j]? = some x->r[j]? = some (u j))/\∀ j x,cs[j]? = some x->RepI c.F ρ (look hp) w x (u j):=by
 have hr:=h.ev hx;generalize hv:a.eval x=v at hr
 cases hr with
 | bs _ _ _ hh =>
  obtain ⟨b,cc,hρ,cap,h8,h9,rfl⟩:=hh cs hk;obtain ⟨o1,h1,h2⟩:=h.rel.obj k b cc hρ;rw [hk] at h1;cases h1
  obtain ⟨e,r,u,h3,h4,h5,h6⟩:=h2.inv_box;exact ⟨b,cc,cap,e,r,u,rfl,h8,h9,hρ,h3,h4,h5,h6⟩
theorem yb3 {t e:TypeId} {x y:Operand} {k n i:Nat} {m:Int} {kk:IntKind} {cs:List IV} (ho:o.op = .indexAddr t x y) (hx:fr.ev x=some (.bs k n)) (hy:fr.ev y=some (.pv (.val (.int kk m)))) (hk:look hp k=some (.box cs))
 (hu:P.underlying t=some (.slice e)) (he:(P.info? e).map (·.size)=some 1) (hi:i<n) (hm:m=i):OkV P c R1 o fr (look hp) (.ptr k i):=by
 subst hm;intro ρ w a h;obtain ⟨b,cc,cap,e',r,u,hv,_,_,hρ,_⟩:=h.bs hx hk;refine ⟨.pointer (some ⟨b,i,none⟩),λw2 _=>?_,.ptr _ _ _ λcs' h'=>⟨b,cc,hρ,rfl⟩⟩;simp [execOp,ho,hv,z0v h hy,Instr.indexAt,Af,asIntOf,B5 hu,hi,z18 he,Cv]
theorem y0h {k:Nat} {t e:TypeId} {len s:Nat} {parts:Array (Nat × Operand)} {xs:List (Nat × IV)} {z:Value} {out:List IV} (ho:o.op = .buildSlice t len parts) (hx:z4p fr parts.toList=some xs)
 (hu:P.underlying t=some (.slice e)) (hz:((P.info? e).bind (·.zero))=some z) (hs:(P.info? e).map (·.size)=some s) (hzs:z.cells.size=s) (hpos:Nat.ble 1 s=true) (hsmall:Nat.ble (len*s) (2 ^ 24)=true)
 (hf:z6c (λi=>some (i*s,s)) (zh7 z len) xs=some out) (hfirm:z6d (look hp) xs) (hn:nm.nms k out=false) (hσ:look hp k=none) (hc:c.σ k=none) (hfr:nmFr k fr=false) (hhp:nmHp k hp=false) :
 Ok P c o fr (look hp) (.bs k len) (look ((k,some (.box out))::hp)):=by
 intro ρ w a K Q h hK;have hpos':0<s:=Aw hpos;have hsmall':=Aw hsmall;obtain ⟨vs,h2,hlenfill,hrun⟩:=zf4 h ho hx hu hz hs hzs hpos hsmall hf hfirm;unfold Oper.wp;rw [hrun];have hlm:len<=maxLen:=by simp only [maxLen];have:len<=len*s:=Eo _ hpos';omega
 refine hK (z1u ρ k (some (w.heap.size,len))) _ _ (h.alloc hσ hc hfr hhp len _ _ λkeep _=>?_) (.bs _ _ _ λcs' h'=>⟨w.heap.size,len,z0b,len,Aa _,hlm,rfl⟩);refine .box _ e vs (λj=>vs.getD j undef) (z3b w _) (Nat.le_of_eq h2.1.symm) (λj x hj=>?_) (λj x hj=>?_) (λhh=>absurd hh (by simp only [maxLen] at hlm;unfold tyTag;omega))
 ·obtain ⟨v,h7,_⟩:=h2.2 _ _ hj;simp [Au,h7]
 ·obtain ⟨v,h7,h8⟩:=h2.2 _ _ hj;simp only [Au,h7,C4];exact keep _ _ h8 (z7d hn (Ai hj))
theorem y7p {t:TypeId} {x y:Operand} {k k2 n by_:Nat} {e:TypeId} {cs:List IV} (ho:o.op = .call { callee:=.builtin .append,args:=#[x,y],argTypes:=#[t,t] }) (hx:fr.ev x=some (.pv (.val (.slice none 0 0)))) (hy:fr.ev y=some (.bs k2 n)) (hk2:look hp k2=some (.box cs)) (hn:cs.length=n) (h0:0<n)
 (ht:P.underlying t=some (.slice e)) (hi:(P.info? e).map (λi=>(i.size,i.bytes,(i.zero.map λz=>z.cells.size)))=some (1,by_,some 1)) (hmax:n<=maxLen) (hb:n*by_<=140737488355328) (hnm:nm.nms k cs=false)
 (hσ:look hp k=none) (hc:c.σ k=none) (hfr:nmFr k fr=false) (hhp:nmHp k hp=false) :
 Ok P c o fr (look hp) (.bs k n) (look ((k,some (.box cs))::hp)):=by
 intro ρ w a K Q h hK
 cases hq:P.info? e with
 | none=>simp [hq] at hi
 | some i =>
  have hsz:i.size=1:=by simp [hq] at hi;exact hi.1
  have hby:i.bytes=by_:=by simp [hq] at hi;exact hi.2.1
  obtain ⟨z,hz,hzs⟩:∃ z,i.zero=some z/\z.cells.size=1:=by simp [hq] at hi;exact hi.2.2
  simp only [maxLen] at hmax;obtain ⟨b,cc,cap,e',r,u,hv,_,_,hρ,hbk,hlen,hcell,hrep⟩:=h.drew.bs hy hk2;have hge:=grownCap_ge w n 0 e;have hcm:=grownCap_le_maxLen w n 0 e (by simp only [maxLen];omega);have hL:((List.range n).map u).length=n*i.size:=by simp [hsz]
  have hcl:∀ j y,((List.range n).map u)[j]? = some y->w.cell? ((⟨b,0,none⟩:Addr).add j)=some y:=λj y hj=>by
   rw [Cv,Bu,z5i (w:=w) hbk];have hj':j<n:=by have:=(A3.1 hj).1;simpa using this
   have e1:u j=y:=by simpa [hj'] using hj
   have h5:cs[j]? = some (cs[j]'oM0):=A7 oM0;rw [hcell j _ h5,e1]
  have hr:=run_append_nil (P:=P) w t o.type e i z ht hq hz ⟨b,0,none⟩ n cap _ hL hcl h0 oM0 (by rw [hby];omega);refine Lib.wp_append_run w x y t t ho _ _ (z0v h hx) hv _ _ hr ?_;refine hK (z1u ρ k (some (w.heap.size,grownCap w n 0 e))) _ _ (h.drew.alloc hσ hc hfr hhp (grownCap w n 0 e) _ _ λkeep _=>?_) (.bs _ _ _ λcs' h'=>⟨w.heap.size,_,z0b,_,hge,hcm,rfl⟩);refine .box _ e _ u (z3b _ _) (by simp;omega) (λj x hj=>?_) (λj x hj=>keep _ _ (hrep j x hj) (z7d hnm (Ai hj))) (λhh=>absurd hh (by simp only [maxLen] at hcm;unfold tyTag;omega));have hj':j<n:=by have:=(A3.1 hj).1;omega
  rw [Eb (by simpa using hj')];simp [hj']
theorem y5b {t:TypeId} {x y:Operand} {n by_:Nat} {s:RT} {z:Value} {σ:Heap'} (ho:o.op = .makeSlice t x y) (hx:fr.ev x=some (.pv (.val (.int .i64 n)))) (hy:fr.ev y=some (.pv (.val (.int .i64 n))))
 (hu:P.underlying t=some (.slice s.e)) (hz:((P.info? s.e).bind (·.zero))=some z) (hi:(P.info? s.e).map (λi=>(i.size,i.bytes))=some (s.n,by_)) (hzs:z.cells.size=s.n) (hpos:0<s.n) (hn:n<2 ^ 63) (hb:by_*n<=281474976710656) :
 Ok P c o fr σ (.pv (.seq (List.replicate n (z.cells.toList.map .val)))) σ:=by
 intro ρ w a K Q h hK
 cases hq:P.info? s.e with
 | none=>simp [hq] at hi
 | some i =>
  have hsz:i.size=s.n:=by simp [hq] at hi;exact hi.1
  have hby:i.bytes=by_:=by simp [hq] at hi;exact hi.2
  have hiz:i.zero=some z:=by simpa [hq] using hz
  have hwrap:IntKind.i64.wrap (n:Int)=n:=D0 _ oM0;have hrun:(execOp a.eval o).run P w = .ok (.value (.slice (some ⟨w.heap.size,0,none⟩) n n)) (w.alloc (.cells ((Array.range (n*s.n)).map (z.cells[· % z.cells.size]!)) s.e)):=by
   have hnr:∀ r,(newRow s.e r).run P w = .ok ⟨w.heap.size,0,none⟩ (w.alloc (.cells r s.e)):=λ_=>rfl;have hti:(typeInfo s.e).run P w = .ok i w:=by simp [typeInfo,hq]
   have hso:(sizeOf s.e).run P w = .ok s.n w:=z18 (by simp [hq,hsz]) w;have hzv:(zeroValue s.e).run P w = .ok z w:=by simp [zeroValue,typeInfo,hq,hiz]
   have h2:(by_:Int)*n<=281474976710656:=by
    have:((by_*n:Nat):Int)<=281474976710656:=by omega
    rwa [Int.natCast_mul] at this
   simp only [execOp,ho,Instr.makeSlice,Af,B5 hu,Ao,z0v h hx,z0v h hy,asInt,asIntOf,Ci,hti,hwrap,hby];rw [if_neg (by simpa using h2)];simp only [Af,y18,Ao,hso,Int.toNat_natCast]
   by_cases h0:n*s.n=0
   ·rw [if_pos h0];simp only [Af,Ci,Ao,hnr];have e1:∀ f g:Nat->Value,(Array.range (n*s.n)).map f=(Array.range (n*s.n)).map g:=λf g=>by rw [h0];simp
    rw [e1 _ (z.cells[· % z.cells.size]!)]
   ·rw [if_neg h0];simp only [Af,Ci,Ao,hzv,hnr]
  unfold Oper.wp;rw [hrun];obtain ⟨h3,keep⟩:=h.push (.cells ((Array.range (n*s.n)).map (z.cells[· % z.cells.size]!)) s.e);refine hK ρ _ _ h3 (.pv _ _ ?_);have hll:(List.replicate n (z.cells.toList.map PV.val)).length=n:=by simp
  have hbig:by_*n<=281474976710656:=hb;have:RepP (owned c.F ρ) (w.alloc (.cells ((Array.range (n*s.n)).map (z.cells[· % z.cells.size]!)) s.e)) (.seq (List.replicate n (z.cells.toList.map .val))) (.slice (some ⟨w.heap.size,0,none⟩) (List.replicate n (z.cells.toList.map PV.val)).length n):=by
   refine .seq _ _ n w.heap.size 0 (λ_ j=>z.cells[j]!) (λ_=>rfl) (λ_=>⟨h.fresh,by simp⟩) sI0 (by simp only [maxLen];omega) (λi el hi j x hj=>?_) λi el hi j x hj=>?_
   ·have hel:=Df (Ai hi);have hin:i<n:=by have:=(A3.1 hi).1;simpa using this
    subst hel;have hjs:j<s.n:=by have:=(A3.1 hj).1;simp [hzs] at this;exact this
    have hlt:i*s.n+j<n*s.n:=by
     have:(i+1)*s.n<=n*s.n:=C6 _ oM0;rw [D9] at this;omega
    rw [z5i (z3b w _)];simp [hlt,hzs,Ei hjs]
   ·have hel:=Df (Ai hi);subst hel;simp only [B8,A1,Bg] at hj;obtain ⟨v,hv,rfl⟩:=hj;have:z.cells[j]! = v:=by
     have hlt:=(Cc.1 hv).1;simp [hlt] at hv ⊢;exact hv
    rw [this];exact .val v
  rwa [hll] at this
end
section
variable {P:Program} {c:Cx} {R1:Nat->Prop} {o:Oper} {fr:Fr} {hp:Hp}
theorem RepI.toSp {F:Nat->Prop} {ρ:Loc} {σ:Heap'} {w:World} {k n:Nat} {v:Value} (h:RepI F ρ σ w (.sl k n) v):RepI F ρ σ w (.sp k n n) v:=by
 cases h with
 | sl _ _ _ hh =>
  refine .sp k n n v λs els h1=>⟨(hh s els h1).1,λhl=>?_⟩;rcases (hh s els h1).2 hl with ⟨b,cc,h2,h3⟩ | ⟨h2,h3,h4⟩
  ·exact .inl ⟨Aa _,b,cc,h2,h3⟩
  ·exact .inr ⟨h2,h3,h3,h4⟩
theorem RepI.ofSp {F:Nat->Prop} {ρ:Loc} {σ:Heap'} {w:World} {k n:Nat} {v:Value} (h:RepI F ρ σ w (.sp k n n) v):RepI F ρ σ w (.sl k n) v:=by
 cases h with
 | sp _ _ _ _ hh =>
  refine .sl k n v λs els h1=>⟨(hh s els h1).1,λhl=>?_⟩;rcases (hh s els h1).2 hl with ⟨_,b,cc,h2,h3⟩ | ⟨h2,h3,_,h4⟩
  ·exact .inl ⟨b,cc,h2,h3⟩
  ·exact .inr ⟨h2,h3,h4⟩
theorem All.sp {ρ:Loc} {w:World} {a:Act} {v:Value} (h:All c ρ (look hp) w fr a) {k n m:Nat} {s:RT} {els:List (List PV)} (hr:RepI c.F ρ (look hp) w (.sp k n m) v) (hk:look hp k=some (.row s els)) (hn:els.length=m) :
 (∃ (b cc:Nat) (r:Array Value) (u:Nat->Nat->Value),n<=m/\v = .slice (some ⟨b,0,none⟩) n cc /\ ρ k=some (b,cc)/\w.heap[b]? = some (.cells r s.e (0,0))/\r.size=cc*s.n/\m<=cc/\cc<=maxLen/\(∀ el∈els,el.length=s.n) /\
  (∀ i el,els[i]? = some el->∀ j x,el[j]? = some x->r[i*s.n+j]? = some (u i j))/\∀ i el,els[i]? = some el->∀ j x,el[j]? = some x->RepP (owned c.F ρ) w x (u i j)) ∨
 (v = .slice none 0 0 /\ ρ k=none/\els=[]/\n=0/\m=0):=by
 cases hr with
 | sp _ _ _ _ hh =>
  rcases (hh s els hk).2 hn with ⟨hnm,b,cc,hρ,rfl⟩ | ⟨hρ,hz,hz2,rfl⟩
  ·obtain ⟨o1,h1,h2⟩:=h.rel.obj k b cc hρ;rw [hk] at h1;cases h1
   cases h2 with
   | row _ _ r u h3 h4 h5 h6 h7 h8 h9=>exact .inl ⟨b,cc,r,u,hnm,rfl,hρ,h3,h4,hn ▸ h5,h6,h7,h8,h9⟩
  ·exact .inr ⟨rfl,hρ,As (hn.trans hz),hz2,hz⟩
theorem j17 {t e:TypeId} {x:Operand} {k n m:Nat} {s:RT} {els:List (List PV)} (ho:o.op = .call { callee:=.builtin .len,args:=#[x],argTypes:=#[t] }) (hx:fr.ev x=some (.sp k n m)) (hk:look hp k=some (.row s els)) (hn:els.length=m)
 (hu:P.underlying t=some (.slice e)):OkV P c R1 o fr (look hp) (.pv (.val (.int .i64 n))):=by
 intro ρ w a h;refine ⟨.int .i64 n,λw2 _=>?_,z3f _⟩;rcases h.sp (h.ev hx) hk hn with ⟨b,cc,r,u,_,hv,_⟩ | ⟨hv,_,_,he,_⟩
 ·simp [execOp,ho,hv,resolve,Af,invoke,builtin,Builtin.len_,B5 hu,goInt]
 ·subst he;simp [execOp,ho,hv,resolve,Af,invoke,builtin,Builtin.len_,B5 hu,goInt]
theorem yb4 {t:TypeId} {x y:Operand} {k n i m':Nat} {m:Int} {kk:IntKind} {s:RT} {els:List (List PV)} (ho:o.op = .indexAddr t x y) (hx:fr.ev x=some (.sp k n m')) (hy:fr.ev y=some (.pv (.val (.int kk m)))) (hk:look hp k=some (.row s els)) (hn:els.length=m')
 (hu:P.underlying t=some (.slice s.e)) (he:(P.info? s.e).map (·.size)=some s.n) (hi:i<n) (hm:m=i):OkV P c R1 o fr (look hp) (.rpt k m' (i*s.n)):=by
 subst hm;intro ρ w a h;rcases h.sp (h.ev hx) hk hn with ⟨b,cc,r,u,hnm,hv,hρ,h3,h4,hc,hcm,hwe,hcells,hu'⟩ | ⟨_,_,_,hz,_⟩
 ·refine ⟨.pointer (some ⟨b,i*s.n,none⟩),λw2 _=>?_,.rpt _ _ _ _ λs' els' h'=>?_⟩
  ·simp [execOp,ho,hv,z0v h hy,Instr.indexAt,Af,asIntOf,B5 hu,hi,z18 he,Cv]
  ·rw [hk] at h';cases h'
   exact ⟨by omega,λ_=>⟨b,cc,hρ,rfl⟩⟩
 ·omega
theorem zu0 {t e:TypeId} {x:Operand} {hi:Option Operand} {k n m j q:Nat} {s:RT} {els:List (List PV)} (ho:o.op = .slice t x none hi none) (hx:∀ ρ w a,All c ρ (look hp) w fr a->RepI c.F ρ (look hp) w (.sp k n m) (a.eval x)) (hk:look hp k=some (.row s els)) (hn:els.length=m)
 (hu:P.underlying t=some (.slice e)) (hs:(P.info? e).map (·.size)=some q) (hhi:(hi=none/\j=n)∨∃ y k,hi=some y/\fr.ev y=some (.pv (.val (.int k j)))) (hj:j<=n):OkV P c R1 o fr (look hp) (.sp k j m):=by
 intro ρ w a h;have hr:=hx ρ w a h;generalize hv:a.eval x=v at hr;have hund:∀ w,(underlying t).run P w = .ok (.slice e) w:=B5 hu;have key:∀ (ad:Option Addr) (cap:Nat),n<=cap->∀ w,(Instr.sliceAt t (.slice ad n cap) none (hi.map a.eval) none).run P w = .ok (.slice (if cap=0 then ad else ad.map (·.add (0*q))) (j - 0) (cap - 0)) w:=by
  intro ad cap hcap w;have hb':(Instr.sliceBounds true n cap none (hi.map a.eval) none).run P w = .ok (0,j,cap) w:=by
   rcases hhi with ⟨rfl,rfl⟩ | ⟨y',k',rfl,hy'⟩
   ·simp [Instr.sliceBounds]
   ·have e1:j<=cap:=by omega
    simp [Instr.sliceBounds,Instr.sliceBound,z0v h hy',asIntOf,e1]
  simp only [Instr.sliceAt,Instr.slice,Af,hund,Ao,hb',z18 hs];rfl
 rcases h.sp hr hk hn with ⟨b,cc,r,u,hnm,rfl,hρ,h3,h4,hc,hcm,hwe,hcells,hu'⟩ | ⟨rfl,hρ,rfl,rfl,rfl⟩
 ·refine ⟨.slice (some ⟨b,0,none⟩) j cc,λw2 _=>?_,.sp _ _ _ _ λs' els' h'=>?_⟩
  ·simp only [execOp,ho,hv,Fc,Af,key _ cc oM0,Ao];simp [Cv]
  ·rw [hk] at h';cases h'
   exact ⟨by omega,λ_=>.inl ⟨by omega,b,cc,hρ,rfl⟩⟩
 ·have hj0:j=0:=by omega
  subst hj0;refine ⟨.slice none 0 0,λw2 _=>?_,.sp _ _ _ _ λs' els' h'=>?_⟩
  ·simp only [execOp,ho,hv,Fc,Af,key _ 0 oM0,Ao];rfl
  ·rw [hk] at h';cases h'
   exact ⟨Aa _,λ_=>.inr ⟨hρ,rfl,rfl,rfl⟩⟩
theorem y2d {t:TypeId} {x y:Operand} {k n m by_:Nat} {s:RT} {els:List (List PV)} {el:List PV} (ho:o.op = .call { callee:=.builtin .append,args:=#[x,y],argTypes:=#[t,t] }) (hx:fr.ev x=some (.sp k n m)) (hy:fr.ev y=some (.pv (.seq [el])))
 (hk:look hp k=some (.row s els)) (hn:els.length=m) (hnm:n<m) (hR:¬ c.R k) (ht:P.underlying t=some (.slice s.e)) (hi:(P.info? s.e).map (λi=>(i.size,i.bytes,(i.zero.map λz=>z.cells.size)))=some (s.n,by_,some s.n))
 (hw:el.length=s.n) (hone:∀ x∈el,x.one=true) :
 Ok P c o fr (look hp) (.sp k (n+1) m) (look ((k,some (.row s (els.set n el)))::hp)):=by
 intro ρ w a K Q h hK
 cases hq:P.info? s.e with
 | none=>simp [hq] at hi
 | some i =>
  have hsz:i.size=s.n:=by simp [hq] at hi;exact hi.1
  have hlk':look ((k,some (.row s (els.set n el)))::hp) k=some (.row s (els.set n el)):=z39;obtain ⟨ad,cap,u',hvy,had,hone',hr'⟩:=(h.ev hy).inv_seq.flat (s:=s.n) (λe he=>by rw [Aj.1 he];exact hw) (λe he x hx=>by rw [Aj.1 he] at hx;exact hone x hx);obtain ⟨ad,rfl,hcell⟩:=had sI0;simp only [Ad,At,Bu,G5] at hvy hcell hone';have hlenN:((List.range s.n).map λq=>u' (q / s.n) (q % s.n)).length=1*i.size:=by simp [hsz]
  have hrun:∀ (v:Value) (w':World),(Builtin.append_ #[t,t] o.type #[a.eval x,a.eval y]).run P w = .ok v w'->(execOp a.eval o).run P w = .ok (.value v) w':=λv w' hr=>by
   simp only [execOp,ho,resolve,Af,Ci,Ao,invoke,builtin,List.map_toArray,Az,Cr,hr]
  rcases h.sp (h.ev hx) hk hn with ⟨b,cc,r,u,_,hv,hρ,h3,h4,hc,hcm,hwe,hcells,hu⟩ | ⟨_,_,_,_,hz⟩
  ·unfold Oper.wp;have hroom:n+1<=cc:=by omega
   have hle:(n+1)*s.n<=cc*s.n:=C6 _ hroom;have hnn:(n+1)*s.n=n*s.n+s.n:=by rw [D9,G5]
   have hr:=run_append_room (P:=P) w t o.type s.e i ht hq b n cc r h3 ad 1 cap _ hlenN hcell hone' hroom (by rw [hsz];simp;omega);rw [hsz] at hr;rw [hrun _ _ (by rw [hv,hvy];exact hr)];have hpl:(r.toList.take (n*s.n)).length=n*s.n:=by simp;omega
   refine hK ρ _ _ (h.write hρ hk ⟨rfl,by simp⟩ hR rfl rfl rfl sI0 (λj hj=>Fg w b j _ hj) λ_ keep=>?_) (.sp _ _ _ _ λs1 els1 h1=>?_)
   ·refine .row s (els.set n el) _ (λi j=>if i=n then u' 0 j else u i j) (Fo w b r _ s.e _ h3) ?_ (by simp;omega) hcm (λe he=>?_) (λi' e' hi' j' x hj'=>?_) λi' e' hi' j' x hj'=>?_
    ·simp only [Et,B3,Eh,Bq,A5,List.length_range];rw [hpl];omega
    ·rcases Ef he with h5 | rfl
     ·exact hwe _ h5
     ·exact hw
    ·have hel':e'.length=s.n:=by
      rcases Ef (Ai hi') with h5 | rfl
      ·exact hwe _ h5
      ·exact hw
     have hj2:j'<s.n:=by have:=(A3.1 hj').1;omega
     rw [E5]
     by_cases e1:i'=n
     ·subst e1;have:e'=el:=by
       rw [Bi oM0] at hi';exact (Bn hi').symm
      subst this;rw [if_pos rfl,Ca,B0 oM0,hpl,Aq (by simp;omega)];have:i'*s.n+j' - i'*s.n=j':=by omega
      rw [this,B8,List.getElem?_range hj2,D7,F4 hj2,Ei hj2]
     ·rw [Bh (C9 e1)] at hi';rw [if_neg e1];have h5:=hcells i' e' hi' j' x hj';rcases E7 i' n with hlt | hge
      ·have:(i'+1)*s.n<=n*s.n:=C6 _ oM0;rw [D9,G5] at this;rw [Ca,Aq oM0,Cb,if_pos oM0,Bg,h5]
      ·have:(n+1)*s.n<=i'*s.n:=C6 _ oM0;rw [B0 (by simp;omega),Cp,Bg,<- h5]
       congr 1
       simp;omega
    ·by_cases e1:i'=n
     ·subst e1;have:e'=el:=by
       rw [Bi oM0] at hi';exact (Bn hi').symm
      subst this;rw [if_pos rfl];exact keep _ _ (hr' 0 e' rfl j' x hj')
     ·rw [Bh (C9 e1)] at hi';rw [if_neg e1];exact keep _ _ (hu i' e' hi' j' x hj')
   ·rw [hlk'] at h1;cases h1
    exact ⟨by simp;omega,λ_=>.inl ⟨by omega,b,cc,hρ,rfl⟩⟩
  ·omega
theorem Ok.reI {t:Nat} {y y' x:IV} {σ σ':Heap'} (ht:fr.get t=some y) (h1:∀ F ρ σ w v,RepI F ρ σ w y v->RepI F ρ σ w y' v) (h2:∀ F ρ σ w v,RepI F ρ σ w y' v->RepI F ρ σ w y v) (h:Ok P c o ((t,y')::fr) σ x σ'):Ok P c o fr σ x σ':=by
 intro ρ w a Kc Q ha hK;have ha2:All c ρ σ w ((t,y')::fr) a:=ha.putFr ht λu hu=>h1 _ _ _ _ _ hu;refine h ρ w a Kc Q ha2 λρ' w' u ha' hu=>hK ρ' w' u ⟨ha'.rel,λt' z hz=>?_,ha'.tr,ha'.df,ha'.sz,ha'.kk⟩ hu
 by_cases e:t=t'
 ·subst e;rw [ht] at hz
  cases hz
  obtain ⟨v,hv,hr⟩:=ha'.fr t y' (by simp [Fr.get]);exact ⟨v,hv,h2 _ _ _ _ _ hr⟩
 ·exact ha'.fr t' z (by simp only [Fr.get,z40 e];exact hz)
theorem y0g {t k m u v by_:Nat} {s:RT} {els:List (List PV)} {el:List PV} (hut:Nat.beq u v=false) (ho:o.op = .call { callee:=.builtin .append,args:=#[.tmp u,.tmp v],argTypes:=#[t,t] }) (hx:fr.get u=some (.sp k m m)) (hy:fr.get v=some (.pv (.seq [el])))
 (hk:look hp k=some (.row s els)) (hn:els.length=m) (hR:¬ c.R k) (ht:P.underlying t=some (.slice s.e)) (hi:(P.info? s.e).map (λi=>(i.size,i.bytes,(i.zero.map λz=>z.cells.size)))=some (s.n,by_,some s.n)) (hs:0<s.n)
 (hw:el.length=s.n) (hone:∀ x∈el,x.one=true) (hmax:m+1<=maxLen) (hb:(m+1)*by_<=140737488355328) :
 Ok P c o fr (look hp) (.sp k (m+1) (m+1)) (look ((k,some (.row s (els++[el])))::hp)):=by
 refine Ok.reI (y':=.sl k m) hx (λ_ _ _ _ _ h=>h.ofSp) (λ_ _ _ _ _ h=>h.toSp) ?_;have hu:Fr.ev ((u,.sl k m)::fr) (.tmp u)=some (.sl k m):=by simp [Fr.ev,Fr.get]
 have hv:Fr.ev ((u,.sl k m)::fr) (.tmp v)=some (.pv (.seq [el])):=by simp only [Fr.ev,Fr.get,hut];exact hy
 have:=aPp (c:=c) (hp:=hp) ho hu hv hk hn hR ht hi hs (λe he=>by rw [Aj.1 he];exact hw) (λe he x hx=>by rw [Aj.1 he] at hx;exact hone x hx) hmax hb;exact λρ w a Kc Q ha hK=>this ρ w a Kc Q ha λρ' w' u ha' hu=>hK ρ' w' u ha' hu.toSp
end
section
variable {P:Program} {o:Oper} {fr fr2:Fr} {hp hp2:Hp} {Rl:List Nat}
inductive TI where
 | int (k:IntKind)
 | bool
 | str
 | slice (e:Nat)
 | struct (fs:List (Nat × Nat))
 | arr (len e:Nat)
 | map (k e:Nat)
 | ptr (e:Nat)
 | one
inductive ZV where
 | int (k:IntKind)
 | bool
 | str
 | slice
 | map
 | ptr
 | fn
 | iface
def ZV.val:ZV->Value
 | .int k=>.int k 0
 | .bool=>.bool false
 | .str=>.string ⟨#[]⟩
 | .slice=>.slice none 0 0
 | .map=>.map none
 | .ptr=>.pointer none
 | .fn=>.nilFunc
 | .iface=>.nilIface
def ZV.isB:ZV->Value->Bool
 | .int k,.int k' n=>k'==k&&n==0
 | .bool,.bool b=>!b
 | .str,.string s=>s.data.isEmpty
 | .slice,.slice none 0 0=>true
 | .map,.map none=>true
 | .ptr,.pointer none=>true
 | .fn,.nilFunc=>true
 | .iface,.nilIface=>true
 | _,_=>false
theorem ZV.isB_ok {z:ZV} {v:Value} (h:z.isB v=true):v=z.val:=by
 unfold ZV.isB at h;split at h
 ·simp only [A0,Ap] at h;simp [ZV.val,h.1,h.2]
 ·simp only [Bc] at h;subst h;rfl
 ·rename_i s;have:s.data = #[]:=by simpa using h
  cases s;simp_all [ZV.val]
 all_goals first | rfl | cases h
structure TE where
 i:TI
 n:Nat
 b:Nat
 z:List ZV
def TI.row:TI->Bool
 | .struct _=>true
 | .arr ..=>true
 | _=>false
def TI.is:TI->TypeDesc->Prop
 | .int k,d=>d = .int k
 | .bool,d=>d = .bool
 | .str,d=>d = .string
 | .slice e,d=>d = .slice e
 | .struct fs,d=>∃ a,d = .struct a/\a.toList.map (λf=>(f.offset,f.type))=fs
 | .arr len e,d=>d = .array len e
 | .map k e,d=>d = .map k e
 | .ptr e,d=>d = .pointer e
 | .one,d=>d.isRow=false
def TI.isB:TI->TypeDesc->Bool
 | .int k,.int k'=>k'==k
 | .bool,.bool=>true
 | .str,.string=>true
 | .slice e,.slice e'=>Nat.beq e' e
 | .struct fs,.struct a=>a.toList.map (λf=>(f.offset,f.type))==fs
 | .arr len e,.array len' e'=>Nat.beq len' len&&Nat.beq e' e
 | .map k e,.map k' e'=>Nat.beq k' k&&Nat.beq e' e
 | .ptr e,.pointer e'=>Nat.beq e' e
 | .one,d=>!d.isRow
 | _,_=>false
theorem TI.isB_ok {i:TI} {d:TypeDesc} (h:i.isB d=true):i.is d:=by
 unfold TI.isB at h;split at h
 ·simp only [Ap] at h;simp [TI.is,h]
 ·rfl
 ·rfl
 ·simp [TI.is,Ac h]
 ·exact ⟨_,rfl,by simpa using h⟩
 ·simp only [A0] at h;simp [TI.is,Ac h.1,Ac h.2]
 ·simp only [A0] at h;simp [TI.is,Ac h.1,Ac h.2]
 ·simp [TI.is,Ac h]
 ·simpa [TI.is] using h
 ·cases h
theorem TI.is_row {i:TI} {d:TypeDesc} (h:i.is d):d.isRow=i.row:=by
 cases i with
 | struct fs=>obtain ⟨a,rfl,_⟩:=h;rfl
 | one=>exact h
 | _=>cases h;rfl
def zsB:List ZV->List Value->Bool
 | [],[]=>true
 | z::r,v::s=>z.isB v&&zsB r s
 | _,_=>false
theorem zsB_ok:∀ {l:List ZV} {m:List Value},zsB l m=true->m=l.map ZV.val
 | [],[],_=>rfl
 | z::r,v::s,h=>by
  simp only [zsB,A0] at h;rw [ZV.isB_ok h.1,zsB_ok h.2];rfl
def TE.zv (e:TE):Value:=match e.i.row with
 | true=>.agg (e.z.map ZV.val).toArray
 | false=>(e.z.headD .bool).val
def TE.zB (e:TE) (v:Value):Bool:=match e.i.row with
 | true=>match v with
  | .agg cs=>zsB e.z cs.toList
  | _=>false
 | false=>match e.z with
  | [z]=>z.isB v
  | _=>false
theorem TE.zB_ok {e:TE} {v:Value} (h:e.zB v=true):v=e.zv/\v.cells.toList=e.z.map ZV.val:=by
 unfold TE.zB at h;unfold TE.zv;split at h
 ·rename_i hr;split at h
  ·rename_i cs;have:=zsB_ok h;exact ⟨by simp [<- this],this⟩
  ·cases h
 ·rename_i hr;split at h
  ·rename_i z hz;obtain rfl:=ZV.isB_ok h;rw [hz];exact ⟨rfl,by cases z<;>rfl⟩
  ·cases h
def teB (P:Program) (t:Nat) (e:TE):Bool :=
 (match P.underlying t with
  | some d=>e.i.isB d
  | none=>false) &&
 (match P.info? t with
  | some i=>Nat.beq i.size e.n&&Nat.beq i.bytes e.b&&(match e.z with
   | []=>true
   | _=>Nat.beq e.z.length e.n&&(match i.zero with
    | some z=>e.zB z
    | none=>false))
  | none=>false)
section
variable {t:Nat} {e:TE}
theorem z3i (h:teB P t e=true):∃ d,P.underlying t=some d/\e.i.is d:=by
 unfold teB at h;simp only [A0] at h;replace h:=h.1;split at h
 ·rename_i d hd;exact ⟨d,hd,TI.isB_ok h⟩
 ·cases h
theorem y1u (h:teB P t e=true):∃ i,P.info? t=some i/\i.size=e.n/\i.bytes=e.b/\(e.z≠[]->e.z.length=e.n/\i.zero=some e.zv/\e.zv.cells.toList=e.z.map ZV.val):=by
 unfold teB at h;simp only [A0] at h;replace h:=h.2;split at h
 ·rename_i i hi;simp only [A0] at h;refine ⟨i,hi,Ac h.1.1,Ac h.1.2,λhz=>?_⟩;have h2:=h.2;split at h2
  ·rename_i h0;exact absurd h0 hz
  ·simp only [A0] at h2;have h3:=h2.2;split at h3
   ·rename_i z hz;obtain ⟨rfl,h4⟩:=TE.zB_ok h3;exact ⟨Ac h2.1,hz,h4⟩
   ·cases h3
 ·cases h
theorem z2l (h:teB P t e=true):(P.info? t).map (·.size)=some e.n:=by
 obtain ⟨i,hi,h1,_⟩:=y1u h;simp [hi,h1]
theorem te_by (h:teB P t e=true):(P.info? t).map (λi=>(i.size,i.bytes))=some (e.n,e.b):=by
 obtain ⟨i,hi,h1,h2,_⟩:=y1u h;simp [hi,h1,h2]
theorem z7r (h:teB P t e=true) (hz:e.z≠[]):(P.info? t).bind (·.zero)=some e.zv:=by
 obtain ⟨i,hi,_,_,h2⟩:=y1u h;simp [hi,(h2 hz).2.1]
theorem z69 (h:teB P t e=true) (hz:e.z≠[]):e.zv.cells.toList=e.z.map ZV.val/\e.zv.cells.size=e.n:=by
 obtain ⟨i,hi,_,_,h2⟩:=y1u h;refine ⟨(h2 hz).2.2,?_⟩;rw [<- Bq,(h2 hz).2.2,A5];exact (h2 hz).1
theorem te_app (h:teB P t e=true) (hz:e.z≠[]):(P.info? t).map (λi=>(i.size,i.bytes,(i.zero.map λz=>z.cells.size)))=some (e.n,e.b,some e.n):=by
 obtain ⟨i,hi,h1,h2,h3⟩:=y1u h;simp [hi,h1,h2,(h3 hz).2.1,(z69 h hz).2]
end
structure TB (P:Program) where
 ti:Nat->Option TE
 tok:∀ t e,ti t=some e->teB P t e=true
 fn:Nat->Bool
 fok:∀ f,fn f=true->z6b P f
 mx:P.follows .mixedOrders=true
def tFind:List (Nat × TE)->Nat->Option TE
 | [],_=>none
 | (k,e)::r,t=>match Nat.beq k t with
  | true=>some e
  | false=>tFind r t
def tAll (P:Program):List (Nat × TE)->Bool
 | []=>true
 | (k,e)::r=>teB P k e&&tAll P r
theorem yo3:∀ {l:List (Nat × TE)} {t:Nat} {e:TE},tAll P l=true->tFind l t=some e->teB P t e=true
 | [],_,_,_,h=>by cases h
 | (k,e')::r,t,e,h1,h=>by
  simp only [tAll,A0] at h1;simp only [tFind] at h;split at h
  ·rename_i hb;obtain rfl:=Ac hb
   cases h;exact h1.1
  ·exact yo3 h1.2 h
def entB (P:Program) (f:Nat):Bool:=match P.funcs[f]? with
 | some fn=>!(fn.name == "runtime.NumGoroutine") && !fn.body.isNone
 | none=>false
theorem entB_ok {f:Nat} (h:entB P f=true):z6b P f:=by
 unfold entB at h;split at h
 ·rename_i fn hf;simp only [A0,Bc] at h;exact ⟨fn,hf,h.1,h.2⟩
 ·cases h
def nIn (k:Nat):List Nat->Bool
 | []=>false
 | j::r=>match Nat.beq j k with
  | true=>true
  | false=>nIn k r
theorem z5z {k:Nat}:∀ {l:List Nat},nIn k l=true↔k∈l
 | []=>by simp [nIn]
 | j::r=>by
  simp only [nIn,Ah];split
  ·rename_i h;simp [Ac h]
  ·rename_i h;have:k≠j:=λe=>by subst e;simp at h
   simp [this,z5z]
theorem z3d {k:Nat} {l:List Nat} (h:nIn k l=false):k∉l:=λhm=>by rw [z5z.2 hm] at h;cases h
def y6w (P:Program):List Nat->Bool
 | []=>true
 | f::r=>entB P f&&y6w P r
theorem y6x {f:Nat}:∀ {l:List Nat},y6w P l=true->nIn f l=true->z6b P f
 | [],_,h=>by cases h
 | g::r,h1,h=>by
  simp only [y6w,A0] at h1;simp only [nIn] at h;split at h
  ·rename_i hb;obtain rfl:=Ac hb;exact entB_ok h1.1
  ·exact y6x h1.2 h
def mkTB (P:Program) (l:List (Nat × TE)) (q:List Nat) (h:tAll P l=true) (h2:y6w P q=true) (mx:P.follows .mixedOrders=true):TB P where
 ti t:=tFind l t
 tok _ _ ht:=yo3 h ht
 fn f:=nIn f q
 fok _ hf:=y6x h2 hf
 mx:=mx
structure Stp where
 x:IV
 wr:Hp
 rd:List Nat
 nw:List Nat
def agr (fr2 fr:Fr) (l:List Nat):Prop:=∀ t∈l,fr2.get t=fr.get t
def agh (hp2 hp:Hp) (l:List Nat):Prop:=∀ k∈l,look hp2 k=look hp k
def frsh (k:Nat) (fr:Fr) (hp:Hp):Bool:=match nmFr k fr with
 | true=>false
 | false=>match nmHp k hp with
  | true=>false
  | false=>match look hp k with
   | none=>true
   | some _=>false
theorem z4q {k:Nat} (h:frsh k fr hp=true):nmFr k fr=false/\nmHp k hp=false/\look hp k=none:=by
 unfold frsh at h;split at h
 ·cases h
 ·rename_i h1;split at h
  ·cases h
  ·rename_i h2;split at h
   ·rename_i h3;exact ⟨h1,h2,h3⟩
   ·cases h
def j3s (l:List Operand):List Nat:=l.flatMap λ
 | .tmp t=>[t]
 | _=>[]
def z1a (op:Op):List Nat:=j3s op.operands.toList
theorem agr.evO {l:List Operand} (h:agr fr2 fr (j3s l)) {y:Operand} (hy:y∈l):fr2.ev y=fr.ev y:=by
 cases y with
 | tmp t=>exact h t (List.mem_flatMap.2 ⟨.tmp t,hy,Aj.2 rfl⟩)
 | _=>rfl
theorem agr.ev {op:Op} (h:agr fr2 fr (z1a op)) {y:Operand} {x:IV} (hx:fr.ev y=some x) (hy:y∈op.operands.toList):fr2.ev y=some x:=(h.evO hy).trans hx
theorem agr.evs {op:Op} (h:agr fr2 fr (z1a op)):∀ {os:List Operand} {xs:List IV},evs fr os=some xs->(∀ y∈os,y∈op.operands.toList)->evs fr2 os=some xs
 | [],xs,hx,_=>hx
 | y::r,xs,hx,hy=>by
  simp only [Go.Proofs.YtbemfckjedfcmaaGreatDoor.evs] at hx ⊢;split at hx
  ·rename_i a b h1 h2;rw [h.ev h1 (hy y (.head _)),h.evs h2 λz hz=>hy z (.tail _ hz)];exact hx
  ·cases hx
theorem agr.evParts {op:Op} (h:agr fr2 fr (z1a op)):∀ {ps:List (Nat × Operand)} {xs:List (Nat × IV)},z4p fr ps=some xs->(∀ y∈ps,y.2∈op.operands.toList)->z4p fr2 ps=some xs
 | [],xs,hx,_=>hx
 | (i,y)::r,xs,hx,hy=>by
  simp only [Go.Proofs.YtbemfckjedfcmaaGreatDoor.z4p] at hx ⊢;split at hx
  ·rename_i a b h1 h2;rw [h.ev h1 (hy (i,y) (.head _)),h.evParts h2 λz hz=>hy z (.tail _ hz)];exact hx
  ·cases hx
theorem agh.at {rd:List Nat} (h:agh hp2 hp rd) {k:Nat} {ob:Option HO} (hk:look hp k=ob) (hm:k∈rd):look hp2 k=ob:=(h k hm).trans hk
def OkF (P:Program) (Rl:List Nat) (o:Oper) (fr:Fr) (hp:Hp) (s:Stp):Prop :=
 ∀ (c:Cx) fr2 hp2,(∀ k,c.R k->k∈Rl)->(∀ k∈s.nw,c.σ k=none)->agr fr2 fr (z1a o.op)->agh hp2 hp s.rd->(∀ k∈s.nw,frsh k fr2 hp2=true)->Ok P c o fr2 (look hp2) s.x (look (s.wr++hp2))
theorem OkF.pure {x:IV} {rd:List Nat} (h:∀ (c:Cx) (R1:Nat->Prop) fr2 hp2,agr fr2 fr (z1a o.op)->agh hp2 hp rd->(∀ k∈rd,R1 k)->OkV P c R1 o fr2 (look hp2) x):OkF P Rl o fr hp ⟨x,[],rd,[]⟩ :=
 λc fr2 hp2 _ _ ha hh _=>(h c (λ_=>True) fr2 hp2 ha hh λ_ _=>trivial).ok
inductive VAny (P:Program) (Rl:List Nat) (o:Oper) (fr:Fr) (hp:Hp) (K:Stp->Prop):Prop
 | mk {s:Stp} (h:OkF P Rl o fr hp s) (k:K s)
def Does (P:Program) (Rl:List Nat) (o:Oper) (fr:Fr) (hp:Hp) (K:Stp->Prop):Prop:=∃ s,K s/\OkF P Rl o fr hp s
def frcI:List IV->(List IV->Prop)->Prop
 | [],K=>K []
 | x::r,K=>frcI r λl=>K (x::l)
theorem z5x:∀ {l:List IV} {K:List IV->Prop},frcI l K->K l
 | [],_,h=>h
 | _::r,K,h=>z5x (l:=r) (K:=λl=>K (_::l)) h
def frcP:List PV->(List PV->Prop)->Prop
 | [],K=>K []
 | x::r,K=>frcP r λl=>K (x::l)
theorem z8a:∀ {l:List PV} {K:List PV->Prop},frcP l K->K l
 | [],_,h=>h
 | _::r,K,h=>z8a (l:=r) (K:=λl=>K (_::l)) h
def bsel (b:Bool) (A B:Prop):Prop:=match b with
 | true=>A
 | false=>B
theorem z00 {b:Bool} {A B:Prop} (ht:b=true->A) (hf:b=false->B):bsel b A B:=by
 cases b with
 | true=>exact ht rfl
 | false=>exact hf rfl
def vev (fr:Fr) (y:Operand) (K:IV->Prop):Prop:=match fr.ev y with
 | some x=>K x
 | none=>False
theorem z1m {y:Operand} {K:IV->Prop} (h:vev fr y K):∃ x,fr.ev y=some x/\K x:=by
 unfold vev at h;split at h
 ·rename_i x hx;exact ⟨x,hx,h⟩
 ·exact h.elim
def vti (T:TB P) (t:Nat) (K:TE->Prop):Prop:=match T.ti t with
 | some e=>K e
 | none=>False
theorem z1n {T:TB P} {t:Nat} {K:TE->Prop} (h:vti T t K):∃ e,teB P t e=true/\K e:=by
 unfold vti at h;split at h
 ·rename_i e he;exact ⟨e,T.tok _ _ he,h⟩
 ·exact h.elim
def vbox (hp:Hp) (k:Nat) (K:List IV->Prop):Prop:=match look hp k with
 | some (.box cs)=>K cs
 | _=>False
theorem z5a {k:Nat} {K:List IV->Prop} (h:vbox hp k K):∃ cs,look hp k=some (.box cs)/\K cs:=by
 unfold vbox at h;split at h
 ·rename_i cs hk;exact ⟨cs,hk,h⟩
 ·exact h.elim
def vrow (hp:Hp) (k:Nat) (K:RT->List (List PV)->Prop):Prop:=match look hp k with
 | some (.row s els)=>K s els
 | _=>False
theorem z3o {k:Nat} {K:RT->List (List PV)->Prop} (h:vrow hp k K):∃ s els,look hp k=some (.row s els)/\K s els:=by
 unfold vrow at h;split at h
 ·rename_i s els hk;exact ⟨s,els,hk,h⟩
 ·exact h.elim
def vmap (hp:Hp) (k:Nat) (K:List (Value × PV)->Prop):Prop:=match look hp k with
 | some (.map es)=>K es
 | _=>False
theorem y6g {k:Nat} {K:List (Value × PV)->Prop} (h:vmap hp k K):∃ es,look hp k=some (.map es)/\K es:=by
 unfold vmap at h;split at h
 ·rename_i es hk;exact ⟨es,hk,h⟩
 ·exact h.elim
def z2g (b:Bool) (A:Prop):Prop:=match b with
 | true=>A
 | false=>False
theorem z0c {b:Bool} {A:Prop} (h:z2g b A):b=true/\A:=by
 unfold z2g at h;split at h
 ·exact ⟨rfl,h⟩
 ·exact h.elim
def vopt {α:Type} (x:Option α) (K:α -> Prop):Prop:=match x with
 | some a=>K a
 | none=>False
theorem z0i {α:Type} {x:Option α} {K:α -> Prop} (h:vopt x K):∃ a,x=some a/\K a:=by
 unfold vopt at h;split at h
 ·exact ⟨_,rfl,h⟩
 ·exact h.elim
def z05:IV->List Nat
 | .pv _=>[]
 | .ptr k _=>[k]
 | .sl k _=>[k]
 | .rpt k _ _=>[k]
 | .sp k _ _=>[k]
 | .bs k _=>[k]
 | .mp k=>[k]
 | _=>[]
def yx6 (hp:Hp) (z:IV) (A:Prop):Prop:=match z with
 | .pv p=>z2g p.one A
 | .ptr k _=>vbox hp k λ_=>A
 | .sl k n=>vrow hp k λ_ els=>els.length=n/\A
 | .sp k _ n=>vrow hp k λ_ els=>els.length=n/\A
 | .bs k _=>vbox hp k λ_=>A
 | .mp k=>vmap hp k λ_=>A
 | .fn ..=>A
 | _=>False
theorem zy7 {z:IV} {A:Prop} (h:yx6 hp z A):A/\∀ hp2,agh hp2 hp (z05 z)->z.firm (look hp2):=by
 unfold yx6 at h;split at h
 ·obtain ⟨h1,h2⟩:=z0c h;exact ⟨h2,λ_ _=>h1⟩
 ·obtain ⟨cs,h1,h2⟩:=z5a h;exact ⟨h2,λhp2 hh=>⟨cs,hh.at h1 (.head _)⟩⟩
 ·obtain ⟨s,els,h1,h2,h3⟩:=z3o h;exact ⟨h3,λhp2 hh=>⟨s,els,hh.at h1 (.head _),h2⟩⟩
 ·obtain ⟨s,els,h1,h2,h3⟩:=z3o h;exact ⟨h3,λhp2 hh=>⟨s,els,hh.at h1 (.head _),h2⟩⟩
 ·obtain ⟨cs,h1,h2⟩:=z5a h;exact ⟨h2,λhp2 hh=>⟨cs,hh.at h1 (.head _)⟩⟩
 ·obtain ⟨cs,h1,h2⟩:=y6g h;exact ⟨h2,λhp2 hh=>⟨cs,hh.at h1 (.head _)⟩⟩
 ·exact ⟨h,λ_ _=>trivial⟩
 ·exact h.elim
def j4x (hp:Hp):List IV->Prop->Prop
 | [],A=>A
 | z::r,A=>yx6 hp z (j4x hp r A)
theorem y9d:∀ {l:List IV} {A:Prop},j4x hp l A->A/\∀ hp2,agh hp2 hp (l.flatMap z05)->∀ z∈l,z.firm (look hp2)
 | [],A,h=>⟨h,λ_ _ z hz=>by cases hz⟩
 | z::r,A,h=>by
  obtain ⟨h1,h2⟩:=zy7 h;obtain ⟨h3,h4⟩:=y9d h1;refine ⟨h3,λhp2 hh y hy=>?_⟩;simp only [Dj] at hh;rcases Ah.1 hy with rfl | hy
  ·exact h2 hp2 λk hk=>hh k (Bp _ hk)
  ·exact h4 hp2 (λk hk=>hh k (Bz _ hk)) y hy
end
section
variable {P:Program} {T:TB P} {o:Oper} {fr:Fr} {hp:Hp} {Rl:List Nat} {K:Stp->Prop}
def y9c (fr:Fr) (y:Operand) (K:Stp->Prop):Prop:=vev fr y λx=>K ⟨x,[],[],[]⟩
theorem vMove_ok {y:Operand} (ho:o.op = .move y) (h:y9c fr y K):Does P Rl o fr hp K:=by
 obtain ⟨x,hx,hk⟩:=z1m h;exact ⟨_,hk,.pure λc R1 fr2 hp2 ha _ _=>z2o ho (ha.ev hx (by rw [ho];simp [Op.operands]))⟩
theorem yw8 {y:Operand} (ho:o.op = .assign y) (h:y9c fr y K):Does P Rl o fr hp K:=by
 obtain ⟨x,hx,hk⟩:=z1m h;exact ⟨_,hk,.pure λc R1 fr2 hp2 ha _ _=>z3p ho (ha.ev hx (by rw [ho];simp [Op.operands]))⟩
def vPick (fr:Fr) (q y w:Operand) (K:Stp->Prop):Prop:=vev fr q λb=>match b with
 | .pv (.val (.bool t))=>bsel t (y9c fr y K) (y9c fr w K)
 | _=>False
theorem vPick_ok {q y w:Operand} (ho:o.op = .pick q y w) (h:vPick fr q y w K):Does P Rl o fr hp K:=by
 obtain ⟨b,hb,hk⟩:=z1m h;split at hk
 ·rename_i t
  cases t with
  | true =>
   obtain ⟨x,hx,hk⟩:=z1m (show y9c fr y K from hk)
   exact ⟨_,hk,.pure λc R1 fr2 hp2 ha _ _=>z5e ho (ha.ev hb (by rw [ho];simp [Op.operands])) (ha.ev hx (by rw [ho];simp [Op.operands]))⟩
  | false =>
   obtain ⟨x,hx,hk⟩:=z1m (show y9c fr w K from hk);exact ⟨_,hk,.pure λc R1 fr2 hp2 ha _ _=>z1i ho (ha.ev hb (by rw [ho];simp [Op.operands])) (ha.ev hx (by rw [ho];simp [Op.operands]))⟩
 ·exact hk.elim
def yz2:BinOp->Int->Int->Option Bool
 | .eql,m,n=>some (m==n)
 | .neq,m,n=>some (m != n)
 | .lss,m,n=>some (decide (m<n))
 | .leq,m,n=>some (decide (m<=n))
 | .gtr,m,n=>some (decide (m > n))
 | .geq,m,n=>some (decide (m ≥ n))
 | _,_,_=>none
theorem yz3 {p:BinOp} {k:IntKind} {m n:Int} {b:Bool} (h:yz2 p m n=some b):z3g p k m n=some (.bool b):=by
 cases p<;>simp only [yz2] at h<;>first | (cases h;done) | (cases h;rfl)
def yz4:BinOp->ByteArray->ByteArray->Option Bool
 | .eql,x,y=>some (x.toList==y.toList)
 | .neq,x,y=>some (!(x.toList==y.toList))
 | .lss,x,y=>some (Op.bytesLess x.toList y.toList)
 | .leq,x,y=>some (Op.bytesLess x.toList y.toList||x.toList==y.toList)
 | .gtr,x,y=>some (!(Op.bytesLess x.toList y.toList||x.toList==y.toList))
 | .geq,x,y=>some (!Op.bytesLess x.toList y.toList)
 | _,_,_=>none
theorem yz5 {p:BinOp} {x y:ByteArray} {b:Bool} (h:yz4 p x y=some b):y1s p x y=some (.bool b):=by
 cases p<;>simp only [yz4] at h<;>first | (cases h;done) | (cases h;rfl)
theorem y19 {op:BinOp} {t:TypeId} {x y:Operand} {p q:Option Addr} (w:World):(eqGuard op t x y (.pointer p) (.pointer q)).run P w = .ok () w:=by
 unfold eqGuard;split<;>simp
theorem zr0 {tp te:TypeId} {w:World} (p:Option Addr) (hp:P.underlying tp=some (.pointer te)):(Op.equal tp (.pointer p) (.pointer none)).run P w = .ok p.isNone w:=by
 have h:∀ d:Nat,(Op.equalIn (d+1) tp (.pointer p) (.pointer none)).run P w = .ok p.isNone w:=λd=>by
  cases p<;>simp [Op.equalIn,B5 hp]
 simp [Op.equal,Op.maxDepth,h 9999]
theorem y2f {op:BinOp} {t:TypeId} {x y:Operand} {p q:Option Addr} {n m n' m':Nat} (w:World):(eqGuard op t x y (.slice p n m) (.slice q n' m')).run P w = .ok () w:=by
 unfold eqGuard;split<;>simp
theorem zw1 {tp te:TypeId} {w:World} (p:Option Addr) (n m:Nat) (hp:P.underlying tp=some (.slice te)):(Op.equal tp (.slice p n m) (.slice none 0 0)).run P w = .ok p.isNone w:=by
 have h:∀ d:Nat,(Op.equalIn (d+1) tp (.slice p n m) (.slice none 0 0)).run P w = .ok p.isNone w:=λd=>by
  cases p<;>simp [Op.equalIn,B5 hp]
 simp [Op.equal,Op.maxDepth,h 9999]
def y2p:BinOp->Bool->Option Bool
 | .eql,b=>some b
 | .neq,b=>some (!b)
 | _,_=>none
def pvNil:PV->Option Bool
 | .ept _ _=>some false
 | .val (.pointer none)=>some true
 | _=>none
theorem pvNil_ok {own:Nat->Prop} {w:World} {q:PV} {b:Bool} {v:Value} (h:pvNil q=some b) (hr:RepP own w q v):∃ p,v = .pointer p/\p.isNone=b:=by
 unfold pvNil at h;split at h
 ·cases h
  cases hr with
  | ept _ _ b o' u hb hc hr1=>exact ⟨_,rfl,rfl⟩
 ·cases h
  cases hr with
  | val=>exact ⟨none,rfl,rfl⟩
 ·cases h
theorem j15 {c:Cx} {R1:Nat->Prop} {op:BinOp} {t u te:TypeId} {x y:Operand} {q:PV} {b r:Bool} {σ:Heap'} (ho:o.op = .binOp op t x y u) (hx:fr.ev x=some (.pv q)) (hy:fr.ev y=some (.pv (.val (.pointer none)))) (hq:pvNil q=some b) (hr:y2p op b=some r)
 (ht:P.underlying t=some (.pointer te)):OkV P c R1 o fr σ (.pv (.val (.bool r))):=λρ w a h=>by
 have hv:=h.ev hx;have hn:=h.ev hy;generalize hg:a.eval x=v at hv;generalize hg2:a.eval y=v2 at hn
 cases hv with
 | pv _ _ hv =>
  obtain ⟨p,rfl,hp⟩:=pvNil_ok hq hv;obtain rfl:=hn.val;refine ⟨_,λw2 _=>?_,z3f _⟩
  cases op<;>simp only [y2p] at hr<;>first
   | (cases hr;done)
   | (cases hr;subst hp;simp only [execOp,ho,hg,hg2,Af,y19,Ao,binOp,zr0 p ht];rfl)
def slNil:PV->Option Bool
 | .seq (_::_)=>some false
 | .val (.slice none _ _)=>some true
 | .val (.slice (some _) _ _)=>some false
 | _=>none
theorem slNil_ok {own:Nat->Prop} {w:World} {q:PV} {b:Bool} {v:Value} (h:slNil q=some b) (hr:RepP own w q v):∃ p n m,v = .slice p n m/\p.isNone=b:=by
 unfold slNil at h;split at h
 ·cases h
  cases hr with
  | seq els a cap bb off u ha hb hl hm hc hr1=>exact ⟨_,_,_,rfl,by rw [ha sI0];rfl⟩
 ·cases h
  cases hr with
  | val=>exact ⟨none,_,_,rfl,rfl⟩
 ·cases h
  cases hr with
  | val=>exact ⟨some _,_,_,rfl,rfl⟩
 ·cases h
theorem ok_cmpSl {c:Cx} {R1:Nat->Prop} {op:BinOp} {t u te:TypeId} {x y:Operand} {q:PV} {b r:Bool} {σ:Heap'} (ho:o.op = .binOp op t x y u) (hx:fr.ev x=some (.pv q)) (hy:fr.ev y=some (.pv (.val (.slice none 0 0)))) (hq:slNil q=some b) (hr:y2p op b=some r)
 (ht:P.underlying t=some (.slice te)):OkV P c R1 o fr σ (.pv (.val (.bool r))):=λρ w a h=>by
 have hv:=h.ev hx;have hn:=h.ev hy;generalize hg:a.eval x=v at hv;generalize hg2:a.eval y=v2 at hn
 cases hv with
 | pv _ _ hv =>
  obtain ⟨p,n,m,rfl,hp⟩:=slNil_ok hq hv;obtain rfl:=hn.val;refine ⟨_,λw2 _=>?_,z3f _⟩
  cases op<;>simp only [y2p] at hr<;>first
   | (cases hr;done)
   | (cases hr;subst hp;simp only [execOp,ho,hg,hg2,Af,y2f,Ao,binOp,zw1 p n m ht];rfl)
inductive VBin (p:BinOp) (k:IntKind) (m n:Int) (K:Value->Prop):Prop
 | mk {v:Value} (h:z3g p k m n=some v) (k:K v)
inductive VStr (p:BinOp) (m n:ByteArray) (K:Value->Prop):Prop
 | mk {v:Value} (h:y1s p m n=some v) (k:K v)
def vBin (T:TB P) (p:BinOp) (t:Nat) (fr:Fr) (y w:Operand) (K:Stp->Prop):Prop:=vev fr y λa=>vev fr w λb=>match a with
 | .pv (.val (.int k m))=>match b with
  | .pv (.val (.int k' n))=>match p with
   | .shl=>0<=n/\K ⟨.pv (.val (.int k (k.wrap (m*2 ^ (min n.toNat k.bits))))),[],[],[]⟩
   | .shr=>0<=n/\K ⟨.pv (.val (.int k (m.fdiv (2 ^ (min n.toNat k.bits))))),[],[],[]⟩
   | p=>z2g (k'==k) (match yz2 p m n with
    | some v=>K ⟨.pv (.val (.bool v)),[],[],[]⟩
    | none=>VBin p k m n λv=>K ⟨.pv (.val v),[],[],[]⟩)
  | _=>False
 | .pv (.val (.string m))=>match b with
  | .pv (.val (.string n))=>match yz4 p m n with
   | some v=>K ⟨.pv (.val (.bool v)),[],[],[]⟩
   | none=>VStr p m n λv=>K ⟨.pv (.val v),[],[],[]⟩
  | _=>False
 | .pv (.val (.bool q))=>match b with
  | .pv (.val (.bool r))=>vti T t λe=>match e.i with
   | .bool=>match p with
    | .eql=>K ⟨.pv (.val (.bool (q==r))),[],[],[]⟩
    | .neq=>K ⟨.pv (.val (.bool (!(q==r)))),[],[],[]⟩
    | _=>False
   | _=>False
  | _=>False
 | .pv q=>match b with
  | .pv (.val (.pointer none))=>vopt (pvNil q) λn=>vopt (y2p p n) λr=>vti T t λe=>match e.i with
   | .ptr _=>K ⟨.pv (.val (.bool r)),[],[],[]⟩
   | _=>False
  | .pv (.val (.slice none 0 0))=>vopt (slNil q) λn=>vopt (y2p p n) λr=>vti T t λe=>match e.i with
   | .slice _=>K ⟨.pv (.val (.bool r)),[],[],[]⟩
   | _=>False
  | _=>False
 | _=>False
theorem vBin_ok {p:BinOp} {t u:Nat} {y w:Operand} (ho:o.op = .binOp p t y w u) (h:vBin T p t fr y w K):Does P Rl o fr hp K:=by
 obtain ⟨a,ha,h⟩:=z1m h;obtain ⟨b,hb,h⟩:=z1m h;have ea:∀ {fr2:Fr},agr fr2 fr (z1a o.op)->fr2.ev y=some a:=λhg=>hg.ev ha (by rw [ho];simp [Op.operands]);have eb:∀ {fr2:Fr},agr fr2 fr (z1a o.op)->fr2.ev w=some b:=λhg=>hg.ev hb (by rw [ho];simp [Op.operands]);split at h
 ·rename_i k m;split at h
  ·rename_i k' n;split at h
   ·exact ⟨_,h.2,.pure λc R1 fr2 hp2 hg _ _=>ok_shl ho (ea hg) (eb hg) h.1⟩
   ·exact ⟨_,h.2,.pure λc R1 fr2 hp2 hg _ _=>ok_shr ho (ea hg) (eb hg) h.1⟩
   ·obtain ⟨hk,h⟩:=z0c h;obtain rfl:=eq_of_beq hk;split at h
    ·rename_i v hv;exact ⟨_,h,.pure λc R1 fr2 hp2 hg _ _=>zq0 ho (ea hg) (eb hg) (yz3 hv)⟩
    ·obtain ⟨h1,h2⟩:=h;exact ⟨_,h2,.pure λc R1 fr2 hp2 hg _ _=>zq0 ho (ea hg) (eb hg) h1⟩
  ·exact h.elim
 ·split at h
  ·split at h
   ·rename_i v hv;exact ⟨_,h,.pure λc R1 fr2 hp2 hg _ _=>bSt ho (ea hg) (eb hg) (yz5 hv)⟩
   ·obtain ⟨h1,h2⟩:=h;exact ⟨_,h2,.pure λc R1 fr2 hp2 hg _ _=>bSt ho (ea hg) (eb hg) h1⟩
  ·exact h.elim
 ·split at h
  ·obtain ⟨e,he,h⟩:=z1n h;obtain ⟨d,hd,hi⟩:=z3i he;split at h
   ·rename_i hb;rw [hb] at hi
    cases hi
    split at h
    ·exact ⟨_,h,.pure λc R1 fr2 hp2 hg _ _=>yb2 ho (ea hg) (eb hg) hd⟩
    ·exact ⟨_,h,.pure λc R1 fr2 hp2 hg _ _=>yb6 ho (ea hg) (eb hg) hd⟩
    ·exact h.elim
   ·exact h.elim
  ·exact h.elim
 ·split at h
  ·obtain ⟨n,hn,h⟩:=z0i h;obtain ⟨r,hr,h⟩:=z0i h;obtain ⟨e,he,h⟩:=z1n h;obtain ⟨d,hd,hi⟩:=z3i he;split at h
   ·rename_i hb;rw [hb] at hi
    cases hi
    exact ⟨_,h,.pure λc R1 fr2 hp2 hg _ _=>j15 ho (ea hg) (eb hg) hn hr hd⟩
   ·exact h.elim
  ·obtain ⟨n,hn,h⟩:=z0i h;obtain ⟨r,hr,h⟩:=z0i h;obtain ⟨e,he,h⟩:=z1n h;obtain ⟨d,hd,hi⟩:=z3i he;split at h
   ·rename_i hb;rw [hb] at hi
    cases hi
    exact ⟨_,h,.pure λc R1 fr2 hp2 hg _ _=>ok_cmpSl ho (ea hg) (eb hg) hn hr hd⟩
   ·exact h.elim
  ·exact h.elim
 ·exact h.elim
def vUn (p:UnOp) (fr:Fr) (y:Operand) (K:Stp->Prop):Prop:=vev fr y λa=>match p with
 | .not=>match a with
  | .pv (.val (.bool b))=>K ⟨.pv (.val (.bool (!b))),[],[],[]⟩
  | _=>False
 | .neg=>match a with
  | .pv (.val (.int k n))=>K ⟨.pv (.val (.int k (k.wrap (0 - n)))),[],[],[]⟩
  | _=>False
 | _=>False
theorem vUn_ok {p:UnOp} {t:Nat} {y:Operand} (ho:o.op = .unOp p t y) (h:vUn p fr y K):Does P Rl o fr hp K:=by
 obtain ⟨a,ha,h⟩:=z1m h;have ea:∀ {fr2:Fr},agr fr2 fr (z1a o.op)->fr2.ev y=some a:=λhg=>hg.ev ha (by rw [ho];simp [Op.operands]);split at h
 ·split at h
  ·exact ⟨_,h,.pure λc R1 fr2 hp2 hg _ _=>yk5 ho (ea hg)⟩
  ·exact h.elim
 ·split at h
  ·exact ⟨_,h,.pure λc R1 fr2 hp2 hg _ _=>ok_neg ho (ea hg)⟩
  ·exact h.elim
 ·exact h.elim
def vConv (T:TB P) (s t:Nat) (fr:Fr) (y:Operand) (K:Stp->Prop):Prop:=vev fr y λa=>match a with
 | .pv (.val (.int _ n))=>vti T s λ_=>vti T t λe=>match e.i with
  | .int k'=>K ⟨.pv (.val (.int k' (k'.wrap n))),[],[],[]⟩
  | _=>False
 | .pv (.seq els)=>vti T s λd=>vti T t λe=>match d.i with
  | .slice q=>vti T q λz=>match z.i with
   | .int .u8=>match e.i with
    | .str=>match zz1 els with
     | some ns=>K ⟨.pv (.val (.string (y4d ns))),[],[],[]⟩
     | none=>False
    | _=>False
   | _=>False
  | _=>False
 | _=>False
theorem vConv_ok {s t:Nat} {y:Operand} (ho:o.op = .convert s t y) (h:vConv T s t fr y K):Does P Rl o fr hp K:=by
 obtain ⟨a,ha,h⟩:=z1m h;have ea:∀ {fr2:Fr},agr fr2 fr (z1a o.op)->fr2.ev y=some a:=λhg=>hg.ev ha (by rw [ho];simp [Op.operands]);split at h
 ·obtain ⟨e1,he1,h⟩:=z1n h;obtain ⟨e,he,h⟩:=z1n h;obtain ⟨d1,hd1,_⟩:=z3i he1;obtain ⟨d,hd,hi⟩:=z3i he;split at h
  ·rename_i hb;rw [hb] at hi
   cases hi
   exact ⟨_,h,.pure λc R1 fr2 hp2 hg _ _=>y0i ho (ea hg) ⟨d1,hd1⟩ hd⟩
  ·exact h.elim
 ·obtain ⟨e1,he1,h⟩:=z1n h;obtain ⟨e,he,h⟩:=z1n h;obtain ⟨d1,hd1,hi1⟩:=z3i he1;obtain ⟨d,hd,hi⟩:=z3i he;split at h
  ·rename_i q hb1;rw [hb1] at hi1
   cases hi1
   obtain ⟨z,hz,h⟩:=z1n h;obtain ⟨d2,hd2,hi2⟩:=z3i hz;split at h
   ·rename_i hb2;rw [hb2] at hi2
    cases hi2
    split at h
    ·rename_i hb;rw [hb] at hi
     cases hi
     split at h
     ·rename_i ns hns;exact ⟨_,h,.pure λc R1 fr2 hp2 hg _ _=>yb1 ho (ea hg) hns hd1 hd2 hd⟩
     ·exact h.elim
    ·exact h.elim
   ·exact h.elim
  ·exact h.elim
 ·exact h.elim
inductive VIdx (els:List (List PV)) (m:Int) (K:List PV->Prop):Prop
 | mk {i:Nat} {el:List PV} (hi:els[i]? = some el) (hm:m=i) (k:K el)
inductive VIdR (n:Nat) (m:Int) (K:Nat->Prop):Prop
 | mk {i:Nat} (hi:i<n) (hm:m=i) (k:K i)
inductive VIdS (s:ByteArray) (m:Int) (K:UInt8->Prop):Prop
 | mk {i:Nat} {b:UInt8} (hi:s[i]? = some b) (hm:m=i) (k:K b)
def vIdxA (T:TB P) (t:Nat) (fr:Fr) (hp:Hp) (y w:Operand) (K:Stp->Prop):Prop:=vev fr y λa=>vev fr w λb=>match b with
 | .pv (.val (.int _ m))=>vti T t λe=>match e.i with
  | .slice q=>vti T q λeq=>match a with
   | .pv (.seq els)=>VIdx els m λel=>z2g (Nat.beq el.length eq.n) (K ⟨.pv (.ept el 0),[],[],[]⟩)
   | .sl k n=>vrow hp k λs els=>z2g (Nat.beq s.e q&&Nat.beq s.n eq.n) (els.length=n/\VIdR n m λi=>K ⟨.rpt k n (i*s.n),[],[k],[]⟩)
   | .bs k n=>vbox hp k λ_=>z2g (Nat.beq eq.n 1) (VIdR n m λi=>K ⟨.ptr k i,[],[k],[]⟩)
   | .sp k n m'=>vrow hp k λs els=>z2g (Nat.beq s.e q&&Nat.beq s.n eq.n) (els.length=m'/\VIdR n m λi=>K ⟨.rpt k m' (i*s.n),[],[k],[]⟩)
   | _=>False
  | .arr n q=>vti T q λeq=>match a with
   | .ptr k off=>vbox hp k λ_=>VIdR n m λi=>K ⟨.ptr k (off+i*eq.n),[],[k],[]⟩
   | _=>False
  | _=>False
 | _=>False
theorem vIdxA_ok {t:Nat} {y w:Operand} (ho:o.op = .indexAddr t y w) (h:vIdxA T t fr hp y w K):Does P Rl o fr hp K:=by
 obtain ⟨a,ha,h⟩:=z1m h;obtain ⟨b,hb,h⟩:=z1m h;have ea:∀ {fr2:Fr},agr fr2 fr (z1a o.op)->fr2.ev y=some a:=λhg=>hg.ev ha (by rw [ho];simp [Op.operands]);have eb:∀ {fr2:Fr},agr fr2 fr (z1a o.op)->fr2.ev w=some b:=λhg=>hg.ev hb (by rw [ho];simp [Op.operands]);split at h
 ·obtain ⟨e,he,h⟩:=z1n h;obtain ⟨d,hd,hi⟩:=z3i he;split at h
  ·rename_i q hq;rw [hq] at hi
   cases hi
   obtain ⟨eq,heq,h⟩:=z1n h;split at h
   ·obtain ⟨h1,h2,h⟩:=h;obtain ⟨h3,h⟩:=z0c h;exact ⟨_,h,.pure λc R1 fr2 hp2 hg _ _=>iSq ho (ea hg) (eb hg) hd h1 (z2l heq) (Ac h3) h2⟩
   ·rename_i k n;obtain ⟨s,els,hk,h⟩:=z3o h;obtain ⟨h3,h⟩:=z0c h;obtain ⟨hn,h1,h2,h9⟩:=h;simp only [A0] at h3;obtain rfl:=Ac h3.1;exact ⟨_,h9,.pure λc R1 fr2 hp2 hg hh _=>iRw ho (ea hg) (eb hg) (hh.at hk (.head _)) hn hd (by rw [z2l heq,Ac h3.2]) h1 h2⟩
   ·rename_i k n;obtain ⟨cs,hk,h⟩:=z5a h;obtain ⟨h3,h⟩:=z0c h;obtain ⟨h1,h2,h⟩:=h;exact ⟨_,h,.pure λc R1 fr2 hp2 hg hh _=>yb3 ho (ea hg) (eb hg) (hh.at hk (.head _)) hd (by rw [z2l heq,Ac h3]) h1 h2⟩
   ·rename_i k n m';obtain ⟨s,els,hk,h⟩:=z3o h;obtain ⟨h3,h⟩:=z0c h;obtain ⟨hn,h1,h2,h9⟩:=h;simp only [A0] at h3;obtain rfl:=Ac h3.1;exact ⟨_,h9,.pure λc R1 fr2 hp2 hg hh _=>yb4 ho (ea hg) (eb hg) (hh.at hk (.head _)) hn hd (by rw [z2l heq,Ac h3.2]) h1 h2⟩
   ·exact h.elim
  ·rename_i n q hq;rw [hq] at hi
   cases hi
   obtain ⟨eq,heq,h⟩:=z1n h;split at h
   ·rename_i k off;obtain ⟨cs,hk,h⟩:=z5a h;obtain ⟨h1,h2,h⟩:=h;exact ⟨_,h,.pure λc R1 fr2 hp2 hg hh _=>y7u ho (ea hg) (eb hg) (hh.at hk (.head _)) hd (z2l heq) h2 h1⟩
   ·exact h.elim
  ·exact h.elim
 ·exact h.elim
def vIdxV (T:TB P) (t:Nat) (fr:Fr) (y w:Operand) (K:Stp->Prop):Prop:=vev fr y λa=>vev fr w λb=>match b with
 | .pv (.val (.int _ m))=>match a with
  | .pv (.val (.string s))=>vti T t λe=>match e.i with
   | .str=>VIdS s m λb=>K ⟨.pv (.val (.int .u8 b.toNat)),[],[],[]⟩
   | _=>False
  | _=>False
 | _=>False
theorem vIdxV_ok {t:Nat} {y w:Operand} (ho:o.op = .index t y w) (h:vIdxV T t fr y w K):Does P Rl o fr hp K:=by
 obtain ⟨a,ha,h⟩:=z1m h;obtain ⟨b,hb,h⟩:=z1m h;have ea:∀ {fr2:Fr},agr fr2 fr (z1a o.op)->fr2.ev y=some a:=λhg=>hg.ev ha (by rw [ho];simp [Op.operands]);have eb:∀ {fr2:Fr},agr fr2 fr (z1a o.op)->fr2.ev w=some b:=λhg=>hg.ev hb (by rw [ho];simp [Op.operands]);split at h
 ·split at h
  ·obtain ⟨e,he,h⟩:=z1n h;obtain ⟨d,hd,hi⟩:=z3i he;split at h
   ·rename_i hq;rw [hq] at hi
    cases hi
    obtain ⟨h1,h2,h⟩:=h;exact ⟨_,h,.pure λc R1 fr2 hp2 hg _ _=>zt9 ho (ea hg) (eb hg) hd h1 h2⟩
   ·exact h.elim
  ·exact h.elim
 ·exact h.elim
theorem y7t {c:Cx} {R1:Nat->Prop} {t:TypeId} {x:Operand} {f fo:Nat} {k n off:Nat} {s:RT} {els:List (List PV)} (ho:o.op = .fieldAddr t x f) (hx:fr.ev x=some (.rpt k n off)) (hk:look hp k=some (.row s els)) (hn:els.length=n)
 (hfo:y4b P t f fo):OkV P c R1 o fr (look hp) (.rpt k n (off+fo)):=by
 refine λρ w a h=>?_;obtain ⟨fs,fd,s',hu,hf,rfl,hs⟩:=hfo;obtain ⟨b,cc,r,u,hv,hρ,h3,h4,hc,hcm,hwe,hcells,hu'⟩:=h.rpt hx hk hn;refine ⟨.pointer (some ⟨b,off+fd.offset,none⟩),λw2 _=>?_,.rpt _ _ _ _ λs2 els2 h2=>?_⟩
 ·simp [execOp,ho,hv,Instr.fieldAt,Af,B5 hu,hf,Instr.sureAddr,fieldPlace,z18 hs,Cv]
 ·rw [hk] at h2;cases h2
  exact ⟨by omega,λ_=>⟨b,cc,hρ,rfl⟩⟩
theorem y0m {c:Cx} {R1:Nat->Prop} {x:Operand} {k n off:Nat} {s:RT} {els:List (List PV)} (ho:o.op = .nilCheck x) (hx:fr.ev x=some (.rpt k n off)) (hk:look hp k=some (.row s els)) (hn:els.length=n):OkV P c R1 o fr (look hp) (.rpt k n off):=by
 intro ρ w a h;obtain ⟨b,cc,r,u,hv,hρ,h3,h4,hc,hcm,hwe,hcells,hu'⟩:=h.rpt hx hk hn;refine ⟨.pointer (some ⟨b,off,none⟩),λw2 _=>by simp [execOp,ho,hv],.rpt _ _ _ _ λs2 els2 h2=>?_⟩;rw [hk] at h2;cases h2
 exact ⟨by omega,λ_=>⟨b,cc,hρ,rfl⟩⟩
def j4p (T:TB P) (t:Nat) (fr:Fr) (hp:Hp) (y:Operand) (f:Nat) (K:Stp->Prop):Prop:=vev fr y λa=>vti T t λe=>match e.i with
 | .struct fs=>vopt fs[f]? λp=>vti T p.2 λef=>z2g (Nat.blt 0 ef.n) (match a with
  | .pv (.ept cs off)=>K ⟨.pv (.ept cs (off+p.1)),[],[],[]⟩
  | .ptr k off=>vbox hp k λ_=>K ⟨.ptr k (off+p.1),[],[k],[]⟩
  | .rpt k n off=>vrow hp k λ_ els=>els.length=n/\K ⟨.rpt k n (off+p.1),[],[k],[]⟩
  | _=>False)
 | _=>False
theorem field_ok {t f:Nat} {e ef:TE} {fs:List (Nat × Nat)} {p:Nat × Nat} (he:teB P t e=true) (hi:e.i = .struct fs) (hp:fs[f]? = some p) (hf:teB P p.2 ef=true) (hn:Nat.blt 0 ef.n=true):y4b P t f p.1:=by
 obtain ⟨d,hd,h1⟩:=z3i he;rw [hi] at h1;obtain ⟨a,rfl,h2⟩:=h1;rw [<- h2,B8,A1] at hp;obtain ⟨fd,h3,rfl⟩:=hp;have h4:1<=ef.n:=by simpa [Nat.blt] using hn
 exact ⟨a,fd,ef.n - 1,hd,by simpa using h3,rfl,by rw [z2l hf];congr 1;omega⟩
theorem yx1 {t f:Nat} {y:Operand} (ho:o.op = .fieldAddr t y f) (h:j4p T t fr hp y f K):Does P Rl o fr hp K:=by
 obtain ⟨a,ha,h⟩:=z1m h;have ea:∀ {fr2:Fr},agr fr2 fr (z1a o.op)->fr2.ev y=some a:=λhg=>hg.ev ha (by rw [ho];simp [Op.operands]);obtain ⟨e,he,h⟩:=z1n h;split at h
 ·rename_i fs hfs;obtain ⟨p,hp',h⟩:=z0i h;obtain ⟨ef,hef,h⟩:=z1n h;obtain ⟨hn,h⟩:=z0c h;have hF:=field_ok he hfs hp' hef hn;split at h
  ·exact ⟨_,h,.pure λc R1 fr2 hp2 hg _ _=>y7r ho (ea hg) hF⟩
  ·obtain ⟨cs,hk,h⟩:=z5a h;exact ⟨_,h,.pure λc R1 fr2 hp2 hg hh _=>y7s ho (ea hg) (hh.at hk (.head _)) hF⟩
  ·obtain ⟨s,els,hk,h⟩:=z3o h;exact ⟨_,h.2,.pure λc R1 fr2 hp2 hg hh _=>y7t ho (ea hg) (hh.at hk (.head _)) h.1 hF⟩
  ·exact h.elim
 ·exact h.elim
theorem zb6 {c:Cx} {R1:Nat->Prop} {t:Nat} {x:Operand} {d:TypeDesc} {k n i off:Nat} {s:RT} {els:List (List PV)} {el:List PV} (ho:o.op = .load t x) (hx:fr.ev x=some (.rpt k n off)) (hk:look hp k=some (.row s els)) (hn:els.length=n)
 (hoff:off=i*s.n) (hi:els[i]? = some el) (hu:P.underlying t=some d) (hd:d.isRow=true) (hs:(P.info? t).map (·.size)=some s.n) (hR1:R1 k):OkV P c R1 o fr (look hp) (.pv (.agg el)):=by
 intro ρ w a h;obtain ⟨b,cc,r,u,hv,hρ,h3,h4,hc,hcm,hwe,hcells,hu'⟩:=h.rpt hx hk hn;have hel:el.length=s.n:=hwe el (Ai hi);have hin:i<els.length:=(A3.1 hi).1;have hle:i*s.n+s.n<=r.size:=by
  have:(i+1)*s.n<=cc*s.n:=C6 _ oM0;rw [D9] at this;omega
 have hlen:((r.toList.drop off).take s.n).length=s.n:=by simp;omega
 refine ⟨_,λw2 h2=>by simp only [execOp,ho,hv,Af,G3 (P:=P) w2 b off t _ d (y82 ((h2 b (h.rel.lt hρ) (.inr ⟨k,cc,hR1,hρ⟩)).trans h3) off s.n) hu hd (by rw [hlen];exact hs)];rfl,.pv _ _ (.agg _ _ (u i) ?_ ?_ ?_)⟩
 ·simp;omega
 ·intro j z hj;have hjn:j<s.n:=by have:=(A3.1 hj).1;omega
  have:=hcells i el hi j z hj;subst hoff;simp [hjn];simpa using this
 ·exact λj z hj=>hu' i el hi j z hj
inductive VRow (s:RT) (els:List (List PV)) (n off:Nat) (K:PV->Prop):Prop
 | mk {i j:Nat} {el:List PV} {z:PV} (hn:els.length=n) (ho:off=i*s.n+j) (hi:els[i]? = some el) (hj:el[j]? = some z) (k:K z)
inductive VRowS (s:RT) (els:List (List PV)) (n off:Nat) (K:List PV->Prop):Prop
 | mk {i:Nat} {el:List PV} (hn:els.length=n) (ho:off=i*s.n) (hi:els[i]? = some el) (k:K el)
def yg5 (T:TB P) (t:Nat) (fr:Fr) (hp:Hp) (y:Operand) (K:Stp->Prop):Prop:=vev fr y λa=>vti T t λe=>match a with
 | .pv (.ept cs off)=>match e.i.row with
  | false=>vopt cs[off]? λz=>K ⟨.pv z,[],[],[]⟩
  | true=>z2g (Nat.ble (off+e.n) cs.length) (frcP ((cs.drop off).take e.n) λl=>K ⟨.pv (.agg l),[],[],[]⟩)
 | .ptr k off=>vbox hp k λcs=>match e.i.row with
  | false=>vopt cs[off]? λz=>K ⟨z,[],[k],[]⟩
  | true=>z2g (Nat.ble (off+e.n) cs.length) (match z7i ((cs.drop off).take e.n) with
   | some ps=>frcP ps λl=>K ⟨.pv (.agg l),[],[k],[]⟩
   | none=>frcI ((cs.drop off).take e.n) λl=>K ⟨.agg l,[],[k],[]⟩)
 | .rpt k n off=>vrow hp k λs els=>match e.i.row with
  | false=>VRow s els n off λz=>K ⟨.pv z,[],[k],[]⟩
  | true=>z2g (Nat.beq e.n s.n) (VRowS s els n off λel=>K ⟨.pv (.agg el),[],[k],[]⟩)
 | _=>False
theorem vLoad_ok {t:Nat} {y:Operand} (ho:o.op = .load t y) (h:yg5 T t fr hp y K):Does P Rl o fr hp K:=by
 obtain ⟨a,ha,h⟩:=z1m h;have ea:∀ {fr2:Fr},agr fr2 fr (z1a o.op)->fr2.ev y=some a:=λhg=>hg.ev ha (by rw [ho];simp [Op.operands]);obtain ⟨e,he,h⟩:=z1n h;obtain ⟨d,hd,hi⟩:=z3i he;have hrow:=TI.is_row hi;split at h
 ·split at h
  ·rename_i hr;obtain ⟨z,hz,h⟩:=z0i h;exact ⟨_,h,.pure λc R1 fr2 hp2 hg _ _=>y0k ho (ea hg) hd (hrow.trans hr) hz⟩
  ·rename_i hr;obtain ⟨hn,h⟩:=z0c h;exact ⟨_,z8a h,.pure λc R1 fr2 hp2 hg _ _=>lEA ho (ea hg) hd (hrow.trans hr) (z2l he) (Aw hn)⟩
 ·obtain ⟨cs,hk,h⟩:=z5a h;split at h
  ·rename_i hr;obtain ⟨z,hz,h⟩:=z0i h;exact ⟨_,h,.pure λc R1 fr2 hp2 hg hh hR=>y0j ho (ea hg) (hh.at hk (.head _)) hd (hrow.trans hr) hz (hR _ (.head _))⟩
  ·rename_i hr;obtain ⟨hn,h⟩:=z0c h;split at h
   ·rename_i ps hps;exact ⟨_,z8a h,.pure λc R1 fr2 hp2 hg hh hR=>lBP ho (ea hg) (hh.at hk (.head _)) hd (hrow.trans hr) (z2l he) (Aw hn) hps (hR _ (.head _))⟩
   ·exact ⟨_,z5x h,.pure λc R1 fr2 hp2 hg hh hR=>z7e ho (ea hg) (hh.at hk (.head _)) hd (hrow.trans hr) (z2l he) (Aw hn) (hR _ (.head _))⟩
 ·obtain ⟨s,els,hk,h⟩:=z3o h;split at h
  ·rename_i hr;obtain ⟨hn,hoff,h1,h2,h⟩:=h;exact ⟨_,h,.pure λc R1 fr2 hp2 hg hh hR=>lRw ho (ea hg) (hh.at hk (.head _)) hn hoff h1 h2 hd (hrow.trans hr) (hR _ (.head _))⟩
  ·rename_i hr;obtain ⟨hq,h⟩:=z0c h;obtain ⟨hn,hoff,h1,h⟩:=h;exact ⟨_,h,.pure λc R1 fr2 hp2 hg hh hR=>zb6 ho (ea hg) (hh.at hk (.head _)) hn hoff h1 hd (hrow.trans hr) (by rw [z2l he,Ac hq]) (hR _ (.head _))⟩
 ·exact h.elim
def j4q (T:TB P) (t:Nat) (fr:Fr) (y:Operand) (f:Nat) (K:Stp->Prop):Prop:=vev fr y λa=>match a with
 | .pv (.agg ps)=>vti T t λe=>match e.i with
  | .struct fs=>vopt fs[f]? λp=>vti T p.2 λef=>match ef.i.row with
   | false=>vopt ps[p.1]? λz=>K ⟨.pv z,[],[],[]⟩
   | true=>False
  | _=>False
 | _=>False
theorem yx2 {t f:Nat} {y:Operand} (ho:o.op = .field t y f) (h:j4q T t fr y f K):Does P Rl o fr hp K:=by
 obtain ⟨a,ha,h⟩:=z1m h;have ea:∀ {fr2:Fr},agr fr2 fr (z1a o.op)->fr2.ev y=some a:=λhg=>hg.ev ha (by rw [ho];simp [Op.operands]);split at h
 ·obtain ⟨e,he,h⟩:=z1n h;obtain ⟨d,hd,hi⟩:=z3i he;split at h
  ·rename_i fs hfs;rw [hfs] at hi;obtain ⟨q,rfl,h2⟩:=hi;obtain ⟨p,hp',h⟩:=z0i h;obtain ⟨ef,hef,h⟩:=z1n h;obtain ⟨df,hdf,hif⟩:=z3i hef;split at h
   ·rename_i hr;obtain ⟨z,hz,h9⟩:=z0i h;rw [<- h2,B8,A1] at hp';obtain ⟨fd,h3,rfl⟩:=hp';exact ⟨_,h9,.pure λc R1 fr2 hp2 hg _ _=>y5a ho (ea hg) hd (by simpa using h3) hdf ((TI.is_row hif).trans hr) hz⟩
   ·exact h.elim
  ·exact h.elim
 ·exact h.elim
def yo6 (fr:Fr) (y:Operand) (i:Nat) (K:Stp->Prop):Prop:=vev fr y λa=>match a with
 | .tup vs=>vopt vs[i]? λz=>K ⟨z,[],[],[]⟩
 | _=>False
theorem yg4 {i:Nat} {y:Operand} (ho:o.op = .extract y i) (h:yo6 fr y i K):Does P Rl o fr hp K:=by
 obtain ⟨a,ha,h⟩:=z1m h;split at h
 ·obtain ⟨z,hz,h⟩:=z0i h;exact ⟨_,h,.pure λc R1 fr2 hp2 hg _ _=>z8q ho (hg.ev ha (by rw [ho];simp [Op.operands])) hz⟩
 ·exact h.elim
def vNil (fr:Fr) (hp:Hp) (y:Operand) (K:Stp->Prop):Prop:=vev fr y λa=>match a with
 | .ptr k off=>vbox hp k λ_=>K ⟨.ptr k off,[],[k],[]⟩
 | .pv (.ept cs off)=>K ⟨.pv (.ept cs off),[],[],[]⟩
 | .rpt k n off=>vrow hp k λ_ els=>els.length=n/\K ⟨.rpt k n off,[],[k],[]⟩
 | _=>False
theorem vNil_ok {y:Operand} (ho:o.op = .nilCheck y) (h:vNil fr hp y K):Does P Rl o fr hp K:=by
 obtain ⟨a,ha,h⟩:=z1m h;have ea:∀ {fr2:Fr},agr fr2 fr (z1a o.op)->fr2.ev y=some a:=λhg=>hg.ev ha (by rw [ho];simp [Op.operands]);split at h
 ·obtain ⟨cs,hk,h⟩:=z5a h;exact ⟨_,h,.pure λc R1 fr2 hp2 hg hh _=>nCk ho (ea hg) (hh.at hk (.head _))⟩
 ·exact ⟨_,h,.pure λc R1 fr2 hp2 hg _ _=>y0l ho (ea hg)⟩
 ·obtain ⟨s,els,hk,h⟩:=z3o h;exact ⟨_,h.2,.pure λc R1 fr2 hp2 hg hh _=>y0m ho (ea hg) (hh.at hk (.head _)) h.1⟩
 ·exact h.elim
def vEnd (fr:Fr) (y:Option Operand) (n:Nat) (K:Nat->Prop):Prop:=match y with
 | none=>K n
 | some y=>vev fr y λa=>match a with
  | .pv (.val (.int _ m))=>∃ i:Nat,m=i/\K i
  | _=>False
theorem zs8 {y:Option Operand} {n:Nat} {K:Nat->Prop} (h:vEnd fr y n K):∃ i,K i/\((y=none/\i=n)∨∃ z k,y=some z/\fr.ev z=some (.pv (.val (.int k i)))):=by
 unfold vEnd at h;split at h
 ·exact ⟨n,h,.inl ⟨rfl,rfl⟩⟩
 ·rename_i y;obtain ⟨a,ha,h⟩:=z1m h;split at h
  ·rename_i k m;obtain ⟨i,rfl,h⟩:=h;exact ⟨i,h,.inr ⟨y,k,rfl,ha⟩⟩
  ·exact h.elim
def vSlice (T:TB P) (t:Nat) (fr:Fr) (hp:Hp) (y:Operand) (lo hi:Option Operand) (K:Stp->Prop):Prop:=vev fr y λa=>vti T t λe=>match a with
 | .pv (.seq els)=>match e.i with
  | .slice q=>vti T q λeq=>vEnd fr lo 0 λi=>vEnd fr hi els.length λj=>i<=j/\j<=els.length/\(∀ el∈els,el.length=eq.n)/\K ⟨.pv (.seq ((els.take j).drop i)),[],[],[]⟩
  | _=>False
 | .pv (.val (.string s))=>match e.i with
  | .str=>vEnd fr lo 0 λi=>vEnd fr hi s.size λj=>i<=j/\j<=s.size/\K ⟨.pv (.val (.string (s.extract i j))),[],[],[]⟩
  | _=>False
 | .sl k n=>match e.i with
  | .slice q=>vti T q λ_=>z2g lo.isNone (vrow hp k λ_ els=>els.length=n/\vEnd fr hi n λj=>j<=n/\K ⟨.sp k j n,[],[k],[]⟩)
  | _=>False
 | .sp k n m=>match e.i with
  | .slice q=>vti T q λ_=>z2g lo.isNone (vrow hp k λ_ els=>els.length=m/\vEnd fr hi n λj=>j<=n/\K ⟨.sp k j m,[],[k],[]⟩)
  | _=>False
 | _=>False
theorem zo5 {lo:Option Operand} {n i:Nat} {fr2:Fr} (hg:agr fr2 fr (z1a o.op)) (hm:∀ z,lo=some z->z∈o.op.operands.toList) (h:(lo=none/\i=n)∨∃ z k,lo=some z/\fr.ev z=some (.pv (.val (.int k i)))):(lo=none/\i=n)∨∃ z k,lo=some z/\fr2.ev z=some (.pv (.val (.int k i))):=by
 rcases h with h | ⟨z,k,h1,h2⟩
 ·exact .inl h
 ·exact .inr ⟨z,k,h1,hg.ev h2 (hm z h1)⟩
theorem j4u {t:Nat} {y:Operand} {lo hi:Option Operand} (ho:o.op = .slice t y lo hi none) (h:vSlice T t fr hp y lo hi K):Does P Rl o fr hp K:=by
 obtain ⟨a,ha,h⟩:=z1m h;have ea:∀ {fr2:Fr},agr fr2 fr (z1a o.op)->fr2.ev y=some a:=λhg=>hg.ev ha (by rw [ho];simp [Op.operands]);have ml:∀ z,lo=some z->z∈o.op.operands.toList:=λz hz=>by rw [ho,hz];simp [Op.operands]
 have mh:∀ z,hi=some z->z∈o.op.operands.toList:=λz hz=>by rw [ho,hz];simp [Op.operands]
 obtain ⟨e,he,h⟩:=z1n h;obtain ⟨d,hd,hi'⟩:=z3i he;split at h
 ·split at h
  ·rename_i q hq;rw [hq] at hi'
   cases hi'
   obtain ⟨eq,heq,h⟩:=z1n h;obtain ⟨i,h,h1⟩:=zs8 h;obtain ⟨j,h,h2⟩:=zs8 h;exact ⟨_,h.2.2.2,.pure λc R1 fr2 hp2 hg _ _=>y7x ho (ea hg) hd (z2l heq) (zo5 hg ml h1) (zo5 hg mh h2) h.1 h.2.1 h.2.2.1⟩
  ·exact h.elim
 ·split at h
  ·rename_i hq;rw [hq] at hi'
   cases hi'
   obtain ⟨i,h,h1⟩:=zs8 h;obtain ⟨j,h,h2⟩:=zs8 h;exact ⟨_,h.2.2,.pure λc R1 fr2 hp2 hg _ _=>zu1 ho (ea hg) hd (zo5 hg ml h1) (zo5 hg mh h2) h.1 h.2.1⟩
  ·exact h.elim
 ·split at h
  ·rename_i q hq;rw [hq] at hi'
   cases hi'
   obtain ⟨eq,heq,h⟩:=z1n h;obtain ⟨hl,h⟩:=z0c h;obtain rfl:lo=none:=by simpa using hl
   obtain ⟨s,els,hk,hn,h⟩:=z3o h;obtain ⟨j,h,h2⟩:=zs8 h;exact ⟨_,h.2,.pure λc R1 fr2 hp2 hg hh _=>zu0 ho (λ_ _ _ ha=>(ha.ev (ea hg)).toSp) (hh.at hk (.head _)) hn hd (z2l heq) (zo5 hg mh h2) h.1⟩
  ·exact h.elim
 ·split at h
  ·rename_i q hq;rw [hq] at hi'
   cases hi'
   obtain ⟨eq,heq,h⟩:=z1n h;obtain ⟨hl,h⟩:=z0c h;obtain rfl:lo=none:=by simpa using hl
   obtain ⟨s,els,hk,hn,h⟩:=z3o h;obtain ⟨j,h,h2⟩:=zs8 h;exact ⟨_,h.2,.pure λc R1 fr2 hp2 hg hh _=>zu0 ho (λ_ _ _ ha=>ha.ev (ea hg)) (hh.at hk (.head _)) hn hd (z2l heq) (zo5 hg mh h2) h.1⟩
  ·exact h.elim
 ·exact h.elim
def vFunc (fr:Fr) (f:Fn) (xs ys:Array Operand) (K:Stp->Prop):Prop:=vopt (evs fr xs.toList) λus=>vopt (evs fr ys.toList) λvs=>K ⟨.fn f us vs,[],[],[]⟩
theorem vFunc_ok {f:Fn} {xs ys:Array Operand} (ho:o.op = .makeFunc f xs ys) (h:vFunc fr f xs ys K):Does P Rl o fr hp K:=by
 obtain ⟨us,h1,h⟩:=z0i h;obtain ⟨vs,h2,h⟩:=z0i h;exact ⟨_,h,.pure λc R1 fr2 hp2 hg _ _=>yb5 ho (hg.evs h1 λy hy=>by rw [ho];simp only [Op.operands,Dl];exact Bp _ hy) (hg.evs h2 λy hy=>by rw [ho];simp only [Op.operands,Dl];exact Bz _ hy)⟩
inductive VAsk (d:TypeDesc) (kv:Value) (es:List (Value × PV)) (z:Value) (K:PV->Bool->Prop):Prop
 | mk {p:PV} {b:Bool} (hk:z1x d kv=true) (hes:∀ e∈es,z1x d e.1=true) (h:((z1z kv es).getD (.val z),(z1z kv es).isSome)=(p,b)) (k:K p b)
inductive VMap (d:TypeDesc) (kv:Value) (es:List (Value × PV)) (A:Prop):Prop
 | mk (hk:z1x d kv=true) (hes:∀ e∈es,z1x d e.1=true) (k:A)
def TI.key:TI->Option TypeDesc
 | .int k=>some (.int k)
 | .str=>some .string
 | _=>none
theorem y4u {t:Nat} {e:TE} {d:TypeDesc} (he:teB P t e=true) (hd:e.i.key=some d):P.underlying t=some d:=by
 obtain ⟨d',hd',hi⟩:=z3i he;rw [hd']
 cases hq:e.i<;>rw [hq] at hd hi<;>first | (cases hd;cases hi;rfl) | cases hd
def j4r (T:TB P) (t:Nat) (fr:Fr) (hp:Hp) (y w:Operand) (two:Bool) (K:Stp->Prop):Prop:=vev fr y λa=>vev fr w λb=>match a with
 | .mp k=>match b with
  | .pv (.val kv)=>vmap hp k λes=>vti T t λe=>match e.i with
   | .map kt et=>vti T kt λek=>vti T et λee=>vopt ek.i.key λd=>z2g (!ee.z.isEmpty) (VAsk d kv es ee.zv λp b=>match two with
    | false=>K ⟨.pv p,[],[k],[]⟩
    | true=>K ⟨.tup [.pv p,iBool b],[],[k],[]⟩)
   | _=>False
  | _=>False
 | _=>False
theorem yx4 {t:Nat} {y w:Operand} {two:Bool} (ho:o.op = .lookup t y w two) (h:j4r T t fr hp y w two K):Does P Rl o fr hp K:=by
 obtain ⟨a,ha,h⟩:=z1m h;obtain ⟨b,hb,h⟩:=z1m h;have ea:∀ {fr2:Fr},agr fr2 fr (z1a o.op)->fr2.ev y=some a:=λhg=>hg.ev ha (by rw [ho];simp [Op.operands]);have eb:∀ {fr2:Fr},agr fr2 fr (z1a o.op)->fr2.ev w=some b:=λhg=>hg.ev hb (by rw [ho];simp [Op.operands]);split at h
 ·split at h
  ·obtain ⟨es,hk,h⟩:=y6g h;obtain ⟨e,he,h⟩:=z1n h;obtain ⟨d,hd,hi⟩:=z3i he;split at h
   ·rename_i kt et hq;rw [hq] at hi
    cases hi
    obtain ⟨ek,hek,h⟩:=z1n h;obtain ⟨ee,hee,h⟩:=z1n h;obtain ⟨dk,hdk,h⟩:=z0i h;obtain ⟨hz,h⟩:=z0c h;have hz':ee.z≠[]:=by simpa using hz
    obtain ⟨h1,h2,h3,h⟩:=h;have e1:=(A8 Prod.fst h3).symm;have e2:=(A8 Prod.snd h3).symm;dsimp only at e1 e2;subst e1 e2;split at h
    ·exact ⟨_,h,.pure λc R1 fr2 hp2 hg hh hR=>j18 ho (ea hg) (eb hg) (hh.at hk (.head _)) hd (y4u hek hdk) h1 h2 (z7r hee hz') (hR _ (.head _))⟩
    ·exact ⟨_,h,.pure λc R1 fr2 hp2 hg hh hR=>yr7 ho (ea hg) (eb hg) (hh.at hk (.head _)) hd (y4u hek hdk) h1 h2 (z7r hee hz') (hR _ (.head _))⟩
   ·exact h.elim
  ·exact h.elim
 ·exact h.elim
def vLen (T:TB P) (t:Nat) (fr:Fr) (hp:Hp) (y:Operand) (K:Stp->Prop):Prop:=vev fr y λa=>vti T t λe=>match a with
 | .pv (.seq els)=>match e.i with
  | .slice _=>K ⟨.pv (.val (.int .i64 els.length)),[],[],[]⟩
  | _=>False
 | .pv (.val (.slice none 0 0))=>match e.i with
  | .slice _=>K ⟨.pv (.val (.int .i64 0)),[],[],[]⟩
  | _=>False
 | .pv (.val (.string s))=>match e.i with
  | .str=>K ⟨.pv (.val (.int .i64 s.size)),[],[],[]⟩
  | _=>False
 | .sl k n=>match e.i with
  | .slice _=>vrow hp k λ_ els=>els.length=n/\K ⟨.pv (.val (.int .i64 n)),[],[k],[]⟩
  | _=>False
 | .mp k=>match e.i with
  | .map ..=>vmap hp k λes=>K ⟨.pv (vInt es.length),[],[k],[]⟩
  | _=>False
 | .sp k n m=>match e.i with
  | .slice _=>vrow hp k λ_ els=>els.length=m/\K ⟨.pv (.val (.int .i64 n)),[],[k],[]⟩
  | _=>False
 | _=>False
theorem vLen_ok {t:Nat} {y:Operand} (ho:o.op = .call { callee:=.builtin .len,args:=#[y],argTypes:=#[t] }) (h:vLen T t fr hp y K):Does P Rl o fr hp K:=by
 obtain ⟨a,ha,h⟩:=z1m h;have ea:∀ {fr2:Fr},agr fr2 fr (z1a o.op)->fr2.ev y=some a:=λhg=>hg.ev ha (by rw [ho];simp [Op.operands,Call.operands]);obtain ⟨e,he,h⟩:=z1n h;obtain ⟨d,hd,hi⟩:=z3i he;split at h
 ·split at h
  ·rename_i hq;rw [hq] at hi;cases hi
   exact ⟨_,h,.pure λc R1 fr2 hp2 hg _ _=>yr6 ho (ea hg) hd rfl⟩
  ·exact h.elim
 ·split at h
  ·rename_i hq;rw [hq] at hi;cases hi
   exact ⟨_,h,.pure λc R1 fr2 hp2 hg _ _=>yr4 ho (ea hg) hd⟩
  ·exact h.elim
 ·split at h
  ·rename_i hq;rw [hq] at hi;cases hi
   exact ⟨_,h,.pure λc R1 fr2 hp2 hg _ _=>y38 ho (ea hg) hd⟩
  ·exact h.elim
 ·split at h
  ·rename_i hq;rw [hq] at hi;cases hi
   obtain ⟨s,els,hk,h⟩:=z3o h;exact ⟨_,h.2,.pure λc R1 fr2 hp2 hg hh _=>yr5 ho (ea hg) (hh.at hk (.head _)) h.1 hd⟩
  ·exact h.elim
 ·split at h
  ·rename_i hq;rw [hq] at hi;cases hi
   obtain ⟨es,hk,h⟩:=y6g h;exact ⟨_,h,.pure λc R1 fr2 hp2 hg hh hR=>yr3 ho (ea hg) (hh.at hk (.head _)) hd (hR _ (.head _))⟩
  ·exact h.elim
 ·split at h
  ·rename_i hq;rw [hq] at hi;cases hi
   obtain ⟨s,els,hk,h⟩:=z3o h;exact ⟨_,h.2,.pure λc R1 fr2 hp2 hg hh _=>j17 ho (ea hg) (hh.at hk (.head _)) h.1 hd⟩
  ·exact h.elim
 ·exact h.elim
def vMax (fr:Fr) (y w:Operand) (K:Stp->Prop):Prop:=vev fr y λa=>vev fr w λb=>match a with
 | .pv (.val (.int k m))=>match b with
  | .pv (.val (.int k' n))=>z2g (k'==k) (K ⟨.pv (.val (.int k (if m<n then n else m))),[],[],[]⟩)
  | _=>False
 | _=>False
theorem vMax_ok {t:Nat} {y w:Operand} (ho:o.op = .call { callee:=.builtin .max,args:=#[y,w],argTypes:=#[t,t] }) (h:vMax fr y w K):Does P Rl o fr hp K:=by
 obtain ⟨a,ha,h⟩:=z1m h;obtain ⟨b,hb,h⟩:=z1m h;split at h
 ·split at h
  ·obtain ⟨hk,h⟩:=z0c h;obtain rfl:=eq_of_beq hk;exact ⟨_,h,.pure λc R1 fr2 hp2 hg _ _=>ok_max ho (hg.ev ha (by rw [ho];simp [Op.operands,Call.operands])) (hg.ev hb (by rw [ho];simp [Op.operands,Call.operands]))⟩
  ·exact h.elim
 ·exact h.elim
def vCap (T:TB P) (t:Nat) (fr:Fr) (y:Operand) (K:Stp->Prop):Prop:=vev fr y λa=>vti T t λe=>match a with
 | .pv (.val (.slice none 0 0))=>match e.i with
  | .slice _=>K ⟨iInt 0,[],[],[]⟩
  | _=>False
 | _=>False
theorem vCap_ok {t:Nat} {y:Operand} (ho:o.op = .call { callee:=.builtin .cap,args:=#[y],argTypes:=#[t] }) (h:vCap T t fr y K):Does P Rl o fr hp K:=by
 obtain ⟨a,ha,h⟩:=z1m h;obtain ⟨e,he,h⟩:=z1n h;obtain ⟨d,hd,hi⟩:=z3i he;split at h
 ·split at h
  ·rename_i hq;rw [hq] at hi;cases hi
   exact ⟨_,h,.pure λc R1 fr2 hp2 hg _ _=>yr2 ho (hg.ev ha (by rw [ho];simp [Op.operands,Call.operands])) hd⟩
  ·exact h.elim
 ·exact h.elim
end
end Go.Proofs.YtbemfckjedfcmaaGreatDoor
