/- PART 8 of 9 of a proof: see the last part. -/
import Derived.Test.YtbemfckjedfcmaaGreatDoorTl7
set_option maxRecDepth 20000
set_option maxHeartbeats 8000000
set_option linter.unusedSimpArgs false
set_option linter.unusedVariables false
set_option linter.unusedSectionVars false
namespace Go.Proofs.YtbemfckjedfcmaaGreatDoor
open Go
section
variable {T:List Tk}
theorem ya6 {w:ByteArray} {s:Ps} (h:(z0o T w s).over=false):(z0o T w s).at_=s.at_+1/\s.over=false:=by
 unfold z0o at h ⊢;split at h
 ·rename_i c;rw [if_pos c];exact ⟨rfl,(z4j c).1⟩
 ·rename_i c;rw [if_neg c];split at h
  ·rename_i d;simp [Ps.over,d] at h
  ·simp [Ps.over,Ps.setBad] at h
theorem j48 {k:Int} {s:Ps} (h:(z0k T k s).2.over=false):(z0k T k s).2.at_=s.at_+1/\s.over=false:=by
 unfold z0k at h ⊢;split at h
 ·rename_i c;rw [c] at h;cases h
 ·rename_i c;rw [if_neg c];split at h
  ·rename_i d;rw [if_pos d];exact ⟨rfl,by simpa using c⟩
  ·simp [Ps.over,Ps.setBad] at h
theorem typed_eq {s:Ps} (h:(z0r T s).2.over=false):(z0r T s).2.at_=s.at_+1/\s.over=false:=by
 unfold z0r at h ⊢;split at h
 ·rename_i c;rw [if_pos c];exact ⟨rfl,(z4j c).1⟩
 ·rename_i c;rw [if_neg c];exact ya6 h
theorem y73:∀ N p s,p.funcs≠[]->(z3w T N p s).1.arrays=p.arrays
 | 0,_,_,_=>rfl
 | N+1,p,s,h=>by
  unfold z3w;split
  ·rfl
  split
  ·rename_i c2;unfold qArr at c2;simp only [A0,Ap] at c2;exact absurd (As c2.1.2) h
  ·exact y73 N _ _ sI0
theorem ps_eq {s:Ps} (h:s.over=false):s=⟨s.at_,false,false⟩:=by
 obtain ⟨a,b,d⟩:=s;unfold Ps.over at h;simp only [Bt] at h;obtain ⟨rfl,rfl⟩:=h;rfl
theorem arr_le:∀ (k N:Nat) (p:Pg) (s:Ps),pIs T sSo ⟨s.at_+6*k+2,false,false⟩=false->(z3w T N p s).1.arrays.length<=p.arrays.length+k
 | _,0,p,s,_=>Be _ _
 | k,N+1,p,s,h=>by
  unfold z3w;split
  ·exact Be _ _
  split
  ·rename_i c2;have hc:pIs T sSo (z0k T 1 (z0r T s).2).2=true:=by unfold qArr at c2;simp only [A0] at c2;exact c2.2
   have ho:=(z4j hc).1;obtain ⟨a1,o1⟩:=j48 ho;obtain ⟨a2,o2⟩:=typed_eq o1
   match k,h with
   | 0,h =>
    rw [ps_eq ho,a1,a2] at hc;rw [show s.at_+6*0+2=s.at_+1+1 by omega] at h;rw [h] at hc
    cases hc
   | k+1,h =>
    cases hs:(z0o T z5g (z0o T sSc (z0k T 0 (z0k T 1 (z0r T s).2).2.next).2)).over with
    | true =>
     cases N with
     | zero=>rw [z3w];simp
     | succ N=>rw [z3w,if_pos (by rw [hs];rfl)];simp
    | false =>
     obtain ⟨a3,o3⟩:=ya6 hs;obtain ⟨a4,o4⟩:=ya6 o3;obtain ⟨a5,o5⟩:=j48 o4;have:=arr_le k N ⟨p.arrays++[⟨(z0k T 1 (z0r T s).2).1,zg0 (z0k T 0 (z0k T 1 (z0r T s).2).2.next).1⟩],p.funcs⟩ (z0o T z5g (z0o T sSc (z0k T 0 (z0k T 1 (z0r T s).2).2.next).2)) (by
      rw [a3,a4,a5,z0m,a1,a2,show s.at_+1+1+1+1+1+1+6*k+2=s.at_+6*(k+1)+2 by omega];exact h)
     rw [B3] at this;simp only [Ad,At] at this;omega
  ·rw [y73 N _ _ sI0];exact Be _ _
theorem yq0 (s:ByteArray) (k:Nat) (h:pIs (z1t s).1 sSo ⟨6*k+2,false,false⟩=false):(z2p s).1.arrays.length<=k:=by
 unfold z2p;split
 ·split
  ·exact A6 _
  ·split
   ·exact A6 _
   ·split
    ·have:=arr_le k (big (z1t s).1) ⟨[],[]⟩ ⟨0,false,false⟩ (by simpa using h);unfold z95;simpa using this
    ·exact A6 _
 ·exact A6 _
theorem y6b (s:ByteArray):∀ (N line a:Nat) (out:List Tk),(toks s N line a out).1=[]∨∃ r,(toks s N line a out).1=out++r
 | 0,_,_,_=>.inl rfl
 | N+1,line,a,out=>by
  unfold toks;split
  ·exact .inr ⟨_,rfl⟩
  ·split
   ·exact y6b s N _ _ out
   ·rename_i t a2 _;rcases y6b s N line a2 (out++[t]) with h | ⟨r,h⟩
    ·exact .inl h
    ·exact .inr ⟨t::r,by rw [h,Ca];rfl⟩
   ·exact .inl rfl
def pxOk (P:ByteArray) (a:Nat):Bool:=decide (a+3<=P.size)&&decide (a+z49 P a<P.size)&&P.data.toList[a]? != some 47
def px (P:ByteArray):Nat->Nat->Nat->List Tk->Option (Nat × Nat × List Tk)
 | 0,line,a,out=>some (line,a,out)
 | k+1,line,a,out=>if pxOk P a then (match P.data.toList[a]? with
  | some b=>(match zs5 P line a b with
   | .skip l2 a2=>px P k l2 a2 out
   | .tok t a2=>px P k line a2 (out++[t])
   | .bad _=>none)
  | none=>none) else none
variable {P R:ByteArray} {a:Nat}
theorem yh5:(P++R).data.toList=P.data.toList++R.data.toList:=by rw [Ey,Dl]
theorem yj2 (s:ByteArray):s.data.toList.length=s.size:=Bq
theorem bget_app (h:a<P.size):(P++R).data.toList[a]? = P.data.toList[a]?:=by rw [yh5,Aq (by rw [yj2];exact h)]
theorem run_app (h:a+z49 P a<P.size):z49 (P++R) a=z49 P a:=by
 unfold z49 at h ⊢;have hl:=yj2 P;rw [yh5,List.drop_append_of_le_length oM0,List.takeWhile_append,if_neg];rw [Eh];omega
theorem j05 {n:Nat} (h:a+n<=P.size):(P++R).extract a (a+n)=P.extract a (a+n):=by
 apply G6;rw [Dr,Dr,Ey,Array.extract_append];have:a+n - P.data.size=0:=by have:P.data.size=P.size:=rfl;omega
 rw [this];simp
theorem j06 (s:ByteArray) (a n:Nat) (h:a+n<=s.size):(s.extract a s.size).extract 0 n=s.extract a (a+n):=by
 apply G6;rw [Dr,Dr,Dr,Array.extract_extract];rw [Ch,Dd h]
theorem yn6:(P++R).size=P.size+R.size:=Da
theorem sgIs_app {w:ByteArray} (h:a+3<=P.size) (hw:w.size<=3):sgIs ((P++R).extract a (P++R).size) w=sgIs (P.extract a P.size) w:=by
 unfold sgIs;have h2:=@yn6 P R;rw [j06 _ _ _ oM0,j06 _ _ _ oM0,j05 oM0,Cm,Cm];rw [show decide (w.size<=min (P++R).size (P++R).size - a)=true from By oM0,show decide (w.size<=min P.size P.size - a)=true from By oM0]
theorem yn5 (h:a+3<=P.size):∀ l:List ByteArray,(∀ w∈l,w.size<=3)->sgGo ((P++R).extract a (P++R).size) l=sgGo (P.extract a P.size) l
 | [],_=>rfl
 | w::r,hw=>by
  simp only [sgGo];rw [sgIs_app h (hw w (.head _)),yn5 h r λx hx=>hw x (.tail _ hx)]
theorem sgOf_app (h:a+3<=P.size):sgOf ((P++R).extract a (P++R).size)=sgOf (P.extract a P.size):=yn5 h sgL dC0
theorem j42 (h:pxOk P a=true) (line:Nat) {b:UInt8} (hb:P.data.toList[a]? = some b):zs5 (P++R) line a b=zs5 P line a b:=by
 unfold pxOk at h;simp only [A0,B7,bne_iff_ne] at h;obtain ⟨⟨h1,h2⟩,h3⟩:=h;have h4:b≠47:=λe=>h3 (by rw [hb,e]);unfold zs5;rw [run_app h2,j05 oM0,sgOf_app h1];simp only [h4,false_and,Bj]
theorem yc0 (N:Nat):∀ (k line a:Nat) (out:List Tk) {l2 a2:Nat} {o2:List Tk},px P k line a out=some (l2,a2,o2)->toks (P++R) (N+k) line a out=toks (P++R) N l2 a2 o2
 | 0,line,a,out,l2,a2,o2,h=>by cases h;rfl
 | k+1,line,a,out,l2,a2,o2,h=>by
  unfold px at h;split at h
  ·rename_i hk;have h1:a+3<=P.size:=by
    have:=hk;unfold pxOk at this;simp only [A0,B7] at this;exact this.1.1
   rw [show N+(k+1)=(N+k)+1 from rfl]
   conv=>lhs;unfold toks
   rw [bget_app oM0];split at h
   ·rename_i b hb;rw [hb];dsimp only;rw [j42 hk line hb];split at h
    ·rename_i h5;rw [h5];exact yc0 N k _ _ _ h
    ·rename_i h5;rw [h5];exact yc0 N k _ _ _ h
    ·cases h
   ·cases h
  ·cases h
theorem px_is {k l2 a2 i:Nat} {o2:List Tk} (h:px P k 1 0 []=some (l2,a2,o2)) (hk:k<=P.size) (hi:i<o2.length) (hq:pIs o2 sSo ⟨i,false,false⟩=false):pIs (z1t (P++R)).1 sSo ⟨i,false,false⟩=false:=by
 unfold z1t;have e:pIs ([]:List Tk) sSo ⟨i,false,false⟩=false:=by
  unfold pIs tkAt;simp
 split
 ·exact e
 ·have hs:=@yn6 P R;obtain ⟨N,hN⟩:∃ N,(P++R).size+1=N+k:=⟨(P++R).size+1 - k,by omega⟩;rw [hN,yc0 N k 1 0 [] h];rcases y6b (P++R) N l2 a2 o2 with h1 | ⟨r,h1⟩
  ·rw [h1];exact e
  ·rw [h1];have:tkAt (o2++r) ⟨i,false,false⟩=tkAt o2 ⟨i,false,false⟩:=by
    unfold tkAt;rw [Ax,Ax,Aq hi]
   unfold pIs at hq ⊢;rw [this];exact hq
theorem yh9 (t:List ByteArray):∀ (l:List UInt8) (s:ByteArray),∃ R,l.foldl (zz8 t) s=s++R
 | [],s=>⟨⟨#[]⟩,by apply G6;rw [Ey];simp⟩
 | b::r,s=>by
  obtain ⟨R,h⟩:=yh9 t r (zz8 t s b);refine ⟨t.getD (b.toNat % t.length) s_++sNl++R,?_⟩;rw [Dv,h];unfold zz8;simp only [ByteArray.append_assoc]
def famPx:Option (Nat × Nat × List Tk):=px fam0 12 1 0 []
theorem famPx_ok:∃ l a o,famPx=some (l,a,o)/\8<o.length/\pIs o sSo ⟨8,false,false⟩=false:=by
 have h:(famPx.map λq=>decide (8<q.2.2.length) && !pIs q.2.2 sSo ⟨8,false,false⟩)=some true:=by decide +kernel
 cases hp:famPx with
 | none=>rw [hp] at h;cases h
 | some q =>
  rw [hp] at h;simp only [D7,Cq,A0,B7,Bc] at h;exact ⟨_,_,_,rfl,h.1,h.2⟩
theorem fam_arr (k:Int) (l:List UInt8):(z2p (famT k l)).1.arrays.length<=1:=by
 refine yq0 _ 1 ?_;obtain ⟨R,hR⟩:=yh9 (z2n k) (l.take 10) fam0;have e:famT k l=fam0++(R++famE):=by
  unfold famT famS;rw [hR,ByteArray.append_assoc]
 rw [e];obtain ⟨l2,a2,o2,h1,h2,h3⟩:=famPx_ok;exact px_is h1 (by decide +kernel) h2 h3
end
theorem yw3 {u:Un} (hz:(z1b u).1=0):y45 (z47 trB u)=true:=by have:=y3j u;rw [z60 trB hz] at this;exact this
theorem i64_two {n:Int} (hn:0<=n/\n<=255):z3g .mul .i64 2 (IntKind.i64.wrap n)=some (.int .i64 (2*n)):=by
 have hw:IntKind.i64.wrap n=n:=D0 n oM0;rw [hw];exact y4q rfl oM0
theorem y8b (l:List UInt8) (ins:List Int) (n:Int) (hn:0<=n/\n<=255):SC Tryz.prog 4 [.pv (bts l),.pv (ints ins),.pv (.val (.int .u8 n))] [] (λk=>k∈[]) (iBool true) []:=by
 refine SC.vc tb { gh:=[(0,[.len 0])] } [] Tryz.func4 rfl rfl ?_;intro hl;simp only [A5] at hl;have hl:l.length<=9223372036854775807:=hl;have hT:=riU_w (famT 0 l);have hA:=Bf (riU_ar (famT 0 l)) (fam_arr 0 l);have hF:=j2a 0 dC0 dC0 l hl;have hR:=sc_Rise (famT 0 l);generalize riU (famT 0 l)=q at hT hA hR;obtain ⟨u,e⟩:=q;dsimp only at hT hA hR;have hC:=zr3 u hT.1;have hH:=yc6 u hT.1;have hg:=λ(hz:(z1b u).1=0)=>z60 trB hz;have hx:=@y2n u;have hrel:=@trim_rel u;have hri:=@yw3 u;have hB:=λ(hz:(z1b u).1=0)=>yc7 (hrel hz) hA hT.1 (Bf (y6i trB zp8 _) hT.1) hz (by rw [hx hz]) hT.2 (ins.take 10) (2*n) ⟨by omega,by omega⟩;have hRt:=yn0 (z47 trB u) (Bf (y6i trB zp8 _) hT.1);refine ⟨[],sc_awake,sR,G9,rfl,[],hF,sR,G9,rfl,[],hR,sR,G9,rfl,[],hC,sR,G9,rfl,z00 (λh1=>?_) λh1=>z00 (λh2=>?_) λh2=>?_⟩
 ·exact ⟨sI,G9⟩
 ·exact ⟨sI,G9⟩
 ·have hz:(z1b u).1=0:=by simpa using h2
  rw [hg hz] at hH;rw [hri hz] at hRt;exact ⟨[],hH,sR,G9,rfl,[],hRt,sR,G9,rfl,[],sc_ins ins,sR,G9,rfl,i64_two hn,[],hB hz,sR,G9,rfl,sI,G9⟩
end Go.Proofs.YtbemfckjedfcmaaGreatDoor
