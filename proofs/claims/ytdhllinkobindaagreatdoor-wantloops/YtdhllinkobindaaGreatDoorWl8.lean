/- PART 8 of 9 of a proof: see the last part. -/
import Derived.Test.YtdhllinkobindaaGreatDoorWl7
set_option maxRecDepth 20000
set_option maxHeartbeats 8000000
set_option linter.unusedSimpArgs false
set_option linter.unusedVariables false
set_option linter.unusedSectionVars false
namespace Go.Proofs.YtdhllinkobindaaGreatDoor
open Go
section
variable {T:List Tk}
theorem yb6{w:ByteArray}{s:Ps}(h:(z0o T w s).over=false):(z0o T w s).at_=s.at_+1/\s.over=false:=by
 unfold z0o at h⊢;split at h
 ·rename_i c;rw[if_pos c];exact⟨rfl,(z4l c).1⟩
 ·rename_i c;rw[if_neg c];split at h
  ·rename_i d;simp[Ps.over,d]at h
  ·simp[Ps.over,Ps.setBad]at h
theorem j3o{k:Int}{s:Ps}(h:(z0l T k s).2.over=false):(z0l T k s).2.at_=s.at_+1/\s.over=false:=by
 unfold z0l at h⊢;split at h
 ·rename_i c;rw[c]at h;cases h
 ·rename_i c;rw[if_neg c];split at h
  ·rename_i d;rw[if_pos d];exact⟨rfl,by simpa using c⟩
  ·simp[Ps.over,Ps.setBad]at h
theorem typed_eq{s:Ps}(h:(z0q T s).2.over=false):(z0q T s).2.at_=s.at_+1/\s.over=false:=by
 unfold z0q at h⊢;split at h
 ·rename_i c;rw[if_pos c];exact⟨rfl,(z4l c).1⟩
 ·rename_i c;rw[if_neg c];exact yb6 h
theorem y7j:∀N p s,p.funcs≠[]->(z40 T N p s).1.arrays=p.arrays
 |0,_,_,_=>rfl
 |N+1,p,s,h=>by
  unfold z40;split
  ·rfl
  split
  ·rename_i c2;unfold qArr at c2;simp only[A0,As]at c2;exact absurd (Ap c2.1.2) h
  ·exact y7j N _ _ sI0
theorem ps_eq{s:Ps}(h:s.over=false):s=⟨s.at_,false,false⟩:=by
 obtain⟨a,b,d⟩:=s;unfold Ps.over at h;simp only[Bx]at h;obtain⟨rfl,rfl⟩:=h;rfl
theorem arr_le:∀(k N:Nat)(p:Pg)(s:Ps),pIs T sSo ⟨s.at_+6*k+2,false,false⟩=false->(z40 T N p s).1.arrays.length<=p.arrays.length+k
 |_,0,p,s,_=>Bh _ _
 |k,N+1,p,s,h=>by
  unfold z40;split
  ·exact Bh _ _
  split
  ·rename_i c2;have hc:pIs T sSo (z0l T 1 (z0q T s).2).2=true:=by unfold qArr at c2;simp only[A0]at c2;exact c2.2
   have ho:=(z4l hc).1;obtain⟨a1,o1⟩:=j3o ho;obtain⟨a2,o2⟩:=typed_eq o1
   match k,h with
   |0,h =>
    rw[ps_eq ho,a1,a2]at hc;rw[show s.at_+6*0+2=s.at_+1+1 by omega]at h;rw[h]at hc
    cases hc
   |k+1,h =>
    cases hs:(z0o T z5a (z0o T sSc (z0l T 0 (z0l T 1 (z0q T s).2).2.next).2)).over with
    |true =>
     cases N with
     |zero=>rw[z40];simp
     |succ N=>rw[z40,if_pos (by rw[hs];rfl)];simp
    |false =>
     obtain⟨a3,o3⟩:=yb6 hs;obtain⟨a4,o4⟩:=yb6 o3;obtain⟨a5,o5⟩:=j3o o4;have:=arr_le k N ⟨p.arrays++[⟨(z0l T 1 (z0q T s).2).1,zg6 (z0l T 0 (z0l T 1 (z0q T s).2).2.next).1⟩],p.funcs⟩ (z0o T z5a (z0o T sSc (z0l T 0 (z0l T 1 (z0q T s).2).2.next).2)) (by
      rw[a3,a4,a5,z0m,a1,a2,show s.at_+1+1+1+1+1+1+6*k+2=s.at_+6*(k+1)+2 by omega];exact h)
     rw[B4]at this;simp only[Aj,B0]at this;omega
  ·rw[y7j N _ _ sI0];exact Bh _ _
theorem yq7(s:ByteArray)(k:Nat)(h:pIs (z1t s).1 sSo ⟨6*k+2,false,false⟩=false):(z2o s).1.arrays.length<=k:=by
 unfold z2o;split
 ·split
  ·exact A9 _
  ·split
   ·exact A9 _
   ·split
    ·have:=arr_le k (big (z1t s).1) ⟨[],[]⟩ ⟨0,false,false⟩ (by simpa using h);unfold z96;simpa using this
    ·exact A9 _
 ·exact A9 _
theorem y6q(s:ByteArray):∀(N line a:Nat)(out:List Tk),(toks s N line a out).1=[]∨∃r,(toks s N line a out).1=out++r
 |0,_,_,_=>.inl rfl
 |N+1,line,a,out=>by
  unfold toks;split
  ·exact .inr ⟨_,rfl⟩
  ·split
   ·exact y6q s N _ _ out
   ·rename_i t a2 _;rcases y6q s N line a2 (out++[t])with h|⟨r,h⟩
    ·exact .inl h
    ·exact .inr ⟨t::r,by rw[h,By];rfl⟩
   ·exact .inl rfl
def pxOk(P:ByteArray)(a:Nat):Bool:=decide (a+3<=P.size)&&decide (a+z4c P a<P.size)&&P.data.toList[a]? != some 47
def px(P:ByteArray):Nat->Nat->Nat->List Tk->Option (Nat×Nat×List Tk)
 |0,line,a,out=>some (line,a,out)
 |k+1,line,a,out=>if pxOk P a then(match P.data.toList[a]? with
  |some b=>(match zs9 P line a b with
   |.skip l2 a2=>px P k l2 a2 out
   |.tok t a2=>px P k line a2 (out++[t])
   |.bad _=>none)
  |none=>none)else none
variable {P R:ByteArray} {a:Nat}
theorem yi7:(P++R).data.toList=P.data.toList++R.data.toList:=by rw[Ey,Dk]
theorem yj9(s:ByteArray):s.data.toList.length=s.size:=Bo
theorem bget_app(h:a<P.size):(P++R).data.toList[a]?=P.data.toList[a]?:=by rw[yi7,An (by rw[yj9];exact h)]
theorem run_app(h:a+z4c P a<P.size):z4c (P++R) a=z4c P a:=by
 unfold z4c at h⊢;have hl:=yj9 P;rw[yi7,List.drop_append_of_le_length oM0,List.takeWhile_append,if_neg];rw[Ei];omega
theorem j02{n:Nat}(h:a+n<=P.size):(P++R).extract a (a+n)=P.extract a (a+n):=by
 apply G8;rw[Dq,Dq,Ey,Array.extract_append];have:a+n-P.data.size=0:=by have:P.data.size=P.size:=rfl;omega
 rw[this];simp
theorem j03(s:ByteArray)(a n:Nat)(h:a+n<=s.size):(s.extract a s.size).extract 0 n=s.extract a (a+n):=by
 apply G8;rw[Dq,Dq,Dq,Array.extract_extract];rw[Bu,Da h]
theorem yo1:(P++R).size=P.size+R.size:=D7
theorem sgIs_app{w:ByteArray}(h:a+3<=P.size)(hw:w.size<=3):sgIs ((P++R).extract a (P++R).size) w=sgIs (P.extract a P.size) w:=by
 unfold sgIs;have h2:=@yo1 P R;rw[j03 _ _ _ oM0,j03 _ _ _ oM0,j02 oM0,Ci,Ci];rw[show decide (w.size<=min (P++R).size (P++R).size-a)=true from C8 oM0,show decide (w.size<=min P.size P.size-a)=true from C8 oM0]
theorem yo0(h:a+3<=P.size):∀l:List ByteArray,(∀w∈l,w.size<=3)->sgGo ((P++R).extract a (P++R).size) l=sgGo (P.extract a P.size) l
 |[],_=>rfl
 |w::r,hw=>by
  simp only[sgGo];rw[sgIs_app h (hw w (.head _)),yo0 h r λx hx=>hw x (.tail _ hx)]
theorem sgOf_app(h:a+3<=P.size):sgOf ((P++R).extract a (P++R).size)=sgOf (P.extract a P.size):=yo0 h sgL dC0
theorem j3l(h:pxOk P a=true)(line:Nat){b:UInt8}(hb:P.data.toList[a]?=some b):zs9 (P++R) line a b=zs9 P line a b:=by
 unfold pxOk at h;simp only[A0,Bi,bne_iff_ne]at h;obtain⟨⟨h1,h2⟩,h3⟩:=h;have h4:b≠47:=λe=>h3 (by rw[hb,e]);unfold zs9;rw[run_app h2,j02 oM0,sgOf_app h1];simp only[h4,false_and,Bw]
theorem yc9(N:Nat):∀(k line a:Nat)(out:List Tk){l2 a2:Nat}{o2:List Tk},px P k line a out=some (l2,a2,o2)->toks (P++R) (N+k) line a out=toks (P++R) N l2 a2 o2
 |0,line,a,out,l2,a2,o2,h=>by cases h;rfl
 |k+1,line,a,out,l2,a2,o2,h=>by
  unfold px at h;split at h
  ·rename_i hk;have h1:a+3<=P.size:=by
    have:=hk;unfold pxOk at this;simp only[A0,Bi]at this;exact this.1.1
   rw[show N+(k+1)=(N+k)+1 from rfl]
   conv=>lhs;unfold toks
   rw[bget_app oM0];split at h
   ·rename_i b hb;rw[hb];dsimp only;rw[j3l hk line hb];split at h
    ·rename_i h5;rw[h5];exact yc9 N k _ _ _ h
    ·rename_i h5;rw[h5];exact yc9 N k _ _ _ h
    ·cases h
   ·cases h
  ·cases h
theorem px_is{k l2 a2 i:Nat}{o2:List Tk}(h:px P k 1 0 []=some (l2,a2,o2))(hk:k<=P.size)(hi:i<o2.length)(hq:pIs o2 sSo ⟨i,false,false⟩=false):pIs (z1t (P++R)).1 sSo ⟨i,false,false⟩=false:=by
 unfold z1t;have e:pIs ([]:List Tk) sSo ⟨i,false,false⟩=false:=by
  unfold pIs tkAt;simp
 split
 ·exact e
 ·have hs:=@yo1 P R;obtain⟨N,hN⟩:∃N,(P++R).size+1=N+k:=⟨(P++R).size+1-k,by omega⟩;rw[hN,yc9 N k 1 0 [] h];rcases y6q (P++R) N l2 a2 o2 with h1|⟨r,h1⟩
  ·rw[h1];exact e
  ·rw[h1];have:tkAt (o2++r) ⟨i,false,false⟩=tkAt o2 ⟨i,false,false⟩:=by
    unfold tkAt;rw[Ax,Ax,An hi]
   unfold pIs at hq⊢;rw[this];exact hq
theorem yi9(t:List ByteArray):∀(l:List UInt8)(s:ByteArray),∃R,l.foldl (y07 t) s=s++R
 |[],s=>⟨⟨#[]⟩,by apply G8;rw[Ey];simp⟩
 |b::r,s=>by
  obtain⟨R,h⟩:=yi9 t r (y07 t s b);refine⟨t.getD (b.toNat%t.length) s_++sNl++R,?_⟩;rw[Dl,h];unfold y07;simp only[ByteArray.append_assoc]
def famPx:Option (Nat×Nat×List Tk):=px fam0 12 1 0 []
theorem famPx_ok:∃l a o,famPx=some (l,a,o)/\8<o.length/\pIs o sSo ⟨8,false,false⟩=false:=by
 have h:(famPx.map λq=>decide (8<q.2.2.length) && !pIs q.2.2 sSo ⟨8,false,false⟩)=some true:=by decide +kernel
 cases hp:famPx with
 |none=>rw[hp]at h;cases h
 |some q =>
  rw[hp]at h;simp only[D3,Cm,A0,Bi,Bb]at h;exact⟨_,_,_,rfl,h.1,h.2⟩
theorem fam_arr(k:Int)(l:List UInt8):(z2o (famT k l)).1.arrays.length<=1:=by
 refine yq7 _ 1 ?_;obtain⟨R,hR⟩:=yi9 (z2m k) (l.take 10) fam0;have e:famT k l=fam0++(R++famE):=by
  unfold famT famS;rw[hR,ByteArray.append_assoc]
 rw[e];obtain⟨l2,a2,o2,h1,h2,h3⟩:=famPx_ok;exact px_is h1 (by decide +kernel) h2 h3
end
theorem yx8{u:Un}(hz:(z16 u).1=0):y4u (z3q wB u)=true:=by have:=y46 u;rw[z60 wB hz]at this;exact this
theorem y2o(u:Un){n:Nat}(h:z0f u<=n):z0f (z3q wB u)<=n:=B7 (yp6 wB y3s u) h
theorem i64_two{n:Int}(hn:0<=n/\n<=255):z3i .mul .i64 2 (IntKind.i64.wrap n)=some (.int .i64 (2*n)):=by
 have hw:IntKind.i64.wrap n=n:=Ct n oM0;rw[hw];exact y57 rfl oM0
theorem y8p(l:List UInt8)(ins:List Int)(n:Int)(hn:0<=n/\n<=255):SC Tryz.prog 4 [.pv (bts l),.pv (ints ins),.pv (.val (.int .u8 n))] [] (λk=>k∈[]) (iBool true) []:=by
 refine SC.vc tb { gh:=[(0,[.len 0])] } [] Tryz.func4 rfl rfl ?_;intro hl;simp only[A8]at hl;have hl:l.length<=9223372036854775807:=hl;have hT:=riU_w (famT 0 l);have hA:=B7 (riU_ar (famT 0 l)) (B7 (fam_arr 0 l) (by decide:1<=2));have hF:=j21 0 dC0 dC0 l hl;have hR:=sc_Rise (famT 0 l);generalize riU (famT 0 l)=q at hT hA hR;obtain⟨u,e⟩:=q;dsimp only at hT hA hR;have hC:=ze4 u hT.1;have hH:=yd8 u hT.1 y2q;have hg:=λhz=>@z60 wB u hz;have hx:=@y36 u;have hrel:=@want_rel u;have hri:=@yx8 u;have hB:=λ(hz:(z16 u).1=0)=>yd9 (hrel hz) hA hT.1 (y2o u hT.1) hz (by rw[hx hz]) hT.2 (ins.take 10) (2*n) ⟨by omega,by omega⟩;have hRt:=yn6 (z3q wB u) (y2o u hT.1);refine⟨[],sc_awake,sR,Gc,rfl,[],hF,sR,Gc,rfl,[],hR,sR,Gc,rfl,[],hC,sR,Gc,rfl,z00 (λh1=>?_) λh1=>z00 (λh2=>?_) λh2=>?_⟩
 ·exact⟨sI,Gc⟩
 ·exact⟨sI,Gc⟩
 ·have hz:(z16 u).1=0:=by simpa using h2
  rw[hg hz]at hH;rw[hri hz]at hRt;exact⟨[],hH,sR,Gc,rfl,[],hRt,sR,Gc,rfl,[],sc_ins ins,sR,Gc,rfl,i64_two hn,[],hB hz,sR,Gc,rfl,sI,Gc⟩
end Go.Proofs.YtdhllinkobindaaGreatDoor
