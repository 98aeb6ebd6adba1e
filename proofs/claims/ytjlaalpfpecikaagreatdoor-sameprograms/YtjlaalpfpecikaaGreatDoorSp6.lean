/- PART 6 of 9 of a proof: see the last part. -/
import Derived.Test.YtjlaalpfpecikaaGreatDoorSp5
set_option maxRecDepth 20000
set_option maxHeartbeats 8000000
set_option linter.unusedSimpArgs false
set_option linter.unusedVariables false
set_option linter.unusedSectionVars false
namespace Go.Proofs.YtjlaalpfpecikaaGreatDoor
open Go
theorem y25(n:Int):SC Tryz.prog 121 [.pv (.val (.int .i32 n))] [] (λ_=>False) (iBool (z4i n)) []:=by
 refine SC.anyR (K0 tb {} [] Tryz.func121 rfl rfl ?_);unfold z4i;refine z00 (λh1=>z00 (λh2=>⟨sE (by rw[h1,h2];rfl),Gf⟩) λh2=>?_) λh1=>?_
 ·refine z00 (λh3=>z00 (λh4=>⟨sE (by rw[h1,h2,h3,h4];rfl),Gf⟩) λh4=>⟨sE (by rw[h1,h2,h3,h4];rfl),Gf⟩) λh3=>⟨sE (by rw[h1,h2,h3];rfl),Gf⟩
 ·refine z00 (λh3=>z00 (λh4=>⟨sE (by rw[h1,h3,h4];rfl),Gf⟩) λh4=>⟨sE (by rw[h1,h3,h4];rfl),Gf⟩) λh3=>⟨sE (by rw[h1,h3];rfl),Gf⟩
theorem yy8(n:Int):SC Tryz.prog 171 [.pv (.val (.int .i32 n))] [] (λ_=>False) (iBool (z3v n)) []:=by
 refine SC.anyR (K0 tb {} [] Tryz.func171 rfl rfl ?_);unfold z3v;exact z00 (λh1=>⟨sE (by rw[h1];rfl),Gf⟩) λh1=>⟨sE (by rw[h1];rfl),Gf⟩
theorem j4j(s:ByteArray):SC Tryz.prog 123 [iStr s] [] (λ_=>False) (iBool (z1l s)) []:=by
 refine SC.anyR (K0 tb {} [] Tryz.func123 rfl rfl ?_);have N:∀{b:Bool}{P:Prop},b=true->b=false->P:=λh g=>by rw[h]at g;cases g
 have T:∀{b:Bool},b=true->SubI (iBool true) (iBool b):=λh=>sE (by rw[h]);exact z00 (λh=>z00 (λ_=>⟨T (by unfold z1l;rw[h];simp only[Bk,Bf]),Gf⟩) λg=>N h g) λh1=>z00 (λh=>z00 (λ_=>⟨T (by unfold z1l;rw[h];simp only[Bk,Bf]),Gf⟩) λg=>N h g) λh2=>z00 (λh=>z00 (λ_=>⟨T (by unfold z1l;rw[h];simp only[Bk,Bf]),Gf⟩) λg=>N h g) λh3=>z00 (λh=>z00 (λ_=>⟨T (by unfold z1l;rw[h];simp only[Bk,Bf]),Gf⟩) λg=>N h g) λh4=>z00 (λh=>z00 (λ_=>⟨T (by unfold z1l;rw[h];simp only[Bk,Bf]),Gf⟩) λg=>N h g) λh5=>z00 (λh=>z00 (λ_=>⟨T (by unfold z1l;rw[h];simp only[Bk,Bf]),Gf⟩) λg=>N h g) λh6=>z00 (λh=>z00 (λ_=>⟨T (by unfold z1l;rw[h];simp only[Bk,Bf]),Gf⟩) λg=>N h g) λh7=>z00 (λh=>z00 (λ_=>⟨T (by unfold z1l;rw[h];simp only[Bk,Bf]),Gf⟩) λg=>N h g) λh8=>z00 (λh=>z00 (λ_=>⟨T (by unfold z1l;rw[h];simp only[Bk,Bf]),Gf⟩) λg=>N h g) λh9=>z00 (λh=>z00 (λ_=>⟨T (by unfold z1l;rw[h];simp only[Bk,Bf]),Gf⟩) λg=>N h g) λh10=>z00 (λh=>z00 (λ_=>⟨T (by unfold z1l;rw[h];simp only[Bk,Bf]),Gf⟩) λg=>N h g) λh11=>z00 (λh=>z00 (λ_=>⟨T (by unfold z1l;rw[h];simp only[Bk,Bf]),Gf⟩) λg=>N h g) λh12=>z00 (λh=>z00 (λ_=>⟨T (by unfold z1l;rw[h];simp only[Bk,Bf]),Gf⟩) λg=>N h g) λh13=>z00 (λh=>z00 (λ_=>⟨T (by unfold z1l;rw[h];simp only[Bk,Bf]),Gf⟩) λg=>N h g) λh14=>z00 (λh=>z00 (λ_=>⟨T (by unfold z1l;rw[h];simp only[Bk,Bf]),Gf⟩) λg=>N h g) λh15=>z00 (λh=>z00 (λ_=>⟨T (by unfold z1l;rw[h];simp only[Bk,Bf]),Gf⟩) λg=>N h g) λh16=>z00 (λh=>z00 (λ_=>⟨T (by unfold z1l;rw[h];simp only[Bk,Bf]),Gf⟩) λg=>N h g) λh17=>z00 (λh=>⟨T (by unfold z1l;rw[h];simp only[Bk,Bf]),Gf⟩) λh18=>⟨sE (by unfold z1l;rw[h1,h2,h3,h4,h5,h6,h7,h8,h9,h10,h11,h12,h13,h14,h15,h16,h17,h18];rfl),Gf⟩
theorem sc_tkRun(s:ByteArray):SC Tryz.prog 122 [iStr s] [] (λ_=>False) (iStr (yw5 s)) []:=by
 refine SC.of Tryz.func122 rfl (B5 rfl) λF ρ w=>?_;refine Tr.seq ?_;refine Tr.region rfl ?_;refine M0 rfl rfl rfl (z3s rfl rfl) ?_;refine WL.nil ?_;refine Tr.seq ?_;refine Tr.strRange rfl rfl rfl rfl rfl rfl rfl rfl Tryz.underlying9 rfl rfl rfl rfl rfl rfl rfl rfl rfl rfl rfl (λ_ h=>h) (λk fr=>(k<=s.toList.length/\(s.toList.take k).all isLD=true)/\fr=[(0,iStr s)]) ⟨[(0,iStr s)],Sub.of Gg,⟨Aj _,rfl⟩,rfl⟩ ?_ ?_
 ·skip;rintro b0 k _ hk ⟨hI,rfl⟩;refine Tr.seq ?_;refine Tr.region rfl ?_;refine M0 rfl rfl rfl (z2p rfl rfl) ?_;refine M0 rfl rfl rfl (z3s rfl rfl) ?_;refine WL.nil ?_;refine tRt ?_;refine rOk rfl ?_ nPo;have hall:s.toList.all isLD=true:=by
   have:=hI.2
   rwa [Az (by rw[y0c];exact hk)]at this
  simp[yw5,hall]
 ·skip;rintro ρ2 w2 b0 k _ hk ⟨hI,rfl⟩;have hlt:k<s.toList.length:=by rw[y0c];exact hk
  refine tBk ?_;refine Tr.seq ?_;refine Tr.region rfl ?_;refine M0 rfl rfl rfl (z95 rfl rfl rfl) ?_;refine M0 rfl rfl rfl (z95 rfl rfl rfl) ?_;refine M0 rfl rfl rfl (z3s rfl rfl) ?_;refine M0 rfl rfl rfl (z3s rfl rfl) ?_;refine WL.nil ?_;refine Tr.seq ?_;refine Tr.region rfl ?_;refine M0 rfl rfl rfl (z2p rfl rfl) ?_;refine WL.cons rfl rfl rfl (zm8 (y25 _) ent121 rfl rfl (sRf _ _) rfl) ?_;refine M0 rfl rfl rfl (yo2 rfl rfl) ?_;refine M0 rfl rfl rfl (z2p rfl rfl) ?_;refine WL.split (t:=14) rfl (λhb14=>?_) (λhb14=>?_)
  ·skip;refine WL.yesV rfl rfl rfl rfl rfl rfl (z2p rfl rfl) ?_;refine WL.yes rfl rfl rfl rfl rfl rfl (zm8 (yy8 _) ent171 rfl rfl (sRf _ _) rfl) ?_;refine WL.yesV rfl rfl rfl rfl rfl rfl (yo2 rfl rfl) ?_;refine M0 rfl rfl rfl (z5h rfl rfl rfl) ?_;refine WL.nil ?_;refine Tr.cond rfl (λhc18=>?_) (λhc18=>?_)
   ·skip;refine Tr.seq ?_;refine Tr.region rfl ?_;refine M0 rfl rfl rfl (z2p rfl rfl) ?_;refine M0 rfl rfl rfl (z2p rfl rfl) ?_;refine M0 rfl rfl rfl (zw0 rfl rfl Tryz.underlying9 (.inl ⟨rfl,rfl⟩) (.inr ⟨_,_,rfl,rfl⟩) oM0 (G3 (by assumption))) ?_;refine M0 rfl rfl rfl (z3s rfl rfl) ?_;refine WL.nil ?_;refine tRt ?_;refine rOk rfl ?_ nPo;have hld:y2s (Utf8.decode s k).1=false:=by
     simp only[y2s]
     first
     |(simp_all;done)
     |(clear hI;simp_all)
    rw[runOf_at hI.2 (Ad hlt) ((y0h hlt).2 hld)]
   ·skip;refine tSk ?_;refine⟨rfl,[(0,iStr s)],Sub.of Gi,?_,rfl⟩;have hld:y2s (Utf8.decode s k).1=true:=by
     simp only[y2s]
     first
     |(simp_all;done)
     |(clear hI;simp_all)
    obtain⟨hw1,hb1⟩:=(y0h hlt).1 hld;rw[hw1];exact⟨by omega,by rw[List.take_succ_eq_append_getElem hlt,List.all_append,hI.2];simp[hb1]⟩
  ·skip;refine WL.no (b:=false) rfl rfl rfl rfl rfl rfl ?_;refine WL.no (b:=false) rfl rfl rfl rfl rfl rfl ?_;refine WL.no (b:=false) rfl rfl rfl rfl rfl rfl ?_;refine M0 rfl rfl rfl (z1j rfl rfl rfl) ?_;refine WL.nil ?_;refine Tr.condF rfl ?_;refine tSk ?_;refine⟨rfl,[(0,iStr s)],Sub.of Gi,?_,rfl⟩;have hld:y2s (Utf8.decode s k).1=true:=by
    simp only[y2s]
    first
    |(simp_all;done)
    |(clear hI;simp_all)
   obtain⟨hw1,hb1⟩:=(y0h hlt).1 hld;rw[hw1];exact⟨by omega,by rw[List.take_succ_eq_append_getElem hlt,List.all_append,hI.2];simp[hb1]⟩
theorem z81(s:ByteArray):SC Tryz.prog 68 [iStr s] [] (λ_=>False) (iBool (z0o s)) []:=by
 refine SC.of Tryz.func68 rfl (B5 rfl) λF ρ w=>?_;refine Tr.seq ?_;refine Tr.region rfl ?_;refine M0 rfl rfl rfl (z3s rfl rfl) ?_;refine WL.nil ?_;refine Tr.seq ?_;refine Tr.region rfl ?_;refine M0 rfl rfl rfl (z2p rfl rfl) ?_;refine M0 rfl rfl rfl (bSt rfl rfl rfl rfl) ?_;refine M0 rfl rfl rfl (z2p rfl rfl) ?_;refine WL.split (t:=5) rfl (λhb5=>?_) (λhb5=>?_)
 ·skip;have hne:s.toList≠[]:=by simpa using hb5
  obtain⟨b0,r0,hs0⟩:=Cf hne;have hi0:s[0]?=some b0:=by rw[y37 (i:=0) (by rw[hs0];simp)];simp[hs0]
  have hw0:IntKind.i32.wrap (b0.toNat:Int)=b0.toNat:=by
   have:b0.toNat<256:=b0.toNat_lt;simp[IntKind.wrap,IntKind.bits,IntKind.signed];omega
  have hre:=runOf_eq s;refine WL.yesV rfl rfl rfl rfl rfl rfl (z2p rfl rfl) ?_;refine WL.yesV rfl rfl rfl rfl rfl rfl (zv8 rfl rfl rfl Tryz.underlying9 (by assumption) (by first|rfl|omega)) ?_;refine WL.yesV rfl rfl rfl rfl rfl rfl (y15 rfl rfl ⟨_,Tryz.underlying5⟩ Tryz.underlying21) ?_;refine WL.yes rfl rfl rfl rfl rfl rfl (zm8 (y25 _) ent121 rfl rfl (sRf _ _) rfl) ?_;refine M0 rfl rfl rfl (z5h rfl rfl rfl) ?_;refine M0 rfl rfl rfl (z2p rfl rfl) ?_;refine WL.split (t:=11) rfl (λhb11=>?_) (λhb11=>?_)
  ·skip;refine WL.yesV rfl rfl rfl rfl rfl rfl (z2p rfl rfl) ?_;refine WL.yes rfl rfl rfl rfl rfl rfl (zm8 (sc_tkRun s) ent122 rfl rfl (sRf _ _) rfl) ?_;refine WL.yesV rfl rfl rfl rfl rfl rfl (z2p rfl rfl) ?_;refine WL.yesV rfl rfl rfl rfl rfl rfl (bSt rfl rfl rfl rfl) ?_;refine M0 rfl rfl rfl (z5h rfl rfl rfl) ?_;refine M0 rfl rfl rfl (z2p rfl rfl) ?_;refine WL.split (t:=17) rfl (λhb17=>?_) (λhb17=>?_)
   ·skip;refine WL.yesV rfl rfl rfl rfl rfl rfl (z2p rfl rfl) ?_;refine WL.yesV rfl rfl rfl rfl rfl rfl (y3x rfl rfl Tryz.underlying9) ?_;refine WL.yesV rfl rfl rfl rfl rfl rfl (zr7 rfl rfl rfl rfl) ?_;refine M0 rfl rfl rfl (z5h rfl rfl rfl) ?_;refine M0 rfl rfl rfl (z2p rfl rfl) ?_;refine WL.split (t:=22) rfl (λhb22=>?_) (λhb22=>?_)
    ·skip;refine WL.yesV rfl rfl rfl rfl rfl rfl (z2p rfl rfl) ?_;refine WL.yes rfl rfl rfl rfl rfl rfl (zm8 (j4j s) ent123 rfl rfl (sRf _ _) rfl) ?_;refine WL.yesV rfl rfl rfl rfl rfl rfl (yo2 rfl rfl) ?_;refine M0 rfl rfl rfl (z5h rfl rfl rfl) ?_;refine M0 rfl rfl rfl (z3s rfl rfl) ?_;refine WL.nil ?_;refine tRt ?_;refine rOk rfl ?_ nPo;refine Ah (λb=>iBool b) ?_
     first
     |(simp_all[z0o];done)
     |(simp_all[z0o]<;>omega)
    ·skip;refine WL.no (b:=false) rfl rfl rfl rfl rfl rfl ?_;refine WL.no (b:=false) rfl rfl rfl rfl rfl rfl ?_;refine WL.no (b:=false) rfl rfl rfl rfl rfl rfl ?_;refine M0 rfl rfl rfl (z1j rfl rfl rfl) ?_;refine M0 rfl rfl rfl (z3s rfl rfl) ?_;refine WL.nil ?_;refine tRt ?_;refine rOk rfl ?_ nPo;refine Ah (λb=>iBool b) ?_
     first
     |(simp_all[z0o];done)
     |(simp_all[z0o]<;>omega)
   ·skip;refine WL.no (b:=false) rfl rfl rfl rfl rfl rfl ?_;refine WL.no (b:=false) rfl rfl rfl rfl rfl rfl ?_;refine WL.no (b:=false) rfl rfl rfl rfl rfl rfl ?_;refine M0 rfl rfl rfl (z1j rfl rfl rfl) ?_;refine M0 rfl rfl rfl (z2p rfl rfl) ?_;refine WL.no (b:=false) rfl rfl rfl rfl rfl rfl ?_;refine WL.no (b:=false) rfl rfl rfl rfl rfl rfl ?_;refine WL.no (b:=false) rfl rfl rfl rfl rfl rfl ?_;refine M0 rfl rfl rfl (z1j rfl rfl rfl) ?_;refine M0 rfl rfl rfl (z3s rfl rfl) ?_;refine WL.nil ?_;refine tRt ?_;refine rOk rfl ?_ nPo;refine Ah (λb=>iBool b) ?_
    first
    |(simp_all[z0o];done)
    |(simp_all[z0o]<;>omega)
  ·skip;refine WL.no (b:=false) rfl rfl rfl rfl rfl rfl ?_;refine WL.no (b:=false) rfl rfl rfl rfl rfl rfl ?_;refine WL.no (b:=false) rfl rfl rfl rfl rfl rfl ?_;refine WL.no (b:=false) rfl rfl rfl rfl rfl rfl ?_;refine M0 rfl rfl rfl (z1j rfl rfl rfl) ?_;refine M0 rfl rfl rfl (z2p rfl rfl) ?_;refine WL.no (b:=false) rfl rfl rfl rfl rfl rfl ?_;refine WL.no (b:=false) rfl rfl rfl rfl rfl rfl ?_;refine WL.no (b:=false) rfl rfl rfl rfl rfl rfl ?_;refine M0 rfl rfl rfl (z1j rfl rfl rfl) ?_;refine M0 rfl rfl rfl (z2p rfl rfl) ?_;refine WL.no (b:=false) rfl rfl rfl rfl rfl rfl ?_;refine WL.no (b:=false) rfl rfl rfl rfl rfl rfl ?_;refine WL.no (b:=false) rfl rfl rfl rfl rfl rfl ?_;refine M0 rfl rfl rfl (z1j rfl rfl rfl) ?_;refine M0 rfl rfl rfl (z3s rfl rfl) ?_;refine WL.nil ?_;refine tRt ?_;refine rOk rfl ?_ nPo;refine Ah (λb=>iBool b) ?_
   first
   |(simp_all[z0o];done)
   |(simp_all[z0o]<;>omega)
 ·skip;refine WL.no (b:=false) rfl rfl rfl rfl rfl rfl ?_;refine WL.no (b:=false) rfl rfl rfl rfl rfl rfl ?_;refine WL.no (b:=false) rfl rfl rfl rfl rfl rfl ?_;refine WL.no (b:=false) rfl rfl rfl rfl rfl rfl ?_;refine M0 rfl rfl rfl (z1j rfl rfl rfl) ?_;refine M0 rfl rfl rfl (z2p rfl rfl) ?_;refine WL.no (b:=false) rfl rfl rfl rfl rfl rfl ?_;refine WL.no (b:=false) rfl rfl rfl rfl rfl rfl ?_;refine WL.no (b:=false) rfl rfl rfl rfl rfl rfl ?_;refine WL.no (b:=false) rfl rfl rfl rfl rfl rfl ?_;refine M0 rfl rfl rfl (z1j rfl rfl rfl) ?_;refine M0 rfl rfl rfl (z2p rfl rfl) ?_;refine WL.no (b:=false) rfl rfl rfl rfl rfl rfl ?_;refine WL.no (b:=false) rfl rfl rfl rfl rfl rfl ?_;refine WL.no (b:=false) rfl rfl rfl rfl rfl rfl ?_;refine M0 rfl rfl rfl (z1j rfl rfl rfl) ?_;refine M0 rfl rfl rfl (z2p rfl rfl) ?_;refine WL.no (b:=false) rfl rfl rfl rfl rfl rfl ?_;refine WL.no (b:=false) rfl rfl rfl rfl rfl rfl ?_;refine WL.no (b:=false) rfl rfl rfl rfl rfl rfl ?_;refine M0 rfl rfl rfl (z1j rfl rfl rfl) ?_;refine M0 rfl rfl rfl (z3s rfl rfl) ?_;refine WL.nil ?_;refine tRt ?_;refine rOk rfl ?_ nPo;refine Ah (λb=>iBool b) ?_
  first
  |(simp_all[z0o];done)
  |(simp_all[z0o]<;>omega)
theorem y26(t:Int):SC Tryz.prog 151 [.pv (.val (.int .i64 t))] [] (λk=>k∈[]) (iBool (rTy t)) []:=by
 refine K0 tb {} [] Tryz.func151 rfl rfl ?_;unfold rTy;exact z00 (λh=>⟨sE (by rw[h];rfl),Gf⟩) λh=>⟨sE (by rw[h];rfl),Gf⟩
theorem y4r(k:Int)(nm:ByteArray)(hn:nm.toList=[]):SC Tryz.prog 253 [.pv (.agg [vInt k,vInt 0,vInt 0,vStr nm,.val (.slice none 0 0)])] [] (λk=>k∈[]) (iBool true) []:=by
 refine K0 tb {} [] Tryz.func253 rfl rfl ?_;exact z00 (λ_=>⟨sI,Gf⟩) λh=>A9 h (by simp[hn])
theorem y43{k o n:Int}{nm:ByteArray}{len:Nat}(h:rOwn k o n nm len=true) :
 (k=1/\o=0/\0<=n/\nm.toList=[]/\len=0)∨(k=2/\o=0/\(n=0∨n=1)/\nm.toList=[]/\len=0)∨(k=3/\o=0/\n=0/\z0o nm=true/\len=0)∨(k=4/\z2w o=true/\n=0/\nm.toList=[]/\len=1) ∨
 (k=5/\z4g o > 0/\n=0/\nm.toList=[]/\len=2)∨(k=6/\o=0/\n=0/\z0o nm=true/\len=1)∨(k=7/\o=0/\n=0/\z0o nm=true/\len<=8)∨(k=8/\o=0/\n=0/\nm.toList=[]/\len=0):=by
 unfold rOwn at h;split at h
 ·rename_i e;simp at h;exact .inl ⟨e,h.1.1.1,h.1.1.2,by simpa using h.1.2,h.2⟩
 split at h
 ·rename_i e;simp at h;exact .inr (.inl ⟨e,h.1.1.1,h.1.1.2,by simpa using h.1.2,h.2⟩)
 split at h
 ·rename_i e;simp at h;exact .inr (.inr (.inl ⟨e,h.1.1.1,h.1.1.2,h.1.2,h.2⟩))
 split at h
 ·rename_i e;simp at h;exact .inr (.inr (.inr (.inl ⟨e,h.1.1.1,h.1.1.2,by simpa using h.1.2,h.2⟩)))
 split at h
 ·rename_i e;simp at h;exact .inr (.inr (.inr (.inr (.inl ⟨e,h.1.1.1,h.1.1.2,by simpa using h.1.2,h.2⟩))))
 split at h
 ·rename_i e;simp at h;exact .inr (.inr (.inr (.inr (.inr (.inl ⟨e,h.1.1.1,h.1.1.2,h.1.2,h.2⟩)))))
 split at h
 ·rename_i e;simp at h;exact .inr (.inr (.inr (.inr (.inr (.inr (.inl ⟨e,h.1.1.1,h.1.1.2,h.1.2,h.2⟩))))))
 split at h
 ·rename_i e;simp at h;exact .inr (.inr (.inr (.inr (.inr (.inr (.inr ⟨e,h.1.1.1,h.1.1.2,by simpa using h.1.2,h.2⟩))))))
 ·cases h
theorem sc_trOwn(k o n:Int)(nm:ByteArray)(args:List Ex)(h:rOwn k o n nm args.length=true):SC Tryz.prog 240 [.pv (.agg [vInt k,vInt o,vInt n,vStr nm,exs args])] [] (λk=>k∈[]) (.tup [iInt args.length,iBool true]) []:=by
 refine K0 tb { pb:=[101] } [] Tryz.func240 rfl rfl ?_;have hb:=λk h=>y4r k nm h;have hb0:=λk=>y4r k ⟨#[]⟩ sI0;have hN:=z81 nm;rcases y43 h with⟨rfl,rfl,h1,h2,h3⟩|⟨rfl,rfl,h1,h2,h3⟩|⟨rfl,rfl,rfl,h2,h3⟩|⟨rfl,h1,rfl,h2,h3⟩|⟨rfl,h1,rfl,h2,h3⟩|⟨rfl,rfl,rfl,h2,h3⟩|⟨rfl,rfl,rfl,h2,h3⟩|⟨rfl,rfl,rfl,h2,h3⟩
 ·exact z00 (λ_=>⟨[],hb 1 h2,sR,Gf,rfl,sE (by rw[h3];rfl),Gf⟩) λc=>A9 (Am c) oM0
 ·rcases h1 with rfl|rfl
  iterate 2 ·exact⟨[],hb 2 h2,sR,Gf,rfl,sE (by rw[h3];rfl),Gf⟩
 ·exact⟨[],hN,sR,Gf,rfl,z00 (λ_=>⟨[],hb0 3,sR,Gf,rfl,sE (by rw[h3];rfl),Gf⟩) λc=>by rw[h2]at c;cases c⟩
 ·have h4:20<=o/\o<=28:=by unfold z2w at h1;simpa using h1
  exact z00 (λ_=>z00 (λ_=>⟨[],hb 4 h2,sR,Gf,rfl,sE (by rw[h3];rfl),Gf⟩) λc=>A9 (Am c) oM0) λc=>A9 (Am c) oM0
 ·exact⟨[],y9l o,sR,Gf,rfl,z00 (λ_=>⟨[],hb 5 h2,sR,Gf,rfl,sE (by rw[h3];rfl),Gf⟩) λc=>A9 (Am c) oM0⟩
 ·exact⟨[],hN,sR,Gf,rfl,z00 (λ_=>⟨[],hb0 6,sR,Gf,rfl,sE (by rw[h3];rfl),Gf⟩) λc=>by rw[h2]at c;cases c⟩
 ·exact⟨[],hN,sR,Gf,rfl,z00 (λ_=>⟨[],hb0 7,sR,Gf,rfl,sE (by rw[Ab,show decide ((args.length:Int)<=8)=true from Cb oM0]),Gf⟩) λc=>by rw[h2]at c;cases c⟩
 ·exact⟨[],hb 8 h2,sR,Gf,rfl,sE (by rw[h3];rfl),Gf⟩
theorem y6i{x:Ex}{most:Int}:∀{l:List Ex},rxL l most=true->x∈l->2<=most/\rx x (most-1)=true
 |y::r,h,hm=>by
  simp only[rxL,A0,Bi,Cg]at h;rcases Aq.1 hm with rfl|hm
  ·exact⟨by omega,h.1.2⟩
  ·exact y6i h.2 hm
theorem zq1{α:Type}{p:α -> Bool}{l:List α}(h:∀x∈l,p x=true):l.any (λx=>!p x)=false:=by
 rw[List.any_eq_false];intro x hx;simp[h x hx]
theorem y9i:∀(N:Nat)(e:Ex),SizeOf.sizeOf e<N->xz e<=1073741824->∀most:Int,1<=most->most<=100->rx e most=true->SC Tryz.prog 215 [.pv (exv e),.pv (.val (.int .i64 most))] [] (λk=>k∈[]) (iBool true) []
 |0,_,h,_,_,_,_,_=>A9 h (An _)
 |N+1,.mk k o n nm args,hN,hx,most,h0,h1,hr=>by
  refine K0 tb { pb:=[102,103] } [] Tryz.func215 rfl rfl ?_;have hl:=zc8 args;simp only[xz]at hx;rw[rx,A0]at hr;have hc:=yq2 241 [.pv (.ept [vInt most] 0)] rfl (λx=>!rx x (most-1)) args oM0 (λx hm=>by
   obtain⟨g1,g2⟩:=y6i hr.1 hm;have hxx:=zh6 hm;have hsz:SizeOf.sizeOf x<N:=by have:=Br hm;simp at hN;omega
   refine K0 tb { pb:=[102] } [] Tryz.func241 rfl rfl ?_;exact⟨z3e rfl oM0,[],y9i N x hsz oM0 (most-1) oM0 oM0 g2,sR,Gf,rfl,sE (by rw[g2]),Gf⟩)
  rw[zq1 λx hm=>(y6i hr.1 hm).2]at hc;exact⟨[],sc_trOwn k o n nm args hr.2,sR,Gf,rfl,z00 (λ_=>z00 (λ_=>⟨[],hc,sR,Gf,rfl,sI,Gf⟩) λc=>A9 c (by simp[Ex.args])) λc=>A9 (Am c) oM0⟩
theorem kyQ{d:TypeDesc}{es:List (Value×PV)}(h:(es.all λe=>z1y d e.1)=true):∀e∈es,z1y d e.1=true:=Bj.1 h
theorem sFn{f:Fn}:SubA [.pv (.val (.func f #[] #[]))] [.fn f [] []]:=I0 (λ_ _ _ _ _ h=>sub_func h) J0
def trV(t n:Bool)(a:Int)(th ot:Bool):PV:=.agg [.val (.bool t),.val (.bool n),vInt a,.val (.bool th),.val (.bool ot)]
def trTab:List (Value×PV):=[(.int .i64 1,trV true true 1 false false),(.int .i64 2,trV false true 1 false false),(.int .i64 3,trV false true 2 false false),(.int .i64 4,trV false false 1 true true),(.int .i64 5,trV false false 1 true false),
 (.int .i64 6,trV false false 0 false false),(.int .i64 7,trV false false 0 false false),(.int .i64 8,trV false false 1 false false),(.int .i64 9,trV false false 1 false false),(.int .i64 10,trV false false 1 false false)]
theorem yh6:SC Tryz.prog 212 [] [] (λk=>k∈[]) (.mp 1) [(1,.map trTab)]:=by
 refine K0 tb { ids:=[(3,1)],pb:=[101] } [] Tryz.func212 rfl rfl ?_;exact⟨rfl,kyQ rfl,rfl,kyQ rfl,rfl,kyQ rfl,rfl,kyQ rfl,rfl,kyQ rfl,rfl,kyQ rfl,rfl,kyQ rfl,rfl,kyQ rfl,rfl,kyQ rfl,rfl,kyQ rfl,sI,rfl,Gf⟩
theorem rTy_of{ty:Int}(h:¬ty=1->ty=2):rTy ty=true:=by
 unfold rTy;by_cases e:ty=1
 ·simp[e]
 ·simp[h e]
theorem zn5{k ty:Int}{nm:ByteArray}{args:List Ex}{thn els:List St}{most:Int}(h:yv8 k ty nm args.length most=false)(ht:j2x k args thn.length els.length=false) :
 1<=most/\((k=1/\rTy ty=true/\z0o nm=true/\(∃e,args=[e])/\thn=[]/\els=[])∨(k=2/\ty=0/\z0o nm=true/\(∃e,args=[e])/\thn=[]/\els=[])∨(k=3/\ty=0/\z0o nm=true/\(∃e e2,args=[e,e2])/\thn=[]/\els=[]) ∨
  (k=4/\ty=0/\nm.toList=[]/\(∃e,args=[e]))∨(k=5/\ty=0/\nm.toList=[]/\(∃e,args=[e])/\els=[])∨(k=6/\ty=0/\nm.toList=[]/\args=[]/\thn=[]/\els=[])∨(k=7/\ty=0/\nm.toList=[]/\args=[]/\thn=[]/\els=[]) ∨
  (k=8/\ty=0/\nm.toList=[]/\(∃e,args=[e])/\thn=[]/\els=[])∨(k=9/\ty=0/\nm.toList=[]/\(∃e,args=[e])/\thn=[]/\els=[])∨(k=10/\ty=0/\nm.toList=[]/\(∃e,args=[e]/\e.kind=7)/\thn=[]/\els=[])):=by
 unfold yv8 at h;unfold j2x at ht;simp only[Bn]at h ht;obtain⟨⟨⟨⟨⟨h1,h2⟩,h3⟩,h4⟩,h5⟩,h6⟩:=h;obtain⟨⟨t1,t2⟩,t3⟩:=ht;refine⟨by have:=Am h1;omega,?_⟩;have l0:∀l:List St,decide (0<l.length)=false->l=[]:=λl hl=>by have:=Am hl;exact List.length_eq_zero_iff.1 oM0
 have a1:(args.length:Int)=1->∃e,args=[e]:=λha=>Eb.1 oM0;have a2:(args.length:Int)=2->∃e e2,args=[e,e2]:=λha=>by
  match args,ha with
  |[x,y],_=>exact⟨x,y,rfl⟩
  |[],ha=>simp at ha
  |[x],ha=>simp at ha
  |x::y::z::r,ha=>simp at ha;omega
 have hcase:k=1∨k=2∨k=3∨k=4∨k=5∨k=6∨k=7∨k=8∨k=9∨k=10∨(k≠1/\k≠2/\k≠3/\k≠4/\k≠5/\k≠6/\k≠7/\k≠8/\k≠9/\k≠10):=by omega
 rcases hcase with rfl|rfl|rfl|rfl|rfl|rfl|rfl|rfl|rfl|rfl|hk
 ·exact .inl ⟨rfl,rTy_of (by simpa[shp]using h3),by simpa[shp]using h5,a1 (by simpa[shp]using h2),l0 _ (by simpa[shp]using t2),l0 _ (by simpa[shp]using t3)⟩
 ·exact .inr (.inl ⟨rfl,by simpa[shp]using h4,by simpa[shp]using h5,a1 (by simpa[shp]using h2),l0 _ (by simpa[shp]using t2),l0 _ (by simpa[shp]using t3)⟩)
 ·exact .inr (.inr (.inl ⟨rfl,by simpa[shp]using h4,by simpa[shp]using h5,a2 (by simpa[shp]using h2),l0 _ (by simpa[shp]using t2),l0 _ (by simpa[shp]using t3)⟩))
 ·exact .inr (.inr (.inr (.inl ⟨rfl,by simpa[shp]using h4,by simpa[shp]using h6,a1 (by simpa[shp]using h2)⟩)))
 ·exact .inr (.inr (.inr (.inr (.inl ⟨rfl,by simpa[shp]using h4,by simpa[shp]using h6,a1 (by simpa[shp]using h2),l0 _ (by simpa[shp]using t3)⟩))))
 ·exact .inr (.inr (.inr (.inr (.inr (.inl ⟨rfl,by simpa[shp]using h4,by simpa[shp]using h6,by simpa[shp]using h2,l0 _ (by simpa[shp]using t2),l0 _ (by simpa[shp]using t3)⟩)))))
 ·exact .inr (.inr (.inr (.inr (.inr (.inr (.inl ⟨rfl,by simpa[shp]using h4,by simpa[shp]using h6,by simpa[shp]using h2,l0 _ (by simpa[shp]using t2),l0 _ (by simpa[shp]using t3)⟩))))))
 ·exact .inr (.inr (.inr (.inr (.inr (.inr (.inr (.inl ⟨rfl,by simpa[shp]using h4,by simpa[shp]using h6,a1 (by simpa[shp]using h2),l0 _ (by simpa[shp]using t2),l0 _ (by simpa[shp]using t3)⟩)))))))
 ·exact .inr (.inr (.inr (.inr (.inr (.inr (.inr (.inr (.inl ⟨rfl,by simpa[shp]using h4,by simpa[shp]using h6,a1 (by simpa[shp]using h2),l0 _ (by simpa[shp]using t2),l0 _ (by simpa[shp]using t3)⟩))))))))
 ·obtain⟨e,rfl⟩:=a1 (by simpa[shp]using h2);exact .inr (.inr (.inr (.inr (.inr (.inr (.inr (.inr (.inr ⟨rfl,by simpa[shp]using h4,by simpa[shp]using h6,⟨e,rfl,by simpa using t1⟩,l0 _ (by simpa[shp]using t2),l0 _ (by simpa[shp]using t3)⟩))))))))
 ·exfalso;have hs:shp k=(false,false,-1,false,false):=by
   unfold shp;rw[A1 oM0,A1 oM0,A1 oM0,A1 oM0,A1 oM0,A1 oM0,A1 oM0]
  rw[hs]at h2;simp at h2
  try omega
theorem sc_trNot(e:Ex)(hx:xz e<=1073741824)(hr:rx e 100=true):SC Tryz.prog 214 [.pv (exv e)] [] (λk=>k∈[]) (iBool (!rx e 100)) []:=by
 refine K0 tb { pb:=[101] } [] Tryz.func214 rfl rfl ?_;exact⟨[],y9i _ e (Ac _) hx 100 dC0 dC0 hr,sR,Gf,rfl,sE (by rw[hr]),Gf⟩
theorem y1q{x:St}{most:Int}:∀{l:List St},rsL l most=true->x∈l->rst x most=true
 |y::r,h,hm=>by
  simp only[rsL,A0]at h;rcases Aq.1 hm with rfl|hm
  ·exact h.1
  ·exact y1q h.2 hm
theorem j4k(x:St)(hx:sz x<=1073741824)(most:Int)(h0:most<=100)(hr:rst x most=true)
 (ih:∀l:List St,l=x.thn∨l=x.els->1<=most->SC Tryz.prog 153 [.pv (sts l),.pv (.val (.int .i64 (most-1)))] [] (λk=>k∈[]) (iBool true) []) :
 SC Tryz.prog 189 [.pv (stv x),.pv (.val (.int .i64 most))] [] (λk=>k∈[]) (iBool true) []:=by
 refine K0 tb { pb:=[102,105] } [] Tryz.func189 rfl rfl ?_;rw[y4a]at hr;simp only[A0,Bi]at hr;obtain⟨⟨⟨⟨r1,r2⟩,r3⟩,_⟩,_⟩:=hr;rw[y33]at hx;have hl:=zc8 x.args;have hA:=yq2 214 [] rfl (λe=>!rx e 100) x.args oM0 (λe he=>sc_trNot e (by have:=zh6 he;omega) (Bj.1 r2 e he));rw[zq1 λe he=>Bj.1 r2 e he]at hA;obtain⟨h1,hc⟩:=zn5 r1 r3;have i1:=ih x.thn (.inl rfl) h1;have i2:=ih x.els (.inr rfl) h1;have hs:z3f .sub .i64 most 1=some (.int .i64 (most-1)):=z3e rfl oM0;have hN:=z81 x.name;have hT:=y26 x.ty;clear ih r1 r2 r3 hl;obtain⟨k,ty,nm,args,thn,els⟩:=x;simp only[St.kind,St.ty,St.name,St.args,St.thn,St.els]at *
 rcases hc with⟨rfl,t,n,⟨e,rfl⟩,rfl,rfl⟩|⟨rfl,rfl,n,⟨e,rfl⟩,rfl,rfl⟩|⟨rfl,rfl,n,⟨e,e2,rfl⟩,rfl,rfl⟩|⟨rfl,rfl,n,⟨e,rfl⟩⟩|⟨rfl,rfl,n,⟨e,rfl⟩,rfl⟩|⟨rfl,rfl,n,rfl,rfl,rfl⟩|⟨rfl,rfl,n,rfl,rfl,rfl⟩|⟨rfl,rfl,n,⟨e,rfl⟩,rfl,rfl⟩|⟨rfl,rfl,n,⟨e,rfl⟩,rfl,rfl⟩|⟨rfl,rfl,n,⟨e,rfl,e7⟩,rfl,rfl⟩
 all_goals refine⟨[],yh6,sR,Gf,rfl,rfl,kyQ rfl,rfl,z00 (λc=>A9 (Ap c) oM0) λ_=>?_⟩
 ·rw[t]at hT;rw[n]at hN;exact⟨[],hT,sR,Gf,rfl,[],hN,sR,Gf,rfl,[],hA,H0 sFn,Gf,rfl,hs,[],i1,sR,Gf,rfl,hs,[],i2,sR,Gf,rfl,sI,Gf⟩
 iterate 2 ·rw[n]at hN;exact⟨[],hN,sR,Gf,rfl,[],hA,H0 sFn,Gf,rfl,hs,[],i1,sR,Gf,rfl,hs,[],i2,sR,Gf,rfl,sI,Gf⟩
 iterate 6 exact z00 (λc=>A9 c (by simp[St.name,n])) λ_=>⟨[],hA,H0 sFn,Gf,rfl,hs,[],i1,sR,Gf,rfl,hs,[],i2,sR,Gf,rfl,sI,Gf⟩
 ·exact z00 (λc=>A9 c (by simp[St.name,n])) λ_=>⟨z1f (i:=0) rfl,rfl,z00 (λc=>A9 c (by simp[St.name,e7])) λ_=>⟨[],hA,H0 sFn,Gf,rfl,hs,[],i1,sR,Gf,rfl,hs,[],i2,sR,Gf,rfl,sI,Gf⟩⟩
theorem zt3:∀(N:Nat)(l:List St),SizeOf.sizeOf l<N->szL l<=1073741824->∀most:Int,0<=most->most<=100->rsL l most=true->SC Tryz.prog 153 [.pv (sts l),.pv (.val (.int .i64 most))] [] (λk=>k∈[]) (iBool true) []
 |0,_,h,_,_,_,_,_=>A9 h (An _)
 |N+1,l,hN,hx,most,h0,h1,hr=>by
  refine K0 tb { pb:=[103] } [] Tryz.func153 rfl rfl ?_;have hl:=z8p l;have hc:=y6n 188 [.pv (.ept [vInt most] 0)] rfl (λx=>!rst x most) l oM0 (λx hm=>by
   have g:=y1q hr hm;have hxx:=zx5 hm;have hsz:SizeOf.sizeOf x.thn<N/\SizeOf.sizeOf x.els<N:=by have:=Br hm;have:=zt7 x;omega
   have hsz2:szL x.thn<=1073741824/\szL x.els<=1073741824:=by rw[y33]at hxx;omega
   have g2:=g;rw[y4a]at g2;simp only[A0]at g2;have hS:=j4k x oM0 most h1 g (λq hq h1'=>by
    rcases hq with rfl|rfl
    ·exact zt3 N x.thn hsz.1 hsz2.1 (most-1) oM0 oM0 g2.1.2
    ·exact zt3 N x.els hsz.2 hsz2.2 (most-1) oM0 oM0 g2.2)
   refine K0 tb { pb:=[102] } [] Tryz.func188 rfl rfl ?_;exact⟨[],hS,sR,Gf,rfl,sE (by rw[g]),Gf⟩)
  rw[zq1 λx hm=>y1q hr hm]at hc;exact⟨[],hc,sR,Gf,rfl,sI,Gf⟩
theorem yy9(x:Pm):SC Tryz.prog 150 [.pv (.agg x.enc)] [] (λk=>k∈[]) (iBool (!(z0o x.name&&rTy x.ty))) []:=by
 refine K0 tb { pb:=[101] } [] Tryz.func150 rfl rfl ?_;exact⟨[],z81 x.name,sR,Gf,rfl,z00 (λc=>⟨sE (Ah iBool (by rw[show z0o x.name=false by simpa using c];rfl)),Gf⟩) λc=>⟨[],y26 x.ty,sR,Gf,rfl,sE (Ah iBool (by rw[show z0o x.name=true by simpa using c];rfl)),Gf⟩⟩
theorem y6v(f:Fu)(hx:1+f.params.length+szL f.body<=1073741824)(hr:rFu f=true):SC Tryz.prog 103 [.pv (.agg f.enc)] [] (λk=>k∈[]) (iBool true) []:=by
 refine K0 tb { pb:=[101] } [] Tryz.func103 rfl rfl ?_;unfold rFu at hr;simp only[A0]at hr;obtain⟨⟨⟨⟨h1,h2⟩,h3⟩,h4⟩,h5⟩:=hr;have hc:=sc_hasPm 150 [] rfl (λx=>!(z0o x.name&&rTy x.ty)) f.params oM0 (λx _=>yy9 x);rw[zq1 λx hm=>Bj.1 h5 x hm]at hc;have hN:=z81 f.name;rw[h1]at hN;have hT:=y26 f.ty;rw[h2]at hT;have h3:=Ap h3;exact⟨[],hN,sR,Gf,rfl,[],hT,sR,Gf,rfl,z00 (λ_=>⟨[],hc,H0 sFn,Gf,rfl,[],zt3 _ f.body (Ac _) oM0 100 dC0 dC0 h4,sR,Gf,rfl,sI,Gf⟩) λc=>A9 (Am c) (by rw[Ab];omega)⟩
theorem yh5(x:Ar):SC Tryz.prog 99 [.pv (.agg x.enc)] [] (λk=>k∈[]) (iBool (!(z0o x.name&&decide (1<=x.size)&&decide (x.size<=1000)))) []:=by
 refine K0 tb { pb:=[101] } [] Tryz.func99 rfl rfl ?_;refine⟨[],z81 x.name,sR,Gf,rfl,z00 (λc=>⟨sE (Ah iBool (by rw[show z0o x.name=false by simpa using c];rfl)),Gf⟩) λc=>z00 (λc2=>⟨sE (Ah iBool ?_),Gf⟩) λc2=>⟨sE (Ah iBool ?_),Gf⟩⟩
 ·have:=Ap c2;rw[show decide (1<=x.size)=false from Dk oM0];simp
 ·have:=Am c2;rw[show z0o x.name=true by simpa using c,show decide (1<=x.size)=true from Cb oM0];simp only[B6]
  by_cases h:x.size<=1000
  ·rw[Cb h,Dk oM0];rfl
  ·rw[Dk h,Cb oM0];rfl
theorem yz0(p:Pg)(hb:pz p.funcs<=1073741824)(ha:p.arrays.length<=1073741824)(hr:rPg p=true):SC Tryz.prog 57 [.pv p.enc] [] (λk=>k∈[]) (iBool true) []:=by
 refine K0 tb { pb:=[101] } [] Tryz.func57 rfl rfl ?_;unfold rPg at hr;simp only[A0]at hr;have hl:=zm1 p.funcs;have h1:=sc_hasAr 99 [] rfl (λx=>!(z0o x.name&&decide (1<=x.size)&&decide (x.size<=1000))) p.arrays oM0 (λx _=>yh5 x);rw[zq1 λx hm=>Bj.1 hr.1 x hm]at h1;have h2:=sc_hasFu 102 [] rfl (λx=>!rFu x) p.funcs oM0 (λx hm=>by
  have g:=Bj.1 hr.2 x hm;have g2:=zw3 hm;refine K0 tb { pb:=[101] } [] Tryz.func102 rfl rfl ?_;exact⟨[],y6v x oM0 g,sR,Gf,rfl,sE (by rw[g]),Gf⟩)
 rw[zq1 λx hm=>Bj.1 hr.2 x hm]at h2;exact⟨[],h1,H0 sFn,Gf,rfl,[],h2,H0 sFn,Gf,rfl,sI,Gf⟩
abbrev Sc:Type:=List (ByteArray×Int×Int)
def scV:Sc->PV
 |[]=>.val (.pointer none)
 |(n,t,d)::r=>.ept [vStr n,vInt t,scV r,vInt d] 0
def zb9(name:ByteArray):Sc->Sc
 |[]=>[]
 |(n,t,d)::r=>if !(n.toList==name.toList)then zb9 name r else(n,t,d)::r
def z3l(p:Pg)(name:ByteArray):Int:=idxP (λf:Fu=>f.name.toList==name.toList) p.funcs 0
def j6c(p:Pg)(name:ByteArray):Int:=idxP (λa:Ar=>a.name.toList==name.toList) p.arrays 0
def fu0:Fu:=⟨⟨#[]⟩,0,[],[]⟩
def fuAt(p:Pg)(i:Int):Fu:=p.funcs.getD i.toNat fu0
def zy2(ok:Bool)(e:Int):Int:=if ok then 0 else e
def zx6(op t:Int):Int×Bool :=
 if op=18∨op=19∨op=22 then(2,t==2)else if op=16∨op=17 then(2,true)else if op=12∨op=13∨op=14∨op=15 then(2,t==1)else(1,t==1)
def z8i(p:Pg)(s:Sc)(k:Int)(name:ByteArray)(len:Nat):Int :=
 if k=3 then zy2 (!(zb9 name s).isEmpty) 50 else if k=6 then zy2 (decide (j6c p name≥0)) 50
 else if k=7 then(if z3l p name<0 then 50 else zy2 ((fuAt p (z3l p name)).params.length==len) 51)else 0
def yEq:List Int->List Pm->Bool
 |[],[]=>true
 |t::r,p::q=>t==p.ty&&yEq r q
 |_,_=>false
def scTy:Sc->Int
 |[]=>0
 |(_,t,_)::_=>t
def j0i(p:Pg)(s:Sc)(k op:Int)(name:ByteArray)(l:List Int):Int×Bool :=
 if k=2 then(2,true)else if k=3 then(scTy (zb9 name s),true)else if k=6 then(1,l.getD 0 0==1)else if k=4 then zx6 op (l.getD 0 0)
 else if k=5 then((zx6 op (l.getD 0 0)).1,(zx6 op (l.getD 0 0)).2&&l.getD 0 0==l.getD 1 0)
 else if k=7 then((fuAt p (z3l p name)).ty,yEq l (fuAt p (z3l p name)).params)else(1,true)
mutual
def z5e(p:Pg)(s:Sc):Ex->Int×Int
 |.mk k op _ name args=>if z8i p s k name args.length=0 then
  if (z73 p s args).2=0 then(if (j0i p s k op name (z73 p s args).1).2 then((j0i p s k op name (z73 p s args).1).1,0)else(0,51))else(0,(z73 p s args).2)
  else(0,z8i p s k name args.length)
def z73(p:Pg)(s:Sc):List Ex->List Int×Int
 |[]=>([],0)
 |e::r=>if (z5e p s e).2=0 then(if (z73 p s r).2=0 then((z5e p s e).1::(z73 p s r).1,0)else([],(z73 p s r).2))else([],(z5e p s e).2)
end
def ex0:Ex:=.mk 0 0 0 ⟨#[]⟩ []
def ze4(p:Pg)(s:Sc)(e:Ex)(t:Int):Int:=if (z5e p s e).2=0 then zy2 ((z5e p s e).1==t) 51 else(z5e p s e).2
def scDeep:Sc->Int
 |[]=>0
 |(_,_,d)::_=>d
def yb0(p:Pg)(s:Sc)(k ty:Int)(name:ByteArray)(args:List Ex)(depth:Int):Int :=
 if k=1 then(if ze4 p s (args.getD 0 ex0) ty=0 then zy2 ((zb9 name s).isEmpty||decide (scDeep (zb9 name s)<depth)) 50 else ze4 p s (args.getD 0 ex0) ty)
 else if k=2 then(if (zb9 name s).isEmpty then 50 else ze4 p s (args.getD 0 ex0) (scTy (zb9 name s)))
 else if j6c p name<0 then 50
 else if ze4 p s (args.getD 0 ex0) 1=0 then ze4 p s (args.getD 1 ex0) 1 else ze4 p s (args.getD 0 ex0) 1
def zy3(p:Pg)(res:Int)(s:Sc)(k ty:Int)(name:ByteArray)(args:List Ex)(depth:Int)(loop:Bool):Int :=
 if k=4∨k=5 then ze4 p s (args.getD 0 ex0) 2 else if k=8 then ze4 p s (args.getD 0 ex0) res else if k=9 then ze4 p s (args.getD 0 ex0) 1
 else if k=10 then(z5e p s (args.getD 0 ex0)).2 else if k=6∨k=7 then zy2 loop 53 else yb0 p s k ty name args depth
def z6s(s:Sc)(k ty:Int)(name:ByteArray)(depth:Int):Sc:=if k=1 then(name,ty,depth)::s else s
mutual
def z2g(p:Pg)(res:Int):List St->Sc->Int->Bool->Nat->Int×Nat
 |[],_,_,_,n=>(0,n)
 |x::r,s,depth,loop,n=>if (yOne p res x s depth loop n).1=0 then z2g p res r (z6s s x.kind x.ty x.name depth) depth loop (yOne p res x s depth loop n).2 else yOne p res x s depth loop n
def yOne(p:Pg)(res:Int):St->Sc->Int->Bool->Nat->Int×Nat
 |.mk k ty name args thn els,s,depth,loop,n=>if zy3 p res s k ty name args depth loop=0 then
  if (z2g p res thn (z6s s k ty name depth) (depth+1) (loop||k==5) (n+1)).1=0 then
   z2g p res els (z6s s k ty name depth) (depth+1) loop (z2g p res thn (z6s s k ty name depth) (depth+1) (loop||k==5) (n+1)).2
  else z2g p res thn (z6s s k ty name depth) (depth+1) (loop||k==5) (n+1)
  else(zy3 p res s k ty name args depth loop,n)
end
mutual
def lvs:List St->Bool
 |[]=>false
 |x::r=>lvS x||lvs r
def lvS:St->Bool
 |.mk k _ _ _ thn els=>k==6||(k==4&&(lvs thn||lvs els))
end
mutual
def ens:List St->Bool
 |[]=>false
 |x::r=>enS x||ens r
def enS:St->Bool
 |.mk k _ _ args thn els=>if k=8 then true else if k=4 then ens thn&&ens els else if k=5 then((args.getD 0 ex0).kind==2&&((args.getD 0 ex0).n==1 && !lvs thn))else false
end
def ySc(l:List Pm):Sc:=l.foldl (λs x=>(x.name,x.ty,0)::s) []
theorem zf5(p:Pg)(name:ByteArray)(hl:p.funcs.length<=1073741824):SC Tryz.prog 104 [.pv p.enc,.pv (.val (.string name))] [] (λk=>k∈[]) (iInt (z3l p name)) []:=by
 refine K0 tb { pb:=[102,103] } [] Tryz.func104 rfl rfl ?_;refine⟨[],yq4 154 [.pv (.ept [vStr name] 0)] rfl (λf=>f.name.toList==name.toList) p.funcs oM0 (λx _=>?_),sR,Gf,rfl,sI,Gf⟩;refine K0 tb { pb:=[102] } [] Tryz.func154 rfl rfl ?_;exact⟨sI,Gf⟩
theorem y4s(p:Pg)(name:ByteArray)(hl:p.arrays.length<=1073741824):SC Tryz.prog 194 [.pv p.enc,.pv (.val (.string name))] [] (λk=>k∈[]) (iInt (j6c p name)) []:=by
 refine K0 tb { pb:=[102,103] } [] Tryz.func194 rfl rfl ?_;refine⟨[],yq3 219 [.pv (.ept [vStr name] 0)] rfl (λf=>f.name.toList==name.toList) p.arrays oM0 (λx _=>?_),sR,Gf,rfl,sI,Gf⟩;refine K0 tb { pb:=[102] } [] Tryz.func219 rfl rfl ?_;exact⟨sI,Gf⟩
theorem z5y(ok:Bool)(e:Int):SC Tryz.prog 157 [iBool ok,.pv (.val (.int .i64 e))] [] (λk=>k∈[]) (iInt (zy2 ok e)) []:=by
 refine K0 tb {} [] Tryz.func157 rfl rfl ?_;exact z00 (λh=>⟨sE (by rw[h];rfl),Gf⟩) λh=>⟨sE (by rw[h];rfl),Gf⟩
theorem y4t(op t:Int):SC Tryz.prog 216 [.pv (.val (.int .i64 op)),.pv (.val (.int .i64 t))] [] (λk=>k∈[]) (.tup [iInt (zx6 op t).1,iBool (zx6 op t).2]) []:=by
 refine K0 tb {} [] Tryz.func216 rfl rfl ?_
 by_cases h:op=18∨op=19∨op=22∨op=16∨op=17∨op=12∨op=13∨op=14∨op=15
 ·rcases h with rfl|rfl|rfl|rfl|rfl|rfl|rfl|rfl|rfl<;>exact⟨sI,Gf⟩
 ·have hT:zx6 op t=(1,t==1):=by
   unfold zx6;rw[A1 oM0,A1 oM0,A1 oM0]
  rw[hT]
  repeat' (first|exact⟨sI,Gf⟩|refine z00 (λg=>A9 (Av g) oM0) λ_=>?_)
theorem y9k(s:Sc)(n:ByteArray)(t d:Int):SC Tryz.prog 106 [.pv (scV s),.pv (.agg [vStr n,vInt t]),.pv (.val (.int .i64 d))] [] (λk=>k∈[]) (.pv (scV ((n,t,d)::s))) []:=by
 refine K0 tb { pb:=[104,111] } [] Tryz.func106 rfl rfl ?_
 cases s with
 |nil=>exact⟨sI,Gf⟩
 |cons a r=>exact⟨sI,Gf⟩
theorem y28(name:ByteArray)(s:Sc):SC Tryz.prog 193 [.pv (scV s),.pv (.val (.string name))] [] (λk=>k∈[]) (.pv (scV (zb9 name s))) []:=by
 refine K0 tb {} [] Tryz.func193 rfl rfl ?_;refine⟨Sc,λq=>[(0,.pv (scV q))],λ_=>[],λq=>q.length,λq=>zb9 name s=zb9 name q,[],s,rfl,Gg,Gf,?_⟩;intro q hq
 cases q with
 |nil=>exact⟨sE (by rw[hq];rfl),Gf⟩
 |cons a r =>
  obtain⟨n,t,d⟩:=a;refine z00 (λh=>?_) λh=>?_
  ·exact⟨r,Ac _,by rw[hq,zb9,h];rfl,Gg,Gf,rfl,rfl,rfl,rfl⟩
  ·exact⟨sE (by rw[hq,zb9,h];rfl),Gf⟩
theorem yh7(l:List Pm)(hl:l.length<=1073741824):SC Tryz.prog 61 [.pv (pms l)] [] (λk=>k∈[]) (.pv (scV (ySc l))) []:=by
 refine K0 tb {} [] Tryz.func61 rfl rfl ?_;refine⟨Nat,λi=>[(7,iInt ((i:Nat):Int)),(2,.pv (scV (ySc (l.take i))))],λ_=>[],λi=>l.length-i,λi=>i<=l.length,[],0,Aj _,Gi,Gf,?_⟩;intro i hi;refine z00 (λhc=>?_) λhc=>?_
 ·have hlt:i<l.length:=z12 (f:=Pm.enc) rfl hc;obtain⟨x,x1,x2,x3,x4⟩:=z0u hlt;have hs:ySc (l.take (i+1))=(x.name,x.ty,0)::ySc (l.take i):=by unfold ySc;rw[x2,E4];rfl
  exact⟨zw2 x1,rfl,[],y9k (ySc (l.take i)) x.name x.ty 0,sR,Gf,rfl,z01 rfl oM0,i+1,z05 hlt,hlt,⟨rfl,by rw[hs];rfl,Gf⟩,Gf,rfl,rfl,rfl,rfl⟩
 ·have hge:l.length<=i:=z13 (f:=Pm.enc) rfl hc;exact⟨sE (by rw[Az hge]),Gf⟩
theorem yz3(t:Int)(x:Pm):SC Tryz.prog 218 [iInt t,.pv (.agg x.enc)] [] (λk=>k∈[]) (iBool (t==x.ty)) []:=by
 refine K0 tb { pb:=[103] } [] Tryz.func218 rfl rfl ?_;exact⟨sI,Gf⟩
theorem j6d:∀(l:List Int)(q:List Pm),l.length≠q.length->yEq l q=false
 |[],[],h=>A9 rfl h
 |[],_::_,_=>rfl
 |_::_,[],_=>rfl
 |a::l,b::q,h=>by
  rw[yEq,j6d l q (by simp at h;omega),D1]
theorem sc_tyEq(l:List Int)(q:List Pm)(hl:l.length<=1073741824):SC Tryz.prog 217 [.pv (ints l),.pv (pms q),.fn (.func 218) [] []] [] (λk=>k∈[]) (iBool (yEq l q)) []:=by
 refine K0 tb {} [] Tryz.func217 rfl rfl ?_;refine z00 (λh=>?_) λh=>?_
 ·exact⟨sE (by rw[j6d l q (λe=>by simp[e]at h)]),Gf⟩
 ·have hlen:l.length=q.length:=by
   have h2:=Av (show((l.map eInt).length:Int)==((q.map Pm.enc).length:Int) by simpa[bne]using h);simp only[Ab]at h2;omega
  refine⟨Nat,λi=>[(17,iInt ((i:Nat):Int))],λ_=>[],λi=>l.length-i,λi=>i<=l.length/\yEq l q=yEq (l.drop i) (q.drop i),[],0,⟨Aj _,rfl⟩,Gg,Gf,?_⟩;rintro i ⟨i1,i2⟩;refine z00 (λhc=>?_) λhc=>?_
  ·have hlt:i<l.length:=z12 (f:=eInt) rfl hc;obtain⟨x,x1,x2,x3,x4⟩:=z0u hlt;obtain⟨y,y1,y2,y3,y4⟩:=z0u (show i<q.length by omega);rw[x3,y3,yEq]at i2;refine⟨z02 (f:=eInt) x1,rfl,zw2 y1,rfl,yz3 x y,sR,Gf,(λk hk=>hk),rfl,rfl,z00 (λc=>?_) λc=>?_⟩
   ·exact⟨sE (Ah iBool (by rw[i2,show(x==y.ty)=false by simpa using c];rfl)),Gf⟩
   ·rw[show(x==y.ty)=true by simpa using c,B6]at i2;exact⟨z01 rfl oM0,i+1,z05 hlt,⟨hlt,i2⟩,Gg,Gf,rfl,rfl,rfl,rfl⟩
  ·have hge:l.length<=i:=z13 (f:=eInt) rfl hc;exact⟨sE (by rw[i2,Ae hge,Ae oM0];rfl),Gf⟩
theorem j1m{α:Type}(p:α -> Bool):∀(l:List α)(j:Int),0<=j->0<=idxP p l j->∃(i:Nat)(x:α),idxP p l j=j+i/\l[i]?=some x/\p x=true
 |[],_,_,h=>A9 h (by simp[idxP])
 |x::r,j,hj,h=>by
  rw[idxP]at h⊢
  by_cases hx:p x=true
  ·exact⟨0,x,by rw[A5 hx];simp,rfl,hx⟩
  ·rw[A1 hx]at h⊢;obtain⟨i,y,h1,h2,h3⟩:=j1m p r (j+1) oM0 h;exact⟨i+1,y,by rw[h1];simp;omega,by simpa using h2,h3⟩
theorem zy8{p:Pg}{name:ByteArray}(h:0<=z3l p name):∃i:Nat,z3l p name=i/\p.funcs[i]?=some (fuAt p (z3l p name)):=by
 obtain⟨i,x,h1,h2,_⟩:=j1m _ p.funcs 0 dC0 h;refine⟨i,by unfold z3l;omega,?_⟩;unfold fuAt z3l;rw[h1];simp[h2]
theorem yz4(p:Pg)(s:Sc)(k o n:Int)(nm:ByteArray)(args:List Ex)(hf:p.funcs.length<=1073741824)(ha:p.arrays.length<=1073741824) :
 SC Tryz.prog 190 [.pv p.enc,.pv (scV s),.pv (.agg [vInt k,vInt o,vInt n,vStr nm,exs args])] [] (λk=>k∈[]) (iInt (z8i p s k nm args.length)) []:=by
 refine K0 tb { pb:=[103,105] } [] Tryz.func190 rfl rfl ?_;have hF:=y28 nm s;have hP:=zf5 p nm hf;have hA:=y4s p nm ha;have hg:=@zy8 p nm;unfold z8i;generalize zb9 nm s=q at hF;refine z00 (λc=>?_) λc=>z00 (λc2=>?_) λc2=>z00 (λc3=>?_) λc3=>?_
 ·rw[A5 (Av c)]
  cases q with
  |nil=>exact⟨[],hF,sR,Gf,rfl,[],z5y false 50,sR,Gf,rfl,sI,Gf⟩
  |cons a r=>exact⟨[],hF,sR,Gf,rfl,[],z5y true 50,sR,Gf,rfl,sI,Gf⟩
 ·rw[A1 (Aa.1 c),A5 (Av c2)];exact⟨[],hA,sR,Gf,rfl,[],z5y _ 50,sR,Gf,rfl,sI,Gf⟩
 ·rw[A1 (Aa.1 c),A1 (Aa.1 c2),A5 (Av c3)];refine⟨[],hP,sR,Gf,rfl,z00 (λc4=>?_) λc4=>?_⟩
  ·rw[A5 (Ap c4)];exact⟨sI,Gf⟩
  ·have c4:=Am c4;rw[A1 c4];obtain⟨i,h1,h2⟩:=hg oM0;exact⟨zb2 h2,h1,[],z5y _ 51,sR,Gf,rfl,sE (Ah iInt (Ah (λb=>zy2 b 51) (by rw[Cn];simp;omega))),Gf⟩
 ·rw[A1 (Aa.1 c),A1 (Aa.1 c2),A1 (Aa.1 c3)];exact⟨sI,Gf⟩
theorem z3n{l:List Int}{i:Nat}(h:i<l.length):l[i]?=some (l.getD i 0):=by
 rw[Ax,Ad h];rfl
theorem j4m(p:Pg)(s:Sc)(k o n:Int)(nm:ByteArray)(args:List Ex)(l:List Int)(hl:l.length<=1073741824)(hf:p.funcs.length<=1073741824)(h3:k=3->zb9 nm s≠[])(h7:k=7->0<=z3l p nm)(h1:k=4∨k=6->1<=l.length)(h5:k=5->2<=l.length) :
 SC Tryz.prog 192 [.pv p.enc,.pv (scV s),.pv (.agg [vInt k,vInt o,vInt n,vStr nm,exs args]),.pv (ints l)] [] (λk=>k∈[]) (.tup [iInt (j0i p s k o nm l).1,iBool (j0i p s k o nm l).2]) []:=by
 refine K0 tb { pb:=[104,106,112] } [] Tryz.func192 rfl rfl ?_;have hF:=y28 nm s;unfold j0i;refine z00 (λc=>?_) λc=>z00 (λc2=>?_) λc2=>z00 (λc3=>?_) λc3=>z00 (λc4=>?_) λc4=>z00 (λc5=>?_) λc5=>z00 (λc6=>?_) λc6=>?_
 all_goals try replace c:=Aa.1 c
 all_goals try replace c2:=Aa.1 c2
 all_goals try replace c3:=Aa.1 c3
 all_goals try replace c4:=Aa.1 c4
 all_goals try replace c5:=Aa.1 c5
 all_goals try replace c6:=Aa.1 c6
 ·rw[A5 (Av c)];exact⟨sI,Gf⟩
 ·rw[A1 c,A5 (Av c2)];have:=h3 (Av c2);generalize zb9 nm s=q at hF this
  cases q with
  |nil=>exact A9 rfl this
  |cons a r=>exact⟨[],hF,sR,Gf,rfl,sI,Gf⟩
 ·rw[A1 c,A1 c2,A5 (Av c3)];exact⟨z02 (f:=eInt) (z3n (i:=0) (h1 (.inr (Av c3)))),rfl,sI,Gf⟩
 ·rw[A1 c,A1 c2,A1 c3,A5 (Av c4)];exact⟨z02 (f:=eInt) (z3n (i:=0) (h1 (.inl (Av c4)))),rfl,[],y4t _ _,sR,Gf,rfl,sI,Gf⟩
 ·rw[A1 c,A1 c2,A1 c3,A1 c4,A5 (Av c5)];have h:=h5 (Av c5);have hT:=y4t o (l.getD 0 0);generalize zx6 o (l.getD 0 0)=t at hT;obtain⟨t1,t2⟩:=t;refine⟨z02 (f:=eInt) (z3n (i:=0) oM0),rfl,[],hT,sR,Gf,rfl,?_⟩
  cases t2 with
  |true=>exact⟨z02 (f:=eInt) (z3n (i:=0) oM0),rfl,z02 (f:=eInt) (z3n (i:=1) oM0),rfl,sI,Gf⟩
  |false=>exact⟨sI,Gf⟩
 ·rw[A1 c,A1 c2,A1 c3,A1 c4,A1 c5,A5 (Av c6)];obtain⟨i,g1,g2⟩:=zy8 (h7 (Av c6));exact⟨[],zf5 p nm hf,sR,Gf,rfl,zb2 g2,g1,[],sc_tyEq l _ hl,H0 (H0 sFn),Gf,rfl,sI,Gf⟩
 ·rw[A1 c,A1 c2,A1 c3,A1 c4,A1 c5,A1 c6];exact⟨sI,Gf⟩
theorem yk2{p:Pg}{s:Sc}{nm:ByteArray}{len:Nat}(h:z8i p s 3 nm len=0):zb9 nm s≠[]:=λe=>by
 unfold z8i at h;rw[A5 rfl,e]at h;exact A9 h dC0
theorem yb2{p:Pg}{s:Sc}{nm:ByteArray}{len:Nat}(h:z8i p s 7 nm len=0):0<=z3l p nm/\(fuAt p (z3l p nm)).params.length=len:=by
 unfold z8i at h;rw[A1 dC0,A1 dC0,A5 rfl]at h;split at h
 ·exact A9 h dC0
 ·rename_i g;refine⟨by omega,?_⟩;unfold zy2 at h;split at h
  ·rename_i g2;exact Av g2
  ·exact A9 h dC0
theorem ya9(p:Pg)(s:Sc):∀l,(z73 p s l).2=0->(z73 p s l).1.length=l.length
 |[],_=>rfl
 |e::r,h=>by
  rw[z73]at h⊢;split at h
  ·rename_i g;rw[A5 g];split at h
   ·rename_i g2;rw[A5 g2];simp[ya9 p s r g2]
   ·rename_i g2;exact A9 h g2
  ·rename_i g;exact A9 h g
theorem y53{p:Pg}{s:Sc}:∀{l:List Ex}{i:Nat}{e:Ex},(∀x∈l.take i,(z5e p s x).2=0)->l.drop i=e::l.drop (i+1)->(z5e p s e).2≠0->z73 p s l=([],(z5e p s e).2)
 |[],i,e,_,h,_=>by simp at h
 |x::r,0,e,_,h,he=>by
  simp only[List.drop_zero,List.cons.injEq]at h
  rw[z73,h.1,A1 he]
 |x::r,i+1,e,hq,h,he=>by
  have:=y53 (l:=r) (i:=i) (λy hy=>hq y (by simp[hy])) (by simpa using h) he;rw[z73,A5 (hq x sI0),this,A1 he]
theorem ya8{p:Pg}{s:Sc}:∀{l:List Ex},(∀x∈l,(z5e p s x).2=0)->z73 p s l=(l.map λx=>(z5e p s x).1,0)
 |[],_=>rfl
 |x::r,hq=>by
  have:=ya8 (l:=r) (λy hy=>hq y (by simp[hy]));rw[z73,A5 (hq x sI0),this];rfl
def fYE(p:Pg)(s:Sc)(e:Ex):Prop:=SC Tryz.prog 156 [.pv p.enc,.pv (scV s),.pv (exv e)] [] (λk=>k∈[]) (.tup [iInt (z5e p s e).1,iInt (z5e p s e).2]) []
theorem j4l(p:Pg)(s:Sc)(k o n:Int)(nm:ByteArray)(args:List Ex)(hl:args.length<=1073741824)(ih:∀x∈args,fYE p s x) :
 SC Tryz.prog 191 [.pv p.enc,.pv (scV s),.pv (.agg [vInt k,vInt o,vInt n,vStr nm,exs args])] [] (λk=>k∈[]) (.tup [.pv (ints (z73 p s args).1),iInt (z73 p s args).2]) []:=by
 refine K0 tb { pb:=[103,105,109],gh:=[(1,[.grow 6 1001 3 1]),(9,[.fz 6 1001])] } [] Tryz.func191 rfl rfl ?_;refine⟨Nat,λi=>[(15,iInt ((i:Nat):Int)),(6,.sl 1001 (((args.take i).map λx=>(z5e p s x).1).map eInt).length)],λi=>[(1001,.row ⟨3,1⟩ (((args.take i).map λx=>(z5e p s x).1).map eInt))],λi=>args.length-i,λi=>i<=args.length/\∀x∈args.take i,(z5e p s x).2=0,[],0,⟨Aj _,λx hx=>by simp at hx⟩,Gi,Gg,?_⟩;rintro i ⟨i1,i2⟩;refine z00 (λhc=>?_) λhc=>?_
 ·have hlt:i<args.length:=z12 (f:=Ex.enc) rfl hc;obtain⟨x,x1,x2,x3,x4⟩:=z0u hlt;refine⟨z1f x1,rfl,[],ih x x4,sR,Gf,rfl,z00 (λc=>?_) λc=>?_⟩
  ·have c:(z5e p s x).2≠0:=by simpa using c
   rw[y53 i2 x3 c];exact⟨sT2 sN,Gf⟩
  ·have c:(z5e p s x).2=0:=by simpa using c
   exact⟨rfl,z3u rfl,by simp;omega,z01 rfl oM0,i+1,z05 hlt,⟨hlt,λy hy=>by rw[x2]at hy;rcases B3.1 hy with g|g;exact i2 y g;rw[Al.1 g];exact c⟩,⟨rfl,slq (by simp;omega),Gf⟩,⟨rwq (by rw[x2];simp[eInt]),Gf⟩,rfl,rfl,rfl,rfl⟩
 ·have hge:args.length<=i:=z13 (f:=Ex.enc) rfl hc;rw[Az hge]at i2⊢;rw[ya8 i2];exact⟨rfl,sI,Gf⟩
def szP(p:Pg):Prop:=p.funcs.length<=1073741824/\p.arrays.length<=1073741824
theorem y9j(p:Pg)(hp:szP p)(s:Sc):∀(N:Nat)(e:Ex),SizeOf.sizeOf e<N->xz e<=1073741824->∀most,rx e most=true->fYE p s e
 |0,_,h,_,_,_=>A9 h (An _)
 |N+1,.mk k o n nm args,hN,hx,most,hr=>by
  have hl:=zc8 args;simp only[xz]at hx;rw[rx,A0]at hr;have hA:=j4l p s k o n nm args oM0 (λx hm=>y9j p hp s N x (by have:=Br hm;simp at hN;omega) (by have:=zh6 hm;omega) (most-1) (y6i hr.1 hm).2);have hlen:=ya9 p s args;refine K0 tb { pb:=[103,105] } [] Tryz.func156 rfl rfl ?_;unfold z5e;refine⟨[],yz4 p s k o n nm args hp.1 hp.2,sR,Gf,rfl,z00 (λc=>?_) λc=>?_⟩
  ·have c:¬z8i p s k nm args.length=0:=by simpa using c
   rw[A1 c];exact⟨sI,Gf⟩
  ·have c:z8i p s k nm args.length=0:=by simpa using c
   rw[A5 c];generalize z73 p s args=A at hA hlen;obtain⟨a1,a2⟩:=A;dsimp only at hlen⊢;refine⟨[],hA,sR,Gf,rfl,z00 (λc2=>?_) λc2=>?_⟩
   ·have c2:¬a2=0:=by simpa using c2
    rw[A1 c2];exact⟨sI,Gf⟩
   ·have c2:a2=0:=by simpa using c2
    rw[A5 c2];have h:=hlen c2;have hcs:=y43 hr.2;have hM:=j4m p s k o n nm args a1 oM0 hp.1 (λe=>by subst e;exact yk2 c) (λe=>by subst e;exact(yb2 c).1) (λe=>by omega) (λe=>by omega);generalize j0i p s k o nm a1=M at hM;obtain⟨m1,m2⟩:=M;refine⟨[],hM,sR,Gf,rfl,z00 (λc3=>?_) λc3=>?_⟩
    ·have c3:m2=false:=by simpa using c3
     subst c3;exact⟨sI,Gf⟩
    ·have c3:m2=true:=by simpa using c3
     subst c3;exact⟨sI,Gf⟩
def fnO(p:Pg)(res:Int)(n:Nat):List (Nat×HO):=[(1,.box [.pv (arrs p.arrays),.pv (fus p.funcs),iInt res,iInt (n:Nat)])]
def fYW(p:Pg)(s:Sc)(e:Ex):Prop:=∀(res:Int)(n:Nat)(t:Int),SC Tryz.prog 155 [.ptr 1 0,.pv (scV s),.pv (exv e),.pv (.val (.int .i64 t))] (fnO p res n) (λk=>k∈[]) (iInt (ze4 p s e t)) (fnO p res n)
theorem j4o(p:Pg)(s:Sc)(e:Ex)(h:fYE p s e):fYW p s e:=by
 intro res n t;refine K0 tb { pb:=[106] } [] Tryz.func155 rfl rfl ?_;unfold ze4;unfold fYE at h;generalize z5e p s e=E at h;obtain⟨e1,e2⟩:=E;refine⟨[],h,sR,Gf,rfl,z00 (λc=>?_) λc=>?_⟩
 ·have c:¬e2=0:=by simpa using c
  rw[A1 c];exact⟨sI,rfl,Gf⟩
 ·have c:e2=0:=by simpa using c
  rw[A5 c];exact⟨[],z5y _ 51,sR,Gf,rfl,sI,rfl,Gf⟩
theorem yz1(p:Pg)(hp:szP p)(s:Sc)(k ty:Int)(nm:ByteArray)(args:List Ex)(thn els:List St)(depth:Int)(hk:(k=1/\∃e,args=[e])∨(k=2/\∃e,args=[e])∨(k=3/\∃e e2,args=[e,e2]))(hw:∀e∈args,fYW p s e)(res:Int)(n:Nat) :
 SC Tryz.prog 158 [.ptr 1 0,.pv (.agg [vInt k,vInt ty,vStr nm,exs args,sts thn,sts els]),.pv (scV s),.pv (.val (.int .i64 depth))] (fnO p res n) (λk=>k∈[]) (iInt (yb0 p s k ty nm args depth)) (fnO p res n):=by
 refine K0 tb { pb:=[105] } [] Tryz.func158 rfl rfl ?_;have hF:=y28 nm s;unfold yb0;generalize zb9 nm s=q at hF;rcases hk with⟨rfl,e,rfl⟩|⟨rfl,e,rfl⟩|⟨rfl,e,e2,rfl⟩
 ·rw[A5 rfl];have W:=hw e sI0 res n ty;have hg:([e].getD 0 ex0)=e:=rfl;rw[hg];refine⟨[],hF,sR,Gf,rfl,z1f (i:=0) rfl,rfl,[],W,sR,Gg,rfl,z00 (λc=>?_) λc=>?_⟩
  ·have c:¬ze4 p s e ty=0:=by simpa using c
   rw[A1 c];exact⟨sI,rfl,Gf⟩
  ·have c:ze4 p s e ty=0:=by simpa using c
   rw[A5 c]
   cases q with
   |nil=>exact⟨[],z5y true 50,sR,Gf,rfl,sI,rfl,Gf⟩
   |cons a r=>exact⟨[],z5y _ 50,sR,Gf,rfl,sI,rfl,Gf⟩
 ·rw[A1 dC0,A5 rfl]
  cases q with
  |nil=>exact⟨[],hF,sR,Gf,rfl,sI,rfl,Gf⟩
  |cons a r =>
   obtain⟨a1,a2,a3⟩:=a;have W:=hw e sI0 res n a2;exact⟨[],hF,sR,Gf,rfl,z1f (i:=0) rfl,rfl,[],W,sR,Gg,rfl,sI,rfl,Gf⟩
 ·rw[A1 dC0,A1 dC0];have W:=hw e sI0 res n 1;have W2:=hw e2 sI0 res n 1;have hg:([e,e2].getD 0 ex0)=e:=rfl;have hg2:([e,e2].getD 1 ex0)=e2:=rfl;rw[hg,hg2];refine⟨[],hF,sR,Gf,rfl,[],y4s p nm hp.2,sR,Gf,rfl,z00 (λc=>?_) λc=>?_⟩
  ·rw[A5 (Ap c)];exact⟨sI,rfl,Gf⟩
  ·rw[A1 (Am c)];refine⟨z1f (i:=0) rfl,rfl,[],W,sR,Gg,rfl,z00 (λc2=>?_) λc2=>?_⟩
   ·have c2:¬ze4 p s e 1=0:=by simpa using c2
    rw[A1 c2];exact⟨sI,rfl,Gf⟩
   ·have c2:ze4 p s e 1=0:=by simpa using c2
    rw[A5 c2];exact⟨z1f (i:=1) rfl,rfl,[],W2,sR,Gg,rfl,sI,rfl,Gf⟩
theorem j4n(p:Pg)(hp:szP p)(s:Sc)(x:St)(depth:Int)(loop:Bool)(most:Int)(hr:rst x most=true)(hw:∀e∈x.args,fYE p s e)(res:Int)(n:Nat) :
 SC Tryz.prog 105 [.ptr 1 0,.pv (stv x),.pv (scV s),.pv (.val (.int .i64 depth)),iBool loop] (fnO p res n) (λk=>k∈[]) (iInt (zy3 p res s x.kind x.ty x.name x.args depth loop)) (fnO p res n):=by
 refine K0 tb { pb:=[106] } [] Tryz.func105 rfl rfl ?_;rw[y4a]at hr;simp only[A0,Bi]at hr;obtain⟨h1,hc⟩:=zn5 hr.1.1.1.1 hr.1.1.2;have hW:∀e∈x.args,fYW p s e:=λe he=>j4o p s e (hw e he);clear hr;obtain⟨k,ty,nm,args,thn,els⟩:=x;simp only[St.kind,St.ty,St.name,St.args,St.thn,St.els]at *
 have hB:=λhk=>yz1 p hp s k ty nm args thn els depth hk hW res n;unfold zy3;rcases hc with⟨rfl,t,nn,⟨e,rfl⟩,rfl,rfl⟩|⟨rfl,rfl,nn,⟨e,rfl⟩,rfl,rfl⟩|⟨rfl,rfl,nn,⟨e,e2,rfl⟩,rfl,rfl⟩|⟨rfl,rfl,nn,⟨e,rfl⟩⟩|⟨rfl,rfl,nn,⟨e,rfl⟩,rfl⟩|⟨rfl,rfl,nn,rfl,rfl,rfl⟩|⟨rfl,rfl,nn,rfl,rfl,rfl⟩|⟨rfl,rfl,nn,⟨e,rfl⟩,rfl,rfl⟩|⟨rfl,rfl,nn,⟨e,rfl⟩,rfl,rfl⟩|⟨rfl,rfl,nn,⟨e,rfl,e7⟩,rfl,rfl⟩
 ·exact⟨[],hB (.inl ⟨rfl,e,rfl⟩),sR,Gg,rfl,sI,rfl,Gf⟩
 ·exact⟨[],hB (.inr (.inl ⟨rfl,e,rfl⟩)),sR,Gg,rfl,sI,rfl,Gf⟩
 ·exact⟨[],hB (.inr (.inr ⟨rfl,e,e2,rfl⟩)),sR,Gg,rfl,sI,rfl,Gf⟩
 iterate 2 exact⟨z1f (i:=0) rfl,rfl,[],hW e sI0 res n 2,sR,Gg,rfl,sI,rfl,Gf⟩
 iterate 2 exact⟨[],z5y loop 53,sR,Gf,rfl,sI,rfl,Gf⟩
 ·exact⟨z1f (i:=0) rfl,rfl,[],hW e sI0 res n res,sR,Gg,rfl,sI,rfl,Gf⟩
 ·exact⟨z1f (i:=0) rfl,rfl,[],hW e sI0 res n 1,sR,Gg,rfl,sI,rfl,Gf⟩
 ·have hE:=hw e sI0;exact⟨z1f (i:=0) rfl,rfl,[],hE,sR,Gf,rfl,sI,rfl,Gf⟩
theorem j6f(p:Pg)(res:Int)(x:St)(s:Sc)(depth:Int)(loop:Bool)(n:Nat):yOne p res x s depth loop n=if zy3 p res s x.kind x.ty x.name x.args depth loop=0 then
 if (z2g p res x.thn (z6s s x.kind x.ty x.name depth) (depth+1) (loop||x.kind==5) (n+1)).1=0 then
  z2g p res x.els (z6s s x.kind x.ty x.name depth) (depth+1) loop (z2g p res x.thn (z6s s x.kind x.ty x.name depth) (depth+1) (loop||x.kind==5) (n+1)).2
 else z2g p res x.thn (z6s s x.kind x.ty x.name depth) (depth+1) (loop||x.kind==5) (n+1)
 else(zy3 p res s x.kind x.ty x.name x.args depth loop,n):=by
 cases x;rw[yOne];rfl
theorem zp9(p:Pg)(res:Int):∀(N:Nat)(l:List St),SizeOf.sizeOf l<N->∀(s:Sc)(depth:Int)(loop:Bool)(n:Nat),(z2g p res l s depth loop n).2<=n+szL l
 |0,_,h,_,_,_,_=>A9 h (An _)
 |N+1,[],_,s,depth,loop,n=>by rw[z2g];simp[szL]
 |N+1,x::r,hN,s,depth,loop,n=>by
  have hx:=zt7 x;simp at hN;have h1:(yOne p res x s depth loop n).2<=n+sz x:=by
   rw[j6f,y33];have a1:=zp9 p res N x.thn oM0 (z6s s x.kind x.ty x.name depth) (depth+1) (loop||x.kind==5) (n+1);have a2:=λm=>zp9 p res N x.els oM0 (z6s s x.kind x.ty x.name depth) (depth+1) loop m;split
   ·split
    ·have:=a2 (z2g p res x.thn (z6s s x.kind x.ty x.name depth) (depth+1) (loop||x.kind==5) (n+1)).2;omega
    ·omega
   ·dsimp only;omega
  have h2:=zp9 p res N r oM0 (z6s s x.kind x.ty x.name depth) depth loop (yOne p res x s depth loop n).2;rw[z2g,szL];split
  iterate 2 omega
theorem zt4(p:Pg)(hp:szP p)(res:Int):∀(N:Nat)(l:List St),SizeOf.sizeOf l<N->szL l<=1073741824->∀most,rsL l most=true->∀(s:Sc)(depth:Int)(loop:Bool)(n:Nat),0<=depth->depth+most<=1073741824->0<=most->n+szL l<=1073741824 ->
 SC Tryz.prog 60 [.ptr 1 0,.pv (sts l),.pv (scV s),.pv (.val (.int .i64 depth)),iBool loop] (fnO p res n) (λk=>k∈[]) (iInt (z2g p res l s depth loop n).1) (fnO p res (z2g p res l s depth loop n).2)
 |0,_,h,_,_,_,_,_,_,_,_,_,_,_=>A9 h (An _)
 |N+1,l,hN,hx,most,hr,s,depth,loop,n,hd,hd2,hm0,hn=>by
  generalize hR:z2g p res l s depth loop n=R;refine K0 tb { pb:=[112],jn:=[10] } [] Tryz.func60 rfl rfl ?_;have hll:=z8p l;refine⟨Nat×Sc×Nat,λa=>[(18,iInt ((a.1:Nat):Int)),(2,.pv (scV a.2.1))],λa=>fnO p res a.2.2,λa=>l.length-a.1,λa=>a.1<=l.length/\R=z2g p res (l.drop a.1) a.2.1 depth loop a.2.2/\a.2.2+szL (l.drop a.1)<=1073741824,[],(0,s,n),⟨Aj _,hR.symm,hn⟩,Gi,Gg,?_⟩;rintro⟨i,q,m⟩ ⟨i1,i2,i3⟩;dsimp only at i1 i2 i3;refine z00 (λhc=>?_) λhc=>?_
  ·have hlt:i<l.length:=z12 (f:=St.enc) rfl hc;obtain⟨x,x1,x2,x3,x4⟩:=z0u hlt;rw[x3,z2g,j6f]at i2;rw[x3,szL]at i3;have hxr:=y1q hr x4;have hxr2:=hxr;rw[y4a]at hxr2;simp only[A0,Bi]at hxr2;have hmost:=(zn5 hxr2.1.1.1.1 hxr2.1.1.2).1;have hsz:=zx5 x4;have hsz2:=y33 x;have hso:=zt7 x;have hmem:=Br x4;have hE:∀e∈x.args,fYE p q e:=λe he=>y9j p hp q _ e (Ac _) (by have:=zh6 he;omega) 100 (Bj.1 hxr2.1.1.1.2 e he);have hS:=j4n p hp q x depth loop most hxr hE res m;refine⟨zk5 x1,rfl,?_⟩;generalize zy3 p res q x.kind x.ty x.name x.args depth loop=e0 at hS i2;refine⟨[],hS,sR,Gg,rfl,z00 (λc=>?_) λc=>?_⟩
   ·have c:¬e0=0:=by simpa using c
    rw[A1 c,A1 c]at i2;subst i2;exact⟨sI,rfl,Gf⟩
   ·have c:e0=0:=by simpa using c
    rw[A5 c]at i2;refine⟨z01 (z:=((m+1:Nat):Int)) oM0 oM0,Unit,λ_=>[(2,.pv (scV (z6s q x.kind x.ty x.name depth)))],λ_=>[],λ_=>True,[],?_,?_⟩
    ·refine z00 (λk1=>?_) λk1=>?_
     ·exact⟨[],y9k q x.name x.ty depth,sR,Gf,rfl,(),Gf,⟨by unfold z6s;rw[A5 (Av k1)];rfl,Gf⟩,Gf,rfl,rfl,rfl,rfl⟩
     ·exact⟨(),Gf,⟨by unfold z6s;rw[A1 (Aa.1 k1)];rfl,Gf⟩,Gf,rfl,rfl,rfl,rfl⟩
    ·rintro _ _;generalize z6s q x.kind x.ty x.name depth=q2 at i2;have b1:=zt4 p hp res N x.thn oM0 oM0 (most-1) hxr2.1.2 q2 (depth+1) (loop||x.kind==5) (m+1) oM0 oM0 oM0 oM0;have n1:=zp9 p res _ x.thn (Ac _) q2 (depth+1) (loop||x.kind==5) (m+1);generalize z2g p res x.thn q2 (depth+1) (loop||x.kind==5) (m+1)=B1 at b1 n1 i2;obtain⟨e1,m1⟩:=B1;dsimp only at b1 n1 i2;have b2:=zt4 p hp res N x.els oM0 oM0 (most-1) hxr2.2 q2 (depth+1) loop m1 oM0 oM0 oM0 oM0;have n2:=zp9 p res _ x.els (Ac _) q2 (depth+1) loop m1;generalize z2g p res x.els q2 (depth+1) loop m1=B2 at b2 n2 i2;obtain⟨e2,m2⟩:=B2;dsimp only at b2 n2 i2;have hdp:z3f .add .i64 depth 1=some (.int .i64 (depth+1)):=z01 rfl oM0;clear hS hE hR;refine⟨hdp,z00 (λk5=>?_) λk5=>?_⟩
     all_goals
      subst k5;refine⟨[],b1,sR,Gg,rfl,z00 (λc1=>?_) λc1=>?_⟩
      ·have c1:¬e1=0:=by simpa using c1
       rw[A1 c1,A1 c1]at i2;subst i2;exact⟨sI,rfl,Gf⟩
      ·have c1:e1=0:=by simpa using c1
       rw[A5 c1]at i2;refine⟨hdp,[],b2,sR,Gg,rfl,z00 (λc2=>?_) λc2=>?_⟩
       ·have c2:¬e2=0:=by simpa using c2
        rw[A1 c2]at i2;subst i2;exact⟨sI,rfl,Gf⟩
       ·have c2:e2=0:=by simpa using c2
        rw[A5 c2]at i2;exact⟨z01 rfl oM0,(i+1,q2,m2),z05 hlt,⟨hlt,i2,by dsimp only;omega⟩,Gi,Gg,rfl,rfl,rfl,rfl⟩
  ·have hge:l.length<=i:=z13 (f:=St.enc) rfl hc;rw[Ae hge,z2g]at i2;subst i2;exact⟨sI,rfl,Gf⟩
theorem j23:∀l:List St,lvs l=l.any lvS
 |[]=>by rw[lvs];rfl
 |x::r=>by rw[lvs,j23 r];rfl
theorem j14:∀l:List St,ens l=l.any enS
 |[]=>by rw[ens];rfl
 |x::r=>by rw[ens,j14 r];rfl
theorem lvS_eq(x:St):lvS x=(x.kind==6||(x.kind==4&&(lvs x.thn||lvs x.els))):=by cases x;rw[lvS];rfl
theorem enS_eq(x:St):enS x=if x.kind=8 then true else if x.kind=4 then ens x.thn&&ens x.els else if x.kind=5 then((x.args.getD 0 ex0).kind==2&&((x.args.getD 0 ex0).n==1 && !lvs x.thn))else false:=by cases x;rw[enS];rfl
theorem zk0:∀(N:Nat)(l:List St),SizeOf.sizeOf l<N->l.length<=1073741824->szL l<=1073741824->SC Tryz.prog 108 [.pv (sts l)] [] (λk=>k∈[]) (iBool (lvs l)) []
 |0,_,h,_,_=>A9 h (An _)
 |N+1,l,hN,hl,hz=>by
  have hc:=y6n 159 [] rfl lvS l oM0 (λx hm=>by
   have hsz:SizeOf.sizeOf x.thn<N/\SizeOf.sizeOf x.els<N:=by have:=Br hm;have:=zt7 x;omega
   have h1:=zx5 hm;have h2:=y33 x;have h3:=z8p x.thn;have h4:=z8p x.els;have a1:=zk0 N x.thn hsz.1 oM0 oM0;have a2:=zk0 N x.els hsz.2 oM0 oM0;rw[lvS_eq];refine K0 tb { pb:=[101] } [] Tryz.func159 rfl rfl ?_;refine z00 (λc=>?_) λc=>z00 (λc2=>?_) λc2=>?_
   ·have c:(x.kind==6)=true:=c;exact⟨sE (by rw[c];rfl),Gf⟩
   ·have c:(x.kind==6)=false:=c;have c2:(x.kind==4)=true:=c2;rw[c,c2];generalize lvs x.thn=q1 at a1;refine⟨[],a1,sR,Gf,rfl,?_⟩
    cases q1 with
    |true=>exact⟨sI,Gf⟩
    |false=>exact⟨[],a2,sR,Gf,rfl,sI,Gf⟩
   ·have c:(x.kind==6)=false:=c;have c2:(x.kind==4)=false:=c2;exact⟨sE (by rw[c,c2];rfl),Gf⟩)
  rw[<- j23]at hc;refine K0 tb {} [] Tryz.func108 rfl rfl ?_;exact⟨[],hc,H0 sFn,Gf,rfl,sI,Gf⟩
theorem y27:∀(N:Nat)(l:List St),SizeOf.sizeOf l<N->szL l<=1073741824->∀most,rsL l most=true->SC Tryz.prog 62 [.pv (sts l)] [] (λk=>k∈[]) (iBool (ens l)) []
 |0,_,h,_,_,_=>A9 h (An _)
 |N+1,l,hN,hz,most,hr=>by
  have hl:=z8p l;have hc:=y6n 107 [] rfl enS l oM0 (λx hm=>by
   have hsz:SizeOf.sizeOf x.thn<N/\SizeOf.sizeOf x.els<N:=by have:=Br hm;have:=zt7 x;omega
   have h1:=zx5 hm;have h2:=y33 x;have h3:=z8p x.thn;have hxr:=y1q hr hm;rw[y4a]at hxr;simp only[A0,Bi]at hxr;have a1:=y27 N x.thn hsz.1 oM0 (most-1) hxr.1.2;have a2:=y27 N x.els hsz.2 oM0 (most-1) hxr.2;have a3:=zk0 _ x.thn (Ac _) oM0 oM0;have hcs:=(zn5 hxr.1.1.1.1 hxr.1.1.2).2;rw[enS_eq];refine K0 tb { pb:=[101] } [] Tryz.func107 rfl rfl ?_;refine z00 (λc=>?_) λc=>z00 (λc2=>?_) λc2=>z00 (λc3=>?_) λc3=>?_
   ·have c:x.kind=8:=Av c;rw[A5 c];exact⟨sI,Gf⟩
   ·have c:¬x.kind=8:=Aa.1 c;have c2:x.kind=4:=Av c2;rw[A1 c,A5 c2];generalize ens x.thn=q1 at a1;refine⟨[],a1,sR,Gf,rfl,?_⟩
    cases q1 with
    |false=>exact⟨sI,Gf⟩
    |true=>exact⟨[],a2,sR,Gf,rfl,sI,Gf⟩
   ·have c:¬x.kind=8:=Aa.1 c;have c2:¬x.kind=4:=Aa.1 c2;have c3:x.kind=5:=Av c3;obtain⟨e,he⟩:∃e,x.args=[e]:=by
     rw[c3]at hcs;rcases hcs with h|h|h|h|h|h|h|h|h|h
     iterate 4 exact A9 h.1 dC0
     ·exact h.2.2.2.1
     iterate 5 exact A9 h.1 dC0
    have hg:(x.args.getD 0 ex0)=e:=by rw[he];rfl
    have hx:x.args[0]?=some e:=by rw[he];rfl
    rw[A1 c,A1 c2,A5 c3,hg];refine⟨z1f hx,rfl,z00 (λk1=>?_) λk1=>?_⟩
    ·refine⟨z1f hx,rfl,z00 (λk2=>?_) λk2=>?_⟩
     ·have k1:(e.kind==2)=true:=k1;have k2:(e.n==1)=true:=k2;rw[k1,k2];exact⟨[],a3,sR,Gf,rfl,sI,Gf⟩
     ·have k1:(e.kind==2)=true:=k1;have k2:(e.n==1)=false:=k2;rw[k1,k2];exact⟨sI,Gf⟩
    ·have k1:(e.kind==2)=false:=k1;rw[k1];exact⟨sI,Gf⟩
   ·have c:¬x.kind=8:=Aa.1 c;have c2:¬x.kind=4:=Aa.1 c2;have c3:¬x.kind=5:=Aa.1 c3;rw[A1 c,A1 c2,A1 c3];exact⟨sI,Gf⟩)
  rw[<- j14]at hc;refine K0 tb {} [] Tryz.func62 rfl rfl ?_;exact⟨[],hc,H0 sFn,Gf,rfl,sI,Gf⟩
def yf4:ByteArray:=⟨#[109,97,105,110]⟩
def z8k(es:List (Value×PV))(l:List ByteArray):List (Value×PV):=l.foldl (λe s=>bump s e) es
theorem zk9:∀(l:List ByteArray) {es:List (Value×PV)},Cnt es->Cnt (z8k es l)
 |[],_,h=>h
 |s::r,_,h=>zk9 r (h.bump s)
theorem zq2(es:List (Value×PV))(l:List ByteArray)(s:ByteArray):z8k es (l++[s])=bump s (z8k es l):=by unfold z8k;rw[E4];rfl
theorem zu6{α:Type}(f:α -> ByteArray){l:List α}{i:Nat}{x:α}(h:l.take (i+1)=l.take i++[x]):(l.map f).take (i+1)=(l.map f).take i++[f x]:=by
 rw[<- Ek,h,Cp,Ek];rfl
def y54(p:Pg):Bool :=
 ((z8k (z8k [] (p.arrays.map Ar.name)) (p.funcs.map Fu.name)).length:Int)==p.arrays.length+p.funcs.length&&(decide (z3l p yf4≥0)&&((fuAt p (z3l p yf4)).ty==1&&(fuAt p (z3l p yf4)).params.length==0))
theorem yz5(p:Pg)(hp:szP p):SC Tryz.prog 58 [.pv p.enc] [] (λk=>k∈[]) (iBool (y54 p)) []:=by
 refine K0 tb { pb:=[101] } [] Tryz.func58 rfl rfl ?_;obtain⟨hf,ha⟩:=hp;refine⟨Nat,λi=>[(13,iInt ((i:Nat):Int))],λi=>[(109,.map (z8k [] ((p.arrays.map Ar.name).take i)))],λi=>p.arrays.length-i,λi=>i<=p.arrays.length,[],0,Aj _,Gg,Gg,?_⟩;intro i hi;have hc0:=zk9 ((p.arrays.map Ar.name).take i) (es:=[]) Cnt.nil;refine z00 (λhc=>?_) λhc=>?_
 ·have hlt:i<p.arrays.length:=z12 (f:=Ar.enc) rfl hc;obtain⟨x,x1,x2,x3,x4⟩:=z0u hlt;have hs:=zu6 Ar.name x2;have hs2:z8k [] ((p.arrays.map Ar.name).take (i+1))=bump x.name (z8k [] ((p.arrays.map Ar.name).take i)):=by rw[hs,zq2]
  obtain⟨n,hn⟩:=hc0.find (.string x.name);refine⟨y36 x1,rfl,VAsk.mk (p:=vInt n) (b:=(z1z (.string x.name) (z8k [] ((p.arrays.map Ar.name).take i))).isSome) rfl hc0.1 (Ec hn rfl) ⟨rfl,rfl,hc0.1,z01 rfl oM0,i+1,z05 hlt,hlt,Gg,⟨mpq (by rw[hs2];exact(zh7 hn).symm),Gf⟩,rfl,rfl,rfl,rfl⟩⟩
 ·have hge:p.arrays.length<=i:=z13 (f:=Ar.enc) rfl hc;rw[Az (by simpa using hge)]at hc0⊢;have hP:=zf5 p yf4 hf;have hfu:=@zy8 p yf4;unfold y54;generalize z8k [] (p.arrays.map Ar.name)=e1 at hc0⊢;refine⟨Nat,λi=>[(26,iInt ((i:Nat):Int))],λi=>[(109,.map (z8k e1 ((p.funcs.map Fu.name).take i)))],λi=>p.funcs.length-i,λi=>i<=p.funcs.length,[],0,Aj _,Gg,Gg,?_⟩;intro i hi;have hc1:=zk9 ((p.funcs.map Fu.name).take i) hc0;refine z00 (λhc=>?_) λhc=>?_
  ·have hlt:i<p.funcs.length:=z12 (f:=Fu.enc) rfl hc;obtain⟨x,x1,x2,x3,x4⟩:=z0u hlt;have hs:=zu6 Fu.name x2;have hs2:z8k e1 ((p.funcs.map Fu.name).take (i+1))=bump x.name (z8k e1 ((p.funcs.map Fu.name).take i)):=by rw[hs,zq2]
   obtain⟨n,hn⟩:=hc1.find (.string x.name);refine⟨zb2 x1,rfl,VAsk.mk (p:=vInt n) (b:=(z1z (.string x.name) (z8k e1 ((p.funcs.map Fu.name).take i))).isSome) rfl hc1.1 (Ec hn rfl) ⟨rfl,rfl,hc1.1,z01 rfl oM0,i+1,z05 hlt,hlt,Gg,⟨mpq (by rw[hs2];exact(zh7 hn).symm),Gf⟩,rfl,rfl,rfl,rfl⟩⟩
  ·have hge:p.funcs.length<=i:=z13 (f:=Fu.enc) rfl hc;rw[Az (by simpa using hge)];generalize z8k e1 (p.funcs.map Fu.name)=e2;have hadd:z3f .add .i64 ((p.arrays.map Ar.enc).length:Int) ((p.funcs.map Fu.enc).length:Int)=some (.int .i64 ((p.arrays.length:Int)+p.funcs.length)):=z01 sI0 oM0;refine⟨[],hP,sR,Gf,rfl,hadd,z00 (λc1=>?_) λc1=>?_⟩
   ·rw[c1,B6];refine z00 (λc2=>?_) λc2=>?_
    ·obtain⟨j,g1,g2⟩:=hfu (Ap c2);rw[c2,B6];refine⟨zb2 g2,g1,z00 (λc3=>?_) λc3=>?_⟩
     ·have c3:((fuAt p (z3l p yf4)).ty==1)=true:=c3;rw[c3,B6];exact⟨zb2 g2,g1,sE (Ah iBool (by rw[Cn];simp)),Gf⟩
     ·have c3:((fuAt p (z3l p yf4)).ty==1)=false:=c3;rw[c3];exact⟨sI,Gf⟩
    ·rw[c2];exact⟨sI,Gf⟩
   ·rw[c1];exact⟨sI,Gf⟩
def j6h(l:List Pm):Bool:=decide (((z8k [] (l.map Pm.name)).length:Int)<l.length)
theorem yz6(l:List Pm)(hl:l.length<=1073741824):SC Tryz.prog 59 [.pv (pms l)] [] (λk=>k∈[]) (iBool (j6h l)) []:=by
 refine K0 tb {} [] Tryz.func59 rfl rfl ?_;refine⟨Nat,λi=>[(9,iInt ((i:Nat):Int))],λi=>[(106,.map (z8k [] ((l.map Pm.name).take i)))],λi=>l.length-i,λi=>i<=l.length,[],0,Aj _,Gg,Gg,?_⟩;intro i hi;have hc0:=zk9 ((l.map Pm.name).take i) (es:=[]) Cnt.nil;refine z00 (λhc=>?_) λhc=>?_
 ·have hlt:i<l.length:=z12 (f:=Pm.enc) rfl hc;obtain⟨x,x1,x2,x3,x4⟩:=z0u hlt;have hs:=zu6 Pm.name x2;have hs2:z8k [] ((l.map Pm.name).take (i+1))=bump x.name (z8k [] ((l.map Pm.name).take i)):=by rw[hs,zq2]
  obtain⟨n,hn⟩:=hc0.find (.string x.name);refine⟨zw2 x1,rfl,VAsk.mk (p:=vInt n) (b:=(z1z (.string x.name) (z8k [] ((l.map Pm.name).take i))).isSome) rfl hc0.1 (Ec hn rfl) ⟨rfl,rfl,hc0.1,z01 rfl oM0,i+1,z05 hlt,hlt,Gg,⟨mpq (by rw[hs2];exact(zh7 hn).symm),Gf⟩,rfl,rfl,rfl,rfl⟩⟩
 ·have hge:l.length<=i:=z13 (f:=Pm.enc) rfl hc;rw[Az (by simpa using hge)];exact⟨sE (Ah iBool (by unfold j6h;rw[Ab])),Gf⟩
def yFun(p:Pg)(f:Fu):Int×Nat :=
 (if (z2g p f.ty f.body (ySc f.params) 1 false 0).1=0/\ens f.body=false then 52 else(z2g p f.ty f.body (ySc f.params) 1 false 0).1,(z2g p f.ty f.body (ySc f.params) 1 false 0).2)
def yb1(p:Pg):List Fu->Nat->Int×Int×Int
 |[],_=>(0,0,0)
 |f::r,i=>if j6h f.params then(50,i,0)else if (yFun p f).1=0 then yb1 p r (i+1)else((yFun p f).1,i,(yFun p f).2)
def z86(p:Pg):Int×Int×Int:=if y54 p then yb1 p p.funcs 0 else(50,0,0)
attribute [local irreducible] y54 z2g
theorem yz2(p:Pg)(hb:pz p.funcs<=1000000)(ha:p.arrays.length<=1000000)(hr:rPg p=true):SC Tryz.prog 34 [.pv p.enc] [] (λk=>k∈[]) (.tup [iInt (z86 p).1,.pv (.agg [vInt (z86 p).2.1,vInt (z86 p).2.2])]) []:=by
 refine K0 tb { pb:=[101,105],ids:=[(36,1)] } [] Tryz.func34 rfl rfl ?_;have hlp:=zm1 p.funcs;have hP:szP p:=⟨by omega,by omega⟩;have hN:=yz5 p hP;have hR:=yz0 p oM0 oM0 hr;unfold rPg at hr;simp only[A0]at hr;unfold z86;refine⟨[],hR,sR,Gf,rfl,[],hN,sR,Gf,rfl,z00 (λc=>?_) λc=>?_⟩
 ·rw[show y54 p=false by simpa using c];exact⟨sI,Gf⟩
 ·rw[show y54 p=true by simpa using c,A5 rfl];generalize hR:yb1 p p.funcs 0=R;refine⟨Nat,λi=>[(21,iInt ((i:Nat):Int))],λ_=>[],λi=>p.funcs.length-i,λi=>i<=p.funcs.length/\R=yb1 p (p.funcs.drop i) i,[],0,⟨Aj _,hR.symm⟩,Gg,Gf,?_⟩;rintro i ⟨i1,i2⟩;refine z00 (λhc=>?_) λhc=>?_
  ·have hlt:i<p.funcs.length:=z12 (f:=Fu.enc) rfl hc;obtain⟨x,x1,x2,x3,x4⟩:=z0u hlt;have hpz:=zw3 x4;have hrx:=Bj.1 hr.2 x x4;unfold rFu at hrx;simp only[A0]at hrx;rw[x3,yb1]at i2;refine⟨zb2 x1,rfl,[],yz6 x.params oM0,sR,Gf,rfl,z00 (λc1=>?_) λc1=>?_⟩
   ·rw[A5 c1]at i2;subst i2;exact⟨sI,Gf⟩
   ·rw[A1 (by rw[c1];decide)]at i2;have hB:=zt4 p hP x.ty _ x.body (Ac _) oM0 100 hrx.1.2 (ySc x.params) 1 false 0 dC0 dC0 dC0 oM0;have hE:=y27 _ x.body (Ac _) oM0 100 hrx.1.2;unfold yFun at i2;generalize z2g p x.ty x.body (ySc x.params) 1 false 0=B at hB i2;obtain⟨b1,b2⟩:=B;dsimp only at hB i2;refine⟨[],yh7 x.params oM0,sR,Gf,rfl,[],hB,sR,Gg,rfl,z00 (λc2=>?_) λc2=>?_⟩
    ·have c2:b1=0:=by simpa using c2
     subst c2;refine⟨[],hE,sR,Gf,rfl,z00 (λc3=>?_) λc3=>?_⟩
     ·rw[show(if (0:Int)=0/\ens x.body=false then(52:Int)else 0)=52 from A5 ⟨rfl,by simpa using c3⟩,A1 dC0]at i2;subst i2;exact⟨sI,Gf⟩
     ·have c3:ens x.body=true:=by simpa using c3
      rw[show(if (0:Int)=0/\ens x.body=false then(52:Int)else 0)=0 from A1 (λh=>by rw[c3]at h;cases h.2),A5 rfl]at i2;exact⟨z01 rfl oM0,i+1,z05 hlt,⟨hlt,i2⟩,Gg,Gf,rfl,rfl,rfl,rfl⟩
    ·have c2:¬b1=0:=by simpa using c2
     rw[show(if b1=0/\ens x.body=false then(52:Int)else b1)=b1 from A1 (λh=>c2 h.1),A1 c2]at i2;subst i2;exact z00 (λ_=>⟨sI,Gf⟩) λh=>A9 h (by simp[c2])
  ·have hge:p.funcs.length<=i:=z13 (f:=Fu.enc) rfl hc;rw[Ae hge,yb1]at i2;subst i2;exact⟨sI,Gf⟩
theorem SC.nilArg{P:Program}{f:FuncId}{xs:List IV}{pre post:List (Nat×HO)}{R:Nat->Prop}{r:IV}(h:∀a cap,cap<=maxLen->SC P f (.pv (.val (.slice a 0 cap))::xs) pre R r post):SC P f (.pv (.seq [])::xs) pre R r post:=by
 intro F ρ w vs hk hr hargs;obtain⟨v,hv,h1⟩:=hargs.2 0 _ rfl
 cases h1 with
 |pv _ _ h1 =>
  cases h1 with
  |seq _ a cap b off u ha hb hl hm hc hr1 =>
   refine h a cap hm F ρ w vs hk hr ⟨hargs.1,λt x hx=>?_⟩
   cases t with
   |zero=>cases hx;exact⟨_,hv,z3c _⟩
   |succ t=>exact hargs.2 (t+1) x hx
theorem yf8:SC Tryz.prog 35 [.pv (.seq [])] [] (λk=>k∈[]) (.pv (.seq [])) []:=by
 refine SC.nilArg λa cap hc=>?_
 cases a with
 |none =>
  refine K0 tb { } [] Tryz.func35 rfl rfl ?_
  exact⟨sN,Gf⟩
 |some a =>
  refine SC.give (k:=7) (n:=0) (s:=⟨84,2⟩) (els:=[]) ?_ rfl rfl;refine K0 tb { ids:=[(5,7)],ob:=[7],gh:=[(3,[.un 0])] } [] Tryz.func35 rfl rfl ?_;exact⟨hc,rfl,(λel h=>A9 h (C1)),by decide,sI,rfl,Gf⟩
theorem yx5(l:List Ar)(hne:l≠[])(hl:l.length<=1073741824):SC Tryz.prog 35 [.pv (arrs l)] [] (λk=>k∈[]) (.sl 7 (l.map Ar.enc).length) [(7,.row ⟨84,2⟩ (l.map Ar.enc))]:=by
 obtain⟨x,r,rfl⟩:=Cf hne;refine K0 tb { ids:=[(5,7)],ob:=[7] } [] Tryz.func35 rfl rfl ?_;exact⟨rfl,zl2 λy _=>⟨rfl,Bj.1 (show y.enc.all PV.one=true from rfl)⟩,by simp at hl⊢;omega,sE (by rw[Bu];rfl),rfl,Gf⟩
theorem yg0:SC Tryz.prog 64 [.pv (.seq [])] [] (λk=>k∈[]) (.pv (.seq [])) []:=by
 refine SC.nilArg λa cap hc=>?_
 cases a with
 |none =>
  refine K0 tb { } [] Tryz.func64 rfl rfl ?_
  exact⟨sN,Gf⟩
 |some a =>
  refine SC.give (k:=7) (n:=0) (s:=⟨102,2⟩) (els:=[]) ?_ rfl rfl;refine K0 tb { ids:=[(5,7)],ob:=[7],gh:=[(3,[.un 0])] } [] Tryz.func64 rfl rfl ?_;exact⟨hc,rfl,(λel h=>A9 h (C1)),by decide,sI,rfl,Gf⟩
theorem yx7(l:List Pm)(hne:l≠[])(hl:l.length<=1073741824):SC Tryz.prog 64 [.pv (pms l)] [] (λk=>k∈[]) (.sl 7 (l.map Pm.enc).length) [(7,.row ⟨102,2⟩ (l.map Pm.enc))]:=by
 obtain⟨x,r,rfl⟩:=Cf hne;refine K0 tb { ids:=[(5,7)],ob:=[7] } [] Tryz.func64 rfl rfl ?_;exact⟨rfl,zl2 λy _=>⟨rfl,Bj.1 (show y.enc.all PV.one=true from rfl)⟩,by simp at hl⊢;omega,sE (by rw[Bu];rfl),rfl,Gf⟩
theorem yg1:SC Tryz.prog 112 [.pv (.seq [])] [] (λk=>k∈[]) (.pv (.seq [])) []:=by
 refine SC.nilArg λa cap hc=>?_
 cases a with
 |none =>
  refine K0 tb { } [] Tryz.func112 rfl rfl ?_
  exact⟨sN,Gf⟩
 |some a =>
  refine SC.give (k:=7) (n:=0) (s:=⟨149,6⟩) (els:=[]) ?_ rfl rfl;refine K0 tb { ids:=[(5,7)],ob:=[7],gh:=[(3,[.un 0])] } [] Tryz.func112 rfl rfl ?_;exact⟨hc,rfl,(λel h=>A9 h (C1)),by decide,sI,rfl,Gf⟩
theorem yx8(l:List St)(hne:l≠[])(hl:l.length<=1073741824):SC Tryz.prog 112 [.pv (sts l)] [] (λk=>k∈[]) (.sl 7 (l.map St.enc).length) [(7,.row ⟨149,6⟩ (l.map St.enc))]:=by
 obtain⟨x,r,rfl⟩:=Cf hne;refine K0 tb { ids:=[(5,7)],ob:=[7] } [] Tryz.func112 rfl rfl ?_;exact⟨rfl,zl2 λy _=>⟨by rw[St.enc_eq];rfl,Bj.1 (show y.enc.all PV.one=true by rw[St.enc_eq];rfl)⟩,by simp at hl⊢;omega,sE (by rw[Bu];rfl),rfl,Gf⟩
theorem yf9:SC Tryz.prog 161 [.pv (.seq [])] [] (λk=>k∈[]) (.pv (.seq [])) []:=by
 refine SC.nilArg λa cap hc=>?_
 cases a with
 |none =>
  refine K0 tb { } [] Tryz.func161 rfl rfl ?_
  exact⟨sN,Gf⟩
 |some a =>
  refine SC.give (k:=7) (n:=0) (s:=⟨187,5⟩) (els:=[]) ?_ rfl rfl;refine K0 tb { ids:=[(5,7)],ob:=[7],gh:=[(3,[.un 0])] } [] Tryz.func161 rfl rfl ?_;exact⟨hc,rfl,(λel h=>A9 h (C1)),by decide,sI,rfl,Gf⟩
theorem yx6(l:List Ex)(hne:l≠[])(hl:l.length<=1073741824):SC Tryz.prog 161 [.pv (exs l)] [] (λk=>k∈[]) (.sl 7 (l.map Ex.enc).length) [(7,.row ⟨187,5⟩ (l.map Ex.enc))]:=by
 obtain⟨x,r,rfl⟩:=Cf hne;refine K0 tb { ids:=[(5,7)],ob:=[7] } [] Tryz.func161 rfl rfl ?_;exact⟨rfl,zl2 λy _=>⟨by rw[Ex.enc_eq];rfl,Bj.1 (show y.enc.all PV.one=true by rw[Ex.enc_eq];rfl)⟩,by simp at hl⊢;omega,sE (by rw[Bu];rfl),rfl,Gf⟩
set_option maxRecDepth 100000 in
set_option maxHeartbeats 4000000 in
theorem y7j(b:Nat)(r:Array MapEntry)(ck:Nat)(w:World)(hb:w.heap[b]?=some (.map r ck)) :
 Calls Tryz.prog 111 #[.map (some b)] w λe w'=>e=.returned (.map (some w.heap.size))/\w'=w.alloc (.map r ck):=by
 have hq:=λw=>run_eql_map_nil_sl (P:=Tryz.prog) w 141 _ _ (some b) Tryz.underlying141
 go_enter Tryz.func111,Tryz.ntmps111
 go_wp2
 rw[run_callFunc_extern Tryz.func142 kR0 kR0 kR0 (e:=Extern.MapsClone.clone) kR0,run_maps_clone_sl w 141 hb];simp only[Result.andThen];rw[Cs]
 go_wp2
 rw[run_typeAssert_map_sl _ 141 20 _ _ _ Tryz.underlying141];simp only[Result.andThen];rw[Cs]
 go_wp2
 go_ret
 exact⟨rfl,rfl⟩
set_option maxRecDepth 100000 in
set_option maxHeartbeats 4000000 in
theorem y7k(b:Nat)(r:Array MapEntry)(ck:Nat)(w:World)(hb:w.heap[b]?=some (.map r ck)) :
 Calls Tryz.prog 199 #[.map (some b)] w λe w'=>e=.returned (.map (some w.heap.size))/\w'=w.alloc (.map r ck):=by
 have hq:=λw=>run_eql_map_nil_sl (P:=Tryz.prog) w 98 _ _ (some b) Tryz.underlying98
 go_enter Tryz.func199,Tryz.ntmps199
 go_wp2
 rw[run_callFunc_extern Tryz.func142 kR0 kR0 kR0 (e:=Extern.MapsClone.clone) kR0,run_maps_clone_sl w 98 hb];simp only[Result.andThen];rw[Cs]
 go_wp2
 rw[run_typeAssert_map_sl _ 98 20 _ _ _ Tryz.underlying98];simp only[Result.andThen];rw[Cs]
 go_wp2
 go_ret
 exact⟨rfl,rfl⟩
theorem SC.clone{P:Program}{f:FuncId}{es:List (Value×PV)}(hcl:∀(b:Nat)(r:Array MapEntry)(ck:Nat)(w:World),w.heap[b]?=some (.map r ck)->Calls P f #[.map (some b)] w λe w'=>e=.returned (.map (some w.heap.size))/\w'=w.alloc (.map r ck)) :
 SC P f [.mp 1] [(1,.map es)] (λk=>k∈[1]) (.mp 8) [(8,.map es),(1,.map es)]:=by
 intro F ρ w vs hkept hrel hargs;have ha:All ⟨F,λk=>k∈[1],ρ,look (up [(1,.map es)]),w,vs.length⟩ ρ (look (up [(1,.map es)])) w [(0,.mp 1)] { tmps:=vs.toArray,defers:=[] }:=by
  refine⟨hrel,λt x hx=>?_,.refl _ _ _ _ _,rfl,by simp,hkept⟩
  match t,hx with
  |0,hx=>cases hx;obtain⟨v,h1,h2⟩:=hargs.2 0 _ rfl;exact⟨v,by simpa using h1,h2⟩
  |t+1,hx=>cases hx
 obtain⟨b,cc,r,ck,u,hv,hρ,h3,h4,h5,h6⟩:=ha.mapAt (x:=.tmp 0) rfl rfl;have hst:=ha.stamped hρ rfl h3;have hvs:vs.toArray = #[.map (some b)]:=by
  match vs,hargs.1,hv with
  |[v],_,hv=>simp[Act.eval]at hv;rw[hv]
 rw[hvs];refine(hcl b r ck w h3).mono ?_;rintro e w' ⟨rfl,rfl⟩;have hn:=ha.alloc (k:=8) (o:=.map es) rfl rfl rfl rfl 1 (.map r ck) λ_ keepP=>.map es r ck u (z31 w _) h4 h5 λi k p hi=>keepP _ _ (h6 i k p hi);exact⟨_,_,rfl,.mp _ _ λes' _=>⟨w.heap.size,1,z09,rfl⟩,hn.rel,hn.tr⟩
theorem y93(es:List (Value×PV)):SC Tryz.prog 111 [.mp 1] [(1,.map es)] (λk=>k∈[1]) (.mp 8) [(8,.map es),(1,.map es)]:=SC.clone y7j
theorem j3s(es:List (Value×PV)):SC Tryz.prog 199 [.mp 1] [(1,.map es)] (λk=>k∈[1]) (.mp 8) [(8,.map es),(1,.map es)]:=SC.clone y7k
def y84:Go.Shelf.Ren:=⟨λ|246=>195|283=>220|284=>221|285=>222|286=>223|129=>243|317=>242|318=>244|319=>245|320=>246|337=>254|338=>255|n=>n,λ|2=>2|3=>3|9=>9|4=>4|171=>273|0=>0|53=>237|37=>22|5=>5|173=>276|212=>286|51=>287|20=>20|213=>288|46=>289|232=>307|233=>308|n=>n,λ|17=>0|18=>1|19=>2|n=>n⟩
theorem ym6:Go.Proofs.LaysM.n246 Tryz.prog y84 where
 mixed:=by kernel_rfl
 f129:=Tryz.func243.trans (Ah some kR0)
 f246:=Tryz.func195.trans (Ah some kR0)
 f283:=Tryz.func220.trans (Ah some kR0)
 f284:=Tryz.func221.trans (Ah some kR0)
 f285:=Tryz.func222.trans (Ah some kR0)
 f286:=Tryz.func223.trans (Ah some kR0)
 f317:=Tryz.func242.trans (Ah some kR0)
 f318:=Tryz.func244.trans (Ah some kR0)
 f319:=Tryz.func245.trans (Ah some kR0)
 f320:=Tryz.func246.trans (Ah some kR0)
 f337:=Tryz.func254.trans (Ah some kR0)
 f338:=Tryz.func255.trans (Ah some kR0)
 t0:=Tryz.underlying0
 a0:=Tryz.isAgg0
 z0:=Tryz.sizeOf0
 v0:=Tryz.zeroValue0
 t2:=Tryz.underlying2
 a2:=Tryz.isAgg2
 z2:=Tryz.sizeOf2
 v2:=Tryz.zeroValue2
 t3:=Tryz.underlying3
 a3:=Tryz.isAgg3
 z3:=Tryz.sizeOf3
 v3:=Tryz.zeroValue3
 t4:=Tryz.underlying4
 a4:=Tryz.isAgg4
 z4:=Tryz.sizeOf4
 v4:=Tryz.zeroValue4
 t5:=Tryz.underlying5
 a5:=Tryz.isAgg5
 z5:=Tryz.sizeOf5
 v5:=Tryz.zeroValue5
 t9:=Tryz.underlying9
 a9:=Tryz.isAgg9
 z9:=Tryz.sizeOf9
 v9:=Tryz.zeroValue9
 t20:=Tryz.underlying20
 a20:=Tryz.isAgg20
 z20:=Tryz.sizeOf20
 v20:=Tryz.zeroValue20
 t37:=Tryz.underlying22
 a37:=Tryz.isAgg22
 z37:=Tryz.sizeOf22
 v37:=Tryz.zeroValue22
 t46:=Tryz.underlying289
 a46:=Tryz.isAgg289
 z46:=Tryz.sizeOf289
 v46:=Tryz.zeroValue289
 t51:=Tryz.underlying287
 a51:=Tryz.isAgg287
 z51:=Tryz.sizeOf287
 v51:=Tryz.zeroValue287
 t53:=Tryz.underlying237
 a53:=Tryz.isAgg237
 z53:=Tryz.sizeOf237
 v53:=Tryz.zeroValue237
 t171:=Tryz.underlying273
 a171:=Tryz.isAgg273
 z171:=Tryz.sizeOf273
 v171:=Tryz.zeroValue273
 t173:=Tryz.underlying276
 a173:=Tryz.isAgg276
 z173:=Tryz.sizeOf276
 v173:=Tryz.zeroValue276
 t212:=Tryz.underlying286
 a212:=Tryz.isAgg286
 z212:=Tryz.sizeOf286
 v212:=Tryz.zeroValue286
 t213:=Tryz.underlying288
 a213:=Tryz.isAgg288
 z213:=Tryz.sizeOf288
 t232:=Tryz.underlying307
 a232:=Tryz.isAgg307
 z232:=Tryz.sizeOf307
 v232:=Tryz.zeroValue307
 t233:=Tryz.underlying308
 a233:=Tryz.isAgg308
 z233:=Tryz.sizeOf308
 v233:=Tryz.zeroValue308
 g17:=by kernel_rfl
 g18:=by kernel_rfl
 g19:=by kernel_rfl
 i0:=by kernel_rfl
 i2:=by kernel_rfl
 i3:=by kernel_rfl
 i4:=by kernel_rfl
 i5:=by kernel_rfl
 i9:=by kernel_rfl
 i20:=by kernel_rfl
 i37:=by kernel_rfl
 i46:=by kernel_rfl
 i51:=by kernel_rfl
 i53:=by kernel_rfl
 i171:=by kernel_rfl
 i173:=by kernel_rfl
 i212:=by kernel_rfl
 i232:=by kernel_rfl
 i233:=by kernel_rfl
 m17:=by kernel_rfl
 m18:=by kernel_rfl
 m19:=by kernel_rfl
theorem loc_none{F:Nat->Prop}{ρ:Loc}{w:World}(h:RelH F ρ (look (up [])) w)(k:Nat):ρ k=none:=by
 cases hk:ρ k with
 |none=>rfl
 |some l =>
  obtain⟨o,ho,_⟩:=h.obj k l.1 l.2 hk
  cases ho
theorem grown{F:Nat->Prop}{ρ:Loc}{w:World}(h:RelH F ρ (look (up [])) w)(R:Nat->Prop)(k:Nat)(os:Array Obj) :
 RelH F ρ (look (up [])) (Go.Sort.grow (w.drewN k) os)/\Trans F R ρ (look (up [])) w ρ (look (up [])) (Go.Sort.grow (w.drewN k) os):=by
 have hn:=loc_none h;have hs:w.heap.size<=(Go.Sort.grow (w.drewN k) os).heap.size:=by simp[Go.Sort.grow,World.drewN]
 have hb:∀b,b<w.heap.size->(Go.Sort.grow (w.drewN k) os).heap[b]?=w.heap[b]?:=λb hb=>Go.Sort.heap_grow_old (w.drewN k) os hb;refine⟨⟨λi _ _ _ _ hi=>?_,λi _ _ hi=>?_,λb hF=>Bg (h.old b hF) hs,λi _ _ hi=>?_,λi o ho=>?_⟩,
  ⟨rfl,rfl,rfl,hs,λb hlt _=>hb b hlt,λi _ _ hi _=>.inl hi,λi cs _ hi=>?_,λi cs _ hi=>?_,λi _ _ _ _ hi=>?_,λi _ _ _ _ hi=>?_,λi _ hi=>?_,λi _ hi=>?_,λi _ _ hi=>?_⟩⟩
 all_goals first
 |(rw[hn i]at hi;cases hi)
 |cases ho
 |cases hi
theorem y91(n:Int)(h0:-9223372036854775808<=n)(h1:n<=9223372036854775807) :
 SC Tryz.prog 195 [.pv (.val (.int .i64 n)),.pv (.val (.int .i64 10))] [] (λk=>k∈[]) (.pv (.val (.string ⟨(Lib.itoa n).toArray⟩))) []:=by
 intro F ρ w vs hk hrel hargs;obtain⟨v0,e0,r0⟩:=hargs.2 0 _ rfl;obtain⟨v1,e1,r1⟩:=hargs.2 1 _ rfl;have hv:vs=[.int .i64 n,.int .i64 10]:=by
  have hl:=hargs.1;have d0:=r0.val;have d1:=r1.val;subst d0 d1
  match vs,hl,e0,e1 with
  |[a,b],_,e0,e1=>cases e0;cases e1;rfl
 subst hv;refine(Any.internal_strconv_FormatInt_10 ym6 n h0 h1 w ?_).mono ?_
 ·obtain⟨⟨T,f,h1⟩,_⟩:=hk _ (D6);unfold Lib.TabIs World.var?;rw[ym6.m17]
  show(match w.heap[0]? with
   |some (.cells cs _ _)=>some cs
   |_=>none)=_
  rw[h1]
 rintro e w' ⟨rfl,k,os,rfl⟩;obtain⟨g1,g2⟩:=grown hrel (λk=>k∈[]) k os;exact⟨ρ,_,rfl,.pv _ _ (.val _),g1,g2⟩
def tNum(n:Int):ByteArray:=⟨(Lib.itoa n).toArray⟩
def tVal(n:Int):ByteArray:=⟨#[118]⟩++tNum n
def SMap(es:List (Value×PV)):Prop:=(∀e∈es,z1y .string e.1=true)/\∀e∈es,∃s,e.2=vStr s
def z8t(es:List (Value×PV))(name:ByteArray):ByteArray:=match z1z (.string name) es with
 |some (.val (.string s))=>s
 |_=>⟨#[]⟩
def z9z(es:List (Value×PV))(a b:ByteArray):List (Value×PV):=mput (.string a) (vStr b) es
theorem SMap.nil:SMap []:=⟨λ_ h=>by simp at h,λ_ h=>by simp at h⟩
theorem SMap.put{es:List (Value×PV)}(h:SMap es)(a b:ByteArray):SMap (z9z es a b):=by
 unfold z9z;refine⟨λe he=>?_,λe he=>?_⟩
 ·rcases z55 he with rfl|he
  ·rfl
  ·exact h.1 e he
 ·rcases z55 he with rfl|he
  ·exact⟨_,rfl⟩
  ·exact h.2 e he
theorem SMap.get{es:List (Value×PV)}(h:SMap es)(name:ByteArray):(z1z (.string name) es).getD (.val (.string ⟨#[]⟩))=vStr (z8t es name):=by
 unfold z8t
 cases hf:z1z (.string name) es with
 |none=>rfl
 |some p=>obtain⟨a,ha⟩:=z93 hf;obtain⟨s,hs⟩:=h.2 _ ha;dsimp only at hs;subst hs;rfl
mutual
def rnX(es:List (Value×PV)):Ex->Ex
 |.mk k o n nm args=>.mk k o n (if k=3 then z8t es nm else nm) (rnXL es args)
def rnXL(es:List (Value×PV)):List Ex->List Ex
 |[]=>[]
 |x::r=>rnX es x::rnXL es r
end
theorem zs6(es:List (Value×PV)):∀l,rnXL es l=l.map (rnX es)
 |[]=>rfl
 |x::r=>by simp[rnXL,zs6 es r]
theorem rnX_eq(es:List (Value×PV))(x:Ex):rnX es x=.mk x.kind x.op x.n (if x.kind=3 then z8t es x.name else x.name) (x.args.map (rnX es)):=by
 cases x;rw[rnX,zs6];rfl
def z1t(es:List (Value×PV))(k:Int)(nm:ByteArray)(n:Nat):ByteArray×List (Value×PV)×Nat :=
 if k=1 then(z8t (z9z es nm (tVal n)) nm,z9z es nm (tVal n),n+1)else if k=2 then(z8t es nm,es,n)else(nm,es,n)
mutual
def rnB:List St->List (Value×PV)->Nat->List St×Nat
 |[],_,n=>([],n)
 |x::r,es,n=>((rnS x es n).1::(rnB r (z1t es x.kind x.name n).2.1 (rnS x es n).2).1,(rnB r (z1t es x.kind x.name n).2.1 (rnS x es n).2).2)
def rnS:St->List (Value×PV)->Nat->St×Nat
 |.mk k ty nm args thn els,es,n=>(.mk k ty (z1t es k nm n).1 (args.map (rnX es)) (rnB thn (z1t es k nm n).2.1 (z1t es k nm n).2.2).1 (rnB els (z1t es k nm n).2.1 (rnB thn (z1t es k nm n).2.1 (z1t es k nm n).2.2).2).1,
  (rnB els (z1t es k nm n).2.1 (rnB thn (z1t es k nm n).2.1 (z1t es k nm n).2.2).2).2)
end
def rnPm(l:List Pm)(es:List (Value×PV))(n:Nat):List Pm×List (Value×PV)×Nat:=match l with
 |[]=>([],es,n)
 |x::r=>(⟨z8t (z9z es x.name (tVal n)) x.name,x.ty⟩::(rnPm r (z9z es x.name (tVal n)) (n+1)).1,(rnPm r (z9z es x.name (tVal n)) (n+1)).2)
def rnF(f:Fu):Fu:=⟨f.name,f.ty,(rnPm f.params [] 0).1,(rnB f.body (rnPm f.params [] 0).2.1 (rnPm f.params [] 0).2.2).1⟩
def rnP(p:Pg):Pg:=⟨p.arrays,p.funcs.map rnF⟩
def N64(n:Int):Prop:=-9223372036854775808<=n/\n<=9223372036854775807
theorem tNum_le{n:Int}(h:N64 n):(tNum n).size<=21:=Lib.itoa_length_le n h.1 h.2
theorem sc_ItoaI(n:Int)(h:N64 n):SC Tryz.prog 160 [.pv (.val (.int .i64 n))] [] (λk=>k∈[]) (.pv (.val (.string (tNum n)))) []:=by
 refine K0 tb {} [] Tryz.func160 rfl rfl ?_;exact⟨[],y91 n h.1 h.2,sR,Gf,rfl,sI,Gf⟩
theorem sc_Itoa(n:Int)(h:N64 n):SC Tryz.prog 110 [.pv (.val (.int .i64 n))] [] (λk=>k∈[]) (.pv (.val (.string (tNum n)))) []:=by
 refine K0 tb {} [] Tryz.func110 rfl rfl ?_;exact⟨[],sc_ItoaI n h,sR,Gf,rfl,sI,Gf⟩
def pg0:Pg:=⟨[],[]⟩
def z1u(s:ByteArray):Pg×Int×Int :=
 if (z1d s).2.1=0 then
  if (z90 (z1d s).1).2.deep then(pg0,2,(tkAt (z1d s).1 (z90 (z1d s).1).2).line)
  else if (z90 (z1d s).1).2.bad then(pg0,20,(tkAt (z1d s).1 (z90 (z1d s).1).2).line)
  else if rPg (z90 (z1d s).1).1 then((z90 (z1d s).1).1,0,0)else(pg0,2,0)
 else(pg0,(z1d s).2)
theorem y7x(s:ByteArray):pz (z1u s).1.funcs+(z1u s).1.arrays.length<=300003:=by
 unfold z1u;split
 ·rename_i h0;obtain⟨hT,hl⟩:=ze2 h0;split
  ·exact Aj _
  ·rename_i h1;split
   ·exact Aj _
   ·rename_i h2;split
    ·have ho:(z90 (z1d s).1).2.over=false:=by unfold Ps.over;rw[F0.2 h1,F0.2 h2];rfl
     have hp:0<(z1d s).1.length:=by obtain⟨i,e,h,_⟩:=hT;rw[h];simp
     have h3:=y67 hT (big (z1d s).1) ⟨[],[]⟩ ⟨0,false,false⟩ ho;have h4:=(z78 hT (big (z1d s).1) ⟨[],[]⟩ ⟨0,false,false⟩).lt hp;unfold z90;simp only[pz,A6]at h3;dsimp only at h3 h4⊢;omega
    ·exact Aj _
 ·exact Aj _
theorem zv4(s:ByteArray):rPg (z1u s).1=true:=by
 unfold z1u;split
 ·split
  ·rfl
  ·split
   ·rfl
   ·split
    ·rename_i h;exact h
    ·rfl
 ·rfl
attribute [local irreducible] z90 z1d
theorem sc_Parse(s:ByteArray)(hs:s.size<=1073741824):SC Tryz.prog 23 [.pv (.val (.string s))] [] (λk=>k∈[]) (.tup [.pv (z1u s).1.enc,iInt (z1u s).2.1,iInt (z1u s).2.2]) []:=by
 refine K0 tb { ids:=[(23,1)] } [] Tryz.func23 rfl rfl ?_;have h0:=j3p s hs;have hok:=@ze2 s;have hsz:=j5d s;unfold z1u;generalize z1d s=t at h0 hok hsz;obtain⟨T,e,line⟩:=t;dsimp only at h0 hok hsz⊢;refine⟨[],h0,sR,Gf,rfl,z00 (λc1=>?_) λc1=>?_⟩
 ·have c1:¬e=0:=by simpa using c1
  rw[A1 c1];exact⟨sT3 (sP (z0g _)),Gf⟩
 ·have c1:e=0:=by simpa using c1
  obtain⟨hT,hl⟩:=hok c1;rw[A5 c1];have hp:0<T.length:=by obtain⟨i,e,h,_⟩:=hT;rw[h];simp
  have hS:TkSz T:=λx hx=>Bm (hsz x hx) hs;have h1:=sc_prog T hT hS oM0 hp;have h2:=(z78 hT (big T) ⟨[],[]⟩ ⟨0,false,false⟩).lt hp;have h3:=y67 hT (big T) ⟨[],[]⟩ ⟨0,false,false⟩;rw[show z2v T (big T) ⟨[],[]⟩ ⟨0,false,false⟩=z90 T from by unfold z90;rfl]at h2 h3;generalize z90 T=r at h1 h2 h3;obtain⟨p,a,b,d⟩:=r;dsimp only at h1 h2 h3⊢;simp only[pz,A6]at h3;refine⟨[],h1,sR,Gg,rfl,?_⟩
  cases d with
  |true=>exact⟨yi5 (s:=⟨a,b,true⟩) h2,rfl,sT3 (sP (z0g _)),Gf⟩
  |false =>
   cases b with
   |true=>exact⟨yi5 (s:=⟨a,true,false⟩) h2,rfl,sT3 (sP (z0g _)),Gf⟩
   |false =>
    have h4:=h3 rfl;refine⟨[],sc_Right p oM0 oM0,sR,Gf,rfl,z00 (λc2=>?_) λc2=>?_⟩
    ·rw[show rPg p=false by simpa using c2];exact⟨sT3 (sP (z0g _)),Gf⟩
    ·rw[show rPg p=true by simpa using c2];exact⟨sI,Gf⟩
def eTx(s:ByteArray):List PV:=[.val (.string s)]
section
structure Gn where
 pos:Nat
 types:List Int
 left:Nat
structure Plc where
 If:Bool
 Loop:Bool
 Yield:List Int
 Next:List Int
 Left:List Int
section
variable (l:List UInt8)
end
end
def eB(x:UInt8):List PV:=[.val (.int .u8 (x.toNat:Int))]
def bts(l:List UInt8):PV:=.seq (l.map eB)
def z2e(l:List UInt8)(at_:Nat)(n:Nat):Nat:=if at_+1 > l.length∨at_+1 > 120 then 0 else(l.getD at_ 0).toNat%n
def mkO(l:List UInt8)(at_:Nat):List (Nat×HO):=[(1,.box [.pv (bts l),iInt (at_:Nat)])]
theorem r64{m n z:Int}(hn:n≠0)(h:m.tmod n=z):z3f .rem .i64 m n=some (.int .i64 z):=by
 subst h;simp only[z3f];rw[A1 hn]
theorem sc_pick(l:List UInt8)(at_:Nat)(ha:at_<=1000000000)(n:Nat)(hn:0<n)(hl:l.length<=9223372036854775807) :
 SC Tryz.prog 41 [.ptr 1 0,.pv (.val (.int .i64 (n:Int)))] (mkO l at_) (λk=>k∈[]) (iInt (z2e l at_ n:Nat)) (mkO l (at_+1)):=by
 refine K0 tb {} [] Tryz.func41 rfl rfl ?_;refine⟨z01 (z:=((at_+1:Nat):Int)) rfl oM0,z00 (λc1=>?_) λc1=>z00 (λc2=>?_) λc2=>?_⟩
 ·have c1:=Ap c1;simp only[Ab]at c1;exact⟨sE (by unfold z2e;rw[A5 (.inl oM0)];rfl),rfl,Gf⟩
 ·have c2:=Ap c2;exact⟨sE (by unfold z2e;rw[A5 (.inr oM0)];rfl),rfl,Gf⟩
 ·have c1:=Am c1;have c2:=Am c2;simp only[Ab]at c1;have hlt:at_<l.length:=by omega
  obtain⟨b,b1,_,_,_⟩:=z0u hlt;have hb:=b.toNat_lt;have hw:IntKind.i64.wrap (b.toNat:Int)=(b.toNat:Int):=D3 _ oM0;refine⟨z3e (z:=((at_:Nat):Int)) oM0 oM0,z02 (f:=eB) b1,rfl,r64 (z:=((b.toNat%n:Nat):Int)) oM0 (by rw[hw,Int.tmod_eq_emod_of_nonneg oM0];omega),sE ?_,rfl,Gf⟩;unfold z2e;rw[A1 oM0,Ax,b1];rfl
theorem z08{a b:ByteArray}(h:a.size+b.size<=9223372036854775807):y51 .add a b=some (.string (a++b)):=by
 show(if ((a.size+b.size:Nat):Int) > IntKind.i64.max then none else some (Value.string (a++b)))=_;rw[A1];have:IntKind.i64.max=9223372036854775807:=rfl;rw[this];omega
def cnB(c:Nat):HO:=.box [iInt ((c:Int)-1)]
theorem y4m(c:Nat)(hc:c<=4294967296):SC Tryz.prog 109 [.ptr 2 0] [(2,cnB c)] (λk=>k∈[1]) (iStr (tVal c)) [(2,cnB (c+1))]:=by
 refine K0 tb {} [1] Tryz.func109 rfl rfl ?_;have h:N64 (c:Int):=⟨by omega,by omega⟩;have e:(⟨#[118]⟩:ByteArray).size=1:=rfl;have:=tNum_le h;exact⟨z01 (z:=(c:Int)) oM0 oM0,[],sc_Itoa c h,sR,Gf,rfl,z08 oM0,sI,boq sI0,Gf⟩
theorem zx1:SC Tryz.prog 63 [] [] (λk=>k∈[]) (.fn (.func 109) [] [.ptr 2 0]) [(2,cnB 0)]:=by
 refine K0 tb { ids:=[(1,2)] } [] Tryz.func63 rfl rfl ?_;exact⟨sI,rfl,Gf⟩
def rnAt(es:List (Value×PV))(l:List Ex)(i:Nat):List Ex:=(l.take i).map (rnX es)++l.drop i
theorem rnAt_len(es:List (Value×PV))(l:List Ex)(i:Nat):(rnAt es l i).length=l.length:=by unfold rnAt;simp;omega
theorem rnAt_get{es:List (Value×PV)}{l:List Ex}{i:Nat}{x:Ex}(h:l[i]?=some x):(rnAt es l i)[i]?=some x:=by
 have hi:=(A7.1 h).1;unfold rnAt;rw[B4 (by simp;omega)];simp;rw[show i-min i l.length=0 by omega];simpa using h
theorem rnAt_set{es:List (Value×PV)}{l:List Ex}{i:Nat}{x:Ex}(h:l[i]?=some x):(rnAt es l i).set i (rnX es x)=rnAt es l (i+1):=by
 have hi:=(A7.1 h).1;obtain⟨y,y1,y2,y3,y4⟩:=z0u hi;rw[h]at y1;cases y1
 unfold rnAt;rw[y2,y3,Dh _ _ (by simp;omega)];simp;rw[show i-min i l.length=0 by omega];rfl
theorem set_same{α:Type}{l:List α}{i:Nat}{x:α}(h:l[i]?=some x):l.set i x=l:=by
 obtain⟨hi,rfl⟩:=A7.1 h;exact List.set_getElem_self hi
theorem sc_rnX(es:List (Value×PV))(hes:SMap es):∀(N:Nat)(l:List Ex),SizeOf.sizeOf l<N->xzL l<=1073741824->SC Tryz.prog 113 [.mp 1,.pv (exs l)] [(1,.map es)] (λk=>k∈[1]) (.pv (exs (l.map (rnX es)))) [(1,.map es)]
 |0,_,h,_=>A9 h (An _)
 |N+1,[],hN,hx=>by
  refine K0 tb {} [1] Tryz.func113 rfl rfl ?_;refine⟨[],yf9,sR,Gf,rfl,Unit,λ_=>[(10,iInt 0)],λ_=>[],λ_=>0,λ_=>True,[],(),Gf,Gg,Gf,?_⟩;rintro _ _
  exact⟨sI,rfl,Gf⟩
 |N+1,y::r,hN,hx=>by
  have hne:y::r≠[]:=by simp
  generalize hL:y::r=l at hN hx hne;clear hL;have hl:=zc8 l;refine K0 tb { jn:=[7],gh:=[(9,[.fz 1 7])] } [1] Tryz.func113 rfl rfl ?_;refine⟨[],yx6 l hne oM0,sR,Gf,rfl,by simp,?_⟩;refine⟨Nat,λi=>[(10,iInt ((i:Nat):Int))],λi=>[(7,.row exRt ((rnAt es l i).map Ex.enc))],λi=>l.length-i,λi=>i<=l.length,[],0,Aj _,Gg,Gg,?_⟩;intro i hi;have hlen:((rnAt es l i).map Ex.enc).length=(l.map Ex.enc).length:=by simp[rnAt_len]
  refine z00 (λhc=>?_) λhc=>?_
  ·have hlt:i<l.length:=z12 (f:=Ex.enc) rfl hc;obtain⟨x,x1,x2,x3,x4⟩:=z0u hlt;have hget:((rnAt es l i).map Ex.enc)[i]?=some [vInt x.kind,vInt x.op,vInt x.n,vStr x.name,exs x.args]:=z1f (rnAt_get x1);have hsz:SizeOf.sizeOf x.args<N:=by
    have:=Br x4;have h2:SizeOf.sizeOf x.args<SizeOf.sizeOf x:=by cases x;simp[Ex.args];omega
    omega
   have hxx:=zh6 x4;have hax:xzL x.args<=1073741824:=by
    have:xz x=1+xzL x.args:=by cases x;simp[xz,Ex.args]
    omega
   refine⟨Unit,λ_=>[],λ_=>[(7,.row exRt (((rnAt es l i).map Ex.enc).set i [vInt x.kind,vInt x.op,vInt x.n,vStr (if x.kind=3 then z8t es x.name else x.name),exs x.args]))],λ_=>True,[7],⟨hlen,by rw[Ab];exact hlt,rfl,hlen,VRow.mk (i:=i) (j:=0) hlen rfl hget rfl ?_⟩,?_⟩
   ·refine z00 (λc=>?_) λc=>?_
    ·have c:x.kind=3:=Av c;refine⟨hlen,by rw[Ab];exact hlt,rfl,hlen,VRow.mk (i:=i) (j:=3) hlen rfl hget rfl (VAsk.mk (p:=vStr (z8t es x.name)) (b:=(z1z (.string x.name) es).isSome) rfl hes.1 (Ec (hes.get x.name) rfl) ?_)⟩;exact⟨hlen,by rw[Ab];exact hlt,rfl,hlen,i,3,_,hlen,rfl,hget,by simp,(),Gf,Gf,⟨by rw[A5 c];rfl,Gf⟩,rfl,rfl,rfl,rfl⟩
    ·have c:¬x.kind=3:=Aa.1 c;exact⟨(),Gf,Gf,⟨rwq (by rw[A1 c];exact(set_same hget).symm),Gf⟩,rfl,rfl,rfl,rfl⟩
   ·rintro _ _;have hlen2:(((rnAt es l i).map Ex.enc).set i [vInt x.kind,vInt x.op,vInt x.n,vStr (if x.kind=3 then z8t es x.name else x.name),exs x.args]).length=(l.map Ex.enc).length:=by rw[E5];exact hlen
    have hget2:(((rnAt es l i).map Ex.enc).set i [vInt x.kind,vInt x.op,vInt x.n,vStr (if x.kind=3 then z8t es x.name else x.name),exs x.args])[i]?=some [vInt x.kind,vInt x.op,vInt x.n,vStr (if x.kind=3 then z8t es x.name else x.name),exs x.args]:=Bp (by rw[hlen,Ab];exact hlt);refine⟨hlen2,by rw[Ab];exact hlt,rfl,hlen2,VRow.mk (i:=i) (j:=4) hlen2 rfl hget2 rfl ⟨[1],sc_rnX es hes N x.args hsz hax,sR,⟨rfl,rfl,D6,Gf⟩,rfl,?_⟩⟩;exact⟨hlen2,by rw[Ab];exact hlt,rfl,hlen2,i,4,_,hlen2,rfl,hget2,by simp,z01 rfl oM0,i+1,z05 hlt,hlt,Gg,⟨rwq (by rw[Fm,<- rnAt_set x1,C8,rnX_eq,Ex.enc_eq];rfl),Gf⟩,rfl,rfl,rfl,rfl⟩
  ·have hge:l.length<=i:=z13 (f:=Ex.enc) rfl hc;exact⟨hlen,sE (by unfold rnAt;rw[Az hge,Ae hge,Cy];rfl),rfl,Gf⟩
theorem rnS_eq(x:St)(es:List (Value×PV))(n:Nat):rnS x es n=(.mk x.kind x.ty (z1t es x.kind x.name n).1 (x.args.map (rnX es)) (rnB x.thn (z1t es x.kind x.name n).2.1 (z1t es x.kind x.name n).2.2).1 (rnB x.els (z1t es x.kind x.name n).2.1 (rnB x.thn (z1t es x.kind x.name n).2.1 (z1t es x.kind x.name n).2.2).2).1,
 (rnB x.els (z1t es x.kind x.name n).2.1 (rnB x.thn (z1t es x.kind x.name n).2.1 (z1t es x.kind x.name n).2.2).2).2):=by cases x;rw[rnS];rfl
def rnG:List St->List (Value×PV)->Nat->List St×List (Value×PV)×Nat
 |[],es,n=>([],es,n)
 |x::r,es,n=>((rnS x es n).1::(rnG r (z1t es x.kind x.name n).2.1 (rnS x es n).2).1,(rnG r (z1t es x.kind x.name n).2.1 (rnS x es n).2).2)
theorem rnB_G:∀(l:List St) (es:List (Value×PV)) (n:Nat),rnB l es n=((rnG l es n).1,(rnG l es n).2.2)
 |[],_,_=>by rw[rnB];rfl
 |x::r,es,n=>by rw[rnB,rnB_G r];rfl
theorem y6f:∀(l:List St) (x:St) (es:List (Value×PV)) (n:Nat),rnG (l++[x]) es n=((rnG l es n).1++[(rnS x (rnG l es n).2.1 (rnG l es n).2.2).1],(z1t (rnG l es n).2.1 x.kind x.name (rnG l es n).2.2).2.1,(rnS x (rnG l es n).2.1 (rnG l es n).2.2).2)
 |[],x,es,n=>rfl
 |y::r,x,es,n=>by
  have:=y6f r x (z1t es y.kind y.name n).2.1 (rnS y es n).2;simp only[Be,rnG,this]
theorem zj5:∀(l:List St) (es:List (Value×PV)) (n:Nat),(rnG l es n).1.length=l.length
 |[],_,_=>rfl
 |x::r,es,n=>by simp[rnG,zj5 r]
theorem y8x{es:List (Value×PV)}(h:SMap es)(k:Int)(nm:ByteArray)(n:Nat):SMap (z1t es k nm n).2.1:=by
 unfold z1t;split
 ·exact h.put _ _
 ·split
  iterate 2 exact h
theorem j3i(es:List (Value×PV))(k:Int)(nm:ByteArray)(n:Nat):(z1t es k nm n).2.2<=n+1:=by
 unfold z1t;split
 ·exact Ag _
 ·split
  iterate 2 exact Fg _
theorem j3h:∀(l:List St) (es:List (Value×PV)) (n:Nat),SMap es->SMap (rnG l es n).2.1
 |[],_,_,h=>h
 |x::r,es,n,h=>j3h r _ _ (y8x h _ _ _)
theorem j3g:∀(N:Nat)(l:List St),SizeOf.sizeOf l<N->∀(es:List (Value×PV)) (n:Nat),(rnB l es n).2<=n+szL l
 |0,_,h,_,_=>A9 h (An _)
 |N+1,[],_,es,n=>by rw[rnB];simp[szL]
 |N+1,x::r,hN,es,n=>by
  have hx:=zt7 x;simp at hN;have h1:(rnS x es n).2<=n+sz x:=by
   rw[rnS_eq,y33];have a0:=j3i es x.kind x.name n;have a1:=j3g N x.thn oM0 (z1t es x.kind x.name n).2.1 (z1t es x.kind x.name n).2.2;have a2:=j3g N x.els oM0 (z1t es x.kind x.name n).2.1 (rnB x.thn (z1t es x.kind x.name n).2.1 (z1t es x.kind x.name n).2.2).2;dsimp only;omega
  have h2:=j3g N r oM0 (z1t es x.kind x.name n).2.1 (rnS x es n).2;rw[rnB,szL];dsimp only;omega
theorem rnG_n(l:List St)(es:List (Value×PV))(n:Nat):(rnG l es n).2.2<=n+szL l:=by
 have:=j3g _ l (Ac _) es n;rw[rnB_G]at this;exact this
theorem ys0:∀(l:List St)(i:Nat),szL (l.take i)+szL (l.drop i)=szL l
 |[],i=>by simp[szL]
 |_::_,0=>by simp[szL]
 |x::r,i+1=>by have:=ys0 r i;simp only[Ff,Fd,szL];omega
def zj4(es:List (Value×PV))(c:Nat)(l:List St)(i:Nat):List St:=(rnG (l.take i) es c).1++l.drop i
theorem j3e(es:List (Value×PV))(c:Nat)(l:List St)(i:Nat):(zj4 es c l i).length=l.length:=by unfold zj4;simp[zj5];omega
theorem j3d{es:List (Value×PV)}{c:Nat}{l:List St}{i:Nat}{x:St}(h:l[i]?=some x):(zj4 es c l i)[i]?=some x:=by
 have hi:=(A7.1 h).1;unfold zj4;rw[B4 (by simp[zj5];omega)];simp[zj5];rw[show i-min i l.length=0 by omega];simpa using h
theorem j3f{es:List (Value×PV)}{c:Nat}{l:List St}{i:Nat}{x:St}(h:l[i]?=some x):(zj4 es c l i).set i (rnS x (rnG (l.take i) es c).2.1 (rnG (l.take i) es c).2.2).1=zj4 es c l (i+1):=by
 have hi:=(A7.1 h).1;obtain⟨y,y1,y2,y3,y4⟩:=z0u hi;rw[h]at y1;cases y1
 unfold zj4;rw[y2,y6f,y3,Dh _ _ (by simp[zj5];omega)];simp[zj5];rw[show i-min i l.length=0 by omega];rfl
def fRN(N:Nat):Prop:=∀(l:List St),SizeOf.sizeOf l<N->szL l<=1073741824->∀(es:List (Value×PV)),SMap es->∀c:Nat,c+szL l<=1073741824 ->
 SC Tryz.prog 65 [.mp 1,.pv (sts l),.fn (.func 109) [] [.ptr 2 0]] [(1,.map es),(2,cnB c)] (λk=>k∈[1]) (.pv (sts (rnB l es c).1)) [(1,.map es),(2,cnB (rnB l es c).2)]
theorem sc_rnB0(es:List (Value×PV))(c:Nat):SC Tryz.prog 65 [.mp 1,.pv (sts []),.fn (.func 109) [] [.ptr 2 0]] [(1,.map es),(2,cnB c)] (λk=>k∈[1]) (.pv (sts [])) [(1,.map es),(2,cnB c)]:=by
 refine K0 tb {} [1] Tryz.func65 rfl rfl ?_;refine⟨[1],y93 es,sR,⟨rfl,rfl,D6,Gf⟩,rfl,[],yg1,sR,Gf,rfl,Unit,λ_=>[(15,iInt 0)],λ_=>[],λ_=>0,λ_=>True,[],(),Gf,Gg,Gf,?_⟩;rintro _ _;exact⟨sI,rfl,rfl,Gf⟩
theorem St.enc_mk(k t:Int)(n:ByteArray)(a:List Ex)(th e:List St):(St.mk k t n a th e).enc=[vInt k,vInt t,vStr n,exs a,sts th,sts e]:=by rw[St.enc_eq];rfl
theorem yh1(N:Nat)(ih:fRN N):fRN (N+1):=by
 intro l hN hx es hes c hc;rcases l with _|⟨y,r⟩
 ·have:=sc_rnB0 es c;rw[show(rnB [] es c)=([],c) by rw[rnB]];exact this
 have hne:y::r≠[]:=by simp
 generalize y::r=l at hN hx hc hne;have hl:=z8p l;rw[rnB_G];refine K0 tb { jn:=[13],gh:=[(15,[.fz 1 7])] } [1] Tryz.func65 rfl rfl ?_;refine⟨[1],y93 es,sR,⟨rfl,rfl,D6,Gf⟩,rfl,[],yx8 l hne oM0,sR,Gf,rfl,rfl,?_⟩;refine⟨Nat,λi=>[(15,iInt ((i:Nat):Int))],λi=>[(7,.row stRt ((zj4 es c l i).map St.enc)),(8,.map (rnG (l.take i) es c).2.1),(2,cnB (rnG (l.take i) es c).2.2)],λi=>l.length-i,λi=>i<=l.length,[],0,Aj _,Gg,Gj,?_⟩;intro i hi;refine z00 (λhcc=>?_) λhcc=>?_
 ·have hlt:i<l.length:=z12 (f:=St.enc) rfl hcc;obtain⟨x,x1,x2,x3,x4⟩:=z0u hlt;have hin:i<(l.map St.enc).length:=by rw[Ab];exact hlt
  have hlen:((zj4 es c l i).map St.enc).length=(l.map St.enc).length:=by simp[j3e]
  have hget:((zj4 es c l i).map St.enc)[i]?=some [vInt x.kind,vInt x.ty,vStr x.name,exs x.args,sts x.thn,sts x.els]:=zk5 (j3d x1);have hfin:((zj4 es c l (i+1)).map St.enc)=((zj4 es c l i).map St.enc).set i (rnS x (rnG (l.take i) es c).2.1 (rnG (l.take i) es c).2.2).1.enc:=by rw[<- j3f x1,C8]
  have hsn:=y6f (l.take i) x es c;rw[<- x2]at hsn;have hg:=j3h (l.take i) es c hes;have hgn:=rnG_n (l.take i) es c;have hszs:=ys0 l i;rw[x3]at hszs;simp only[szL]at hszs;generalize rnG (l.take i) es c=G at hg hgn hfin hsn⊢;obtain⟨G1,g,q⟩:=G;dsimp only at hg hgn hfin hsn;generalize(zj4 es c l i).map St.enc=M at hlen hget hfin⊢;rw[rnS_eq]at hfin hsn;dsimp only at hfin hsn;rw[St.enc_mk]at hfin;have hso:=zt7 x;have hmem:=Br x4;have hsz:=y33 x;have hX:SC Tryz.prog 113 [.mp 8,.pv (exs x.args)] [(8,.map g)] _ (.pv (exs (x.args.map (rnX g)))) [(8,.map g)]:=(sc_rnX g hg _ x.args (Ac _) oM0).sw 1 8;have hF:=y4m q oM0;have hOm:=y8x hg x.kind x.name q;have hOn:=j3i g x.kind x.name q;have hO1:x.kind=1->z1t g x.kind x.name q=(z8t (z9z g x.name (tVal q)) x.name,z9z g x.name (tVal q),q+1):=λh=>by unfold z1t;rw[A5 h]
  have hO2:x.kind=2->z1t g x.kind x.name q=(z8t g x.name,g,q):=λh=>by unfold z1t;rw[A1 oM0,A5 h]
  have hO3:x.kind≠1->x.kind≠2->z1t g x.kind x.name q=(x.name,g,q):=λh h2=>by unfold z1t;rw[A1 h,A1 h2]
  generalize z1t g x.kind x.name q=O at hfin hsn hOm hOn hO1 hO2 hO3;have ht:=ih x.thn oM0 oM0 O.2.1 hOm O.2.2 oM0;have hn1:=j3g _ x.thn (Ac _) O.2.1 O.2.2;generalize rnB x.thn O.2.1 O.2.2=t' at ht hn1 hfin hsn;have he:=ih x.els oM0 oM0 O.2.1 hOm t'.2 oM0;generalize rnB x.els O.2.1 t'.2=e' at he hfin hsn;have hT:SC Tryz.prog 65 [.mp 8,.pv (sts x.thn),.fn (.func 109) [] [.ptr 2 0]] [(8,.map O.2.1),(2,cnB O.2.2)] _ (.pv (sts t'.1)) [(8,.map O.2.1),(2,cnB t'.2)]:=ht.sw 1 8;have hE:SC Tryz.prog 65 [.mp 8,.pv (sts x.els),.fn (.func 109) [] [.ptr 2 0]] [(8,.map O.2.1),(2,cnB t'.2)] _ (.pv (sts e'.1)) [(8,.map O.2.1),(2,cnB e'.2)]:=he.sw 1 8;clear ht he;have hl1:∀e,(M.set i e).length=(l.map St.enc).length:=λe=>by rw[E5];exact hlen
  have hg1:∀e,(M.set i e)[i]?=some e:=λe=>Bp (by rw[hlen];exact hin);refine⟨hlen,hin,rfl,hlen,hlen,VRow.mk (i:=i) (j:=3) hlen rfl hget rfl ⟨[8],hX,sR,Gi,rfl,hlen,hlen,i,3,_,hlen,rfl,hget,by simp,?_⟩⟩;have hl2:∀e e2,((M.set i e).set i e2).length=(l.map St.enc).length:=λe e2=>by rw[E5];exact hl1 e
  have hg2:∀e e2,((M.set i e).set i e2)[i]?=some e2:=λe e2=>Bp (by rw[hl1];exact hin);refine⟨Unit,λ_=>[],λ_=>[(7,.row stRt (M.set i [vInt x.kind,vInt x.ty,vStr O.1,exs (x.args.map (rnX g)),sts x.thn,sts x.els])),(8,.map O.2.1),(2,cnB O.2.2)],λ_=>True,[7,8,2],⟨hl1 _,hl1 _,VRow.mk (i:=i) (j:=0) (hl1 _) rfl (hg1 [vInt x.kind,vInt x.ty,vStr x.name,exs (x.args.map (rnX g)),sts x.thn,sts x.els]) rfl ?_⟩,?_⟩
  ·refine z00 (λk1=>?_) λk1=>z00 (λk2=>?_) λk2=>?_
   ·obtain rfl:=hO1 (Av k1);have hp:=hg.put x.name (tVal q);exact⟨hl1 _,hl1 _,VRow.mk (i:=i) (j:=2) (hl1 _) rfl (hg1 [vInt x.kind,vInt x.ty,vStr x.name,exs (x.args.map (rnX g)),sts x.thn,sts x.els]) rfl ⟨hF,sR,Gg,λk hk=>hk,rfl,rfl,rfl,hg.1,hl1 _,hl1 _,VRow.mk (i:=i) (j:=2) (hl1 _) rfl (hg1 [vInt x.kind,vInt x.ty,vStr x.name,exs (x.args.map (rnX g)),sts x.thn,sts x.els]) rfl
     (VAsk.mk (p:=vStr (z8t (z9z g x.name (tVal q)) x.name)) (b:=(z1z (.string x.name) (z9z g x.name (tVal q))).isSome) rfl hp.1 (Ec (hp.get x.name) rfl) ⟨hl1 _,hl1 _,i,2,_,hl1 _,rfl,hg1 [vInt x.kind,vInt x.ty,vStr x.name,exs (x.args.map (rnX g)),sts x.thn,sts x.els],by simp,(),Gf,Gf,⟨rwq (by rw[Fm];rfl),rfl,rfl,Gf⟩,rfl,rfl,rfl,rfl⟩)⟩⟩
   ·obtain rfl:=hO2 (Av k2);exact⟨hl1 _,hl1 _,VRow.mk (i:=i) (j:=2) (hl1 _) rfl (hg1 [vInt x.kind,vInt x.ty,vStr x.name,exs (x.args.map (rnX g)),sts x.thn,sts x.els]) rfl
     (VAsk.mk (p:=vStr (z8t g x.name)) (b:=(z1z (.string x.name) g).isSome) rfl hg.1 (Ec (hg.get x.name) rfl) ⟨hl1 _,hl1 _,i,2,_,hl1 _,rfl,hg1 [vInt x.kind,vInt x.ty,vStr x.name,exs (x.args.map (rnX g)),sts x.thn,sts x.els],by simp,(),Gf,Gf,⟨rwq (by rw[Fm];rfl),rfl,rfl,Gf⟩,rfl,rfl,rfl,rfl⟩)⟩
   ·obtain rfl:=hO3 (Aa.1 k1) (Aa.1 k2);exact⟨(),Gf,Gf,Gj,rfl,rfl,rfl,rfl⟩
  ·rintro _ _;refine⟨hl1 _,hl1 _,VRow.mk (i:=i) (j:=4) (hl1 _) rfl (hg1 [vInt x.kind,vInt x.ty,vStr O.1,exs (x.args.map (rnX g)),sts x.thn,sts x.els]) rfl ⟨[8],hT,sR,Gj,rfl,hl1 _,hl1 _,VRow.mk (i:=i) (j:=5) (hl1 _) rfl (hg1 [vInt x.kind,vInt x.ty,vStr O.1,exs (x.args.map (rnX g)),sts x.thn,sts x.els]) rfl ⟨[8],hE,sR,Gj,rfl,hl1 _,hl1 _,i,4,_,hl1 _,rfl,hg1 [vInt x.kind,vInt x.ty,vStr O.1,exs (x.args.map (rnX g)),sts x.thn,sts x.els],by simp,hl2 _ _,hl2 _ _,i,5,_,hl2 _ _,rfl,hg2 _ [vInt x.kind,vInt x.ty,vStr O.1,exs (x.args.map (rnX g)),sts t'.1,sts x.els],by simp,?_⟩⟩⟩;exact⟨z01 rfl oM0,i+1,z05 hlt,hlt,Gg,⟨rwq (by rw[Fm,Fm,hfin];rfl),mpq (by rw[hsn]),by rw[hsn];rfl,Gf⟩,rfl,rfl,rfl,rfl⟩
 ·have hge:l.length<=i:=z13 (f:=St.enc) rfl hcc;have h1:zj4 es c l i=(rnG l es c).1:=by unfold zj4;rw[Az hge,Ae hge,Cy]
  rw[h1,Az hge];exact⟨by simp[zj5],sI,rfl,rfl,Gf⟩
theorem j1b:∀N,fRN N
 |0=>λ_ h=>A9 h (An _)
 |N+1=>yh1 N (j1b N)
theorem y1p:∀(l:List Pm) (x:Pm) (es:List (Value×PV)) (n:Nat),rnPm (l++[x]) es n=((rnPm l es n).1++[⟨z8t (z9z (rnPm l es n).2.1 x.name (tVal (rnPm l es n).2.2)) x.name,x.ty⟩],z9z (rnPm l es n).2.1 x.name (tVal (rnPm l es n).2.2),(rnPm l es n).2.2+1)
 |[],x,es,n=>rfl
 |y::r,x,es,n=>by
  have:=y1p r x (z9z es y.name (tVal n)) (n+1);simp only[Be,rnPm,this]
theorem z9y:∀(l:List Pm) (es:List (Value×PV)) (n:Nat),(rnPm l es n).1.length=l.length
 |[],_,_=>rfl
 |x::r,es,n=>by simp[rnPm,z9y r]
theorem yp5:∀(l:List Pm) (es:List (Value×PV)) (n:Nat),SMap es->SMap (rnPm l es n).2.1
 |[],_,_,h=>h
 |x::r,es,n,h=>yp5 r _ _ (h.put _ _)
theorem rnPm_n:∀(l:List Pm) (es:List (Value×PV)) (n:Nat),(rnPm l es n).2.2=n+l.length
 |[],_,_=>rfl
 |x::r,es,n=>by simp only[rnPm,rnPm_n r,A3];omega
def zx9(l:List Pm)(i:Nat):List Pm:=(rnPm (l.take i) [] 0).1++l.drop i
theorem j3b(l:List Pm)(i:Nat):(zx9 l i).length=l.length:=by unfold zx9;simp[z9y];omega
theorem j3a{l:List Pm}{i:Nat}{x:Pm}(h:l[i]?=some x):(zx9 l i)[i]?=some x:=by
 have hi:=(A7.1 h).1;unfold zx9;rw[B4 (by simp[z9y];omega)];simp[z9y];rw[show i-min i l.length=0 by omega];simpa using h
theorem j3c{l:List Pm}{i:Nat}{x:Pm}(h:l[i]?=some x):(zx9 l i).set i ⟨z8t (z9z (rnPm (l.take i) [] 0).2.1 x.name (tVal (rnPm (l.take i) [] 0).2.2)) x.name,x.ty⟩=zx9 l (i+1):=by
 have hi:=(A7.1 h).1;obtain⟨y,y1,y2,y3,y4⟩:=z0u hi;rw[h]at y1;cases y1
 unfold zx9;rw[y2,y1p,y3,Dh _ _ (by simp[z9y];omega)];simp[z9y];rw[show i-min i l.length=0 by omega];rfl
theorem sc_rnF0(nm:ByteArray)(ty:Int)(body:List St)(hb:szL body<=1000000):SC Tryz.prog 36 [.pv (.agg [vStr nm,vInt ty,pms [],sts body])] [] (λk=>k∈[]) (.pv (.agg (rnF ⟨nm,ty,[],body⟩).enc)) []:=by
 refine K0 tb { ids:=[(7,1)] } [] Tryz.func36 rfl rfl ?_;have h:=j1b _ body (Ac _) oM0 [] SMap.nil 0 oM0;refine⟨[],zx1,sR,Gf,rfl,[],yg0,sR,Gf,rfl,Unit,λ_=>[(16,iInt 0)],λ_=>[],λ_=>0,λ_=>True,[],(),Gf,Gg,Gf,?_⟩;rintro _ _;exact⟨[],h,sR,Gi,rfl,sI,Gf⟩
theorem sc_rnF1(nm:ByteArray)(ty:Int)(l:List Pm)(body:List St)(hne:l≠[])(hl:l.length<=1000000)(hb:szL body<=1000000):SC Tryz.prog 36 [.pv (.agg [vStr nm,vInt ty,pms l,sts body])] [] (λk=>k∈[]) (.pv (.agg (rnF ⟨nm,ty,l,body⟩).enc)) []:=by
 refine K0 tb { ids:=[(7,1)],gh:=[(10,[.fzC 101 2 7])] } [] Tryz.func36 rfl rfl ?_;refine⟨[],zx1,sR,Gf,rfl,[],yx7 l hne oM0,sR,Gf,rfl,rfl,rfl,?_⟩;refine⟨Nat,λi=>[(16,iInt ((i:Nat):Int))],λi=>[(7,.row pmRt ((zx9 l i).map Pm.enc)),(1,.map (rnPm (l.take i) [] 0).2.1),(2,cnB (rnPm (l.take i) [] 0).2.2)],λi=>l.length-i,λi=>i<=l.length,[],0,Aj _,Gg,Gj,?_⟩;intro i hi;have hmap:=yp5 (l.take i) [] 0 SMap.nil;have hcnt:=rnPm_n (l.take i) [] 0;have hlen:((zx9 l i).map Pm.enc).length=(l.map Pm.enc).length:=by simp[j3b]
 refine z00 (λhc=>?_) λhc=>?_
 ·have hlt:i<l.length:=z12 (f:=Pm.enc) rfl hc;obtain⟨x,x1,x2,x3,x4⟩:=z0u hlt;have hin:i<(l.map Pm.enc).length:=by rw[Ab];exact hlt
  have hget:((zx9 l i).map Pm.enc)[i]?=some [vStr x.name,vInt x.ty]:=zw2 (j3a x1);have hset:=j3c x1;have hsn:=y1p (l.take i) x [] 0;rw[<- x2]at hsn;have hF:=y4m (rnPm (l.take i) [] 0).2.2 (by rw[hcnt];simp;omega);have hp:=hmap.put x.name (tVal (rnPm (l.take i) [] 0).2.2);refine⟨hlen,hin,rfl,VRowS.mk (i:=i) hlen rfl hget ⟨hF,sR,Gg,(λk hk=>A9 hk C1),rfl,rfl,rfl,hmap.1,VAsk.mk (p:=vStr (z8t (z9z (rnPm (l.take i) [] 0).2.1 x.name (tVal (rnPm (l.take i) [] 0).2.2)) x.name)) (b:=(z1z (.string x.name) (z9z (rnPm (l.take i) [] 0).2.1 x.name (tVal (rnPm (l.take i) [] 0).2.2))).isSome) rfl hp.1 (Ec (hp.get x.name) rfl) ⟨hlen,hin,rfl,hlen,i,0,_,hlen,rfl,hget,by simp,?_⟩⟩⟩;exact⟨z01 rfl oM0,i+1,z05 hlt,hlt,Gg,⟨rwq (by rw[<- hset,C8];rfl),mpq (by rw[hsn];rfl),by rw[hsn];rfl,Gf⟩,rfl,rfl,rfl,rfl⟩
 ·have hge:l.length<=i:=z13 (f:=Pm.enc) rfl hc;have h1:zx9 l i=(rnPm l [] 0).1:=by unfold zx9;rw[Az hge,Ae hge,Cy]
  rw[Az hge]at hmap hcnt⊢;rw[h1]at hlen⊢;have h:=j1b _ body (Ac _) oM0 (rnPm l [] 0).2.1 hmap (rnPm l [] 0).2.2 oM0;exact⟨[],h,sR,Gi,rfl,hlen,sI,Gf⟩
theorem sc_rnF(f:Fu)(hl:1+f.params.length+szL f.body<=1000000):SC Tryz.prog 36 [.pv (.agg f.enc)] [] (λk=>k∈[]) (.pv (.agg (rnF f).enc)) []:=by
 obtain⟨nm,ty,l,body⟩:=f;dsimp only at hl
 cases l with
 |nil=>exact sc_rnF0 nm ty body oM0
 |cons a r=>exact sc_rnF1 nm ty (a::r) body sI0 oM0 oM0
def rnOf(p:Pg):Pg×Int:=if (z86 p).1=0 then(rnP p,0)else(pg0,1)
theorem yx1(p:Pg)(h0:p.arrays=[])(hb:pz p.funcs<=1000000){c2 c3:Int}(hC:SC Tryz.prog 34 [.pv p.enc] [] (λk=>k∈[]) (.tup [iInt 0,.pv (.agg [vInt c2,vInt c3])]) []):SC Tryz.prog 17 [.pv p.enc] [] (λk=>k∈[]) (.tup [.pv (rnP p).enc,iInt 0]) []:=by
 have hlp:=zm1 p.funcs;obtain⟨ars,fs⟩:=p;dsimp only at h0 hb hlp;subst h0;refine K0 tb { gh:=[(5,[.growC 102 1 1002 57 4]),(10,[.fzC 102 1 1002])] } [] Tryz.func17 rfl rfl ?_;refine⟨[],hC,sR,Gf,rfl,[],yf8,sR,Gf,rfl,?_⟩;refine⟨Nat,λi=>[(23,iInt ((i:Nat):Int))],λi=>[(1002,.row fuRt (((fs.take i).map rnF).map Fu.enc)),(102,.box [.pv (.seq []),.sl 1002 (((fs.take i).map rnF).map Fu.enc).length])],λi=>fs.length-i,λi=>i<=fs.length,[],0,Aj _,Gg,Gi,?_⟩;intro i hi;refine z00 (λhcc=>?_) λhcc=>?_
 ·have hlt:i<fs.length:=z12 (f:=Fu.enc) rfl hcc;obtain⟨x,x1,x2,x3,x4⟩:=z0u hlt;have hpz:=zw3 x4;exact⟨zb2 x1,rfl,[],sc_rnF x oM0,sR,Gf,rfl,rfl,z3u rfl,by simp;omega,by simp,z01 rfl oM0,i+1,z05 hlt,hlt,Gg,⟨rwq (by rw[x2];simp[Fu.enc]),boq (by simp;omega),Gf⟩,rfl,rfl,rfl,rfl⟩
 ·have hge:fs.length<=i:=z13 (f:=Fu.enc) rfl hcc;rw[Az hge];exact⟨rfl,sI,Gf⟩
theorem yx2(p:Pg)(hne:p.arrays≠[])(ha:p.arrays.length<=1000000)(hb:pz p.funcs<=1000000){c2 c3:Int}(hC:SC Tryz.prog 34 [.pv p.enc] [] (λk=>k∈[]) (.tup [iInt 0,.pv (.agg [vInt c2,vInt c3])]) []):SC Tryz.prog 17 [.pv p.enc] [] (λk=>k∈[]) (.tup [.pv (rnP p).enc,iInt 0]) []:=by
 have hlp:=zm1 p.funcs;refine K0 tb { gh:=[(5,[.growC 102 1 1002 57 4]),(10,[.fzC 102 1 1002,.fzC 102 0 7])] } [] Tryz.func17 rfl rfl ?_;refine⟨[],hC,sR,Gf,rfl,[],yx5 p.arrays hne oM0,sR,Gf,rfl,rfl,?_⟩;refine⟨Nat,λi=>[(23,iInt ((i:Nat):Int))],λi=>[(1002,.row fuRt (((p.funcs.take i).map rnF).map Fu.enc)),(102,.box [.sl 7 (p.arrays.map Ar.enc).length,.sl 1002 (((p.funcs.take i).map rnF).map Fu.enc).length])],λi=>p.funcs.length-i,λi=>i<=p.funcs.length,[],0,Aj _,Gg,Gi,?_⟩;intro i hi;refine z00 (λhcc=>?_) λhcc=>?_
 ·have hlt:i<p.funcs.length:=z12 (f:=Fu.enc) rfl hcc;obtain⟨x,x1,x2,x3,x4⟩:=z0u hlt;have hpz:=zw3 x4;exact⟨zb2 x1,rfl,[],sc_rnF x oM0,sR,Gf,rfl,rfl,z3u rfl,by simp;omega,by simp,z01 rfl oM0,i+1,z05 hlt,hlt,Gg,⟨rwq (by rw[x2];simp[Fu.enc]),boq (by simp;omega),Gf⟩,rfl,rfl,rfl,rfl⟩
 ·have hge:p.funcs.length<=i:=z13 (f:=Fu.enc) rfl hcc;rw[Az hge];exact⟨rfl,rfl,sI,Gf⟩
theorem j3o(p:Pg)(hb:pz p.funcs<=1000000)(ha:p.arrays.length<=1000000)(hr:rPg p=true):SC Tryz.prog 17 [.pv p.enc] [] (λk=>k∈[]) (.tup [.pv (rnOf p).1.enc,iInt (rnOf p).2]) []:=by
 have hC:=yz2 p hb ha hr;unfold rnOf;generalize z86 p=C at hC;obtain⟨c1,c2,c3⟩:=C;dsimp only at hC⊢
 by_cases hc:c1=0
 ·rw[A5 hc];subst hc
  by_cases hne:p.arrays=[]
  ·exact yx1 p hne hb hC
  ·exact yx2 p hne ha hb hC
 ·rw[A1 hc];refine K0 tb {} [] Tryz.func17 rfl rfl ?_;exact⟨[],hC,sR,Gf,rfl,z00 (λ_=>⟨sT2 (sP (z0g _)),Gf⟩) λh=>A9 h (by simp[hc])⟩
structure RiS where
 ts:List Int
 ns:List Nd
def y2y(vs:List (Value×PV))(name:ByteArray):Int:=match z1z (.string name) vs with
 |some (.val (.int .i64 n))=>n
 |_=>0
def riSt(vs:List (Value×PV))(name:ByteArray)(v:Int):List (Value×PV):=mput (.string name) (vInt v) vs
def z61(t k o n:Int)(nm:ByteArray)(args:List Int)(kids:List (List Nd))(s:RiS):Int×RiS:=(s.ts.length,⟨s.ts++[t],s.ns++[.mk k o n nm args [(s.ts.length:Int)] [] kids]⟩)
def z6c(k:Int)(nm:ByteArray)(args:List Int)(ns:List Nd):List Nd:=ns++[.mk k 0 0 nm args [] [] []]
def y1l(op:Int):Int:=if op=22∨(12<=op/\op<=17)then 2 else 1
def zj3(p:Pg)(k o n:Int)(nm:ByteArray)(l:List Int)(s:RiS):Int×RiS :=
 if k=1 then z61 1 1 0 n ⟨#[]⟩ [] [] s else if k=2 then z61 2 2 0 n ⟨#[]⟩ [] [] s else if k=4 then z61 (y1l o) 3 o 0 ⟨#[]⟩ l [] s else if k=5 then z61 (y1l o) 4 o 0 ⟨#[]⟩ l [] s
 else if k=6 then z61 1 5 0 0 nm l [] s else if k=8 then z61 1 8 0 0 ⟨#[]⟩ [] [] s else z61 (fuAt p (z3l p nm)).ty 7 0 0 nm l [] s
def z5u(o a:Int)(ns:List Nd)(r:Int×RiS):Int×RiS :=
 if o=19 then z61 2 10 0 0 ⟨#[]⟩ [a] [z6c 12 ⟨#[]⟩ [(r.2.ts.length:Int)] [.mk 2 0 1 ⟨#[]⟩ [] [(r.2.ts.length:Int)] [] []],z6c 12 ⟨#[]⟩ [r.1] r.2.ns] ⟨r.2.ts++[2],ns⟩
 else z61 2 10 0 0 ⟨#[]⟩ [a] [z6c 12 ⟨#[]⟩ [r.1] r.2.ns,z6c 12 ⟨#[]⟩ [(r.2.ts.length:Int)] [.mk 2 0 0 ⟨#[]⟩ [] [(r.2.ts.length:Int)] [] []]] ⟨r.2.ts++[2],ns⟩
mutual
def riX(p:Pg)(vs:List (Value×PV)):Ex->RiS->Int×RiS
 |.mk k o n nm args,s=>if k=3 then(y2y vs nm,s)else if k=5/\(o=18∨o=19)then riSh p vs o args s else zj3 p k o n nm (riXL p vs args s).1 (riXL p vs args s).2
def riXL(p:Pg)(vs:List (Value×PV)):List Ex->RiS->List Int×RiS
 |[],s=>([],s)
 |e::r,s=>((riX p vs e s).1::(riXL p vs r (riX p vs e s).2).1,(riXL p vs r (riX p vs e s).2).2)
def riSh(p:Pg)(vs:List (Value×PV))(o:Int):List Ex->RiS->Int×RiS
 |[],s=>(0,s)
 |e::r,s=>zj1 p vs o (riX p vs e s).1 (riX p vs e s).2 r
def zj1(p:Pg)(vs:List (Value×PV))(o a:Int)(s:RiS):List Ex->Int×RiS
 |[]=>(0,s)
 |e::_=>z5u o a s.ns (riX p vs e ⟨s.ts,[]⟩)
end
mutual
def z4k(vs:List (Value×PV)):List St->List (Value×PV)->List (Value×PV)
 |[],out=>out
 |x::r,out=>z4k vs r (yo9 vs x out)
def yo9(vs:List (Value×PV)):St->List (Value×PV)->List (Value×PV)
 |.mk k _ nm _ thn els,out=>z4k vs els (z4k vs thn (if (z1z (.string nm) vs).isSome&&k==2 then mput (.string nm) (.agg []) out else out))
end
def z79:Value->ByteArray
 |.string s=>s
 |_=>⟨#[]⟩
def zo7(l:List ByteArray):List ByteArray:=((l.map λs=>s.data.toList).mergeSort λx y=>decide (x<=y)).map λb=>⟨b.toArray⟩
def z8r(vs:List (Value×PV))(ls:List (List St)):List (Value×PV):=ls.foldl (λo l=>z4k vs l o) []
def z0c(vs:List (Value×PV))(ls:List (List St)):List ByteArray:=zo7 ((z8r vs ls).map λe=>z79 e.1)
def riOf(vs:List (Value×PV))(z03:List ByteArray):List Int:=z03.map (y2y vs)
def zn4(vs:List (Value×PV)):List ByteArray->List Int->List (Value×PV)
 |n::r,v::q=>zn4 (riSt vs n v) r q
 |_,_=>vs
def z15(ts:List Int):List Int->List Int×List Int
 |[]=>([],ts)
 |v::r=>((ts.length:Int)::(z15 (ts++[ts.getD v.toNat 0]) r).1,(z15 (ts++[ts.getD v.toNat 0]) r).2)
structure Lo where
 ls:List (List ByteArray)
 jk:List (List ByteArray)
structure RiT where
 vs:List (Value×PV)
 ts:List Int
 ns:List Nd
 jk:List (List ByteArray)
def z5a(k:Int)(z03:List ByteArray)(a:Bool×RiT):List Nd:=if a.1 then a.2.ns else z6c k ⟨#[]⟩ (riOf a.2.vs z03) a.2.ns
def z5t(vs:List (Value×PV))(z03:List ByteArray)(ts:List Int)(ns:List Nd)(jk:List (List ByteArray))(k:Int)(args params:List Int)(kids:List (List Nd)):Bool×RiT :=
 if z04 (.mk k 0 0 ⟨#[]⟩ args [] params kids)then(true,⟨vs,ts,ns++[.mk k 0 0 ⟨#[]⟩ args [] params kids],jk⟩)
 else(false,⟨zn4 vs z03 (z15 ts (riOf vs z03)).1,(z15 ts (riOf vs z03)).2,ns++[.mk k 0 0 ⟨#[]⟩ args (z15 ts (riOf vs z03)).1 params kids],jk⟩)
def z8d(p:Pg)(k:Int)(nm:ByteArray)(args:List Ex)(s:RiT):RiT :=
 if k=1∨k=2 then⟨riSt s.vs nm (riX p s.vs (args.getD 0 ex0) ⟨s.ts,s.ns⟩).1,(riX p s.vs (args.getD 0 ex0) ⟨s.ts,s.ns⟩).2.ts,(riX p s.vs (args.getD 0 ex0) ⟨s.ts,s.ns⟩).2.ns,s.jk⟩
 else if k=3 then⟨s.vs,(riX p s.vs (args.getD 1 ex0) (riX p s.vs (args.getD 0 ex0) ⟨s.ts,s.ns⟩).2).2.ts,z6c 6 nm [(riX p s.vs (args.getD 0 ex0) ⟨s.ts,s.ns⟩).1,(riX p s.vs (args.getD 1 ex0) (riX p s.vs (args.getD 0 ex0) ⟨s.ts,s.ns⟩).2).1] (riX p s.vs (args.getD 1 ex0) (riX p s.vs (args.getD 0 ex0) ⟨s.ts,s.ns⟩).2).2.ns,s.jk⟩
 else if k=9 then⟨s.vs,(riX p s.vs (args.getD 0 ex0) ⟨s.ts,s.ns⟩).2.ts,z6c 9 ⟨#[]⟩ [(riX p s.vs (args.getD 0 ex0) ⟨s.ts,s.ns⟩).1] (riX p s.vs (args.getD 0 ex0) ⟨s.ts,s.ns⟩).2.ns,s.jk⟩
 else⟨s.vs,(riX p s.vs (args.getD 0 ex0) ⟨s.ts,s.ns⟩).2.ts,(riX p s.vs (args.getD 0 ex0) ⟨s.ts,s.ns⟩).2.ns,s.jk⟩
def ze0(e:Ex):Bool:=e.kind==2&&e.n==1
def z8s(z03:List ByteArray)(kvs:List (Value×PV))(c:Int×RiS)(a:Bool×RiT):List Nd:=c.2.ns++[.mk 10 0 0 ⟨#[]⟩ [c.1] [] [] [z5a 13 z03 a,z6c 14 ⟨#[]⟩ (riOf kvs z03) []]]
def zf2(s:RiT)(z03:List ByteArray)(c:Int×RiS)(a b:Bool×RiT):Bool×RiT:=z5t s.vs z03 b.2.ts c.2.ns b.2.jk 10 [c.1] [] [z5a 12 z03 a,z5a 12 z03 b]
def z2a(s:RiT)(z03:List ByteArray):RiT:=⟨zn4 s.vs z03 (z15 s.ts (riOf s.vs z03)).1,(z15 s.ts (riOf s.vs z03)).2,[],s.jk.tail⟩
def y6c(s:RiT)(z03:List ByteArray)(a:Bool×RiT):Bool×RiT:=z5t s.vs z03 a.2.ts s.ns (z03::a.2.jk) 11 (riOf s.vs z03) (z15 s.ts (riOf s.vs z03)).1 [z5a 13 z03 a]
def y6d(s:RiT)(z03:List ByteArray)(c:Int×RiS)(a:Bool×RiT):Bool×RiT:=z5t s.vs z03 a.2.ts s.ns (z03::a.2.jk) 11 (riOf s.vs z03) (z15 s.ts (riOf s.vs z03)).1 [z8s z03 (z2a s z03).vs c a]
mutual
def riB(p:Pg):List St->List (List ByteArray)->RiT->Bool×RiT
 |[],_,s=>(false,s)
 |x::r,lo,s=>if (riS p x lo s).1 then(true,(riS p x lo s).2)else riB p r lo (riS p x lo s).2
def riS(p:Pg):St->List (List ByteArray)->RiT->Bool×RiT
 |.mk k _ nm args thn els,lo,s =>
  if k=4 then zf2 s (z0c s.vs [thn,els]) (riX p s.vs (args.getD 0 ex0) ⟨s.ts,s.ns⟩) (riB p thn lo ⟨s.vs,(riX p s.vs (args.getD 0 ex0) ⟨s.ts,s.ns⟩).2.ts,[],s.jk⟩)
   (riB p els lo ⟨s.vs,(riB p thn lo ⟨s.vs,(riX p s.vs (args.getD 0 ex0) ⟨s.ts,s.ns⟩).2.ts,[],s.jk⟩).2.ts,[],(riB p thn lo ⟨s.vs,(riX p s.vs (args.getD 0 ex0) ⟨s.ts,s.ns⟩).2.ts,[],s.jk⟩).2.jk⟩)
  else if k=5 then
   if ze0 (args.getD 0 ex0)then y6c s (z0c s.vs [thn]) (riB p thn (lo++[z0c s.vs [thn]]) (z2a s (z0c s.vs [thn])))
   else y6d s (z0c s.vs [thn]) (riX p (z2a s (z0c s.vs [thn])).vs (args.getD 0 ex0) ⟨(z2a s (z0c s.vs [thn])).ts,[]⟩)
    (riB p thn (lo++[z0c s.vs [thn]]) ⟨(z2a s (z0c s.vs [thn])).vs,(riX p (z2a s (z0c s.vs [thn])).vs (args.getD 0 ex0) ⟨(z2a s (z0c s.vs [thn])).ts,[]⟩).2.ts,[],s.jk.tail⟩)
  else if k=6 then(true,⟨s.vs,s.ts,z6c 14 ⟨#[]⟩ (riOf s.vs (lo.getLastD [])) s.ns,s.jk⟩)
  else if k=7 then(true,⟨s.vs,s.ts,z6c 13 ⟨#[]⟩ (riOf s.vs (lo.getLastD [])) s.ns,s.jk⟩)
  else if k=8 then(true,⟨s.vs,(riX p s.vs (args.getD 0 ex0) ⟨s.ts,s.ns⟩).2.ts,z6c 15 ⟨#[]⟩ [(riX p s.vs (args.getD 0 ex0) ⟨s.ts,s.ns⟩).1] (riX p s.vs (args.getD 0 ex0) ⟨s.ts,s.ns⟩).2.ns,s.jk⟩)
  else(false,z8d p k nm args s)
end
def eTxs(l:List ByteArray):List PV:=[.seq (l.map eTx)]
def inRt:RT:=⟨3,1⟩
def loRt:RT:=⟨77,1⟩
def ndRt:RT:=⟨47,8⟩
def riBx(p:Pg)(ts:List Int)(lo:Lo):List (Nat×HO) :=
 [(1,.box [.pv (arrs p.arrays),.pv (fus p.funcs),.sl 2 (ts.map eInt).length,.sp 3 (lo.ls.map eTxs).length ((lo.ls++lo.jk).map eTxs).length]),(2,.row inRt (ts.map eInt)),(3,.row loRt ((lo.ls++lo.jk).map eTxs))]
def riLx(vs:List (Value×PV))(ns:List Nd):List (Nat×HO) :=
 [(4,.box [.ptr 1 0,.mp 5,.sl 6 (ns.map Nd.enc).length]),(5,.map vs),(6,.row ndRt (ns.map Nd.enc))]
theorem zt1(p:Pg)(ts:List Int)(lo:Lo)(t:Int)(hb:ts.length<=34359738368):SC Tryz.prog 37 [.ptr 1 0,.pv (.val (.int .i64 t))] (riBx p ts lo) (λk=>k∈[]) (iInt (ts.length:Int)) (riBx p (ts++[t]) lo):=by
 refine K0 tb {} [] Tryz.func37 rfl rfl ?_;exact⟨rfl,z3u rfl,by simp;omega,by simp,by simp,z3e (z:=(ts.length:Int)) sI0 oM0,sI,boq sI0,rwq (by simp[eInt]),rfl,Gf⟩
theorem y9b(op:Int):SC Tryz.prog 170 [.pv (.val (.int .i64 op))] [] (λk=>k∈[]) (iInt (y1l op)) []:=by
 refine K0 tb {} [] Tryz.func170 rfl rfl ?_
 by_cases h:op=22∨op=12∨op=13∨op=14∨op=15∨op=16∨op=17
 ·rcases h with rfl|rfl|rfl|rfl|rfl|rfl|rfl<;>exact⟨sI,Gf⟩
 ·have hT:y1l op=1:=by unfold y1l;rw[A1 oM0]
  rw[hT]
  repeat' (first|exact⟨sI,Gf⟩|refine z00 (λg=>A9 (Av g) oM0) λ_=>?_)
theorem z42(p:Pg)(ts:List Int)(lo:Lo)(vs:List (Value×PV))(ns:List Nd)(x:Nd)(hb:ns.length<=34359738368):SC Tryz.prog 117 [.ptr 4 0,.pv (.agg [vInt x.kind,vInt x.op,vInt x.n,vStr x.name,ints x.args,ints x.outs,ints x.params,kids x.kids])] (riBx p ts lo++riLx vs ns) (λk=>k∈[]) (.tup []) (riBx p ts lo++riLx vs (ns++[x])):=by
 refine K0 tb {} [] Tryz.func117 rfl rfl ?_;exact⟨rfl,z3u rfl,by simp;omega,by simp,sI,rfl,rfl,rfl,boq sI0,rfl,rwq (by rw[Cp,B7,Cv,Nd.enc_eq,Nd.cells_eta]),Gf⟩
theorem z6j(p:Pg)(ts:List Int)(lo:Lo)(vs:List (Value×PV))(ns:List Nd)(t k o n:Int)(nm:ByteArray)(args:List Int)(ks:List (List Nd))(ht:ts.length<=34359738368)(hb:ns.length<=34359738368) :
 SC Tryz.prog 169 [.ptr 4 0,.pv (.val (.int .i64 t)),.pv (.agg [vInt k,vInt o,vInt n,vStr nm,ints args,ints [],ints [],kids ks])] (riBx p ts lo++riLx vs ns) (λk=>k∈[]) (iInt (z61 t k o n nm args ks ⟨ts,ns⟩).1) (riBx p (z61 t k o n nm args ks ⟨ts,ns⟩).2.ts lo++riLx vs (z61 t k o n nm args ks ⟨ts,ns⟩).2.ns):=by
 refine K0 tb {} [] Tryz.func169 rfl rfl ?_;exact⟨[],zt1 p ts lo t ht,sR,Gj,rfl,[],z42 p (ts++[t]) lo vs ns (.mk k o n nm args [(ts.length:Int)] [] ks) hb,sR,Gm,rfl,sI,rfl,rfl,rfl,rfl,rfl,rfl,Gf⟩
theorem Cnt.getI{es:List (Value×PV)}(h:Cnt es)(name:ByteArray):(z1z (.string name) es).getD (.val (.int .i64 0))=vInt (y2y es name):=by
 unfold y2y
 cases hf:z1z (.string name) es with
 |none=>rfl
 |some p=>obtain⟨a,ha⟩:=z93 hf;obtain⟨s,hs⟩:=h.2 _ ha;dsimp only at hs;subst hs;rfl
theorem Cnt.putI{es:List (Value×PV)}(h:Cnt es)(a:ByteArray)(v:Int):Cnt (riSt es a v):=by
 unfold riSt;refine⟨λe he=>?_,λe he=>?_⟩
 ·rcases z55 he with rfl|he
  ·rfl
  ·exact h.1 e he
 ·rcases z55 he with rfl|he
  ·exact⟨_,rfl⟩
  ·exact h.2 e he
def txs(l:List ByteArray):PV:=.seq (l.map eTx)
theorem zj8(vs:List (Value×PV))(hv:Cnt vs)(l:List ByteArray)(hl:l.length<=34359738368):SC Tryz.prog 118 [.mp 5,.pv (txs l)] [(5,.map vs)] (λk=>k∈[5]) (.pv (ints (riOf vs l))) [(5,.map vs)]:=by
 refine K0 tb { gh:=[(1,[.grow 4 1001 3 1]),(6,[.fz 4 1001])] } [5] Tryz.func118 rfl rfl ?_;refine⟨Nat,λi=>[(9,iInt ((i:Nat):Int)),(4,.sl 1001 ((riOf vs (l.take i)).map eInt).length)],λi=>[(1001,.row inRt ((riOf vs (l.take i)).map eInt))],λi=>l.length-i,λi=>i<=l.length,[],0,Aj _,Gi,Gg,?_⟩;intro i hi;refine z00 (λhc=>?_) λhc=>?_
 ·have hlt:i<l.length:=z12 (f:=eTx) rfl hc;obtain⟨x,x1,x2,x3,x4⟩:=z0u hlt;exact⟨z02 (f:=eTx) x1,rfl,VAsk.mk (p:=vInt (y2y vs x)) (b:=(z1z (.string x) vs).isSome) rfl hv.1 (Ec (hv.getI x) rfl) ⟨rfl,z3u rfl,by simp[riOf];omega,z01 rfl oM0,i+1,z05 hlt,hlt,⟨rfl,slq (by simp[riOf];omega),Gf⟩,⟨rwq (by rw[x2];simp[riOf,eInt]),Gf⟩,rfl,rfl,rfl,rfl⟩⟩
 ·have hge:l.length<=i:=z13 (f:=eTx) rfl hc;rw[Az hge];exact⟨rfl,sI,rfl,Gf⟩
theorem y48:∀(a:List ByteArray) (b:List Int) (vs:List (Value×PV)) (n:ByteArray) (v:Int),a.length=b.length->zn4 vs (a++[n]) (b++[v])=riSt (zn4 vs a b) n v
 |[],[],_,_,_,_=>rfl
 |x::a,y::b,vs,n,v,h=>by
  simp only[Be,zn4];exact y48 a b _ n v (by simpa using h)
theorem y8u:∀(a:List ByteArray) (b:List Int) {vs:List (Value×PV)},Cnt vs->Cnt (zn4 vs a b)
 |[],[],_,h=>h
 |[],_::_,_,h=>h
 |_::_,[],_,h=>h
 |x::a,y::b,_,h=>y8u a b (h.putI x y)
theorem y6r(vs:List (Value×PV))(hv:Cnt vs)(l:List ByteArray)(q:List Int)(hq:l.length=q.length)(hl:l.length<=34359738368):SC Tryz.prog 165 [.mp 5,.pv (txs l),.pv (ints q)] [(5,.map vs)] (λk=>k∈[]) (.tup []) [(5,.map (zn4 vs l q))]:=by
 refine K0 tb {} [] Tryz.func165 rfl rfl ?_;refine⟨Nat,λi=>[(10,iInt ((i:Nat):Int))],λi=>[(5,.map (zn4 vs (l.take i) (q.take i)))],λi=>l.length-i,λi=>i<=l.length,[],0,Aj _,Gg,⟨by simp[zn4];rfl,Gf⟩,?_⟩;intro i hi;have hc0:=y8u (l.take i) (q.take i) hv;refine z00 (λhc=>?_) λhc=>?_
 ·have hlt:i<l.length:=z12 (f:=eTx) rfl hc;obtain⟨x,x1,x2,x3,x4⟩:=z0u hlt;obtain⟨y,y1,y2,y3,y4⟩:=z0u (show i<q.length by omega);exact⟨z02 (f:=eTx) x1,rfl,z02 (f:=eInt) y1,rfl,rfl,hc0.1,z01 rfl oM0,i+1,z05 hlt,hlt,Gg,⟨mpq (by rw[x2,y2,y48 _ _ _ _ _ (by simp;omega)];rfl),Gf⟩,rfl,rfl,rfl,rfl⟩
 ·have hge:l.length<=i:=z13 (f:=eTx) rfl hc;rw[Az hge,Az oM0];exact⟨sI,rfl,Gf⟩
theorem z3i:∀(l ts:List Int),(z15 ts l).1.length=l.length/\(z15 ts l).2.length=ts.length+l.length
 |[],ts=>⟨rfl,rfl⟩
 |v::r,ts=>by
  have:=z3i r (ts++[ts.getD v.toNat 0]);simp only[z15,A3,B8,A6]at this⊢;omega
theorem y1k:∀(l ts:List Int)(v:Int),z15 ts (l++[v])=((z15 ts l).1++[((z15 ts l).2.length:Int)],(z15 ts l).2++[(z15 ts l).2.getD v.toNat 0])
 |[],ts,v=>rfl
 |w::r,ts,v=>by
  have:=y1k r (ts++[ts.getD w.toNat 0]) v;simp only[Be,z15,this]
theorem y23(p:Pg)(ts:List Int)(lo:Lo)(l:List Int)(hv:∀v∈l,0<=v/\v<ts.length)(hb:ts.length+l.length<=34359738368):SC Tryz.prog 164 [.ptr 1 0,.pv (ints l)] (riBx p ts lo) (λk=>k∈[]) (.pv (ints (z15 ts l).1)) (riBx p (z15 ts l).2 lo):=by
 refine K0 tb { gh:=[(1,[.grow 4 1001 3 1]),(6,[.fz 4 1001])] } [] Tryz.func164 rfl rfl ?_;refine⟨Nat,λi=>[(9,iInt ((i:Nat):Int)),(4,.sl 1001 ((z15 ts (l.take i)).1.map eInt).length)],λi=>(1001,.row inRt ((z15 ts (l.take i)).1.map eInt))::riBx p (z15 ts (l.take i)).2 lo,λi=>l.length-i,λi=>i<=l.length,[],0,Aj _,Gi,Gk,?_⟩;intro i hi;obtain⟨g1,g2⟩:=z3i (l.take i) ts;have g3:(l.take i).length=i:=by simp;omega
 refine z00 (λhc=>?_) λhc=>?_
 ·have hlt:i<l.length:=z12 (f:=eInt) rfl hc;obtain⟨x,x1,x2,x3,x4⟩:=z0u hlt;have hs:=y1k (l.take i) ts x;rw[<- x2]at hs;have hx:=hv x x4;have hix:x.toNat<(z15 ts (l.take i)).2.length:=by omega
  have hF:=zt1 p (z15 ts (l.take i)).2 lo ((z15 ts (l.take i)).2.getD x.toNat 0) oM0;refine⟨z02 (f:=eInt) x1,rfl,by simp,by rw[Ab];exact hix,by omega,VRow.mk (i:=x.toNat) (j:=0) sI0 (by simp[inRt]) (z02 (f:=eInt) (z3n hix)) rfl ⟨[],hF,sR,Gj,rfl,rfl,z3u rfl,by simp;omega,?_⟩⟩;exact⟨z01 rfl oM0,i+1,z05 hlt,hlt,⟨rfl,slq (by rw[hs];simp),Gf⟩,⟨rwq (by rw[hs];simp[eInt]),by rw[hs];rfl,by rw[hs];rfl,rfl,Gf⟩,rfl,rfl,rfl,rfl⟩
 ·have hge:l.length<=i:=z13 (f:=eInt) rfl hc;rw[Az hge];exact⟨by simp,sI,rfl,rfl,rfl,Gf⟩
theorem zf3(p:Pg)(ts:List Int)(lo:Lo)(vs:List (Value×PV))(ns:List Nd):SC Tryz.prog 166 [.ptr 4 0] (riBx p ts lo++riLx vs ns) (λk=>k∈[1,2,3,4,5,6]) (.ptr 14 0) ([(14,.box [.ptr 1 0,.mp 15,.pv (.val (.slice none 0 0))]),(15,.map vs)]++(riBx p ts lo++riLx vs ns)):=by
 refine K0 tb { ids:=[(13,14)] } [1,2,3,4,5,6] Tryz.func166 rfl rfl ?_;have hC:SC Tryz.prog 199 [.mp 5] [(5,.map vs)] (λk=>k∈[5]) (.mp 15) [(15,.map vs),(5,.map vs)]:=L0 (((j3s vs).sw 1 5).sw 8 15) λk _ hk=>by rw[Al.1 hk];exact D6
 exact⟨[5],hC,sR,⟨rfl,rfl,by simp,Gf⟩,rfl,sI,rfl,rfl,rfl,rfl,rfl,rfl,rfl,rfl,Gf⟩
theorem zd8(vs:List (Value×PV))(x:St)(out:List (Value×PV)):yo9 vs x out=z4k vs x.els (z4k vs x.thn (if (z1z (.string x.name) vs).isSome&&x.kind==2 then mput (.string x.name) (.agg []) out else out)):=by cases x;rw[yo9];rfl
theorem y44(vs:List (Value×PV)):∀(l:List St) (x:St) (out:List (Value×PV)),z4k vs (l++[x]) out=yo9 vs x (z4k vs l out)
 |[],x,out=>by simp[z4k]
 |y::r,x,out=>by simp only[Be,z4k];exact y44 vs r x _
def StrK(es:List (Value×PV)):Prop:=∀e∈es,z1y .string e.1=true
theorem StrK.put{es:List (Value×PV)}(h:StrK es)(a:ByteArray)(v:PV):StrK (mput (.string a) v es):=λe he=>by
 rcases z55 he with rfl|he
 ·rfl
 ·exact h e he
theorem z9d(vs:List (Value×PV)):∀(N:Nat)(l:List St),SizeOf.sizeOf l<N->∀out,StrK out->StrK (z4k vs l out)
 |0,_,h,_,_=>A9 h (An _)
 |N+1,[],_,out,h=>by rw[z4k];exact h
 |N+1,x::r,hN,out,h=>by
  have hx:=zt7 x;simp at hN;rw[z4k,zd8];refine z9d vs N r oM0 _ (z9d vs N x.els oM0 _ (z9d vs N x.thn oM0 _ ?_));split
  ·exact h.put _ _
  ·exact h
theorem okf_unit{o:Oper}{fr:Fr}{hp:Hp}{Rl:List Nat}(ho:o.op=.build 253 #[]):OkF Tryz.prog Rl o fr hp ⟨.pv (.agg []),[],[],[]⟩ :=
 .pure λc R1 fr2 hp2 _ _ _=>bPu (pl:=#[]) (out:=[]) ho (xs:=[]) rfl (z:=.agg #[]) kR0 ⟨#[],Tryz.underlying253,y1d (T:=tb) (a:=#[]) (l:=[]) rfl⟩ rfl (λp hp=>by cases hp) rfl
theorem y6q(vs:List (Value×PV))(hv:Cnt vs):∀(N:Nat)(l:List St),SizeOf.sizeOf l<N->szL l<=1073741824->∀out,StrK out ->
 SC Tryz.prog 196 [.mp 5,.pv (sts l),.mp 9] [(5,.map vs),(9,.map out)] (λk=>k∈[5]) (.tup []) [(5,.map vs),(9,.map (z4k vs l out))]
 |0,_,h,_,_,_=>A9 h (An _)
 |N+1,l,hN,hx,out,ho=>by
  refine K0 tb { jn:=[6],an:=[5003] } [5] Tryz.func196 rfl rfl ?_;have hl:=z8p l;refine⟨Nat,λi=>[(12,iInt ((i:Nat):Int))],λi=>[(9,.map (z4k vs (l.take i) out))],λi=>l.length-i,λi=>i<=l.length,[],0,Aj _,Gg,⟨by simp[z4k];rfl,Gf⟩,?_⟩;intro i hi;have hk:=z9d vs _ (l.take i) (Ac _) out ho;refine z00 (λhc=>?_) λhc=>?_
  ·have hlt:i<l.length:=z12 (f:=St.enc) rfl hc;obtain⟨x,x1,x2,x3,x4⟩:=z0u hlt;have hso:=zt7 x;have hmem:=Br x4;have hsz:=y33 x;have hszm:=zx5 x4;have hs:=y44 vs (l.take i) x out;rw[<- x2,zd8]at hs;generalize z4k vs (l.take i) out=o1 at hk hs⊢;generalize hO:(if (z1z (.string x.name) vs).isSome&&x.kind==2 then mput (.string x.name) (.agg []) o1 else o1)=o2 at hs;have hk2:StrK o2:=by
    rw[<- hO];split
    ·exact hk.put _ _
    ·exact hk
   have hT:=y6q vs hv N x.thn oM0 oM0 o2 hk2;have hk3:=z9d vs _ x.thn (Ac _) o2 hk2;have hE:=y6q vs hv N x.els oM0 oM0 _ hk3;refine⟨zk5 x1,rfl,Unit,λ_=>[],λ_=>[(9,.map o2)],λ_=>True,[9],VAsk.mk (p:=vInt (y2y vs x.name)) (b:=(z1z (.string x.name) vs).isSome) rfl hv.1 (Ec (hv.getI x.name) rfl) ?_,?_⟩
   ·refine z00 (λc=>?_) λc=>?_
    ·rw[c,B6]at hO;refine z00 (λc2=>?_) λc2=>?_
     ·have c2:(x.kind==2)=true:=c2;rw[c2,A5 rfl]at hO;exact⟨okf_unit rfl,rfl,hk,(),Gf,Gf,⟨mpq hO,Gf⟩,rfl,rfl,rfl,rfl⟩
     ·have c2:(x.kind==2)=false:=c2;rw[c2,A1 dC0]at hO;exact⟨(),Gf,Gf,⟨mpq hO,Gf⟩,rfl,rfl,rfl,rfl⟩
    ·rw[c,D2,A1 dC0]at hO;exact⟨(),Gf,Gf,⟨mpq hO,Gf⟩,rfl,rfl,rfl,rfl⟩
   ·rintro _ _;exact⟨[5],hT,sR,⟨rfl,rfl,by simp,rfl,Gf⟩,rfl,[5],hE,sR,⟨rfl,rfl,by simp,rfl,Gf⟩,rfl,z01 rfl oM0,i+1,z05 hlt,hlt,Gg,⟨mpq (by rw[hs]),Gf⟩,rfl,rfl,rfl,rfl⟩
  ·have hge:l.length<=i:=z13 (f:=St.enc) rfl hc;rw[Az hge];exact⟨sI,rfl,rfl,Gf⟩
section
open Go Go.Proofs Go.RowKit Go.Maps Go.Sort Go.Shelf
def y0w:Go.Shelf.Ren:=⟨λ|7=>198|10=>226|n=>n,λ|23=>247|26=>9|3=>253|28=>251|0=>0|27=>250|33=>115|4=>4|n=>n,λ|n=>n⟩
theorem j1v:Go.Proofs.SlLaysZ.n7 Tryz.prog y0w where
 mixed:=by kernel_rfl
 f7:=⟨"maps.Keys[map[string]struct{},string,struct{}]", by decide,Tryz.func198.trans (Ah some kR0)⟩
 f10:=⟨"maps.Keys[map[string]struct{},string,struct{}]$1", by decide,Tryz.func226.trans (Ah some kR0)⟩
 t0:=Tryz.underlying0
 a0:=Tryz.isAgg0
 z0:=Tryz.sizeOf0
 v0:=Tryz.zeroValue0
 t4:=Tryz.underlying4
 a4:=Tryz.isAgg4
 z4:=Tryz.sizeOf4
 v4:=Tryz.zeroValue4
 t23:=Tryz.underlying247
 a23:=Tryz.isAgg247
 z23:=Tryz.sizeOf247
 v23:=Tryz.zeroValue247
 t26:=Tryz.underlying9
 a26:=Tryz.isAgg9
 z26:=Tryz.sizeOf9
 v26:=Tryz.zeroValue9
 t27:=Tryz.underlying250
 a27:=Tryz.isAgg250
 z27:=Tryz.sizeOf250
 v27:=Tryz.zeroValue250
 t28:=Tryz.underlying251
 a28:=Tryz.isAgg251
 z28:=Tryz.sizeOf251
 v28:=Tryz.zeroValue251
 t33:=Tryz.underlying115
 a33:=Tryz.isAgg115
 z33:=Tryz.sizeOf115
 v33:=Tryz.zeroValue115
def zo8:Go.Shelf.Ren:=⟨λ|6=>197|8=>224|9=>225|11=>247|13=>249|12=>248|23=>265|24=>243|14=>256|15=>257|16=>258|17=>259|18=>260|19=>261|20=>262|21=>263|22=>264|25=>267|26=>268|27=>269|28=>270|29=>271|30=>272|31=>273|n=>n,λ|26=>9|28=>251|24=>77|0=>0|3=>3|37=>289|48=>287|50=>237|4=>4|40=>299|39=>298|45=>168|5=>5|9=>9|51=>309|55=>313|57=>315|58=>234|33=>115|n=>n,λ|n=>n⟩
theorem j52:Go.Proofs.SlLaysZ.n6 Tryz.prog zo8 where
 mixed:=by kernel_rfl
 f6:=⟨"slices.Sorted[string]", by decide,Tryz.func197.trans (Ah some kR0)⟩
 f8:=⟨"slices.Collect[string]", by decide,Tryz.func224.trans (Ah some kR0)⟩
 f11:=⟨"slices.AppendSeq[[]string,string]", by decide,Tryz.func247.trans (Ah some kR0)⟩
 t0:=Tryz.underlying0
 a0:=Tryz.isAgg0
 z0:=Tryz.sizeOf0
 v0:=Tryz.zeroValue0
 t24:=Tryz.underlying77
 a24:=Tryz.isAgg77
 z24:=Tryz.sizeOf77
 v24:=Tryz.zeroValue77
 t26:=Tryz.underlying9
 a26:=Tryz.isAgg9
 z26:=Tryz.sizeOf9
 v26:=Tryz.zeroValue9
 t28:=Tryz.underlying251
 a28:=Tryz.isAgg251
 z28:=Tryz.sizeOf251
 v28:=Tryz.zeroValue251
 i26:=by kernel_rfl
def yi1:Go.Shelf.Ren:=⟨λ|6=>225|8=>249|9=>248|19=>265|20=>243|21=>256|22=>257|23=>258|24=>259|25=>260|26=>261|27=>262|28=>263|29=>264|36=>267|31=>268|32=>269|37=>270|38=>271|39=>272|41=>273|n=>n,λ|27=>77|29=>9|3=>3|32=>289|26=>77|0=>0|44=>287|46=>237|4=>4|36=>299|35=>298|41=>168|5=>5|9=>9|53=>309|57=>313|63=>315|64=>234|n=>n,λ|n=>n⟩
theorem j51:Go.Proofs.SlLaysM.n6 Tryz.prog yi1 where
 mixed:=by kernel_rfl
 f6:=⟨"slices.Sort[[]string,string]", by decide,Tryz.func225.trans (Ah some kR0)⟩
 f8:=Tryz.func249.trans (Ah some kR0)
 f9:=⟨"slices.pdqsortOrdered[string]", by decide,Tryz.func248.trans (Ah some kR0)⟩
 f19:=Tryz.func265.trans (Ah some kR0)
 f20:=Tryz.func243.trans (Ah some kR0)
 f21:=⟨"slices.insertionSortOrdered[string]", by decide,Tryz.func256.trans (Ah some kR0)⟩
 f22:=⟨"slices.heapSortOrdered[string]", by decide,Tryz.func257.trans (Ah some kR0)⟩
 f23:=⟨"slices.breakPatternsOrdered[string]", by decide,Tryz.func258.trans (Ah some kR0)⟩
 f24:=⟨"slices.choosePivotOrdered[string]", by decide,Tryz.func259.trans (Ah some kR0)⟩
 f25:=⟨"slices.reverseRangeOrdered[string]", by decide,Tryz.func260.trans (Ah some kR0)⟩
 f26:=⟨"slices.partialInsertionSortOrdered[string]", by decide,Tryz.func261.trans (Ah some kR0)⟩
 f27:=⟨"cmp.Less[string]", by decide,Tryz.func262.trans (Ah some kR0)⟩
 f28:=⟨"slices.partitionEqualOrdered[string]", by decide,Tryz.func263.trans (Ah some kR0)⟩
 f29:=⟨"slices.partitionOrdered[string]", by decide,Tryz.func264.trans (Ah some kR0)⟩
 f31:=Tryz.func268.trans (Ah some kR0)
 f32:=Tryz.func269.trans (Ah some kR0)
 f36:=⟨"slices.siftDownOrdered[string]", by decide,Tryz.func267.trans (Ah some kR0)⟩
 f37:=⟨"slices.medianAdjacentOrdered[string]", by decide,Tryz.func270.trans (Ah some kR0)⟩
 f38:=⟨"slices.medianOrdered[string]", by decide,Tryz.func271.trans (Ah some kR0)⟩
 f39:=⟨"cmp.isNaN[string]", by decide,Tryz.func272.trans (Ah some kR0)⟩
 f41:=⟨"slices.order2Ordered[string]", by decide,Tryz.func273.trans (Ah some kR0)⟩
 t0:=Tryz.underlying0
 a0:=Tryz.isAgg0
 z0:=Tryz.sizeOf0
 v0:=Tryz.zeroValue0
 t3:=Tryz.underlying3
 a3:=Tryz.isAgg3
 z3:=Tryz.sizeOf3
 v3:=Tryz.zeroValue3
 t4:=Tryz.underlying4
 a4:=Tryz.isAgg4
 z4:=Tryz.sizeOf4
 v4:=Tryz.zeroValue4
 t5:=Tryz.underlying5
 a5:=Tryz.isAgg5
 z5:=Tryz.sizeOf5
 v5:=Tryz.zeroValue5
 t9:=Tryz.underlying9
 a9:=Tryz.isAgg9
 z9:=Tryz.sizeOf9
 v9:=Tryz.zeroValue9
 t26:=Tryz.underlying77
 a26:=Tryz.isAgg77
 z26:=Tryz.sizeOf77
 v26:=Tryz.zeroValue77
 t27:=Tryz.underlying77
 a27:=Tryz.isAgg77
 z27:=Tryz.sizeOf77
 v27:=Tryz.zeroValue77
 t29:=Tryz.underlying9
 a29:=Tryz.isAgg9
 z29:=Tryz.sizeOf9
 v29:=Tryz.zeroValue9
 t32:=Tryz.underlying289
 a32:=Tryz.isAgg289
 z32:=Tryz.sizeOf289
 v32:=Tryz.zeroValue289
 t35:=Tryz.underlying298
 a35:=Tryz.isAgg298
 z35:=Tryz.sizeOf298
 v35:=Tryz.zeroValue298
 t36:=Tryz.underlying299
 a36:=Tryz.isAgg299
 z36:=Tryz.sizeOf299
 v36:=Tryz.zeroValue299
 t41:=Tryz.underlying168
 a41:=Tryz.isAgg168
 z41:=Tryz.sizeOf168
 v41:=Tryz.zeroValue168
 t44:=Tryz.underlying287
 a44:=Tryz.isAgg287
 z44:=Tryz.sizeOf287
 v44:=Tryz.zeroValue287
 t46:=Tryz.underlying237
 a46:=Tryz.isAgg237
 z46:=Tryz.sizeOf237
 v46:=Tryz.zeroValue237
 t53:=Tryz.underlying309
 a53:=Tryz.isAgg309
 z53:=Tryz.sizeOf309
 v53:=Tryz.zeroValue309
 t57:=Tryz.underlying313
 a57:=Tryz.isAgg313
 z57:=Tryz.sizeOf313
 v57:=Tryz.zeroValue313
 t63:=Tryz.underlying315
 a63:=Tryz.isAgg315
 z63:=Tryz.sizeOf315
 v63:=Tryz.zeroValue315
 t64:=Tryz.underlying234
 a64:=Tryz.isAgg234
 z64:=Tryz.sizeOf234
 v64:=Tryz.zeroValue234
theorem sorts194(m:Nat):AnyZ.SortsIn Tryz.prog zo8 Fence.wide m :=
 ⟨λblk off cap ss W hH hblk hsz=>G4.2 (AnyM.slices_Sort_string j51 blk off cap ss W hH hblk hsz),
  λp cap W=>G4.2 (AnyM.slices_Sort_string_none j51 p cap W)⟩
theorem yt2{F:Nat->Prop}{ρ:Loc}{σ:Heap'}{w w':World}(h:RelH F ρ σ w)(hb:Go.RowKit.Below w.heap.size w w')(R:Nat->Prop):RelH F ρ σ w'/\Trans F R ρ σ w ρ σ w':=by
 have t:Trans F R ρ σ w ρ σ w':=⟨hb.os,hb.tape,hb.output,hb.size,λb hlt _=>hb.block b hlt,λ_ _ _ hi _=>.inl hi,λ_ _ _ _ _=>rfl,λ_ _ _ _ _=>rfl,λ_ _ _ _ _ _ _ _=>rfl,
  λk s s' els els' h1 h2=>by rw[h1]at h2;cases h2;exact Ag _,λk cs h1=>.inr ⟨cs,h1⟩,λk es h1=>.inr ⟨es,h1⟩,λk s els h1=>.inr ⟨els,h1⟩⟩
 refine⟨⟨h.inj,h.apart,λb hF=>Bg (h.old b hF) hb.size,λk b c hk=>?_,h.real⟩,t⟩;obtain⟨o,h1,h2⟩:=h.obj k b c hk;refine⟨o,h1,h2.keep t (hb.block b (h.lt hk)) λx _ hn=>?_⟩;obtain⟨k,hk⟩:=hn.some;exact hk.2 hk.1
theorem sc_keys(es:List (Value×PV)):SC Tryz.prog 198 [.mp 9] [(9,.map es)] (λk=>k∈[9]) (.fn (.func 226) [] [.ptr 77 0]) [(77,.box [.mp 9]),(9,.map es)]:=by
 intro F ρ w vs hkept hrel hargs;have ha:All ⟨F,λk=>k∈[9],ρ,look (up [(9,.map es)]),w,vs.length⟩ ρ (look (up [(9,.map es)])) w [(0,.mp 9)] { tmps:=vs.toArray,defers:=[] }:=by
  refine⟨hrel,λt x hx=>?_,.refl _ _ _ _ _,rfl,by simp,hkept⟩
  match t,hx with
  |0,hx=>cases hx;obtain⟨v,h1,h2⟩:=hargs.2 0 _ rfl;exact⟨v,by simpa using h1,h2⟩
  |t+1,hx=>cases hx
 obtain⟨b,cc,r,ck,u,hv,hρ,h3,h4,h5,h6⟩:=ha.mapAt (x:=.tmp 0) rfl rfl;have hvs:vs.toArray = #[.map (some b)]:=by
  match vs,hargs.1,hv with
  |[v],_,hv=>simp[Act.eval]at hv;rw[hv]
 rw[hvs];refine(G4.1 (AnyZ.keys_in j1v Fence.wide 5 trivial rfl (some b) w)).mono ?_;rintro e w' ⟨rfl,rfl⟩;have hn:=ha.alloc (k:=77) (o:=.box [.mp 9]) rfl rfl rfl rfl 1 (.cells #[.map (some b)] 247) λkeepI _=>.box [.mp 9] 247 #[.map (some b)] (λ_=>.map (some b)) (z31 w _) sI0 (λj x hj=>by
  match j,hj with
  |0,_=>rfl) (λj x hj=>by
  match j,hj with
  |0,hj=>cases hj;exact keepI _ _ (.mp _ _ λes' _=>⟨b,cc,hρ,rfl⟩) rfl)
 refine⟨_,_,rfl,.fn _ _ _ _ _ (λ_=>.pointer none) (λ_=>.pointer (some ⟨w.heap.size,0,none⟩)) rfl (λj c hj=>by cases hj) (λj c hj=>by cases hj) rfl (λj c hj=>?_) (λj c hj=>?_),hn.rel,hn.tr⟩
 ·match j,hj with
  |0,_=>rfl
 ·match j,hj with
  |0,hj=>cases hj;exact .ptr _ _ _ λcs _=>⟨w.heap.size,1,z09,rfl⟩
theorem keys_map{r:Array MapEntry}{es:List (Value×PV)}{u:Nat->Value}(h4:r.size=es.length)(h5:∀i k p,es[i]?=some (k,p)->∃m:MapEntry,r[i]?=some m/\m.key=k/\m.val=u i):r.toList.map (·.key)=es.map (·.1):=by
 refine List.ext_getElem? λi=>?_;rw[Bc,Bc,Bh]
 cases he:es[i]? with
 |none =>
  have:=List.getElem?_eq_none_iff.1 he
  rw[Ds oM0];rfl
 |some e =>
  obtain⟨m,h1,h2,_⟩:=h5 i e.1 e.2 he;rw[h1];simp[h2]
abbrev rd0:Value->Option (DataW Unit×List MemPlace):=λ_=>some (.nil,[])
theorem keyOf_tx{k:Value}(h1:z1y .string k=true)(h2:(z79 k).size<=maxLen):keyOf Tryz.prog 9 k=some (.string (z79 k).data.toList):=by
 cases k<;>simp[z1y]at h1
 rename_i s;simp only[z79]at h2;simp[keyOf,mapKey,Tryz.underlying9,h2,z79]
theorem j4f(es:List (Value×PV))(hk:StrK es)(hsz:∀e∈es,(z79 e.1).size<=maxLen)(hl:es.length<=1073741824):SC Tryz.prog 197 [.fn (.func 226) [] [.ptr 77 0]] [(77,.box [.mp 9]),(9,.map es)] (λk=>k∈[77,9]) (.pv (txs (zo7 (es.map λe=>z79 e.1)))) [(77,.box [.mp 9]),(9,.map es)]:=by
 intro F ρ w vs hkept hrel hargs;obtain⟨v0,e0,r0⟩:=hargs.2 0 _ rfl;have hv1:∃b c,ρ 77=some (b,c)/\v0=.func (.func 226) #[] #[.pointer (some ⟨b,0,none⟩)]:=by
  cases r0 with
  |fn _ _ _ vs ws u t hl hv hr hl' hv' hr' =>
   have q:=hr' 0 _ rfl;have q2:=hv' 0 _ rfl
   cases q with
   |ptr _ _ _ h =>
    obtain⟨b,c,h1,h2⟩:=h _ rfl;refine⟨b,c,h1,?_⟩;have e1:vs = #[]:=Array.eq_empty_of_size_eq_zero hl;subst e1;have e2:ws = #[.pointer (some ⟨b,0,none⟩)]:=by
     apply Array.ext
     ·simpa using hl'
     ·intro i h1' h2';have:i=0:=by simp at h2';omega
      subst this;rw[Array.getElem?_eq_getElem h1']at q2;exact(C0 q2).trans h2
    rw[e2]
 obtain⟨B,cB,hB,rfl⟩:=hv1;obtain⟨o1,q1,q2⟩:=hrel.obj 77 B cB hB;have q1:look (up [(77,HO.box [.mp 9]),(9,.map es)]) 77=some o1:=q1
 cases q1
 obtain⟨eB,a,uB,g1,g2,g3,g4⟩:=q2.inv_box;have g5:=g4 0 _ rfl;have g6:=g3 0 _ rfl;have hmp:∃b c,ρ 9=some (b,c)/\uB 0=.map (some b):=by
  generalize uB 0=x at g5
  cases g5 with
  |mp _ _ h=>exact h _ rfl
 obtain⟨b,cc,hρ,hu⟩:=hmp;obtain⟨o2,q3,q4⟩:=hrel.obj 9 b cc hρ;have q3:look (up [(77,HO.box [.mp 9]),(9,.map es)]) 9=some o2:=q3
 cases q3
 obtain⟨r,ck,u,h3,h4,h5,h6⟩:=q4.inv_map;have hst:=q4.stamped h3;have hkm:=keys_map h4 h5;have hrd:∀x∈r.toList,Go.WideElems.rg Tryz.prog 9 rd0 x=(.string (z79 x.key).data.toList,.nil)/\∃y,Go.WideElems.rd Tryz.prog 9 rd0 x=some y:=by
  intro x hx;have hm:x.key∈es.map (·.1):=hkm▸Df hx;obtain⟨e,he,hxe⟩:=Bz.1 hm;have hko:=keyOf_tx (k:=x.key) (hxe▸hk e he) (hxe▸hsz e he);have:Go.WideElems.rd Tryz.prog 9 rd0 x=some (.string (z79 x.key).data.toList,.nil):=by simp[Go.WideElems.rd,hko]
  exact⟨Go.WideElems.rg_of this,_,this⟩
 have hown:w.ownsMap Tryz.prog 9 rd0 b r.size (.map ((r.toList.map (Go.WideElems.rg Tryz.prog 9 rd0)).foldr DataW.insert [])):=⟨r,ck,h3,⟨by rw[h4];exact Bm hl dC0,hst,λx hx=>(hrd x hx).2⟩,Ag _,rfl⟩;have hperm:(strKeys (.map ((r.toList.map (Go.WideElems.rg Tryz.prog 9 rd0)).foldr DataW.insert []))).Perm (es.map λe=>(z79 e.1).data.toList):=by
  refine((Go.WideShapes.sorted_perm _).map _).trans ?_;rw[Eg];have:r.toList.map ((λp=>strOf p.1) ∘ Go.WideElems.rg Tryz.prog 9 rd0)=(r.toList.map (·.key)).map λk=>(z79 k).data.toList:=by
   rw[Eg];exact List.map_congr_left λx hx=>by simp only[Function.comp,(hrd x hx).1,strOf]
  rw[this,hkm,Eg];exact List.Perm.refl _
 have hBlt:=hrel.lt hB;have hsize:Maps.size (.map ((r.toList.map (Go.WideElems.rg Tryz.prog 9 rd0)).foldr DataW.insert []))=es.length:=by
  simp only[Maps.size,length_sorted,Ab,Bw,h4]
 have hseq:SeqGives Fence.wide 2 Tryz.prog 226 #[.pointer (some ⟨B,0,none⟩)] encStr (λss=>ss.Perm (strKeys (.map ((r.toList.map (Go.WideElems.rg Tryz.prog 9 rd0)).foldr DataW.insert [])))) (Maps.size (.map ((r.toList.map (Go.WideElems.rg Tryz.prog 9 rd0)).foldr DataW.insert []))) w :=
  AnyZ.keys_gives (ρ:=y0w) { j1v with } Fence.wide _ trivial rfl oM0 B b r.size _ w hBlt (by
   simp only[World.cell?,g1];simpa[hu]using g6) hown
 have hvs:vs=[.func (.func 226) #[] #[.pointer (some ⟨B,0,none⟩)]]:=by
  match vs,hargs.1,e0 with
  |[x],_,e0=>cases e0;rfl
 subst hvs;refine(G4.1 (AnyZ.sorted_in j52 Fence.wide 5 trivial trivial trivial trivial rfl oM0 (sorts194 _) (enters_of Tryz.func225 kR0 rfl) 226 #[.pointer (some ⟨B,0,none⟩)] trivial (enters_of Tryz.func226 kR0 rfl) _ _ (by rw[hsize];exact Bm hl dC0) (by rw[hsize];omega) _ hseq)).mono ?_;rintro e w' ⟨v,ss,rfl,hS,hrow,hnil,hb⟩;obtain⟨k1,k2⟩:=yt2 hrel hb (λk=>k∈[77,9]);refine⟨ρ,v,rfl,.pv _ _ ?_,k1,k2⟩;have hso:zo7 (es.map λe=>z79 e.1)=(ss.mergeSort (λx y=>decide (x<=y))).map λb=>⟨b.toArray⟩:=by
  unfold zo7;rw[Eg];exact Ah _ (mergeSort_of_perm (hS.trans hperm)).symm
 have hlen:ss.length=((zo7 (es.map λe=>z79 e.1)).map eTx).length:=by simp[hso]
 show RepP _ _ (.seq ((zo7 (es.map λe=>z79 e.1)).map eTx)) v;rcases hrow.2 with⟨rfl,hz⟩|⟨g,cap,cur,rfl,t1,t2,t3,t4,t5,t6⟩
 ·have he:(zo7 (es.map λe=>z79 e.1)).map eTx=[]:=Ay (hlen▸hz);rw[he];exact .seq [] none 0 0 0 (λ_ _=>.bool false) (λh=>A9 rfl h) (λh=>A9 rfl h) (Ag _) (Aj _) (λi el h=>by cases h) (λi el h=>by cases h)
 ·rw[hlen];have hat:∀(i:Nat)(el:List PV),((zo7 (es.map λe=>z79 e.1)).map eTx)[i]?=some el->∃s:ByteArray,el=[PV.val (.string s)]/\cur[i]?=some (Value.string s):=by
   intro i el hi;rw[hso,Eg,Bc]at hi
   cases hm:(ss.mergeSort (λx y=>decide (x<=y)))[i]? with
   |none=>rw[hm]at hi;cases hi
   |some x =>
    rw[hm]at hi;cases hi
    refine⟨⟨x.toArray⟩,rfl,?_⟩;have:(cur.toList.take (ss.length*1))[i]?=some (encStr x):=by rw[t6,Bc,hm,Da]
    rw[C3]at this;split at this
    ·rw[Bh]at this;exact this
    ·cases this
  refine .seq _ _ cap g 0 (λi _=>cur.getD i (.bool false)) (λ_=>rfl) (λ_=>⟨λho=>?_,?_⟩) (hlen▸t3) t4 (λi el hi j c hj=>?_) λi el hi j c hj=>?_
  ·have:=hrel.own_lt ho;omega
  ·rcases Dy g w'.heap.size with h|h
   ·exact h
   ·rw[Ds h]at t2;cases t2
  ·obtain⟨s,rfl,hs⟩:=hat i el hi
   match j,hj with
   |0,hj=>simp only[World.cell?,t2];simp[hs]
  ·obtain⟨s,rfl,hs⟩:=hat i el hi
   match j,hj with
   |0,hj=>cases hj;simp[hs];exact .val _
theorem yw1(vs:List (Value×PV))(l:List (List St))(x:List St):z8r vs (l++[x])=z4k vs x (z8r vs l):=by simp[z8r]
theorem y1m(vs:List (Value×PV))(ls:List (List St)):StrK (z8r vs ls):=by
 suffices ∀(ls:List (List St)) (o:List (Value×PV)),StrK o->StrK (ls.foldl (λo l=>z4k vs l o) o)from this ls [] λe he=>by cases he
 intro ls
 induction ls with
 |nil=>exact λo h=>h
 |cons l r ih=>exact λo h=>ih _ (z9d vs _ l (Ac _) o h)
theorem zx0(vs:List (Value×PV))(hv:Cnt vs)(ls:List (List St))(hls:ls.length<=1000)(hsz:∀l∈ls,szL l<=1073741824)(hn:∀e∈z8r vs ls,(z79 e.1).size<=maxLen)(hl:(z8r vs ls).length<=1073741824) :
 SC Tryz.prog 162 [.mp 5,.pv (.seq (ls.map λl=>[sts l]))] [(5,.map vs)] (λk=>k∈[5]) (.pv (txs (z0c vs ls))) [(5,.map vs)]:=by
 refine K0 tb { ids:=[(8,9),(21,77)] } [5] Tryz.func162 rfl rfl ?_;refine⟨Nat,λi=>[(11,iInt ((i:Nat):Int))],λi=>[(9,.map (z8r vs (ls.take i)))],λi=>ls.length-i,λi=>i<=ls.length,[],0,Aj _,Gg,⟨by simp[z8r];rfl,Gf⟩,?_⟩;intro i hi;refine z00 (λhc=>?_) λhc=>?_
 ·have hlt:i<ls.length:=z12 (f:=λl=>[sts l]) rfl hc;obtain⟨x,x1,x2,x3,x4⟩:=z0u hlt;have hA:=y6q vs hv _ x (Ac _) (hsz x x4) _ (y1m vs (ls.take i));exact⟨z02 (f:=λl=>[sts l]) x1,rfl,[5],hA,sR,⟨rfl,rfl,by simp,rfl,Gf⟩,rfl,z01 rfl oM0,i+1,z05 hlt,hlt,Gg,⟨mpq (by rw[x2,yw1]),Gf⟩,rfl,rfl,rfl,rfl⟩
 ·have hge:ls.length<=i:=z13 (f:=λl=>[sts l]) rfl hc;rw[Az hge];have hK:=sc_keys (z8r vs ls);have hS:=j4f (z8r vs ls) (y1m vs ls) hn hl;exact⟨[9],hK,sR,Gi,rfl,[77,9],hS,sR,Gk,rfl,sI,rfl,Gf⟩
end
theorem sc_idxNd(fq:FuncId)(ws:List IV)(hent:tb.fn fq=true)(p:(Nd)->Bool)(l:List (Nd))(h:∀x∈l,SC Tryz.prog fq (.pv (ndv x)::ws) [] (λk=>k∈[]) (iBool (p x)) []):SC Tryz.prog 234 [.pv (z2h l),.fn (.func fq) [] ws] [] (λk=>k∈[]) (iInt (idxP p l 0)) []:=by
 refine K0 tb { gh:=[(0,[.len 0])] } [] Tryz.func234 rfl rfl ?_;intro hl;simp only[Ab]at hl;have hl:l.length<=9223372036854775807:=hl;refine⟨Nat,λi=>[(8,iInt ((i:Nat):Int))],λ_=>[],λi=>l.length-i,λi=>i<=l.length/\∀x∈l.take i,p x=false,[],0,⟨Aj _,λx hx=>by simp at hx⟩,Gg,Gf,?_⟩;rintro i ⟨i1,i2⟩;refine z00 (λhc=>?_) λhc=>?_
 ·have hlt:i<l.length:=z12 (f:=Nd.enc) rfl hc;obtain⟨x,x1,x2,x3,x4⟩:=z0u hlt;refine⟨z0a x1,rfl,z56 (b:=tb.fn fq) hent ⟨h x x4,sR,Gf,λk hk=>hk,rfl,rfl,z00 (λc=>?_) λc=>?_⟩⟩
  ·exact⟨sE (by rw[z1g p l 0 i2,x3,idxP,A5 c,Dw]),Gf⟩
  ·exact⟨z01 rfl oM0,i+1,z05 hlt,⟨hlt,λy hy=>by rw[x2]at hy;rcases B3.1 hy with g|g;exact i2 y g;rw[Al.1 g];exact c⟩,Gg,Gf,rfl,rfl,rfl,rfl⟩
 ·have hge:l.length<=i:=z13 (f:=Nd.enc) rfl hc;exact⟨sE (by rw[z1g p l 0 i2,Ae hge];rfl),Gf⟩
theorem sc_hasNd(fq:FuncId)(ws:List IV)(hent:tb.fn fq=true)(p:(Nd)->Bool)(l:List (Nd))(h:∀x∈l,SC Tryz.prog fq (.pv (ndv x)::ws) [] (λk=>k∈[]) (iBool (p x)) []):SC Tryz.prog 206 [.pv (z2h l),.fn (.func fq) [] ws] [] (λk=>k∈[]) (iBool (l.any p)) []:=by
 refine K0 tb {} [] Tryz.func206 rfl rfl ?_;exact⟨[],sc_idxNd fq ws hent p l h,sR,Gf,rfl,sE (Ah iBool (z6g p l 0 dC0)),Gf⟩
theorem sc_idxKd(fq:FuncId)(ws:List IV)(hent:tb.fn fq=true)(p:(List Nd)->Bool)(l:List (List Nd))(h:∀x∈l,SC Tryz.prog fq (.pv (z2h x)::ws) [] (λk=>k∈[]) (iBool (p x)) []):SC Tryz.prog 235 [.pv (kids l),.fn (.func fq) [] ws] [] (λk=>k∈[]) (iInt (idxP p l 0)) []:=by
 refine K0 tb { gh:=[(0,[.len 0])] } [] Tryz.func235 rfl rfl ?_;intro hl;simp only[Ab]at hl;have hl:l.length<=9223372036854775807:=hl;refine⟨Nat,λi=>[(8,iInt ((i:Nat):Int))],λ_=>[],λi=>l.length-i,λi=>i<=l.length/\∀x∈l.take i,p x=false,[],0,⟨Aj _,λx hx=>by simp at hx⟩,Gg,Gf,?_⟩;rintro i ⟨i1,i2⟩;refine z00 (λhc=>?_) λhc=>?_
 ·have hlt:i<l.length:=z12 (f:=eKid) rfl hc;obtain⟨x,x1,x2,x3,x4⟩:=z0u hlt;refine⟨z02 (f:=eKid) x1,rfl,z56 (b:=tb.fn fq) hent ⟨h x x4,sR,Gf,λk hk=>hk,rfl,rfl,z00 (λc=>?_) λc=>?_⟩⟩
  ·exact⟨sE (by rw[z1g p l 0 i2,x3,idxP,A5 c,Dw]),Gf⟩
  ·exact⟨z01 rfl oM0,i+1,z05 hlt,⟨hlt,λy hy=>by rw[x2]at hy;rcases B3.1 hy with g|g;exact i2 y g;rw[Al.1 g];exact c⟩,Gg,Gf,rfl,rfl,rfl,rfl⟩
 ·have hge:l.length<=i:=z13 (f:=eKid) rfl hc;exact⟨sE (by rw[z1g p l 0 i2,Ae hge];rfl),Gf⟩
theorem sc_hasKd(fq:FuncId)(ws:List IV)(hent:tb.fn fq=true)(p:(List Nd)->Bool)(l:List (List Nd))(h:∀x∈l,SC Tryz.prog fq (.pv (z2h x)::ws) [] (λk=>k∈[]) (iBool (p x)) []):SC Tryz.prog 208 [.pv (kids l),.fn (.func fq) [] ws] [] (λk=>k∈[]) (iBool (l.any p)) []:=by
 refine K0 tb {} [] Tryz.func208 rfl rfl ?_;exact⟨[],sc_idxKd fq ws hent p l h,sR,Gf,rfl,sE (Ah iBool (z6g p l 0 dC0)),Gf⟩
theorem sc_idxFl(fq:FuncId)(ws:List IV)(hent:tb.fn fq=true)(p:(Fl)->Bool)(l:List (Fl))(h:∀x∈l,SC Tryz.prog fq (.pv (.agg x.enc)::ws) [] (λk=>k∈[]) (iBool (p x)) []):SC Tryz.prog 124 [.pv (flws l),.fn (.func fq) [] ws] [] (λk=>k∈[]) (iInt (idxP p l 0)) []:=by
 refine K0 tb { gh:=[(0,[.len 0])] } [] Tryz.func124 rfl rfl ?_;intro hl;simp only[Ab]at hl;have hl:l.length<=9223372036854775807:=hl;refine⟨Nat,λi=>[(8,iInt ((i:Nat):Int))],λ_=>[],λi=>l.length-i,λi=>i<=l.length/\∀x∈l.take i,p x=false,[],0,⟨Aj _,λx hx=>by simp at hx⟩,Gg,Gf,?_⟩;rintro i ⟨i1,i2⟩;refine z00 (λhc=>?_) λhc=>?_
 ·have hlt:i<l.length:=z12 (f:=Fl.enc) rfl hc;obtain⟨x,x1,x2,x3,x4⟩:=z0u hlt;refine⟨z02 (f:=Fl.enc) x1,rfl,z56 (b:=tb.fn fq) hent ⟨h x x4,sR,Gf,λk hk=>hk,rfl,rfl,z00 (λc=>?_) λc=>?_⟩⟩
  ·exact⟨sE (by rw[z1g p l 0 i2,x3,idxP,A5 c,Dw]),Gf⟩
  ·exact⟨z01 rfl oM0,i+1,z05 hlt,⟨hlt,λy hy=>by rw[x2]at hy;rcases B3.1 hy with g|g;exact i2 y g;rw[Al.1 g];exact c⟩,Gg,Gf,rfl,rfl,rfl,rfl⟩
 ·have hge:l.length<=i:=z13 (f:=Fl.enc) rfl hc;exact⟨sE (by rw[z1g p l 0 i2,Ae hge];rfl),Gf⟩
theorem sc_idxIn(fq:FuncId)(ws:List IV)(hent:tb.fn fq=true)(p:(Int)->Bool)(l:List (Int))(h:∀x∈l,SC Tryz.prog fq (iInt x::ws) [] (λk=>k∈[]) (iBool (p x)) []):SC Tryz.prog 126 [.pv (ints l),.fn (.func fq) [] ws] [] (λk=>k∈[]) (iInt (idxP p l 0)) []:=by
 refine K0 tb { gh:=[(0,[.len 0])] } [] Tryz.func126 rfl rfl ?_;intro hl;simp only[Ab]at hl;have hl:l.length<=9223372036854775807:=hl;refine⟨Nat,λi=>[(8,iInt ((i:Nat):Int))],λ_=>[],λi=>l.length-i,λi=>i<=l.length/\∀x∈l.take i,p x=false,[],0,⟨Aj _,λx hx=>by simp at hx⟩,Gg,Gf,?_⟩;rintro i ⟨i1,i2⟩;refine z00 (λhc=>?_) λhc=>?_
 ·have hlt:i<l.length:=z12 (f:=eInt) rfl hc;obtain⟨x,x1,x2,x3,x4⟩:=z0u hlt;refine⟨z02 (f:=eInt) x1,rfl,z56 (b:=tb.fn fq) hent ⟨h x x4,sR,Gf,λk hk=>hk,rfl,rfl,z00 (λc=>?_) λc=>?_⟩⟩
  ·exact⟨sE (by rw[z1g p l 0 i2,x3,idxP,A5 c,Dw]),Gf⟩
  ·exact⟨z01 rfl oM0,i+1,z05 hlt,⟨hlt,λy hy=>by rw[x2]at hy;rcases B3.1 hy with g|g;exact i2 y g;rw[Al.1 g];exact c⟩,Gg,Gf,rfl,rfl,rfl,rfl⟩
 ·have hge:l.length<=i:=z13 (f:=eInt) rfl hc;exact⟨sE (by rw[z1g p l 0 i2,Ae hge];rfl),Gf⟩
theorem sc_hasIn(fq:FuncId)(ws:List IV)(hent:tb.fn fq=true)(p:(Int)->Bool)(l:List (Int))(h:∀x∈l,SC Tryz.prog fq (iInt x::ws) [] (λk=>k∈[]) (iBool (p x)) []):SC Tryz.prog 71 [.pv (ints l),.fn (.func fq) [] ws] [] (λk=>k∈[]) (iBool (l.any p)) []:=by
 refine K0 tb {} [] Tryz.func71 rfl rfl ?_;exact⟨[],sc_idxIn fq ws hent p l h,sR,Gf,rfl,sE (Ah iBool (z6g p l 0 dC0)),Gf⟩
theorem j3u(fq:FuncId)(ws:List IV)(hent:tb.fn fq=true)(p:(Ar)->Bool)(l:List (Ar))(h:∀x∈l,SC Tryz.prog fq (.pv (.agg x.enc)::ws) [] (λk=>k∈[]) (iBool (p x)) []):SC Tryz.prog 148 [.pv (arrs l),.fn (.func fq) [] ws] [] (λk=>k∈[]) (iInt (idxP p l 0)) []:=by
 refine K0 tb { gh:=[(0,[.len 0])] } [] Tryz.func148 rfl rfl ?_;intro hl;simp only[Ab]at hl;have hl:l.length<=9223372036854775807:=hl;refine⟨Nat,λi=>[(8,iInt ((i:Nat):Int))],λ_=>[],λi=>l.length-i,λi=>i<=l.length/\∀x∈l.take i,p x=false,[],0,⟨Aj _,λx hx=>by simp at hx⟩,Gg,Gf,?_⟩;rintro i ⟨i1,i2⟩;refine z00 (λhc=>?_) λhc=>?_
 ·have hlt:i<l.length:=z12 (f:=Ar.enc) rfl hc;obtain⟨x,x1,x2,x3,x4⟩:=z0u hlt;refine⟨y36 x1,rfl,z56 (b:=tb.fn fq) hent ⟨h x x4,sR,Gf,λk hk=>hk,rfl,rfl,z00 (λc=>?_) λc=>?_⟩⟩
  ·exact⟨sE (by rw[z1g p l 0 i2,x3,idxP,A5 c,Dw]),Gf⟩
  ·exact⟨z01 rfl oM0,i+1,z05 hlt,⟨hlt,λy hy=>by rw[x2]at hy;rcases B3.1 hy with g|g;exact i2 y g;rw[Al.1 g];exact c⟩,Gg,Gf,rfl,rfl,rfl,rfl⟩
 ·have hge:l.length<=i:=z13 (f:=Ar.enc) rfl hc;exact⟨sE (by rw[z1g p l 0 i2,Ae hge];rfl),Gf⟩
theorem j3t(fq:FuncId)(ws:List IV)(hent:tb.fn fq=true)(p:(Ar)->Bool)(l:List (Ar))(h:∀x∈l,SC Tryz.prog fq (.pv (.agg x.enc)::ws) [] (λk=>k∈[]) (iBool (p x)) []):SC Tryz.prog 100 [.pv (arrs l),.fn (.func fq) [] ws] [] (λk=>k∈[]) (iBool (l.any p)) []:=by
 refine K0 tb {} [] Tryz.func100 rfl rfl ?_;exact⟨[],j3u fq ws hent p l h,sR,Gf,rfl,sE (Ah iBool (z6g p l 0 dC0)),Gf⟩
theorem za0(x:Nd):SC Tryz.prog 175 [.pv (ndv x)] [] (λk=>k∈[]) (iBool (z0y x.kind)) []:=by
 refine K0 tb {} [] Tryz.func175 rfl rfl ?_;refine z00 (λh=>⟨sE ?_,Gf⟩) λh=>⟨sE ?_,Gf⟩
 ·unfold z0y;rw[show decide (x.kind≥12)=true from h];rfl
 ·unfold z0y;rw[show decide (x.kind≥12)=false from h];rfl
theorem y4d(l:List Nd):SC Tryz.prog 178 [.pv (z2h l)] [] (λk=>k∈[]) (iBool (z8g l)) []:=by
 refine K0 tb { gh:=[(0,[.len 0])] } [] Tryz.func178 rfl rfl ?_;intro hl;simp only[Ab]at hl;have hl:l.length<=9223372036854775807:=hl;refine z00 (λh=>?_) λh=>?_
 ·have hpos:0<l.length:=by simpa using h
  obtain⟨x,hx⟩:∃x,l[((l.length:Int)-1).toNat]?=some x:=⟨_,Ad oM0⟩;have hT:z8g l=(x.kind==12):=by
   unfold z8g;rw[Em,show l.length-1=((l.length:Int)-1).toNat by omega,hx]
  have ll:(l.map Nd.enc).length=l.length:=Ab _;have hi:(l.map Nd.enc)[(((l.map Nd.enc).length:Int)-1).toNat]?=some [vInt x.kind,vInt x.op,vInt x.n,vStr x.name,ints x.args,ints x.outs,ints x.params,kids x.kids]:=by
   rw[ll];exact z0a hx
  exact⟨z3e rfl (by rw[ll];omega),hi,(by rw[ll];omega),sE (Ah iBool hT.symm),Gf⟩
 ·have e:l=[]:=by
   cases l with
   |nil=>rfl
   |cons a b=>simp at h
  subst e;exact⟨sI,Gf⟩
theorem yf7(x:Nd)(ih:∀q∈x.kids,SC Tryz.prog 179 [.pv (z2h q)] [] (λk=>k∈[]) (iBool (z0m q)) []):SC Tryz.prog 207 [.pv (ndv x)] [] (λk=>k∈[]) (iBool (z2n x)) []:=by
 refine K0 tb {} [] Tryz.func207 rfl rfl ?_;rw[z4a,zn1];refine z00 (λh=>⟨sE ?_,Gf⟩) λh=>z00 (λh2=>?_) λh2=>⟨sE ?_,Gf⟩
 ·rw[show(x.kind==14)=true from h];rfl
 ·exact⟨[],sc_hasKd 179 [] rfl z0m x.kids ih,H0 sFn,Gf,rfl,sE (by rw[show(x.kind==14)=false from h,show(x.kind==10)=true from h2];rfl),Gf⟩
 ·rw[show(x.kind==14)=false from h,show(x.kind==10)=false from h2];rfl
theorem y30(N:Nat):∀(l:List Nd),SizeOf.sizeOf l<N->SC Tryz.prog 179 [.pv (z2h l)] [] (λk=>k∈[]) (iBool (z0m l)) []:=by
 induction N with
 |zero=>intro l hN;exact A9 hN (An _)
 |succ N ih =>
  intro l hN;refine K0 tb {} [] Tryz.func179 rfl rfl ?_;have h1:=sc_hasNd 207 [] rfl z2n l λx hx=>yf7 x λq hq=>ih q (by
   have h1:=Br hx;have h2:=Br hq;obtain⟨k,o,n,nm,a,b,c,ks⟩:=x;simp[Nd.kids]at h1 h2;omega)
  exact⟨[],h1,H0 sFn,Gf,rfl,sE (by rw[zw4]),Gf⟩
theorem yx4(l:List Nd):SC Tryz.prog 179 [.pv (z2h l)] [] (λk=>k∈[]) (iBool (z0m l)) []:=y30 _ l (Ac _)
theorem zs8(x:Nd):SC Tryz.prog 128 [.pv (ndv x)] [] (λk=>k∈[]) (iBool (z04 x)) []:=by
 refine K0 tb {} [] Tryz.func128 rfl rfl ?_;obtain⟨kind,op,n,name,args,outs,params,kids⟩:=x;rcases(show kind=10∨kind=11∨(kind≠11/\kind≠10) by omega)with rfl|rfl|⟨k8,k9⟩
 ·match kids with
  |[]=>exact⟨[],za0 _,sR,Gf,rfl,sI,Gf⟩
  |[a]=>exact⟨[],za0 _,sR,Gf,rfl,sI,Gf⟩
  |[a,b] =>
   have hT:z04 (.mk 10 op n name args outs params [a,b])=(!z8g a && !z8g b):=by
    rw[<- y2e,<- y2e];rfl
   rw[hT];have ha:=y4d a;generalize z8g a=ya at ha⊢
   cases ya
   ·exact⟨at0 (a:=[z2h a]),rfl,[],ha,sR,Gf,rfl,at1 (b:=[z2h b]),rfl,[],y4d b,sR,Gf,rfl,sI,Gf⟩
   ·exact⟨at0 (a:=[z2h a]),rfl,[],ha,sR,Gf,rfl,sI,Gf⟩
  |a::b::c::r=>exact⟨[],za0 _,sR,Gf,rfl,sI,Gf⟩
 ·match kids with
  |[]=>exact⟨[],za0 _,sR,Gf,rfl,sI,Gf⟩
  |[a]=>exact⟨at0 (a:=[z2h a]),rfl,[],yx4 a,sR,Gf,rfl,sI,Gf⟩
  |a::b::r=>exact⟨[],za0 _,sR,Gf,rfl,sI,Gf⟩
 ·have no:∀{i:Int},kind≠i->(kind==i)=true->False:=λh e=>h (Av e);exact z00 (λh=>(no k9 h).elim) λ_=>z00 (λh=>(no k8 h).elim) λ_=>⟨[],za0 _,sR,Gf,rfl,sE (by simp[z04,Nd.kind,Nd.kids,k8,k9]),Gf⟩
theorem j3v(t:Int):SC Tryz.prog 69 [iInt t] [] (λ_=>False) (iBool (isTy t)) []:=by
 refine SC.anyR (K0 tb {} [] Tryz.func69 rfl rfl ?_);unfold isTy;refine z00 (λh=>⟨sE ?_,Gf⟩) λh=>⟨sE ?_,Gf⟩
 ·rw[show(t==1)=true from h];rfl
 ·rw[show(t==1)=false from h];rfl
theorem sc_flow1(t:Int):SC Tryz.prog 72 [iInt t] [] (λ_=>False) (iBool (!isTy t)) []:=by
 refine SC.anyR (K0 tb {} [] Tryz.func72 rfl rfl ?_);exact⟨[],j3v t,sR,Gf,rfl,sI,Gf⟩
theorem j45(x:Nd):SC Tryz.prog 175 [.pv (ndv x)] [] (λ_=>False) (iBool (z0y x.kind)) []:=SC.anyR (za0 x)
theorem zj9(x:Nd):SC Tryz.prog 128 [.pv (ndv x)] [] (λ_=>False) (iBool (z04 x)) []:=SC.anyR (zs8 x)
theorem y9g(op:Int):SC Tryz.prog 231 [iInt op] [] (λ_=>False) (.tup [iInt (z3a op).1,iInt (z3a op).2]) []:=by
 refine SC.anyR (K0 tb {} [] Tryz.func231 rfl rfl ?_)
 by_cases h:op=22∨op=12∨op=13∨op=14∨op=15∨op=16∨op=17
 ·rcases h with rfl|rfl|rfl|rfl|rfl|rfl|rfl<;>exact⟨sI,Gf⟩
 ·have hT:z3a op=(1,1):=by
   unfold z3a;rw[A1 (by simp;omega),A1 (by simp;omega),A1 (by simp;omega)]
  rw[hT]
  repeat' (first|exact⟨sI,Gf⟩|refine z00 (λg=>A9 (Av g) oM0) λ_=>?_)
theorem yh3(x:Fl)(s:ByteArray):SC Tryz.prog 125 [.pv (.agg x.enc),.pv (.ept [vStr s] 0)] [] (λk=>k∈[]) (iBool (x.name.toList==s.toList)) []:=by
 refine K0 tb {} [] Tryz.func125 rfl rfl ?_;exact⟨sI,Gf⟩
theorem zf4(u:Un)(s:ByteArray):SC Tryz.prog 70 [.pv u.enc,iStr s] [] (λ_=>False) (iInt (z06 s u.flows 0)) []:=by
 refine SC.anyR (K0 tb { pb:=[102,103] } [] Tryz.func70 rfl rfl ?_);have h:=sc_idxFl 125 [.pv (.ept [vStr s] 0)] rfl (λf:Fl=>f.name.toList==s.toList) u.flows λx _=>yh3 x s;rw[y3m]at h;exact⟨[],h,sR,Gf,rfl,sI,Gf⟩
theorem j47(x:Ar)(s:ByteArray):SC Tryz.prog 233 [.pv (.agg x.enc),.pv (.ept [vStr s] 0)] [] (λk=>k∈[]) (iBool (x.name.toList==s.toList)) []:=by
 refine K0 tb {} [] Tryz.func233 rfl rfl ?_;exact⟨sI,Gf⟩
theorem yr0(u:Un)(s:ByteArray):SC Tryz.prog 205 [.pv u.enc,iStr s] [] (λ_=>False) (iBool (decide (z0i s u.arrays 0≥0))) []:=by
 refine SC.anyR (K0 tb { pb:=[102,103],gh:=[(1,[])] } [] Tryz.func205 rfl rfl ?_);rw[y1e s u.arrays 0 dC0];exact⟨[],j3t 233 [.pv (.ept [vStr s] 0)] rfl (λa:Ar=>a.name.toList==s.toList) u.arrays λx _=>j47 x s,sR,Gf,rfl,sI,Gf⟩
theorem j0t{u:Un}{f:Fl}{it:TypeId}{st:List Int}{k:Nat}(h:look (up (ckS u f it st)) k≠none):k∈[3,4]:=by
 by_cases h3:k=3
 ·subst h3;decide
 ·by_cases h4:k=4
  ·subst h4;decide
  ·exfalso;apply h;simp only[ckS,up,B7,Cv,look,z45 (C4 h3),z45 (C4 h4)];rfl
theorem y6u(u:Un)(f:Fl)(st:List Int)(v t:Int):SC Tryz.prog 227 [.ptr 3 0,iInt v,iInt t] (ckS u f 3 st) (λ_=>True) (iBool (z9h f.types v t)) (ckS u f 3 st):=by
 refine L0 (K0 tb {} [3,4] Tryz.func227 rfl rfl ?_) λk h _=>j0t h;unfold z9h;refine z00 (λh1=>z00 (λh2=>z00 (λh3=>?_) λh3=>?_) λh2=>?_) λh1=>?_
 ·have h1:decide (v≥0)=true:=h1;have h2:decide (v<(f.types.map eInt).length)=true:=h2;rw[Ab]at h2;exact⟨sE (Ah iBool (by rw[show decide (0<=v)=true from h1,h2,show(t==0)=true from h3];rfl)),rfl,rfl,Gf⟩
 ·have h1:decide (v≥0)=true:=h1;have h2:decide (v<(f.types.map eInt).length)=true:=h2;rw[Ab]at h2;have g1:=Ap h1;have g2:=Ap h2;exact⟨z02 (f:=eInt) (z3n (show v.toNat<f.types.length by omega)),by omega,sE (Ah iBool (by rw[show decide (0<=v)=true from h1,h2,show(t==0)=false from h3];rfl)),rfl,rfl,Gf⟩
 ·have h1:decide (v≥0)=true:=h1;have h2:decide (v<(f.types.map eInt).length)=false:=h2;rw[Ab]at h2;exact⟨sE (Ah iBool (by rw[show decide (0<=v)=true from h1,h2];rfl)),rfl,rfl,Gf⟩
 ·have h1:decide (v≥0)=false:=h1;exact⟨sE (Ah iBool (by rw[show decide (0<=v)=false from h1];rfl)),rfl,rfl,Gf⟩
theorem y73{tys:List Int}{v t:Int}(h:z9h tys v t=true):0<=v/\v.toNat<tys.length/\v=(v.toNat:Int):=by
 simp only[z9h,A0,Ba]at h;omega
theorem j4d(u:Un)(f:Fl)(st:List Int)(hs:st.length=f.types.length)(v t:Int):SC Tryz.prog 229 [iInt v,iInt t,.ptr 5 0] (ckSp u f 3 5 st) (λk=>k∈[3,4,5]) (iBool (zt6 f.types st v t).1) (ckSp u f 3 5 st):=by
 refine K0 tb {} [3,4,5] Tryz.func229 rfl rfl ?_;have hV:=y6u u f st v t;unfold zt6
 cases hv:z9h f.types v t
 ·rw[hv]at hV;exact⟨[],hV,sR,⟨rfl,Gf,rfl,Gf,Gf⟩,rfl,sI,rfl,rfl,rfl,Gf⟩
 ·rw[hv]at hV;obtain⟨h1,h2,h3⟩:=y73 hv;exact⟨[],hV,sR,⟨rfl,Gf,rfl,Gf,Gf⟩,rfl,rfl,VIdR.mk (i:=v.toNat) (by rw[Ab];omega) h3 (VRow.mk (i:=v.toNat) (j:=0) rfl rfl (z02 (f:=eInt) (z3n oM0)) rfl ⟨sI,rfl,rfl,rfl,Gf⟩)⟩
theorem j4c(u:Un)(f:Fl)(st:List Int)(hs:st.length=f.types.length)(v t:Int):SC Tryz.prog 230 [iInt v,iInt t,.ptr 5 0] (ckSp u f 3 5 st) (λk=>k∈[3,5]) (iBool (z5z f.types st v t).1) (ckSp u f 3 5 (z5z f.types st v t).2):=by
 refine K0 tb {} [3,5] Tryz.func230 rfl rfl ?_;have hV:=y6u u f st v t;unfold z5z
 cases hv:z9h f.types v t
 ·rw[hv]at hV;exact⟨[],hV,sR,⟨rfl,Gf,rfl,Gf⟩,rfl,sI,rfl,rfl,rfl,Gf⟩
 ·rw[hv]at hV;obtain⟨h1,h2,h3⟩:=y73 hv;refine⟨[],hV,sR,⟨rfl,Gf,rfl,Gf⟩,rfl,rfl,VIdR.mk (i:=v.toNat) (by rw[Ab];omega) h3 (VRow.mk (i:=v.toNat) (j:=0) rfl rfl (z02 (f:=eInt) (z3n oM0)) rfl (z00 (λh=>?_) λh=>?_))⟩
  ·have h:(st.getD v.toNat 0 != 0)=true:=h;have hz:(st.getD v.toNat 0==0)=false:=by simpa using h
   rw[hz];exact⟨sI,rfl,rfl,rfl,Gf⟩
  ·have h:(st.getD v.toNat 0 != 0)=false:=h;have hz:(st.getD v.toNat 0==0)=true:=by simpa using h
   rw[hz];exact⟨rfl,VIdR.mk (i:=v.toNat) (by rw[Ab];omega) h3 ⟨v.toNat,0,_,rfl,rfl,z02 (f:=eInt) (z3n oM0),by simp[eInt],sI,rfl,boq (by simp[y5a]),rwq (by simp[eInt,C8]),Gf⟩⟩
theorem sc_eqW(u:Un)(f:Fl)(fq:FuncId)(hent:tb.fn fq=true)(step:List Int->Int->Int->Bool×List Int)(hlen:∀st v t,(step st v t).2.length=st.length)(h:∀st v t,st.length=f.types.length->SC Tryz.prog fq [iInt v,iInt t,.ptr 5 0] (ckSp u f 3 5 st) (λk=>k∈[3,5]) (iBool (step st v t).1) (ckSp u f 3 5 (step st v t).2))
 (st0:List Int) (hs:st0.length=f.types.length) (a b:List Int):SC Tryz.prog 228 [.pv (ints a),.pv (ints b),.fn (.func fq) [] [.ptr 5 0]] (ckSp u f 3 5 st0) (λk=>k∈[3,5]) (iBool (eqf step st0 a b).1) (ckSp u f 3 5 (eqf step st0 a b).2):=by
 refine K0 tb { gh:=[(0,[.len 0])] } [3,5] Tryz.func228 rfl rfl ?_;intro hl;simp only[Ab]at hl;have hl:a.length<=9223372036854775807:=hl;unfold eqf;refine z00 (λhc=>?_) λhc=>?_
 ·have hc:¬(a.length:Int)=b.length:=by simpa using hc
  rw[A1 hc];exact⟨sI,rfl,rfl,rfl,Gf⟩
 have hc:(a.length:Int)=b.length:=by simpa using hc
 rw[A5 hc];refine⟨Nat×List Int,λq=>[(17,iInt ((q.1:Nat):Int))],λq=>ckSp u f 3 5 q.2,λq=>a.length-q.1,λq=>q.1<=a.length/\q.2.length=f.types.length/\eqGo step st0 a b=eqGo step q.2 (a.drop q.1) (b.drop q.1),[],(0,st0),⟨Aj _,hs,rfl⟩,Gg,Gj,?_⟩;rintro⟨i,st⟩ ⟨i1,i2,i3⟩;dsimp only at i1 i2 i3;refine z00 (λhc2=>?_) λhc2=>?_
 ·have hlt:i<a.length:=z12 (f:=eInt) rfl hc2;obtain⟨x,x1,x2,x3,x4⟩:=z0u hlt;obtain⟨y,y1,y2,y3,y4⟩:=z0u (show i<b.length by omega);have hS:=h st x y i2;have hL:=hlen st x y;rw[x3,y3,eqGo]at i3;generalize step st x y=w at hS hL i3;obtain⟨w1,w2⟩:=w;dsimp only at hS hL i3
  cases w1
  ·simp only[As,Bv]at i3;rw[i3];exact⟨z02 (f:=eInt) x1,rfl,z02 (f:=eInt) y1,rfl,z56 (b:=tb.fn fq) hent ⟨hS,sR,⟨rfl,by simp,rfl,by simp,rfl,Gf⟩,λk hk=>hk,rfl,rfl,sI,rfl,rfl,rfl,Gf⟩⟩
  ·simp only[C6]at i3;exact⟨z02 (f:=eInt) x1,rfl,z02 (f:=eInt) y1,rfl,z56 (b:=tb.fn fq) hent ⟨hS,sR,⟨rfl,by simp,rfl,by simp,rfl,Gf⟩,λk hk=>hk,rfl,rfl,z01 rfl oM0,(i+1,w2),z05 hlt,⟨hlt,hL.trans i2,i3⟩,Gg,Gj,rfl,rfl,rfl,rfl⟩⟩
 ·have hge:a.length<=i:=z13 (f:=eInt) rfl hc2;rw[i3,Ae hge,eqGo]
  ·exact⟨sI,rfl,rfl,rfl,Gf⟩
  ·intro x r y q hx;cases hx
theorem sc_eqU(u:Un)(f:Fl)(st:List Int)(hs:st.length=f.types.length)(a b:List Int):SC Tryz.prog 228 [.pv (ints a),.pv (ints b),.fn (.func 229) [] [.ptr 5 0]] (ckSp u f 3 5 st) (λk=>k∈[3,4,5]) (iBool (z0w f.types st a b)) (ckSp u f 3 5 st):=by
 refine K0 tb { gh:=[(0,[.len 0])] } [3,4,5] Tryz.func228 rfl rfl ?_;intro hl;simp only[Ab]at hl;have hl:a.length<=9223372036854775807:=hl;unfold z0w eqf;refine z00 (λhc=>?_) λhc=>?_
 ·have hc:¬(a.length:Int)=b.length:=by simpa using hc
  rw[A1 hc];exact⟨sI,rfl,rfl,rfl,Gf⟩
 have hc:(a.length:Int)=b.length:=by simpa using hc
 rw[A5 hc];refine⟨Nat,λi=>[(17,iInt ((i:Nat):Int))],λ_=>ckSp u f 3 5 st,λi=>a.length-i,λi=>i<=a.length/\eqGo (zt6 f.types) st a b=eqGo (zt6 f.types) st (a.drop i) (b.drop i),[],0,⟨Aj _,rfl⟩,Gg,Gj,?_⟩;rintro i ⟨i1,i3⟩;refine z00 (λhc2=>?_) λhc2=>?_
 ·have hlt:i<a.length:=z12 (f:=eInt) rfl hc2;obtain⟨x,x1,x2,x3,x4⟩:=z0u hlt;obtain⟨y,y1,y2,y3,y4⟩:=z0u (show i<b.length by omega);have hS:=j4d u f st hs x y;have hL:(zt6 f.types st x y).2=st:=rfl;rw[x3,y3,eqGo,hL]at i3;generalize(zt6 f.types st x y).1=w at hS i3
  cases w
  ·simp only[As,Bv]at i3;rw[i3];exact⟨z02 (f:=eInt) x1,rfl,z02 (f:=eInt) y1,rfl,hS,sR,⟨rfl,by simp,rfl,by simp,rfl,by simp,Gf⟩,λk hk=>hk,rfl,rfl,sI,rfl,rfl,rfl,Gf⟩
  ·simp only[C6]at i3;exact⟨z02 (f:=eInt) x1,rfl,z02 (f:=eInt) y1,rfl,hS,sR,⟨rfl,by simp,rfl,by simp,rfl,by simp,Gf⟩,λk hk=>hk,rfl,rfl,z01 rfl oM0,i+1,z05 hlt,⟨hlt,i3⟩,Gg,Gj,rfl,rfl,rfl,rfl⟩
 ·have hge:a.length<=i:=z13 (f:=eInt) rfl hc2;rw[i3,Ae hge,eqGo]
  ·exact⟨sI,rfl,rfl,rfl,Gf⟩
  ·intro x r y q hx;cases hx
theorem z2y(u:Un)(f:Fl)(st:List Int)(hs:st.length=f.types.length)(l want:List Int):SC Tryz.prog 201 [.ptr 3 0,.pv (ints l),.pv (ints want)] (ckS u f 3 st) (λ_=>True) (iBool (z0w f.types st l want)) (ckS u f 3 st):=by
 refine L0 (K0 tb { ids:=[(3,5)] } [3,4] Tryz.func201 rfl rfl ?_) λk h _=>j0t h;exact⟨[3,4,5],sc_eqU u f st hs l want,sR,⟨rfl,rfl,rfl,rfl,by simp,rfl,rfl,by simp,Gf⟩,rfl,sI,rfl,rfl,Gf⟩
theorem z4z(u:Un)(f:Fl)(st:List Int)(hs:st.length=f.types.length)(l want:List Int):SC Tryz.prog 203 [.ptr 3 0,.pv (ints l),.pv (ints want)] (ckS u f 3 st) (λk=>k=3) (iBool (z1s f.types st l want).1) (ckS u f 3 (z1s f.types st l want).2):=by
 refine L0 (K0 tb { ids:=[(3,5)] } [3] Tryz.func203 rfl rfl ?_) λk _ h=>Al.2 h;exact⟨[3,5],sc_eqW u f 230 rfl (z5z f.types) (za5 f.types) (λst v t h=>j4c u f st h v t) st hs l want,sR,⟨rfl,rfl,rfl,boq (by rw[Ab,Ab,show(eqf (z5z f.types) st l want).2.length=st.length from z2b f.types st l want]),by simp,rfl,Gf⟩,rfl,sI,boq (by simp[z2b]),rfl,Gf⟩
theorem y6s(u:Un)(f:Fl)(st:List Int)(hs:st.length=f.types.length)(l:List Int)(hb:l.length<=34359738368):SC Tryz.prog 202 [.ptr 3 0,.pv (ints l)] (ckS u f 3 st) (λk=>k=3) (iBool (z1s f.types st l (List.replicate l.length 0)).1) (ckS u f 3 (z1s f.types st l (List.replicate l.length 0)).2):=by
 refine L0 (K0 tb { pb:=[109] } [3] Tryz.func202 rfl rfl ?_) λk _ h=>Al.2 h;have h:=z4z u f st hs l (List.replicate l.length 0);refine⟨rfl,VNum.mk (n:=l.length) (by rw[Ab]) oM0 ?_⟩;exact⟨[3],h,H0 (H0 (I0 (sE (by simp[ints,eInt];exact .inr rfl)) J0)),⟨rfl,boq (by simp[z2b]),rfl,rfl,Gf⟩,rfl,sI,boq (by simp[z2b]),rfl,Gf⟩
theorem yh8(st l:List Int)(x:Int):z3j st (l++[x])=(z3j st l).set x.toNat 2:=by simp[z3j]
theorem y9f(u:Un)(f:Fl)(st:List Int)(hs:st.length=f.types.length)(l:List Int)(hin:∀v∈l,0<=v/\v<f.types.length):SC Tryz.prog 129 [.ptr 3 0,.pv (ints l)] (ckS u f 3 st) (λk=>k=3) (.tup []) (ckS u f 3 (z3j st l)):=by
 refine L0 (K0 tb { gh:=[(0,[.len 1])] } [3] Tryz.func129 rfl rfl ?_) λk _ h=>Al.2 h;intro hl;simp only[Ab]at hl;have hl:l.length<=9223372036854775807:=hl;refine⟨Nat,λi=>[(8,iInt ((i:Nat):Int))],λi=>[(4,.row ⟨3,1⟩ ((z3j st (l.take i)).map eInt))],λi=>l.length-i,λi=>i<=l.length,[],0,Aj _,Gg,Gg,?_⟩;intro i hi;have hn:=z4o (l.take i) st;refine z00 (λhc=>?_) λhc=>?_
 ·have hlt:i<l.length:=z12 (f:=eInt) rfl hc;obtain⟨x,x1,x2,x3,x4⟩:=z0u hlt;obtain⟨g1,g2⟩:=hin x x4;exact⟨z02 (f:=eInt) x1,rfl,by simp[hn],VIdR.mk (i:=x.toNat) (by rw[Ab];omega) oM0 ⟨x.toNat,0,_,by simp[hn],rfl,z02 (f:=eInt) (z3n oM0),by simp[eInt],z01 rfl oM0,i+1,z05 hlt,hlt,Gg,⟨rwq (by rw[x2,yh8];simp[eInt,C8]),Gf⟩,rfl,rfl,rfl,rfl⟩⟩
 ·have hge:l.length<=i:=z13 (f:=eInt) rfl hc;rw[Az hge];exact⟨sI,boq (by simp[z4o]),rfl,Gf⟩
theorem zt2(u:Un)(f:Fl)(st:List Int)(hs:st.length=f.types.length)(l:List Int)(hb:l.length<=34359738368):SC Tryz.prog 200 [.ptr 3 0,.pv (ints l)] (ckS u f 3 st) (λk=>k<100) (.pv (ints (r8of f.types l))) (ckS u f 3 st):=by
 refine L0 (K0 tb { gh:=[(1,[.grow 4 1001 3 1]),(8,[.fz 4 1001])] } [3,4] Tryz.func200 rfl rfl ?_) λk h _=>j0t h;have hr:∀x,z9h f.types x 0=zs1 f.types x:=λx=>by simp[z9h,zs1]
 refine⟨Nat,λi=>[(9,iInt ((i:Nat):Int)),(4,.sl 1001 (((l.take i).map λv=>f.types.getD v.toNat 0).map eInt).length)],λi=>[(1001,.row ⟨3,1⟩ (((l.take i).map λv=>f.types.getD v.toNat 0).map eInt))],λi=>l.length-i,λi=>i<=l.length/\(l.take i).all (zs1 f.types)=true,[],0,⟨Aj _,by simp⟩,Gi,Gg,?_⟩;rintro i ⟨hi,ha⟩;refine z00 (λhc=>?_) λhc=>?_
 ·have hlt:i<l.length:=z12 (f:=eInt) rfl hc;obtain⟨x,x1,x2,x3,x4⟩:=z0u hlt;have hV:=y6u u f st x 0;rw[hr]at hV
  cases hv:zs1 f.types x
  ·rw[hv]at hV;have hT:r8of f.types l=[]:=by
    unfold r8of;rw[A1];intro h;rw[Bj]at h;have:=h x x4;rw[hv]at this;cases this
   rw[hT];exact⟨z02 (f:=eInt) x1,rfl,[3,4],hV,sR,⟨rfl,rfl,Gf,rfl,rfl,Gf,Gf⟩,rfl,sN,rfl,rfl,Gf⟩
  ·rw[hv]at hV;obtain⟨h1,h2,h3⟩:=y73 ((hr x).trans hv);refine⟨z02 (f:=eInt) x1,rfl,[3,4],hV,sR,⟨rfl,rfl,Gf,rfl,rfl,Gf,Gf⟩,rfl,z02 (f:=eInt) (z3n h2),h3,rfl,z3u rfl,by simp;omega,z01 rfl oM0,i+1,z05 hlt,⟨hlt,by rw[x2];simp[ha,hv]⟩,⟨rfl,slq (by rw[x2];simp),Gf⟩,⟨rwq (by rw[x2];simp[eInt]),Gf⟩,rfl,rfl,rfl,rfl⟩
 ·have hge:l.length<=i:=z13 (f:=eInt) rfl hc;rw[Az hge]at ha⊢;have hT:r8of f.types l=l.map λv=>f.types.getD v.toNat 0:=by unfold r8of;rw[A5 ha]
  rw[hT];exact⟨rfl,sI,rfl,rfl,Gf⟩
theorem ky{d:TypeDesc}{es:List (Value×PV)}(h:(es.all λe=>z1y d e.1)=true):∀e∈es,z1y d e.1=true:=Bj.1 h
attribute [local simp] z1m r8op r8num yo6 r8kn Nd.kind Nd.op Nd.n Nd.name Nd.kids Nd.params z2d in
theorem j44(x:Nd):SC Tryz.prog 172 [.pv (ndv x)] [] (λ_=>False) (iBool (z1m x)) []:=by
 refine SC.anyR (K0 tb {} [] Tryz.func172 rfl rfl ?_);obtain⟨kind,op,n,name,args,outs,params,kids⟩:=x;rcases(show kind=3∨kind=4∨kind=1∨kind=2∨kind=5∨kind=6∨kind=7∨kind=11∨kind=10∨(kind≠1/\kind≠2/\kind≠3/\kind≠4/\kind≠5/\kind≠6/\kind≠7/\kind≠11/\kind≠10) by omega)with rfl|rfl|rfl|rfl|rfl|rfl|rfl|rfl|rfl|h
 iterate 4 exact⟨rfl,ky rfl,rfl,ky rfl,rfl,ky rfl,rfl,z00 (λh3=>z00 (λh2=>z00 (λh1=>⟨sE (Ah iBool (by simp_all)),Gf⟩) λh1=>⟨sE (Ah iBool (by simp_all)),Gf⟩) λh2=>⟨sE (Ah iBool (by simp_all)),Gf⟩) λh3=>⟨sE (Ah iBool (by simp_all)),Gf⟩⟩
 iterate 3 exact⟨rfl,ky rfl,rfl,ky rfl,rfl,ky rfl,rfl,z00 (λh4=>z00 (λh3=>z00 (λh2=>z00 (λh1=>⟨sE (Ah iBool (by simp_all)),Gf⟩) λh1=>⟨sE (Ah iBool (by simp_all)),Gf⟩) λh2=>⟨sE (Ah iBool (by simp_all)),Gf⟩) λh3=>⟨sE (Ah iBool (by simp_all)),Gf⟩) λh4=>⟨sE (Ah iBool (by simp_all)),Gf⟩⟩
 ·exact⟨rfl,ky rfl,rfl,ky rfl,rfl,ky rfl,rfl,z00 (λh3=>z00 (λh2=>z00 (λh1=>⟨sE (Ah iBool (by simp_all)),Gf⟩) λh1=>⟨sE (Ah iBool (by simp_all)),Gf⟩) λh2=>⟨sE (Ah iBool (by simp_all)),Gf⟩) λh3=>⟨sE (Ah iBool (by simp_all)),Gf⟩⟩
 ·exact⟨rfl,ky rfl,rfl,ky rfl,rfl,ky rfl,rfl,z00 (λh4=>z00 (λh3=>z00 (λh2=>z00 (λh1=>⟨sE (Ah iBool (by simp_all)),Gf⟩) λh1=>⟨sE (Ah iBool (by simp_all)),Gf⟩) λh2=>⟨sE (Ah iBool (by simp_all)),Gf⟩) λh3=>⟨sE (Ah iBool (by simp_all)),Gf⟩) λh4=>⟨sE (Ah iBool (by simp_all)),Gf⟩⟩
 ·obtain⟨k1,k2,k3,k4,k5,k6,k7,k8,k9⟩:=h;have no:∀{i:Int},kind≠i->(kind==i)=true->False:=λh e=>h (Av e);exact⟨rfl,ky rfl,rfl,ky rfl,VAsk.mk (p:=vInt 0) (b:=false) rfl (ky rfl) (by simp[Nd.kind,k8,k9,mput,keyB,z1z]<;>rfl) (z00 (λh=>(no k3 h).elim) λ_=>z00 (λh=>(no k4 h).elim) λ_=>z00 (λh=>(no k1 h).elim) λ_=>z00 (λh=>(no k2 h).elim) λ_=>z00 (λh=>(no k5 h).elim) λ_=>z00 (λh=>(no k6 h).elim) λ_=>z00 (λh=>(no k7 h).elim) λ_=>z00 (λh=>(no k8 h).elim) λ_=>z00 (λh4=>z00 (λh3=>z00 (λh2=>z00 (λh1=>⟨sE (Ah iBool (by simp_all)),Gf⟩) λh1=>⟨sE (Ah iBool (by simp_all)),Gf⟩) λh2=>⟨sE (Ah iBool (by simp_all)),Gf⟩) λh3=>⟨sE (Ah iBool (by simp_all)),Gf⟩) λh4=>⟨sE (Ah iBool (by simp_all)),Gf⟩)⟩
theorem yr1(u:Un)(f:Fl)(st:List Int)(hs:st.length=f.types.length)(x:Nd):SC Tryz.prog 204 [.ptr 3 0,.pv (ndv x)] (ckS u f 3 st) (λk=>k=3) (iBool (y9s f st x).1) (ckS u f 3 (y9s f st x).2):=by
 refine L0 (K0 tb { pb:=[103] } [3] Tryz.func204 rfl rfl ?_) λk _ h=>Al.2 h;unfold y9s;have hO:=y9g x.op;generalize z3a x.op=q at hO⊢;obtain⟨a,b⟩:=q;dsimp only at hO⊢;have hS:=z4z u f st hs x.outs [b];refine⟨[],hO,sR,Gf,rfl,z00 (λh=>?_) λh=>?_⟩
 ·rw[A5 h];have hU:=z2y u f st hs x.args [a];refine z00 (λh1=>z00 (λh2=>?_) λh2=>?_) λh1=>?_
  ·rw[show z2w x.op=true by unfold z2w;rw[show decide (x.op≥20)=true from h1,show decide (x.op<=28)=true from h2];rfl,B6];generalize z0w f.types st x.args [a]=c at hU⊢
   cases c
   ·exact⟨[],hU,sR,⟨rfl,Gf,rfl,Gf⟩,rfl,sI,rfl,rfl,Gf⟩
   ·exact⟨[],hU,sR,⟨rfl,Gf,rfl,Gf⟩,rfl,[],hS,sR,Gj,rfl,sI,rfl,rfl,Gf⟩
  ·rw[show z2w x.op=false by unfold z2w;rw[show decide (x.op≥20)=true from h1,show decide (x.op<=28)=false from h2];rfl,D2];exact⟨sI,rfl,rfl,Gf⟩
  ·rw[show z2w x.op=false by unfold z2w;rw[show decide (x.op≥20)=false from h1];rfl,D2];exact⟨sI,rfl,rfl,Gf⟩
 ·rw[A1 (by rw[show(x.kind==3)=false from h];decide)];have hU:=z2y u f st hs x.args [a,a];have hL:=y9l x.op;refine⟨[],hL,sR,Gf,rfl,z00 (λh1=>z00 (λh2=>?_) λh2=>?_) λh1=>?_⟩
  ·rw[show decide (z4g x.op > 0)=true from h1,show decide (x.op<=17)=true from h2,B6,B6]
   cases hc:z0w f.types st x.args [a,a]
   ·rw[hc]at hU;exact⟨[],hU,sR,⟨rfl,Gf,rfl,Gf⟩,rfl,sI,rfl,rfl,Gf⟩
   ·rw[hc]at hU;obtain⟨v,w,e0,e1,e2,e3,e4⟩:=yz9 hc;have hi0:(x.args.map eInt)[0]?=some [vInt v]:=by rw[e0];rfl
    have hi1:(x.args.map eInt)[1]?=some [vInt w]:=by rw[e0];rfl
    rw[show x.args.getD 0 0=v by rw[e0];rfl,show x.args.getD 1 0=w by rw[e0];rfl,B6];refine⟨[],hU,sR,⟨rfl,Gf,rfl,Gf⟩,rfl,hi0,rfl,z02 (f:=eInt) (z3n e2),e1,hi1,rfl,z02 (f:=eInt) (z3n e4),e3,z00 (λh3=>?_) λh3=>?_⟩
    ·rw[show(f.types.getD v.toNat 0==f.types.getD w.toNat 0)=true from h3];exact⟨[],hS,sR,Gj,rfl,sI,rfl,rfl,Gf⟩
    ·rw[show(f.types.getD v.toNat 0==f.types.getD w.toNat 0)=false from h3];exact⟨sI,rfl,rfl,Gf⟩
  ·rw[show decide (z4g x.op > 0)=true from h1,show decide (x.op<=17)=false from h2];exact⟨sI,rfl,rfl,Gf⟩
  ·rw[show decide (z4g x.op > 0)=false from h1];exact⟨sI,rfl,rfl,Gf⟩
theorem sc_shEnd(u:Un)(f:Fl)(st:List Int)(hs:st.length=f.types.length)(x:Nd)(wh:Wh):SC Tryz.prog 176 [.ptr 3 0,.pv (ndv x),.pv (whv wh)] (ckS u f 3 st) (λk=>k=3) (iBool (y9p f st x wh)) (ckS u f 3 st):=by
 refine L0 (K0 tb { pb:=[104,105] } [3] Tryz.func176 rfl rfl ?_) λk _ h=>Al.2 h;unfold y9p;have hl:(x.outs.map eInt).length=x.outs.length:=Ab _;generalize hZ:((x.outs.length:Int)==0)=z;have hZ':(((x.outs.map eInt).length:Int)==0)=z:=by rw[hl];exact hZ
 rw[<- hZ'];have hY:=z2y u f st hs x.args wh.Yield;have hN:=z2y u f st hs x.args wh.Next;have hL:=z2y u f st hs x.args wh.Left;have hT:=z2y u f st hs x.args [f.ty];refine z00 (λh12=>?_) λh12=>z00 (λh13=>?_) λh13=>z00 (λh14=>?_) λh14=>?_
 ·rw[A5 h12];refine z00 (λh1=>?_) λh1=>?_
  ·rw[show(((x.outs.map eInt).length:Int)==0)=true from h1,B6];refine z00 (λh2=>?_) λh2=>?_
   ·rw[show wh.If=true from h2,B6];exact⟨[],hY,sR,⟨rfl,Gf,rfl,Gf⟩,rfl,sI,rfl,rfl,Gf⟩
   ·rw[show wh.If=false from h2];exact⟨sI,rfl,rfl,Gf⟩
  ·rw[show(((x.outs.map eInt).length:Int)==0)=false from h1];exact⟨sI,rfl,rfl,Gf⟩
 ·rw[A1 (by rw[show(x.kind==12)=false from h12];decide),A5 h13];refine z00 (λh1=>?_) λh1=>?_
  ·rw[show(((x.outs.map eInt).length:Int)==0)=true from h1,B6];refine z00 (λh2=>?_) λh2=>?_
   ·rw[show wh.Loop=true from h2,B6];exact⟨[],hN,sR,⟨rfl,Gf,rfl,Gf⟩,rfl,sI,rfl,rfl,Gf⟩
   ·rw[show wh.Loop=false from h2];exact⟨sI,rfl,rfl,Gf⟩
  ·rw[show(((x.outs.map eInt).length:Int)==0)=false from h1];exact⟨sI,rfl,rfl,Gf⟩
 ·rw[A1 (by rw[show(x.kind==12)=false from h12];decide),A1 (by rw[show(x.kind==13)=false from h13];decide),A5 h14];refine z00 (λh1=>?_) λh1=>?_
  ·rw[show(((x.outs.map eInt).length:Int)==0)=true from h1,B6];refine z00 (λh2=>?_) λh2=>?_
   ·rw[show wh.Loop=true from h2,B6];exact⟨[],hL,sR,⟨rfl,Gf,rfl,Gf⟩,rfl,sI,rfl,rfl,Gf⟩
   ·rw[show wh.Loop=false from h2];exact⟨sI,rfl,rfl,Gf⟩
  ·rw[show(((x.outs.map eInt).length:Int)==0)=false from h1];exact⟨sI,rfl,rfl,Gf⟩
 ·rw[A1 (by rw[show(x.kind==12)=false from h12];decide),A1 (by rw[show(x.kind==13)=false from h13];decide),A1 (by rw[show(x.kind==14)=false from h14];decide)];refine z00 (λh1=>?_) λh1=>?_
  ·rw[show(((x.outs.map eInt).length:Int)==0)=true from h1,B6];exact⟨[],hT,sR,⟨rfl,Gf,rfl,Gf⟩,rfl,sI,rfl,rfl,Gf⟩
  ·rw[show(((x.outs.map eInt).length:Int)==0)=false from h1];exact⟨sI,rfl,rfl,Gf⟩
theorem yh4(u:Un)(f:Fl)(st:List Int)(hs:st.length=f.types.length)(hg:∀g∈u.flows,0<=g.params/\g.params<=g.types.length)(x:Nd):SC Tryz.prog 177 [.ptr 3 0,.pv (ndv x)] (ckS u f 3 st) (λk=>k=3) (iBool (z2k u f st x).1) (ckS u f 3 (z2k u f st x).2):=by
 refine L0 (K0 tb {} [3] Tryz.func177 rfl rfl ?_) λk _ h=>Al.2 h;obtain⟨kind,op,n,name,args,outs,params,kids⟩:=x;rcases(show kind=1∨kind=2∨kind=3∨kind=4∨kind=5∨kind=6∨kind=8∨kind=9∨kind=7∨(kind≠1/\kind≠2/\kind≠3/\kind≠4/\kind≠5/\kind≠6/\kind≠8/\kind≠9/\kind≠7) by omega)with rfl|rfl|rfl|rfl|rfl|rfl|rfl|rfl|rfl|h
 ·have e:z2k u f st (.mk 1 op n name args outs params kids)=andP (z0w f.types st args []) st (z1s f.types st outs [1]):=rfl;rw[e];have h1:=z2y u f st hs args [];generalize z0w f.types st args []=b at h1⊢
  cases b
  ·exact⟨[],h1,H0 (H0 (I0 sN J0)),⟨rfl,Gf,rfl,Gf⟩,rfl,sI,rfl,rfl,Gf⟩
  ·exact⟨[],h1,H0 (H0 (I0 sN J0)),⟨rfl,Gf,rfl,Gf⟩,rfl,[],z4z u f st hs outs [1],sR,Gj,rfl,sI,rfl,rfl,Gf⟩
 ·have e:z2k u f st (.mk 2 op n name args outs params kids)=andP ((n==0||n==1)&&z0w f.types st args []) st (z1s f.types st outs [2]):=rfl;rw[e];have h1:=z2y u f st hs args [];generalize z0w f.types st args []=b at h1⊢;rcases(show n=0∨n=1∨((n==0)=false/\(n==1)=false) by simp;omega)with rfl|rfl|⟨h2,h3⟩
  iterate 2
   ·cases b
    ·exact⟨[],h1,H0 (H0 (I0 sN J0)),⟨rfl,Gf,rfl,Gf⟩,rfl,sI,rfl,rfl,Gf⟩
    ·exact⟨[],h1,H0 (H0 (I0 sN J0)),⟨rfl,Gf,rfl,Gf⟩,rfl,[],z4z u f st hs outs [2],sR,Gj,rfl,sI,rfl,rfl,Gf⟩
  ·rw[show((n==0||n==1)&&b)=false by rw[h2,h3];rfl];refine z00 (λh=>A9 (h.symm.trans h2) dC0) λ_=>z00 (λh=>A9 (h.symm.trans h3) dC0) λ_=>?_;exact⟨sI,rfl,rfl,Gf⟩
 ·exact⟨[],yr1 u f st hs (.mk 3 op n name args outs params kids),sR,Gj,rfl,sI,rfl,rfl,Gf⟩
 ·exact⟨[],yr1 u f st hs (.mk 4 op n name args outs params kids),sR,Gj,rfl,sI,rfl,rfl,Gf⟩
 ·have e:z2k u f st (.mk 5 op n name args outs params kids)=andP (decide (z0i name u.arrays 0≥0)&&z0w f.types st args [1]) st (z1s f.types st outs [1]):=rfl;rw[e];have h0:=yr0 u name;have h1:=z2y u f st hs args [1];generalize z0w f.types st args [1]=b at h1⊢;generalize decide (z0i name u.arrays 0≥0)=c at h0⊢
  cases c
  ·exact⟨[],h0,sR,Gf,rfl,sI,rfl,rfl,Gf⟩
  ·cases b
   ·exact⟨[],h0,sR,Gf,rfl,[],h1,sR,⟨rfl,Gf,rfl,Gf⟩,rfl,sI,rfl,rfl,Gf⟩
   ·exact⟨[],h0,sR,Gf,rfl,[],h1,sR,⟨rfl,Gf,rfl,Gf⟩,rfl,[],z4z u f st hs outs [1],sR,Gj,rfl,sI,rfl,rfl,Gf⟩
 ·have e:z2k u f st (.mk 6 op n name args outs params kids)=andP (decide (z0i name u.arrays 0≥0)&&z0w f.types st args [1,1]) st (z1s f.types st outs []):=rfl;rw[e];have h0:=yr0 u name;have h1:=z2y u f st hs args [1,1];generalize z0w f.types st args [1,1]=b at h1⊢;generalize decide (z0i name u.arrays 0≥0)=c at h0⊢
  cases c
  ·exact⟨[],h0,sR,Gf,rfl,sI,rfl,rfl,Gf⟩
  ·cases b
   ·exact⟨[],h0,sR,Gf,rfl,[],h1,sR,⟨rfl,Gf,rfl,Gf⟩,rfl,sI,rfl,rfl,Gf⟩
   ·exact⟨[],h0,sR,Gf,rfl,[],h1,sR,⟨rfl,Gf,rfl,Gf⟩,rfl,[],z4z u f st hs outs [],H0 (H0 (I0 sN J0)),Gj,rfl,sI,rfl,rfl,Gf⟩
 ·have e:z2k u f st (.mk 8 op n name args outs params kids)=andP (z0w f.types st args []) st (z1s f.types st outs [1]):=rfl;rw[e];have h1:=z2y u f st hs args [];generalize z0w f.types st args []=b at h1⊢
  cases b
  ·exact⟨[],h1,H0 (H0 (I0 sN J0)),⟨rfl,Gf,rfl,Gf⟩,rfl,sI,rfl,rfl,Gf⟩
  ·exact⟨[],h1,H0 (H0 (I0 sN J0)),⟨rfl,Gf,rfl,Gf⟩,rfl,[],z4z u f st hs outs [1],sR,Gj,rfl,sI,rfl,rfl,Gf⟩
 ·have e:z2k u f st (.mk 9 op n name args outs params kids)=andP (z0w f.types st args [1]) st (z1s f.types st outs []):=rfl;rw[e];have h1:=z2y u f st hs args [1];generalize z0w f.types st args [1]=b at h1⊢
  cases b
  ·exact⟨[],h1,sR,⟨rfl,Gf,rfl,Gf⟩,rfl,sI,rfl,rfl,Gf⟩
  ·exact⟨[],h1,sR,⟨rfl,Gf,rfl,Gf⟩,rfl,[],z4z u f st hs outs [],H0 (H0 (I0 sN J0)),Gj,rfl,sI,rfl,rfl,Gf⟩
 ·have e:z2k u f st (.mk 7 op n name args outs params kids)=zx3 u f st (.mk 7 op n name args outs params kids):=rfl;rw[e];refine⟨[],zf4 u name,sR,Gf,rfl,z00 (λhc=>?_) λhc=>?_⟩
  ·rw[show zx3 u f st (.mk 7 op n name args outs params kids)=(false,st)from A5 (Ap hc)];exact⟨sI,rfl,rfl,Gf⟩
  ·have hl:¬z06 name u.flows 0<0:=Am hc;have hk0:z06 name u.flows 0≥0:=by omega
   obtain⟨g,hgk,_⟩:=ze9 hk0;obtain⟨hgp0,hgpl⟩:=hg g (Af hgk);have e2:zx3 u f st (.mk 7 op n name args outs params kids)=andP (z0w f.types st args (g.types.take g.params.toNat)) st (z1s f.types st outs [g.ty]):=by
    show(if z06 name u.flows 0<0 then _ else match u.flows[(z06 name u.flows 0).toNat]? with|some g=>_|none=>_)=_;rw[A1 hl,hgk];rfl
   rw[e2];have h1:=z2y u f st hs args (g.types.take g.params.toNat);generalize z0w f.types st args (g.types.take g.params.toNat)=b at h1⊢;have hi:=z02 (f:=Fl.enc) hgk;have hkn:(((z06 name u.flows 0).toNat:Nat):Int)=z06 name u.flows 0:=by omega
   have hpn:((g.params.toNat:Nat):Int)=g.params:=by omega
   have hle:0<=g.params.toNat:=Aj _;have hge:g.params.toNat<=(g.types.map eInt).length:=by simp;omega
   cases b
   ·exact⟨hi,hkn.symm,_,hpn.symm,hle,hge,zl7,[],h1,H0 (H0 (I0 (sP (by simp only[ints,Ek];exact PSub.refl _)) J0)),⟨rfl,Gf,rfl,Gf⟩,rfl,sI,rfl,rfl,Gf⟩
   ·exact⟨hi,hkn.symm,_,hpn.symm,hle,hge,zl7,[],h1,H0 (H0 (I0 (sP (by simp only[ints,Ek];exact PSub.refl _)) J0)),⟨rfl,Gf,rfl,Gf⟩,rfl,[],z4z u f st hs outs [g.ty],sR,Gj,rfl,sI,rfl,rfl,Gf⟩
 ·obtain⟨h1,h2,h3,h4,h5,h6,h8,h9,h7⟩:=h;rw[show z2k u f st (.mk kind op n name args outs params kids)=(false,st) by unfold z2k;simp[Nd.kind,h1,h2,h3,h4,h5,h6,h7,h8,h9]];have no:∀{i:Int},kind≠i->(kind==i)=true->False:=λh e=>h (Av e);exact z00 (λh=>(no h1 h).elim) λ_=>z00 (λh=>(no h2 h).elim) λ_=>z00 (λh=>(no h3 h).elim) λ_=>z00 (λh=>(no h4 h).elim) λ_=>z00 (λh=>(no h5 h).elim) λ_=>z00 (λh=>(no h6 h).elim) λ_=>z00 (λh=>(no h8 h).elim) λ_=>z00 (λh=>(no h9 h).elim) λ_=>z00 (λh=>(no h7 h).elim) λ_=>⟨sI,rfl,rfl,Gf⟩
theorem y04(f:Fl){x:Nd}(st:List Int){c:Bool}(h:((x.outs.length:Int)==0 || !z04 x)=c):z4d f x st=andP c st (z1s f.types st x.outs (List.replicate x.outs.length 0)):=by rw[z4d,h]
theorem yh2(u:Un)(f:Fl)(st:List Int)(hs:st.length=f.types.length)(x:Nd)(ka kb:List Nd)(hkids:x.kids=[ka,kb])(wh:Wh)(deep:Int)(hbo:x.outs.length<=34359738368)(ih:∀q∈x.kids,∀(w:Wh)(st:List Int),st.length=f.types.length->SC Tryz.prog 73 [.ptr 3 0,.pv (z2h q),.pv (whv w),iInt deep] (ckS u f 3 st) (λk=>k=3) (iBool (z22 u f deep w st q).1) (ckS u f 3 (z22 u f deep w st q).2)):SC Tryz.prog 173 [.ptr 3 0,.pv (ndv x),.pv (whv wh),iInt deep] (ckS u f 3 st) (λk=>k=3) (iBool (if z0w f.types st x.args [2]then andQ (z22 u f deep ⟨true,wh.Loop,r8of f.types x.outs,wh.Next,wh.Left⟩ st ka) (λs1=>andQ (z22 u f deep ⟨true,wh.Loop,r8of f.types x.outs,wh.Next,wh.Left⟩ s1 kb) λs2=>z4d f x s2)else(false,st)).1) (ckS u f 3 (if z0w f.types st x.args [2]then andQ (z22 u f deep ⟨true,wh.Loop,r8of f.types x.outs,wh.Next,wh.Left⟩ st ka) (λs1=>andQ (z22 u f deep ⟨true,wh.Loop,r8of f.types x.outs,wh.Next,wh.Left⟩ s1 kb) λs2=>z4d f x s2)else(false,st)).2):=by
 refine L0 (K0 tb {} [3] Tryz.func173 rfl rfl ?_) λk _ h=>Al.2 h;have hi0:(x.kids.map eKid)[0]?=some [z2h ka]:=by rw[hkids];rfl
 have hi1:(x.kids.map eKid)[1]?=some [z2h kb]:=by rw[hkids];rfl
 have hm0:ka∈x.kids:=by rw[hkids];exact .head _
 have hm1:kb∈x.kids:=by rw[hkids];exact .tail _ (.head _)
 have hT:=zt2 u f st hs x.outs hbo;have h1:=z2y u f st hs x.args [2];have h2:=ih ka hm0 ⟨true,wh.Loop,r8of f.types x.outs,wh.Next,wh.Left⟩ st hs;have l2:=(za3 u f deep ⟨true,wh.Loop,r8of f.types x.outs,wh.Next,wh.Left⟩ st ka).trans hs;have hC:=zj9 x;generalize z0w f.types st x.args [2]=b1 at h1⊢;generalize z22 u f deep ⟨true,wh.Loop,r8of f.types x.outs,wh.Next,wh.Left⟩ st ka=R2 at h2 l2⊢;obtain⟨b2,st2⟩:=R2;have h3:=ih kb hm1 ⟨true,wh.Loop,r8of f.types x.outs,wh.Next,wh.Left⟩ st2 l2;have l3:=(za3 u f deep ⟨true,wh.Loop,r8of f.types x.outs,wh.Next,wh.Left⟩ st2 kb).trans l2
 cases b1
 ·exact⟨[],hT,sR,⟨rfl,by decide,rfl,Gf⟩,rfl,[],h1,sR,⟨rfl,Gf,rfl,Gf⟩,rfl,sI,rfl,rfl,Gf⟩
 cases b2
 ·exact⟨[],hT,sR,⟨rfl,by decide,rfl,Gf⟩,rfl,[],h1,sR,⟨rfl,Gf,rfl,Gf⟩,rfl,hi0,rfl,[],h2,sR,Gj,rfl,sI,rfl,rfl,Gf⟩
 rw[show andQ (true,st2) (λs1=>andQ (z22 u f deep ⟨true,wh.Loop,r8of f.types x.outs,wh.Next,wh.Left⟩ s1 kb) λs2=>z4d f x s2)=andQ (z22 u f deep ⟨true,wh.Loop,r8of f.types x.outs,wh.Next,wh.Left⟩ st2 kb) (λs2=>z4d f x s2)from rfl];generalize z22 u f deep ⟨true,wh.Loop,r8of f.types x.outs,wh.Next,wh.Left⟩ st2 kb=R3 at h3 l3⊢;obtain⟨b3,st3⟩:=R3
 cases b3
 ·exact⟨[],hT,sR,⟨rfl,by decide,rfl,Gf⟩,rfl,[],h1,sR,⟨rfl,Gf,rfl,Gf⟩,rfl,hi0,rfl,[],h2,sR,Gj,rfl,hi1,rfl,[],h3,sR,Gj,rfl,sI,rfl,rfl,Gf⟩
 rw[show andQ (true,st3) (λs2=>z4d f x s2)=z4d f x st3 from rfl];have hA:=y6s u f st3 l3 x.outs hbo;refine⟨[],hT,sR,⟨rfl,by decide,rfl,Gf⟩,rfl,[],h1,sR,⟨rfl,Gf,rfl,Gf⟩,rfl,hi0,rfl,[],h2,sR,Gj,rfl,hi1,rfl,[],h3,sR,Gj,rfl,z00 (λh=>?_) λh=>?_⟩
 ·rw[y04 f st3 (c:=true) (by rw[Ab]at h;rw[h,Bf])];exact⟨[],hA,sR,Gj,rfl,sI,rfl,rfl,Gf⟩
 ·rw[Ab]at h;have hq:((x.outs.length:Int)==0 || !z04 x) = !z04 x:=by rw[h,Ce]
  rw[y04 f st3 hq];generalize z04 x=c at hC⊢
  cases c
  ·exact⟨[],hC,sR,Gf,rfl,[],hA,sR,Gj,rfl,sI,rfl,rfl,Gf⟩
  ·exact⟨[],hC,sR,Gf,rfl,sI,rfl,rfl,Gf⟩
theorem j4a(u:Un)(f:Fl)(st:List Int)(hs:st.length=f.types.length)(x:Nd)(ka:List Nd)(hkids:x.kids=[ka])(deep:Int)(hbo:x.outs.length<=34359738368)(hbp:x.params.length<=34359738368)(ih:∀q∈x.kids,∀(w:Wh)(st:List Int),st.length=f.types.length->SC Tryz.prog 73 [.ptr 3 0,.pv (z2h q),.pv (whv w),iInt deep] (ckS u f 3 st) (λk=>k=3) (iBool (z22 u f deep w st q).1) (ckS u f 3 (z22 u f deep w st q).2)):SC Tryz.prog 174 [.ptr 3 0,.pv (ndv x),iInt deep] (ckS u f 3 st) (λk=>k=3) (iBool (if z0w f.types st x.args (r8of f.types x.params)then andQ (z1s f.types st x.params (List.replicate x.params.length 0)) (λs1=>andQ (z22 u f deep ⟨false,true,[],r8of f.types x.params,r8of f.types x.outs⟩ s1 ka) λs2=>z4d f x (z3j s2 x.params))else(false,st)).1) (ckS u f 3 (if z0w f.types st x.args (r8of f.types x.params)then andQ (z1s f.types st x.params (List.replicate x.params.length 0)) (λs1=>andQ (z22 u f deep ⟨false,true,[],r8of f.types x.params,r8of f.types x.outs⟩ s1 ka) λs2=>z4d f x (z3j s2 x.params))else(false,st)).2):=by
 refine L0 (K0 tb {} [3] Tryz.func174 rfl rfl ?_) λk _ h=>Al.2 h;have hi0:(x.kids.map eKid)[0]?=some [z2h ka]:=by rw[hkids];rfl
 have hm0:ka∈x.kids:=by rw[hkids];exact .head _
 have hT:=zt2 u f st hs x.params hbp;have hT2:=zt2 u f st hs x.outs hbo;have h1:=z2y u f st hs x.args (r8of f.types x.params);have hA1:=y6s u f st hs x.params hbp;have l1:=(z2b f.types st x.params (List.replicate x.params.length 0)).trans hs;have hC:=zj9 x;generalize z0w f.types st x.args (r8of f.types x.params)=b1 at h1⊢
 cases b1
 ·exact⟨[],hT,sR,⟨rfl,by decide,rfl,Gf⟩,rfl,[],hT2,sR,⟨rfl,by decide,rfl,Gf⟩,rfl,[],h1,sR,⟨rfl,Gf,rfl,Gf⟩,rfl,sI,rfl,rfl,Gf⟩
 have hpin:(z1s f.types st x.params (List.replicate x.params.length 0)).1=true->∀v∈x.params,0<=v/\v<f.types.length:=λh=>y2b h;generalize z1s f.types st x.params (List.replicate x.params.length 0)=R2 at hA1 l1 hpin⊢;obtain⟨b2,st1⟩:=R2
 cases b2
 ·exact⟨[],hT,sR,⟨rfl,by decide,rfl,Gf⟩,rfl,[],hT2,sR,⟨rfl,by decide,rfl,Gf⟩,rfl,[],h1,sR,⟨rfl,Gf,rfl,Gf⟩,rfl,[],hA1,sR,Gj,rfl,sI,rfl,rfl,Gf⟩
 have hpin:=hpin rfl;have h2:=ih ka hm0 ⟨false,true,[],r8of f.types x.params,r8of f.types x.outs⟩ st1 l1;have l2:=(za3 u f deep ⟨false,true,[],r8of f.types x.params,r8of f.types x.outs⟩ st1 ka).trans l1;rw[show andQ (true,st1) (λs1=>andQ (z22 u f deep ⟨false,true,[],r8of f.types x.params,r8of f.types x.outs⟩ s1 ka) λs2=>z4d f x (z3j s2 x.params))=andQ (z22 u f deep ⟨false,true,[],r8of f.types x.params,r8of f.types x.outs⟩ st1 ka) (λs2=>z4d f x (z3j s2 x.params))from rfl];generalize z22 u f deep ⟨false,true,[],r8of f.types x.params,r8of f.types x.outs⟩ st1 ka=R3 at h2 l2⊢;obtain⟨b3,st2⟩:=R3
 cases b3
 ·exact⟨[],hT,sR,⟨rfl,by decide,rfl,Gf⟩,rfl,[],hT2,sR,⟨rfl,by decide,rfl,Gf⟩,rfl,[],h1,sR,⟨rfl,Gf,rfl,Gf⟩,rfl,[],hA1,sR,Gj,rfl,hi0,rfl,[],h2,H0 (H0 (I0 (sP (z0g _)) sR)),Gj,rfl,sI,rfl,rfl,Gf⟩
 have hH:=y9f u f st2 l2 x.params hpin;have l3:=(z4o x.params st2).trans l2;rw[show andQ (true,st2) (λs2=>z4d f x (z3j s2 x.params))=z4d f x (z3j st2 x.params)from rfl];generalize z3j st2 x.params=st3 at hH l3⊢;have hA:=y6s u f st3 l3 x.outs hbo;refine⟨[],hT,sR,⟨rfl,by decide,rfl,Gf⟩,rfl,[],hT2,sR,⟨rfl,by decide,rfl,Gf⟩,rfl,[],h1,sR,⟨rfl,Gf,rfl,Gf⟩,rfl,[],hA1,sR,Gj,rfl,hi0,rfl,[],h2,H0 (H0 (I0 (sP (z0g _)) sR)),Gj,rfl,[],hH,sR,Gj,rfl,z00 (λh=>?_) λh=>?_⟩
 ·rw[y04 f st3 (c:=true) (by rw[Ab]at h;rw[h,Bf])];exact⟨[],hA,sR,Gj,rfl,sI,rfl,rfl,Gf⟩
 ·rw[Ab]at h;have hq:((x.outs.length:Int)==0 || !z04 x) = !z04 x:=by rw[h,Ce]
  rw[y04 f st3 hq];generalize z04 x=c at hC⊢
  cases c
  ·exact⟨[],hC,sR,Gf,rfl,[],hA,sR,Gj,rfl,sI,rfl,rfl,Gf⟩
  ·exact⟨[],hC,sR,Gf,rfl,sI,rfl,rfl,Gf⟩
theorem j4b(u:Un)(f:Fl)(hg:∀g∈u.flows,0<=g.params/\g.params<=g.types.length)(x:Nd)(deep:Int)(hd:0<=deep/\deep<=100)(wh:Wh)(st:List Int)(hs:st.length=f.types.length)(hbo:x.outs.length<=34359738368)(hbp:x.params.length<=34359738368)(ih:∀q∈x.kids,∀(w:Wh)(st:List Int),st.length=f.types.length->SC Tryz.prog 73 [.ptr 3 0,.pv (z2h q),.pv (whv w),iInt (deep+1)] (ckS u f 3 st) (λk=>k=3) (iBool (z22 u f (deep+1) w st q).1) (ckS u f 3 (z22 u f (deep+1) w st q).2)) :
 SC Tryz.prog 127 [.ptr 3 0,.pv (ndv x),.pv (whv wh),iInt deep] (ckS u f 3 st) (λk=>k=3) (iBool (z65 u f deep wh st x).1) (ckS u f 3 (z65 u f deep wh st x).2):=by
 refine L0 (K0 tb { pb:=[105,106] } [3] Tryz.func127 rfl rfl ?_) λk _ h=>Al.2 h;have hB:=j44 x
 cases hb:z1m x
 ·rw[hb]at hB;rw[zk2 u f deep wh st hb];exact⟨[],hB,sR,Gf,rfl,sI,rfl,rfl,Gf⟩
 rw[hb]at hB;refine⟨[],hB,sR,Gf,rfl,z00 (λh10=>?_) λh10=>?_⟩
 ·have hk:x.kind=10:=Av h10;obtain⟨a,b,hkids⟩:=z3h hb hk;rw[y2a u f deep wh st hb hk hkids];have hC:=yh2 u f st hs x a b hkids wh (deep+1) hbo ih;generalize(if z0w f.types st x.args [2]then andQ (z22 u f (deep+1) ⟨true,wh.Loop,r8of f.types x.outs,wh.Next,wh.Left⟩ st a) (λs1=>andQ (z22 u f (deep+1) ⟨true,wh.Loop,r8of f.types x.outs,wh.Next,wh.Left⟩ s1 b) λs2=>z4d f x s2)else(false,st))=r at hC⊢;exact⟨z01 rfl oM0,[],hC,sR,Gj,rfl,sI,rfl,rfl,Gf⟩
 refine z00 (λh11=>?_) λh11=>?_
 ·have hk:x.kind=11:=Av h11;obtain⟨a,hkids⟩:=z25 hb hk;rw[zk3 u f deep wh st hb hk hkids];have hC:=j4a u f st hs x a hkids (deep+1) hbo hbp ih;generalize(if z0w f.types st x.args (r8of f.types x.params)then andQ (z1s f.types st x.params (List.replicate x.params.length 0)) (λs1=>andQ (z22 u f (deep+1) ⟨false,true,[],r8of f.types x.params,r8of f.types x.outs⟩ s1 a) λs2=>z4d f x (z3j s2 x.params))else(false,st))=r at hC⊢;exact⟨z01 rfl oM0,[],hC,sR,Gj,rfl,sI,rfl,rfl,Gf⟩
 have hE:=j45 x
 cases he:z0y x.kind
 ·rw[he]at hE;rw[za4 u f deep wh st hb h10 h11 he];have hC:=yh4 u f st hs hg x;generalize z2k u f st x=r at hC⊢;exact⟨[],hE,sR,Gf,rfl,[],hC,sR,Gj,rfl,sI,rfl,rfl,Gf⟩
 ·rw[he]at hE;rw[zt5 u f deep wh st hb h10 h11 he];exact⟨[],hE,sR,Gf,rfl,[],sc_shEnd u f st hs x wh,sR,Gj,rfl,sI,rfl,rfl,Gf⟩
theorem zh4(st:List Int)(l:List Nd)(x:Nd):z4c st (l++[x])=z3j (z4c st l) x.outs:=by simp[z4c]
theorem y6t(N:Nat):∀(u:Un)(f:Fl)(hg:∀g∈u.flows,0<=g.params/\g.params<=g.types.length)(l:List Nd)(deep:Int)(hd:0<=deep/\deep<=101)(wh:Wh)(st:List Int)(hs:st.length=f.types.length)(hb:lsW l<=34359738368),SizeOf.sizeOf l<N->SC Tryz.prog 73 [.ptr 3 0,.pv (z2h l),.pv (whv wh),iInt deep] (ckS u f 3 st) (λk=>k=3) (iBool (z22 u f deep wh st l).1) (ckS u f 3 (z22 u f deep wh st l).2):=by
 induction N with
 |zero=>intro u f hg l deep hd wh st hs hb hN;exact A9 hN (An _)
 |succ N ih =>
  intro u f hg l deep hd wh st hs hb hN;refine L0 (K0 tb { pb:=[106,110,112],gh:=[(0,[.len 1])] } [3] Tryz.func73 rfl rfl ?_) λk _ h=>Al.2 h;intro hl;simp only[Ab]at hl;have hl:l.length<=9223372036854775807:=hl;have ll:(l.map Nd.enc).length=l.length:=Ab _;unfold z22;refine⟨Nat×List Int,λq=>[(15,iInt ((q.1:Nat):Int))],λq=>ckS u f 3 q.2,λq=>l.length-q.1,λq=>q.1<=l.length/\q.2.length=f.types.length/\shGo u f deep wh st l=shGo u f deep wh q.2 (l.drop q.1),[],(0,st),⟨Aj _,hs,rfl⟩,Gg,Gi,?_⟩;rintro⟨i,s⟩ ⟨i1,i2,i3⟩;dsimp only at i1 i2 i3;refine z00 (λhc=>?_) λhc=>?_
  ·have hlt:i<l.length:=z12 (f:=Nd.enc) rfl hc;obtain⟨x,x1,x2,x3,x4⟩:=z0u hlt;have hw:=y11 x4;rw[zb5]at hw;rw[x3,shGo]at i3;refine⟨z0a x1,rfl,z00 (λh1=>?_) λh1=>?_⟩
   ·have h1:deep > 100:=Ap h1;rw[A5 h1]at i3;rw[i3];exact⟨sI,rfl,rfl,Gf⟩
   have h1:¬deep > 100:=Am h1;rw[A1 h1]at i3;have hX:=j4b u f hg x deep ⟨hd.1,by omega⟩ wh s i2 oM0 oM0 λq hq w st hs=>ih u f hg q (deep+1) ⟨by omega,by omega⟩ w st hs (by have:=z9o hq;omega) (Bg (zc7 x4 rfl hq) (C7 hN));have hXl:=(zo5 u f x deep wh s).trans i2;generalize z65 u f deep wh s x=r at hX hXl i3;obtain⟨b,s2⟩:=r;dsimp only at hX hXl
   cases b
   ·rw[show andQ (false,s2) (λs1=>if (z04 x != (l.drop (i+1)).isEmpty)=true then(false,s1)else shGo u f deep wh s1 (l.drop (i+1)))=(false,s2)from rfl]at i3;rw[i3];exact⟨[],hX,sR,Gj,rfl,sI,rfl,rfl,Gf⟩
   rw[show andQ (true,s2) (λs1=>if (z04 x != (l.drop (i+1)).isEmpty)=true then(false,s1)else shGo u f deep wh s1 (l.drop (i+1)))=(if (z04 x != (l.drop (i+1)).isEmpty)=true then(false,s2)else shGo u f deep wh s2 (l.drop (i+1)))from rfl]at i3;have hem:(l.drop (i+1)).isEmpty=((i:Int)==((l.map Nd.enc).length:Int)-1):=by
    rw[Cn,Fy,List.drop_eq_nil_iff,At,ll];omega
   rw[hem]at i3;refine⟨[],hX,sR,Gj,rfl,[],zj9 x,sR,Gf,rfl,z3e rfl (by rw[ll];omega),z00 (λh2=>?_) λh2=>?_⟩
   ·have h2:(z04 x != ((i:Int)==((l.map Nd.enc).length:Int)-1))=true:=h2;rw[A5 h2]at i3;rw[i3];exact⟨sI,rfl,rfl,Gf⟩
   ·rw[A1 (by rw[show(z04 x != ((i:Int)==((l.map Nd.enc).length:Int)-1))=false from h2];decide)]at i3;exact⟨z01 rfl oM0,(i+1,s2),z05 hlt,⟨hlt,hXl,i3⟩,Gg,Gi,rfl,rfl,rfl,rfl⟩
  ·have hge:l.length<=i:=z13 (f:=Nd.enc) rfl hc;have hgo:shGo u f deep wh st l=(true,s):=by rw[i3,Ae hge,shGo]
   have ho:=y9r (u:=u) (f:=f) (deep:=deep) (w:=wh) (l:=l) (st:=st) (by rw[hgo]);rw[hgo,show andQ (true,s) (y9q l)=(decide ((l.length:Int) > 0),z4c s l)from rfl];refine⟨Nat,λj=>[(43,iInt ((j:Nat):Int))],λj=>ckS u f 3 (z4c s (l.take j)),λj=>l.length-j,λj=>j<=l.length,[],0,Aj _,Gg,Gi,?_⟩;intro j hj;refine z00 (λhc=>?_) λhc=>?_
   ·have hlt:j<l.length:=z12 (f:=Nd.enc) rfl hc;obtain⟨x,x1,x2,x3,x4⟩:=z0u hlt;have hH:=y9f u f (z4c s (l.take j)) ((z70 (l.take j) s).trans i2) x.outs (ho x x4);exact⟨z0a x1,rfl,[],hH,sR,Gj,rfl,z01 rfl oM0,j+1,z05 hlt,hlt,Gg,⟨boq (by rw[x2,zh4]),rwq (by rw[x2,zh4]),Gf⟩,rfl,rfl,rfl,rfl⟩
   ·have hge:l.length<=j:=z13 (f:=Nd.enc) rfl hc;rw[Az hge];exact⟨sE (by rw[ll]),rfl,rfl,Gf⟩
theorem j49(u:Un)(f:Fl)(hg:∀g∈u.flows,0<=g.params/\g.params<=g.types.length)(l:List Nd)(deep:Int)(hd:0<=deep/\deep<=101)(wh:Wh)(st:List Int)(hs:st.length=f.types.length)(hb:lsW l<=34359738368):SC Tryz.prog 73 [.ptr 3 0,.pv (z2h l),.pv (whv wh),iInt deep] (ckS u f 3 st) (λk=>k=3) (iBool (z22 u f deep wh st l).1) (ckS u f 3 (z22 u f deep wh st l).2):=y6t _ u f hg l deep hd wh st hs hb (Ac _)
theorem j46(u:Un)(f:Fl)(hg:∀g∈u.flows,0<=g.params/\g.params<=g.types.length)(hp:0<=f.params/\f.params<=f.types.length)(hb:lsW f.body<=34359738368):SC Tryz.prog 40 [.pv u.enc,.pv (.agg f.enc)] [] (λ_=>False) (iBool (y29 u f)) []:=by
 refine SC.anyR (K0 tb { pb:=[102,103],ids:=[(26,4),(28,3)] } [] Tryz.func40 rfl rfl ?_);unfold y29;have hl:((f.types.map eInt).length:Int)=f.types.length:=by rw[Ab]
 refine z00 (λh1=>?_) λh1=>?_
 ·rw[show decide (f.params > 8)=true from h1];exact⟨sI,Gf⟩
 rw[show decide (f.params > 8)=false from h1,Ce];refine z00 (λh2=>?_) λh2=>?_
 ·have h2:decide (((f.types.map eInt).length:Int) > 20000)=true:=h2;rw[hl]at h2;rw[h2];exact⟨sI,Gf⟩
 have h2:decide (((f.types.map eInt).length:Int) > 20000)=false:=h2;rw[hl]at h2;rw[h2,Ce];have hT:=sc_hasIn 72 [] rfl (λt=>!isTy t) f.types λx _=>SC.anyR (sc_flow1 x);generalize(f.types.any λt=>!isTy t)=c at hT⊢
 cases c
 ·have h2':=Am h2;refine⟨[],hT,H0 sFn,Gf,rfl,rfl,VNum.mk (n:=f.types.length) hl oM0 ?_⟩;refine⟨by simp,Nat,λi=>[(31,iInt ((i:Nat):Int))],λi=>ckS u f 3 (zo3 i f.types.length),λi=>f.params.toNat-i,λi=>(i:Int)<=f.params,[],0,by show((0:Nat):Int)<=_;omega,Gg,⟨boq (by simp[y5a,zo3];rfl),rwq (by simp[zo3,eInt];exact .inr rfl),Gf⟩,?_⟩;intro i hi;have hsl:=zx2 (k:=i) (n:=f.types.length) oM0;refine z00 (λhc=>?_) λhc=>?_
  ·have hlt:(i:Int)<f.params:=Ap hc;have hss:=j4q (k:=i) (n:=f.types.length) oM0;exact⟨rfl,VIdR.mk (i:=i) (by rw[Ab];omega) rfl ⟨i,0,_,rfl,rfl,z02 (f:=eInt) (z3n (show i<(zo3 i f.types.length).length by omega)),by simp[eInt],z01 rfl oM0,i+1,(by show f.params.toNat-(i+1)<f.params.toNat-i;omega),(by show((i+1:Nat):Int)<=f.params;omega),Gg,⟨boq (by rw[<- hss];simp[y5a]),rwq (by rw[<- hss];simp[eInt,C8]),Gf⟩,rfl,rfl,rfl,rfl⟩⟩
  ·have hge:¬(i:Int)<f.params:=Am hc;have hi2:i=f.params.toNat:=by omega
   subst hi2;have hL:=j49 u f hg f.body 1 ⟨by decide,by decide⟩ z3z (zo3 f.params.toNat f.types.length) oM0 hb;exact⟨[],hL,H0 (H0 (I0 (sP (z0g _)) (H0 J0))),Gi,rfl,sI,Gf⟩
 ·exact⟨[],hT,H0 sFn,Gf,rfl,sI,Gf⟩
theorem j48(u:Un)(hW:z0j u<=34359738368):SC Tryz.prog 39 [.pv u.enc] [] (λ_=>False) (iBool (z9g u)) []:=by
 refine SC.anyR (K0 tb {} [] Tryz.func39 rfl rfl ?_);have hw1:u.arrays.length<=z0j u:=by unfold z0j;omega
 have hw2:u.flows.length<=z0j u:=by unfold z0j;omega
 refine⟨Nat×List (Value×PV),λ(k,_)=>[(13,iInt k)],λ(_,es)=>[(109,.map es)],λ(k,_)=>u.arrays.length-k,λ(k,es)=>k<=u.arrays.length/\u.arrays.all zy1=(u.arrays.drop k).all zy1/\y0f [] u.arrays=y0f es (u.arrays.drop k)/\Cnt es,[],(0,[]),⟨Aj _,rfl,rfl,Cnt.nil⟩,Gg,Gg,?_⟩;rintro⟨k,es⟩ ⟨hk,hA,hC,hes⟩;refine z00 (λhc=>?_) λhc=>?_
 ·have hlt:=z12 (f:=Ar.enc) rfl hc;obtain⟨a,ha,_,hd,_⟩:=z0u hlt;rw[hd]at hA hC;rw[De]at hA;obtain⟨n,hn⟩:=hes.find (.string a.name);have bad:zy1 a=false->SubI (iBool false) (iBool (z9g u)):=λh=>sE (by unfold z9g;rw[hA,h];rfl);have hNm:=z81 a.name
  cases hN:z0o a.name with
  |false =>
   rw[hN]at hNm
   exact⟨z02 (f:=Ar.enc) ha,rfl,VAsk.mk (p:=vInt n) (b:=(z1z (.string a.name) es).isSome) rfl hes.1 (Ec hn rfl) ⟨rfl,rfl,hes.1,[],hNm,sR,Gf,rfl,bad (by unfold zy1;rw[hN];rfl),Gf⟩⟩
  |true =>
   rw[hN]at hNm;refine⟨z02 (f:=Ar.enc) ha,rfl,VAsk.mk (p:=vInt n) (b:=(z1z (.string a.name) es).isSome) rfl hes.1 (Ec hn rfl) ⟨rfl,rfl,hes.1,[],hNm,sR,Gf,rfl,z00 (λh1=>⟨bad (by unfold zy1;rw[hN,show decide (a.size<1)=true from h1];rfl),Gf⟩) λh1=>z00 (λh2=>⟨bad (by unfold zy1;rw[hN,show decide (a.size<1)=false from h1,show decide (a.size > 1000)=true from h2];rfl),Gf⟩) λh2=>?_⟩⟩;have good:zy1 a=true:=by unfold zy1;rw[hN,show decide (a.size<1)=false from h1,show decide (a.size > 1000)=false from h2];rfl
   exact⟨z01 rfl oM0,(k+1,bump a.name es),z05 hlt,⟨hlt,by rw[hA,good];rfl,hC,hes.bump _⟩,Gg,⟨mpq (zh7 hn).symm,Gf⟩,rfl,rfl,rfl,rfl⟩
 ·have hge:=z13 (f:=Ar.enc) rfl hc;rw[Ae hge]at hA hC;refine⟨Nat×List (Value×PV),λ(k,_)=>[(40,iInt k)],λ(_,es)=>[(109,.map es)],λ(k,_)=>u.flows.length-k,λ(k,es)=>k<=u.flows.length/\u.flows.all zo4=(u.flows.drop k).all zo4/\y3b (y0f [] u.arrays) u.flows=y3b es (u.flows.drop k)/\Cnt es,[],(0,es),⟨Aj _,rfl,by rw[hC];rfl,hes⟩,Gg,Gg,?_⟩;rintro⟨k,es⟩ ⟨hk,hF,hC,hes⟩;refine z00 (λhc=>?_) λhc=>?_
  ·have hlt:=z12 (f:=Fl.enc) rfl hc;obtain⟨f,hf,_,hd,hm⟩:=z0u hlt;rw[hd]at hF hC;rw[De]at hF;obtain⟨n,hn⟩:=hes.find (.string f.name);have bad:zo4 f=false->SubI (iBool false) (iBool (z9g u)):=λh=>sE (by unfold z9g;rw[hA,hF,h];rfl);have hNm:=z81 f.name
   cases hN:z0o f.name with
   |false =>
    rw[hN]at hNm
    exact⟨z02 (f:=Fl.enc) hf,rfl,VAsk.mk (p:=vInt n) (b:=(z1z (.string f.name) es).isSome) rfl hes.1 (Ec hn rfl) ⟨rfl,rfl,hes.1,[],hNm,sR,Gf,rfl,bad (by unfold zo4;rw[hN];rfl),Gf⟩⟩
   |true =>
    rw[hN]at hNm;have hT:=j3v f.ty
    cases hty:isTy f.ty with
    |false =>
     rw[hty]at hT
     exact⟨z02 (f:=Fl.enc) hf,rfl,VAsk.mk (p:=vInt n) (b:=(z1z (.string f.name) es).isSome) rfl hes.1 (Ec hn rfl) ⟨rfl,rfl,hes.1,[],hNm,sR,Gf,rfl,[],hT,sR,Gf,rfl,bad (by unfold zo4;rw[hN,hty];rfl),Gf⟩⟩
    |true =>
     rw[hty]at hT;refine⟨z02 (f:=Fl.enc) hf,rfl,VAsk.mk (p:=vInt n) (b:=(z1z (.string f.name) es).isSome) rfl hes.1 (Ec hn rfl) ⟨rfl,rfl,hes.1,[],hNm,sR,Gf,rfl,[],hT,sR,Gf,rfl,z00 (λh1=>⟨bad (by unfold zo4;rw[hN,hty,show decide (f.params<0)=true from h1];rfl),Gf⟩) λh1=>z00 (λh2=>⟨bad (by unfold zo4;rw[hN,hty,show decide (f.params<0)=false from h1,show decide (f.params > f.types.length)=true by simpa using h2];rfl),Gf⟩) λh2=>?_⟩⟩;have good:zo4 f=true:=by unfold zo4;rw[hN,hty,show decide (f.params<0)=false from h1,show decide (f.params > f.types.length)=false by simpa using h2];rfl
     exact⟨z01 rfl oM0,(k+1,bump f.name es),z05 hlt,⟨hlt,by rw[hF,good];rfl,hC,hes.bump _⟩,Gg,⟨mpq (zh7 hn).symm,Gf⟩,rfl,rfl,rfl,rfl⟩
  ·have hge:=z13 (f:=Fl.enc) rfl hc;rw[Ae hge]at hF hC;have hG:z9g u=((es.length:Int)==u.arrays.length+u.flows.length&&zb6 u):=by unfold z9g;rw[hA,hF,hC];rfl
   rw[hG];have N:∀{P:Prop}{b:Bool},b=true->b=false->P:=λh g=>by rw[h]at g;cases g
   cases hb:((es.length:Int)==u.arrays.length+u.flows.length)with
   |false=>exact⟨[],zf4 u z0x,sR,Gf,rfl,z01 rfl (by simp;omega),z00 (λh=>N (show((es.length:Int)==u.arrays.length+u.flows.length)=true by simpa using h) hb) λ_=>⟨sI,Gf⟩⟩
   |true =>
    cases hp:decide (z06 z0x u.flows 0≥0)with
    |false=>exact⟨[],zf4 u z0x,sR,Gf,rfl,z01 rfl (by simp;omega),z00 (λ_=>z00 (λh=>N h hp) λ_=>⟨sE (by unfold zb6;rw[hp];rfl),Gf⟩) λh=>N hb (by simpa using h)⟩
    |true =>
     have h0:z06 z0x u.flows 0≥0:=by simpa using hp
     obtain⟨g,hg,_⟩:=ze9 h0;have hD:u.flows.getD (z06 z0x u.flows 0).toNat y7s=g:=by rw[Ax,hg];rfl
     have hi:=z02 (f:=Fl.enc) hg;refine⟨[],zf4 u z0x,sR,Gf,rfl,z01 rfl (by simp;omega),z00 (λ_=>z00 (λ_=>⟨hi,by omega,z00 (λh1=>⟨hi,by omega,sE ?_,Gf⟩) λh1=>⟨sE ?_,Gf⟩⟩) λh=>N hp h) λh=>N hb (by simpa using h)⟩
     ·unfold zb6;rw[hp,hD,show(g.ty==1)=true from h1];rfl
     ·unfold zb6;rw[hp,hD,show(g.ty==1)=false from h1];rfl
end Go.Proofs.YtjlaalpfpecikaaGreatDoor
