/- PART 6 of 7 of a proof: see the last part. -/
import Derived.Test.YtekdhljpmflboaaGreatTd5
set_option maxRecDepth 8000
set_option maxHeartbeats 2000000
set_option linter.unusedSimpArgs false
set_option linter.unusedVariables false
set_option linter.unusedSectionVars false
namespace Go.Proofs.YtekdhljpmflboaaGreat
open Go
set_option maxRecDepth 20000
theorem yh3 (l:List Int) (to:TT) (hb:l.length<=1073741824):SC Tryz.prog 39 [wV,.pv (ints l)] (tM to) (fun k=>k∈[3001]) (.pv (ints (l.map (z0o to)))) (tM to):=by
  refine SC.vc tb { gh:=[(1,[.grow 4 104 3 1]),(9,[.fz 4 104])] } [3001] Tryz.func39 rfl rfl ?_
  refine ⟨Nat × List Int,fun (k,acc)=>[(11,iInt k),(4,.sl 104 (acc.map eInt).length)],fun (_,acc)=>[(104,.row ⟨3,1⟩ (acc.map eInt))],fun (k,_)=>l.length - k,fun (k,acc)=>k<=l.length/\acc=(l.take k).map (z0o to),[],(0,[]),⟨Nat.zero_le _,rfl⟩,⟨rfl,rfl,trivial⟩,⟨rfl,trivial⟩,?_⟩
  rintro ⟨k,acc⟩ ⟨hk,rfl⟩
  refine z00 (fun hc=>?_) fun hc=>?_
  · have hlt:=z41 (f:=eInt) rfl hc
    obtain ⟨x,hx,ht,_,_⟩:=z2s hlt
    refine ⟨z06 (f:=eInt) hx,rfl,rfl,y1w _,yb3 x to,z00 (fun h2=>?_) fun h2=>?_⟩
    · exact ⟨rfl,zg7 rfl,by simp;omega,z03 rfl oM0,(k+1,(l.take (k+1)).map (z0o to)),z0g hlt,⟨hlt,rfl⟩,⟨rfl,slq (by simp;omega),trivial⟩,⟨rwq (by rw [y8e h2];simp [ht,eInt]),trivial⟩,rfl,rfl,rfl,rfl⟩
    · exact ⟨rfl,zg7 rfl,by simp;omega,z03 rfl oM0,(k+1,(l.take (k+1)).map (z0o to)),z0g hlt,⟨hlt,rfl⟩,⟨rfl,slq (by simp;omega),trivial⟩,⟨rwq (by simp [ht,eInt,y8d h2]),trivial⟩,rfl,rfl,rfl,rfl⟩
  · exact ⟨rfl,sE (by rw [List.take_of_length_le (z47 (f:=eInt) rfl hc)];rfl),rfl,trivial⟩
theorem y0p (l m:List Int) (to:TT) (h:l.length<=m.length) (hb:l.length<=1073741824):SC Tryz.prog 66 [wV,.pv (ints l),.pv (ints m)] (tM to) (fun k=>k∈[]) (.tup []) (tM (z0k l m to)):=by
  refine SC.vc tb {} [] Tryz.func66 rfl rfl ?_
  refine ⟨Nat × TT,fun (k,_)=>[(10,iInt k)],fun (_,t)=>[(3001,.map (inEs t))],fun (k,_)=>l.length - k,fun (k,t)=>k<=l.length/\z0k (l.drop k) (m.drop k) t=z0k l m to,[],(0,to),⟨Nat.zero_le _,rfl⟩,⟨rfl,trivial⟩,⟨rfl,trivial⟩,?_⟩
  rintro ⟨k,t⟩ ⟨hk,hs⟩
  refine z00 (fun hc=>?_) fun hc=>?_
  · have hlt:=z41 (f:=eInt) rfl hc
    obtain ⟨x,hx,_,hd,_⟩:=z2s hlt
    obtain ⟨y,hy,_,hd2,_⟩:=z2s (show k<m.length by omega)
    rw [hd,hd2] at hs
    exact ⟨z06 (f:=eInt) hx,rfl,z06 (f:=eInt) hy,rfl,rfl,y1w _,z03 rfl oM0,(k+1,aPut x y t),z0g hlt,⟨hlt,hs⟩,⟨rfl,trivial⟩,⟨mpq (y5u _ _ _),trivial⟩,rfl,rfl,rfl,rfl⟩
  · rw [List.drop_eq_nil_of_le (z47 (f:=eInt) rfl hc),z0k] at hs
    · exact ⟨sI,by rw [<- hs];exact ⟨rfl,trivial⟩⟩
    · simp
theorem yk2 {x:Nd} (h:y0y x=true) (hk:x.kind=10):∃ a b,x.kids=[a,b]:=by
  rw [z9j] at h
  simp only [Bool.and_eq_true,hk] at h
  have h1:x.kids.length=2:=by simpa using h.1.1
  match x.kids,h1 with
  | [a,b],_=>exact ⟨a,b,rfl⟩
theorem y5x {x:Nd} {a b:List Nd} (h:x.kids=[a,b]):(x.kids.map eKid)[0]? = some [z0m a]/\(x.kids.map eKid)[1]? = some [z0m b]/\a∈x.kids/\b∈x.kids:=by rw [h];exact ⟨rfl,rfl,.head _,.tail _ (.head _)⟩
theorem zm3 (k:Int):∀ (N:Nat) (l:List Nd),SizeOf.sizeOf l<N->zk9 l=true->l.length+wtL l<=1073741824->SC Tryz.prog 92 [.pv (z0m l),iInt k] [] (fun k=>k∈[]) (iInt (cnL k l)) []
  | 0,_,h,_,_=>absurd h (Nat.not_lt_zero _)
  | N+1,l,hN,hok,hb=>by
    refine SC.vc tb {} [] Tryz.func92 rfl rfl ?_
    refine ⟨Nat,fun i=>[(9,iInt i),(4,iInt (cnL k (l.take i)))],fun _=>[],fun i=>l.length - i,fun i=>i<=l.length,[],0,Nat.zero_le _,⟨rfl,rfl,trivial⟩,trivial,?_⟩
    intro i hi
    have hle:cnL k l<=1073741824:=Nat.le_trans (y5k k l) hb
    refine z00 (fun hc=>?_) fun hc=>?_
    · have hlt:=z41 (f:=Nd.enc) rfl hc
      obtain ⟨x,hx,ht,hd,hm⟩:=z2s hlt
      have happ:cnL k l=cnL k (l.take i)+(cnN k x+cnL k (l.drop (i+1))):=by
        conv=>lhs;rw [<- List.take_append_drop i l,hd]
        rw [z7c];rfl
      have hone:cnL k (l.take (i+1))=cnL k (l.take i)+cnN k x:=by rw [ht,z7c];rfl
      rw [z7y] at happ hone
      have hxok:=zs9 hok hm
      have hw:=zy0 hm
      have hwa:=(z93 x).2.2
      have hif:x.kind=10->∃ a b,x.kids=[a,b]/\(x.kids.map eKid)[0]? = some [z0m a]/\(x.kids.map eKid)[1]? = some [z0m b]/\cnK k x.kids=cnL k a+cnL k b /\
          SC Tryz.prog 92 [.pv (z0m a),iInt k] [] (fun k=>k∈[]) (iInt (cnL k a)) []/\SC Tryz.prog 92 [.pv (z0m b),iInt k] [] (fun k=>k∈[]) (iInt (cnL k b)) []:=fun hk=>by
        obtain ⟨a,b,hks⟩:=yk2 hxok hk
        obtain ⟨h0,h1,ha,hb'⟩:=y5x hks
        have hoa:=(z92 (by rw [z9j] at hxok;simp only [Bool.and_eq_true] at hxok;exact hxok.2) ha).2
        have hob:=(z92 (by rw [z9j] at hxok;simp only [Bool.and_eq_true] at hxok;exact hxok.2) hb').2
        have hwa':=zt6 ha
        have hwb':=zt6 hb'
        exact ⟨a,b,hks,h0,h1,by rw [hks];simp [cnK],zm3 k N a (Nat.lt_of_lt_of_le (z5k hm rfl ha) (Nat.le_of_lt_succ hN)) hoa oM0,zm3 k N b (Nat.lt_of_lt_of_le (z5k hm rfl hb') (Nat.le_of_lt_succ hN)) hob oM0⟩
      refine ⟨z08 hx,rfl,z00 (fun h1=>?_) fun h1=>?_⟩
      · rw [if_pos (show (x.kind==k)=true from h1)] at happ hone
        refine ⟨z03 rfl oM0,z00 (fun h2=>?_) fun h2=>?_⟩
        · rw [if_pos (show (x.kind==10)=true from h2)] at happ hone
          obtain ⟨a,b,hks,h0,h1',hc2,sa,sb⟩:=hif (by simpa using h2)
          rw [hc2] at happ hone
          exact ⟨h0,rfl,[],sa,sR,trivial,rfl,h1',rfl,[],sb,sR,trivial,rfl,z03 rfl oM0,z03 rfl oM0,z03 rfl oM0,i+1,z0g hlt,hlt,⟨rfl,ivq (by rw [hone];omega),trivial⟩,trivial,rfl,rfl,rfl,rfl⟩
        · rw [if_neg (show ¬ (x.kind==10)=true by simpa using h2)] at happ hone
          exact ⟨z03 rfl oM0,i+1,z0g hlt,hlt,⟨rfl,ivq (by rw [hone];omega),trivial⟩,trivial,rfl,rfl,rfl,rfl⟩
      · rw [if_neg (show ¬ (x.kind==k)=true by simpa using h1)] at happ hone
        refine z00 (fun h2=>?_) fun h2=>?_
        · rw [if_pos (show (x.kind==10)=true from h2)] at happ hone
          obtain ⟨a,b,hks,h0,h1',hc2,sa,sb⟩:=hif (by simpa using h2)
          rw [hc2] at happ hone
          exact ⟨h0,rfl,[],sa,sR,trivial,rfl,h1',rfl,[],sb,sR,trivial,rfl,z03 rfl oM0,z03 rfl oM0,z03 rfl oM0,i+1,z0g hlt,hlt,⟨rfl,ivq (by rw [hone];omega),trivial⟩,trivial,rfl,rfl,rfl,rfl⟩
        · rw [if_neg (show ¬ (x.kind==10)=true by simpa using h2)] at happ hone
          exact ⟨z03 rfl oM0,i+1,z0g hlt,hlt,⟨rfl,ivq (by rw [hone];omega),trivial⟩,trivial,rfl,rfl,rfl,rfl⟩
    · exact ⟨sE (by rw [List.take_of_length_le (z47 (f:=Nd.enc) rfl hc)]),trivial⟩
theorem sc_once (x:Nd) (a:List Nd) (r:List (List Nd)) (hk:x.kids=a::r) (hok:zk9 a=true) (hb:a.length+wtL a<=1073741824):SC Tryz.prog 65 [.pv (ndv x)] [] (fun k=>k∈[]) (iBool (z27 a)) []:=by
  refine SC.vc tb {} [] Tryz.func65 rfl rfl ?_
  have h0:(x.kids.map eKid)[0]? = some [z0m a]:=by rw [hk];rfl
  refine ⟨h0,rfl,[],zm3 14 _ a (Nat.lt_succ_self _) hok hb,sR,trivial,rfl,[],zm3 13 _ a (Nat.lt_succ_self _) hok hb,sR,trivial,rfl,z00 (fun h1=>?_) fun h1=>?_⟩
  · have h13:cnL 13 a=0:=by have:=of_decide_eq_true h1;omega
    refine z00 (fun h2=>?_) fun h2=>?_
    · have h14:cnL 14 a=0:=by have:=of_decide_eq_true h2;omega
      exact ⟨sE (by simp [z27,h13,h14]),trivial⟩
    · have h14:cnL 14 a≠0:=by have:=of_decide_eq_false h2;omega
      refine z00 (fun h3=>?_) fun h3=>?_
      · have h15:cnL 14 a=1:=by have:=of_decide_eq_true h3;omega
        obtain ⟨A,e,he,_,hl,_⟩:=za8 (l:=a) (by intro h;rw [h] at h14;simp [cnL] at h14)
        have hlen:a.length=A.length+1:=by rw [he];simp
        have hlen2:(a.map Nd.enc).length=A.length+1:=by simp [hlen]
        exact ⟨z2f (z:=(A.length:Int)) oM0 oM0,z08 (i:=A.length) (x:=e) (by rw [he];simp),rfl,sE (by simp [z27,h13,h15,hl]),trivial⟩
      · have h15:cnL 14 a≠1:=by have:=of_decide_eq_false h3;omega
        exact ⟨sE (by simp [z27,h13,h14,h15]),trivial⟩
  · have h13:cnL 13 a≠0:=by have:=of_decide_eq_false h1;omega
    exact ⟨sE (by simp [z27,h13]),trivial⟩
theorem ye9 (l m:List Int):SC Tryz.prog 93 [.pv (ints l),.pv (ints m)] [] (fun k=>k∈[]) (iBool (l==m)) []:=by
  refine SC.vc tb { gh:=[(0,[.len 0])] } [] Tryz.func93 rfl rfl ?_
  intro hl
  simp only [List.length_map] at hl
  refine z00 (fun h1=>?_) fun h1=>?_
  · have hne:¬ (l.length:Int)=m.length:=by simpa using h1
    exact ⟨sE (by rw [y92 hne]),trivial⟩
  · have hlm:l.length=m.length:=Int.ofNat.inj (by simpa using h1)
    refine ⟨Nat,fun k=>[(13,iInt k)],fun _=>[],fun k=>l.length - k,fun k=>k<=l.length/\l.take k=m.take k,[],0,⟨Nat.zero_le _,rfl⟩,⟨rfl,trivial⟩,trivial,?_⟩
    rintro k ⟨hk,he⟩
    refine z00 (fun hc=>?_) fun hc=>?_
    · have hlt:=z41 (f:=eInt) rfl hc
      obtain ⟨x,hx,ht,hd,_⟩:=z2s hlt
      obtain ⟨y,hy,ht2,hd2,_⟩:=z2s (show k<m.length by omega)
      refine ⟨z06 (f:=eInt) hx,rfl,z06 (f:=eInt) hy,rfl,z00 (fun h2=>?_) fun h2=>?_⟩
      · have hxy:x≠y:=by simpa using h2
        exact ⟨sE (by
          have:l≠m:=fun e=>by subst e;rw [hx] at hy;exact hxy (Option.some.inj hy)
          simp [this]),trivial⟩
      · have hxy:x=y:=by simpa using h2
        exact ⟨z03 rfl oM0,k+1,z0g hlt,⟨hlt,by rw [ht,ht2,he,hxy]⟩,⟨rfl,trivial⟩,trivial,rfl,rfl,rfl,rfl⟩
    · have hge:=z47 (f:=eInt) rfl hc
      rw [List.take_of_length_le hge,List.take_of_length_le oM0] at he
      exact ⟨sE (by simp [he]),trivial⟩
theorem yh1 (x:Nd) (a b:List Nd) (hk:x.kids=[a,b]):SC Tryz.prog 67 [.pv (ndv x)] [] (fun k=>k∈[]) (iBool (z2e a b)) []:=by
  refine SC.vc tb {} [] Tryz.func67 rfl rfl ?_
  obtain ⟨h0,h1,_,_⟩:=y5x hk
  have hno:(a.length≠1∨b.length≠1)->z2e a b=false:=fun h=>by
    match a,b,h with
    | [],_,_=>rfl
    | [_],[],_=>rfl
    | [_],[_],h=>simp at h
    | [_],_::_::_,_=>rfl
    | _::_::_,_,_=>rfl
  refine ⟨h0,rfl,h1,rfl,z00 (fun ha=>?_) fun ha=>?_⟩
  · refine z00 (fun hb=>?_) fun hb=>?_
    · obtain ⟨y,rfl⟩:∃ y,a=[y]:=List.length_eq_one_iff.1 (Int.ofNat.inj (by simpa using ha))
      obtain ⟨z,rfl⟩:∃ z,b=[z]:=List.length_eq_one_iff.1 (Int.ofNat.inj (by simpa using hb))
      refine ⟨z08 (i:=0) (x:=y) rfl,rfl,z00 (fun h2=>?_) fun h2=>?_⟩
      · have h2':(y.kind==12)=true:=h2
        refine ⟨z08 (i:=0) (x:=z) rfl,rfl,z00 (fun h3=>?_) fun h3=>?_⟩
        · have h3':(z.kind==12)=true:=h3
          exact ⟨z08 (i:=0) (x:=y) rfl,rfl,z08 (i:=0) (x:=z) rfl,rfl,[],ye9 y.args z.args,sR,trivial,rfl,sE (by simp only [z2e,h2',h3',Bool.true_and]),trivial⟩
        · have h3':(z.kind==12)=false:=h3
          exact ⟨sE (by simp [z2e,h2',h3']),trivial⟩
      · have h2':(y.kind==12)=false:=h2
        exact ⟨sE (by simp [z2e,h2']),trivial⟩
    · exact ⟨sE (by rw [hno (.inr (by intro h;rw [List.length_map,h] at hb;cases hb))]),trivial⟩
  · exact ⟨sE (by rw [hno (.inl (by intro h;rw [List.length_map,h] at ha;cases ha))]),trivial⟩
set_option maxRecDepth 20000
theorem zc8 (x:Nd):z01 (z81 x)=z01 x:=by
  unfold z81
  split
  · cases x;rfl
  · rfl
theorem y1z {ks:List (List Nd)} {i:Nat} {q:List Nd} (h:ks.take (i+1)=ks.take i++[q]):tdK (ks.take (i+1))=tdK (ks.take i)++[tdL q]:=by
  rw [h]
  have:∀ a b:List (List Nd),tdK (a++b)=tdK a++tdK b:=by
    intro a b
    induction a with
    | nil=>rfl
    | cons x r ih=>simp only [List.cons_append,tdK,ih]
  rw [this];rfl
theorem yj4:∀ ks:List (List Nd),(tdK ks).length=ks.length
  | []=>rfl
  | l::r=>by simp only [tdK,List.length_cons,yj4 r]
theorem y17:∀ ks:List (List Nd),ks.length<=wtK ks
  | []=>Nat.zero_le _
  | l::r=>by have:=y17 r;simp only [wtK,List.length_cons];omega
theorem y4j:∀ (N:Nat) (l:List Nd),SizeOf.sizeOf l<N->l.length+wtL l<=1073741824->SC Tryz.prog 43 [.pv (z0m l)] [] (fun k=>k∈[]) (.pv (z0m (tdL l))) []
  | 0,_,h,_=>absurd h (Nat.not_lt_zero _)
  | N+1,l,hN,hb=>by
    refine SC.vc tb { gh:=[(1,[.grow 2 102 42 8]),(5,[.grow 5 105 43 1]),(10,[.fz 5 105]),(14,[.niC 104 5]),(16,[.fz 2 102]),(18,[.fz 2 102])] } [] Tryz.func43 rfl rfl ?_
    refine ⟨Nat × List Nd,fun (i,out)=>[(11,iInt i),(2,.sl 102 (out.map Nd.enc).length)],fun (_,out)=>[(102,.row ⟨42,8⟩ (out.map Nd.enc))],fun (i,_)=>l.length - i,fun (i,out)=>i<=l.length/\out.length=i/\out++tdL (l.drop i)=tdL l,[],(0,[]),⟨Nat.zero_le _,rfl,rfl⟩,⟨rfl,rfl,trivial⟩,⟨rfl,trivial⟩,?_⟩
    rintro ⟨i,out⟩ ⟨hi,hol,hout⟩
    refine z00 (fun hc=>?_) fun hc=>?_
    · have hlt:=z41 (f:=Nd.enc) rfl hc
      obtain ⟨x,hx,ht,hd,hm⟩:=z2s hlt
      have hw:=zy0 hm
      have hwa:=(z93 x).2.2
      have hkl:=y17 x.kids
      rw [hd] at hout
      refine ⟨z08 hx,rfl,Nat × List (List Nd),fun (j,acc)=>[(18,iInt j),(5,.sl 105 (acc.map eKid).length)],fun (_,acc)=>[(105,.row ⟨43,1⟩ (acc.map eKid))],fun (j,_)=>x.kids.length - j,fun (j,acc)=>j<=x.kids.length/\acc=tdK (x.kids.take j),[],(0,[]),⟨Nat.zero_le _,rfl⟩,⟨rfl,rfl,trivial⟩,⟨rfl,trivial⟩,?_⟩
      rintro ⟨j,acc⟩ ⟨hj,rfl⟩
      refine z00 (fun hc2=>?_) fun hc2=>?_
      · have hlt2:=z41 (f:=eKid) rfl hc2
        obtain ⟨q,hq,ht2,_,hm2⟩:=z2s hlt2
        have hwq:=zt6 hm2
        have hl2:(tdK (x.kids.take j)).length=j:=by rw [yj4];simp;omega
        exact ⟨z06 (f:=eKid) hq,rfl,[],y4j N q (Nat.lt_of_lt_of_le (z5k hm rfl hm2) (Nat.le_of_lt_succ hN)) oM0,sR,trivial,rfl,rfl,zg7 rfl,by simp;omega,z03 rfl oM0,(j+1,_),z0g hlt2,⟨hlt2,rfl⟩,⟨rfl,slq (by rw [y1z ht2];simp),trivial⟩,⟨rwq (by rw [y1z ht2];simp [eKid]),trivial⟩,rfl,rfl,rfl,rfl⟩
      · rw [List.take_of_length_le (z47 (f:=eKid) rfl hc2)]
        have hT:tdN x=z81 (.mk x.kind x.op x.n x.name x.args x.outs x.params (tdK x.kids)):=tdN_eq x
        refine ⟨rfl,[],z6e (.mk x.kind x.op x.n x.name x.args x.outs x.params (tdK x.kids)),sR,trivial,rfl,z00 (fun h1=>?_) fun h1=>?_⟩
        · have hN:tdN x = .mk x.kind x.op x.n x.name x.args [] x.params (tdK x.kids):=by rw [hT,z81,if_pos h1];rfl
          have hC:z01 (tdN x)=true:=by rw [hT,zc8];exact h1
          rw [tdL,if_pos hC,hN] at hout
          exact ⟨rfl,zg7 rfl,by simp;omega,z00 (fun _=>⟨by simp,sE (by rw [<- hout];simp only [z0m,zy7];rfl),trivial⟩) fun h=>by rw [show z01 _=true from h1] at h;cases h⟩
        · have hN:tdN x = .mk x.kind x.op x.n x.name x.args x.outs x.params (tdK x.kids):=by rw [hT,z81,if_neg (by simpa using h1)]
          have hC:z01 (tdN x)=false:=by rw [hT,zc8];exact h1
          rw [tdL,if_neg (by simp [hC]),hN] at hout
          exact ⟨rfl,zg7 rfl,by simp;omega,z00 (fun h=>by rw [show z01 _=false from h1] at h;cases h) fun _=>⟨z03 rfl oM0,(i+1,out++[.mk x.kind x.op x.n x.name x.args x.outs x.params (tdK x.kids)]),z0g hlt,⟨hlt,by simp;omega,by rw [List.append_assoc];exact hout⟩,⟨rfl,slq sI0,trivial⟩,⟨rwq (by rw [zy7];rfl),trivial⟩,rfl,rfl,rfl,rfl⟩⟩
    · rw [List.drop_eq_nil_of_le (z47 (f:=Nd.enc) rfl hc),tdL,List.append_nil] at hout
      exact ⟨rfl,sE (by rw [hout];rfl),trivial⟩
set_option maxRecDepth 20000
def TrL (q:List Nd):Prop:=∀ to:TT,gdR [] to q=true->SC Tryz.prog 23 [wV,.pv (z0m q)] (tM to) (fun k=>k∈[]) (.pv (z0m (trL to q).1)) (tM (trL to q).2)
theorem y5w (a:List Nd) (r:List (List Nd)):kid0 (a::r)=a:=rfl
theorem kid1_c (a b:List Nd) (r:List (List Nd)):kid1 (a::b::r)=b:=rfl
theorem trL_wt (to:TT) (l:List Nd):(trL to l).1.length+wtL (trL to l).1<=l.length+wtL l:=by
  have h1:=y3g (trR [] to l).1
  have h2:=y6x l [] to
  simp only [trL,List.length_nil,wtL] at *
  omega
theorem yh2 (x:Nd) (a:List Nd) (to:TT) (hk:x.kids=[a]) (hok:zk9 a=true) (hg:y5s to x=true) (hb:wtN x<=1073741824) (ih:TrL a):SC Tryz.prog 40 [wV,.pv (ndv x)] (tM to) (fun k=>k∈[]) (.pv (z0m (z91 to x).1)) (tM (z91 to x).2):=by
  refine SC.vc tb {} [] Tryz.func40 rfl rfl ?_
  obtain ⟨h1,h2,h3⟩:=z93 x
  rw [hk] at h3
  have ha:a.length+wtL a<=1073741824:=by simp only [wtK] at h3;omega
  have h0:(x.kids.map eKid)[0]? = some [z0m a]:=by rw [hk];rfl
  unfold y5s at hg
  simp only [hk,y0x,y5w,Bool.and_eq_true,decide_eq_true_eq] at hg
  obtain ⟨⟨_,hpa⟩,hg⟩:=hg
  refine ⟨[],sc_once x a [] hk hok ha,sR,trivial,rfl,z00 (fun hc=>?_) fun hc=>?_⟩
  · have ho:z27 a=false:=by simpa using hc
    rw [ho] at hg
    simp only [Bool.false_eq_true,if_false,gdKs,Bool.and_true] at hg
    have hT:z91 to x=([.mk x.kind x.op x.n x.name x.args x.outs x.params [(trL to a).1]],(trL to a).2):=by
      unfold z91;simp only [hk,y5w,ho,y0x,Bool.false_eq_true,if_false]
    rw [hT]
    exact ⟨h0,rfl,[],ih to hg,sR,⟨rfl,trivial⟩,rfl,sE (congrArg IV.pv (by simp only [z0m,List.map_cons,List.map_nil,Nd.enc_eq,Nd.cells_eta];rfl)),rfl,trivial⟩
  · have ho:z27 a=true:=by simpa using hc
    rw [ho] at hg
    simp only [if_true,gdKs,Bool.and_true,Bool.and_eq_true,Bool.not_eq_true'] at hg
    obtain ⟨⟨hg1,hne⟩,hg2⟩:=hg
    have hwt:=trL_wt (z0k x.params x.args to) a
    refine ⟨[],y0p x.params x.args to hpa oM0,sR,⟨rfl,trivial⟩,rfl,h0,rfl,[],ih _ hg1,sR,⟨rfl,trivial⟩,rfl,?_⟩
    have hT0:z91 to x=if z0h (trL (z0k x.params x.args to) a).1==14 then ((trL (z0k x.params x.args to) a).1.dropLast,z0k x.outs (z30 (trL (z0k x.params x.args to) a).1) (trL (z0k x.params x.args to) a).2) else ((trL (z0k x.params x.args to) a).1,(trL (z0k x.params x.args to) a).2):=by
      unfold z91;simp only [hk,y5w,ho,y0x,if_true]
    rw [hT0]
    generalize trL (z0k x.params x.args to) a=r at hne hg2 hwt
    obtain ⟨l,to2⟩:=r
    obtain ⟨A,e,rfl,hdl,hlk,hla⟩:=za8 (l:=l) (by intro h;rw [h] at hne;cases hne)
    have hlen:((A++[e]).map Nd.enc).length=A.length+1:=by simp
    rw [hlk,hla] at hg2
    simp only [hlk,hla,hdl]
    simp only [List.length_append,List.length_cons,List.length_nil] at hwt
    refine ⟨z2f (z:=(A.length:Int)) (by rw [hlen];omega) oM0,z08 (i:=A.length) (x:=e) sI0,rfl,z00 (fun h14=>?_) fun h14=>?_⟩
    · have h14':(e.kind==14)=true:=h14
      simp only [h14',if_true]
      simp only [eq_of_beq h14',bne_self_eq_false,Bool.false_or,decide_eq_true_eq] at hg2
      exact ⟨[],y0p x.outs e.args to2 hg2 oM0,sR,⟨rfl,trivial⟩,rfl,z2f (z:=(A.length:Int)) (by rw [hlen];omega) oM0,A.length,rfl,Nat.zero_le _,by simp,yb1,sE (congrArg IV.pv (by simp [z0m])),rfl,trivial⟩
    · have h14':(e.kind==14)=false:=h14
      simp only [h14',Bool.false_eq_true,if_false]
      exact ⟨sI,rfl,trivial⟩
theorem y4x (x:Nd) (a b:List Nd) (to:TT) (hk:x.kids=[a,b]) (hg:zz1 to x=true) (hb:wtN x<=1073741824) (iha:TrL a) (ihb:TrL b):SC Tryz.prog 41 [wV,.pv (ndv x)] (tM to) (fun k=>k∈[]) (.pv (z0m (z6v to x).1)) (tM (z6v to x).2):=by
  refine SC.vc tb {} [] Tryz.func41 rfl rfl ?_
  obtain ⟨h1,h2,h3⟩:=z93 x
  obtain ⟨h0,h1',_,_⟩:=y5x hk
  unfold zz1 at hg
  unfold z6v
  simp only [hk,trKs_two,y5w,kid1_c,gdKs,Bool.and_eq_true,Bool.and_true,decide_eq_true_eq] at hg ⊢
  obtain ⟨⟨_,hga,hgb⟩,hg⟩:=hg
  refine ⟨h0,rfl,[],iha to hga,sR,⟨rfl,trivial⟩,rfl,h1',rfl,[],ihb (trL to a).2 hgb,sR,⟨rfl,trivial⟩,rfl,?_⟩
  generalize (trL (trL to a).2 b).2=to2 at hg ⊢
  generalize (trL (trL to a).2 b).1=B at hg ⊢
  generalize (trL to a).1=A at hg ⊢
  refine ⟨[],yh1 (.mk x.kind x.op x.n x.name x.args x.outs x.params [A,B]) A B rfl,sR,trivial,rfl,z00 (fun hi=>?_) fun hi=>?_⟩
  · have hi':z2e A B=true:=hi
    simp only [hi',Bool.not_true,Bool.false_or,decide_eq_true_eq,if_true] at hg ⊢
    obtain ⟨y,rfl⟩:∃ y,A=[y]:=by
      match A,B,hi' with
      | [y],[_],_=>exact ⟨y,rfl⟩
    exact ⟨at0,rfl,z08 (i:=0) (x:=y) rfl,rfl,[],y0p x.outs y.args to2 hg oM0,sR,⟨rfl,trivial⟩,rfl,sN,rfl,trivial⟩
  · have hi':z2e A B=false:=hi
    simp only [hi',Bool.false_eq_true,if_false]
    exact ⟨sE (congrArg IV.pv (by simp only [z0m,List.map_cons,List.map_nil,Nd.enc_eq,Nd.cells_eta];rfl)),rfl,trivial⟩
theorem trA_wt (to:TT) (x:Nd):wtN (trA to x)=wtN x:=by rw [y6v,y6v x];simp [trA,Nd.name,Nd.args,Nd.outs,Nd.params,Nd.kids]
theorem y2u:∀ (N:Nat) (l:List Nd),SizeOf.sizeOf l<N->zk9 l=true->l.length+wtL l<=1073741824->TrL l
  | 0,_,h,_,_=>absurd h (Nat.not_lt_zero _)
  | N+1,l,hN,hok,hb=>fun to hg=>by
    refine SC.vc tb { gh:=[(1,[.grow 4 104 42 8]),(13,[.fz 4 104])],jn:=[11] } [] Tryz.func23 rfl rfl ?_
    refine ⟨Nat × List Nd × TT,fun (i,out,_)=>[(9,iInt i),(4,.sl 104 (out.map Nd.enc).length)],fun (_,out,t)=>[(104,.row ⟨42,8⟩ (out.map Nd.enc)),(3001,.map (inEs t))],fun (i,_,_)=>l.length - i,fun (i,out,t)=>i<=l.length/\out.length+wtL out+((l.drop i).length+wtL (l.drop i))<=1073741824/\gdR out t (l.drop i)=true/\trR out t (l.drop i)=trR [] to l,[],(0,[],to),⟨Nat.zero_le _,by simpa [wtL] using hb,hg,rfl⟩,⟨rfl,rfl,trivial⟩,⟨rfl,rfl,trivial⟩,?_⟩
    rintro ⟨i,out,t⟩ ⟨hi,hw,hgd,hR⟩
    have fin:∀ o t',trR [] to l=(o,t')->SubI (.pv (z0m (tdL o))) (.pv (z0m (trL to l).1))/\subH ((3001,some (.map (inEs t')))::[]) (tM (trL to l).2):=fun o t' h=>by
      unfold trL;rw [h];exact ⟨sI,rfl,trivial⟩
    refine z00 (fun hc=>?_) fun hc=>?_
    · have hlt:=z41 (f:=Nd.enc) rfl hc
      obtain ⟨x,hx,ht,hd,hm⟩:=z2s hlt
      have hwx:=zy0 hm
      obtain ⟨hwa,_,_⟩:=z93 x
      have hxok:=zs9 hok hm
      rw [hd] at hw hgd hR
      have hwt:=wt_trN x t
      simp only [wtL,List.length_cons] at hw
      simp only [gdR,Bool.and_eq_true] at hgd
      obtain ⟨hgx,hgr⟩:=hgd
      have hb2:(out.map Nd.enc).length+(trN t x).1.length<=1073741824:=by simp;omega
      have kid:∀ q∈x.kids,TrL q:=fun q hq=>by
        have h1:=zt6 hq
        have h2:=(z93 x).2.2
        exact y2u N q (Nat.lt_of_lt_of_le (z5k hm rfl hq) (Nat.le_of_lt_succ hN)) (z92 (by rw [z9j] at hxok;simp only [Bool.and_eq_true] at hxok;exact hxok.2) hq).2 oM0
      refine ⟨z08 hx,rfl,[3001],yh3 x.args t oM0,sR,⟨rfl,rfl,trivial⟩,rfl,List Nd × TT,fun (o,_)=>[(4,.sl 104 (o.map Nd.enc).length)],fun (o,t)=>[(104,.row ⟨42,8⟩ (o.map Nd.enc)),(3001,.map (inEs t))],fun (o,t')=>o=out++(trN t x).1/\t'=(trN t x).2,[104,106,3001],?_,?_⟩
      · refine z00 (fun h11=>?_) fun h11=>?_
        · have hk:x.kind=11:=by simpa using h11
          obtain ⟨a,hks⟩:∃ a,x.kids=[a]:=by
            rw [z9j] at hxok
            simp only [hk,Bool.and_eq_true] at hxok
            have h2:=hxok.1.2
            simp only [bne_self_eq_false,Bool.false_or,Bool.and_eq_true,beq_iff_eq] at h2
            exact List.length_eq_one_iff.1 h2.1
          have hN2:=trN_loop (to:=t) hk
          refine ⟨[],yh2 (trA t x) a t hks (z92 (by rw [z9j] at hxok;simp only [Bool.and_eq_true] at hxok;exact hxok.2) (by rw [hks];exact .head _)).2 (by rw [<- gdN_loop hk];exact hgx) (by rw [trA_wt];omega) (kid a (by rw [hks];exact .head _)),sR,⟨rfl,trivial⟩,rfl,rfl,zt7 (fun y _=>⟨y.enc_len,y.enc_one⟩),?_,(_,_),⟨rfl,rfl⟩,⟨slq (by rw [hN2];simp),trivial⟩,⟨rwq (by rw [hN2];simp),by rw [hN2];rfl,trivial⟩,rfl,rfl,rfl,rfl⟩
          rw [<- hN2];simpa using (by omega:(out.map Nd.enc).length+(trN t x).1.length<=68719476736)
        · refine z00 (fun h10=>?_) fun h10=>?_
          · have hk:x.kind=10:=by simpa using h10
            obtain ⟨a,b,hks⟩:=yk2 hxok hk
            have hN2:=y8g (to:=t) hk
            refine ⟨[],y4x (trA t x) a b t hks (by rw [<- y78 hk];exact hgx) (by rw [trA_wt];omega) (kid a (by rw [hks];exact .head _)) (kid b (by rw [hks];exact .tail _ (.head _))),sR,⟨rfl,trivial⟩,rfl,rfl,zt7 (fun y _=>⟨y.enc_len,y.enc_one⟩),?_,(_,_),⟨rfl,rfl⟩,⟨slq (by rw [hN2];simp),trivial⟩,⟨rwq (by rw [hN2];simp),by rw [hN2];rfl,trivial⟩,rfl,rfl,rfl,rfl⟩
            rw [<- hN2];simpa using (by omega:(out.map Nd.enc).length+(trN t x).1.length<=68719476736)
          · have hN2:=yj9 (to:=t) (x:=x) h10 h11
            exact ⟨rfl,zg7 rfl,by simp;omega,(_,_),⟨rfl,rfl⟩,⟨slq (by rw [hN2];simp),trivial⟩,⟨rwq (by rw [hN2,zy7];rfl),by rw [hN2];rfl,trivial⟩,rfl,rfl,rfl,rfl⟩
      · rintro ⟨o,t'⟩ ⟨rfl,rfl⟩
        simp only [trR] at hR
        generalize hO:out++(trN t x).1=o at hgr hR ⊢
        generalize (trN t x).2=t' at hgr hR ⊢
        have hol:o.length+wtL o<=out.length+wtL out+((trN t x).1.length+wtL (trN t x).1):=by rw [<- hO,z7w];simp;omega
        have next:z18 o=false->gdR o t' (l.drop (i+1))=true/\trR o t' (l.drop (i+1))=trR [] to l:=fun h=>by
          rw [h] at hgr hR
          exact ⟨by simpa using hgr,by simpa using hR⟩
        refine ⟨rfl,z00 (fun hp=>?_) fun hp=>?_⟩
        · have hpos:0<o.length:=by simpa using hp
          obtain ⟨A,e,rfl,_⟩:=za8 (l:=o) (by intro h;rw [h] at hpos;cases hpos)
          have hlen:((A++[e]).map Nd.enc).length=A.length+1:=by simp
          have hlc:z18 (A++[e])=z01 e:=by simp [z18]
          refine ⟨rfl,z2f (z:=(A.length:Int)) (by rw [hlen];omega) (by simp at hol;omega),rfl,(by rw [hlen];omega:A.length<_),rfl,rfl,rfl,z08 (i:=A.length) (x:=e) sI0,[],z6e e,sR,trivial,rfl,z00 (fun h1=>?_) fun h1=>?_⟩
          · have h1':z18 (A++[e])=true:=hlc.trans h1
            rw [h1',if_pos rfl] at hR
            exact ⟨rfl,[],y4j _ (A++[e]) (Nat.lt_succ_self _) oM0,sR,trivial,rfl,(fin _ _ hR.symm).1,(fin _ _ hR.symm).2⟩
          · obtain ⟨n1,n2⟩:=next (hlc.trans h1)
            exact ⟨z03 rfl oM0,(i+1,A++[e],t'),z0g hlt,⟨hlt,by omega,n1,n2⟩,⟨rfl,rfl,trivial⟩,⟨rfl,rfl,trivial⟩,rfl,rfl,rfl,rfl⟩
        · have hz:o=[]:=by
            have:¬ 0<o.length:=by simpa using hp
            exact List.length_eq_zero_iff.1 oM0
          obtain ⟨n1,n2⟩:=next (by rw [hz];rfl)
          exact ⟨z03 rfl oM0,(i+1,o,t'),z0g hlt,⟨hlt,by omega,n1,n2⟩,⟨rfl,rfl,trivial⟩,⟨rfl,rfl,trivial⟩,rfl,rfl,rfl,rfl⟩
    · rw [List.drop_eq_nil_of_le (z47 (f:=Nd.enc) rfl hc)] at hR hw
      simp only [trR] at hR
      exact ⟨rfl,[],y4j _ out (Nat.lt_succ_self _) (by simp only [List.length_nil,wtL] at hw;omega),sR,trivial,rfl,(fin _ _ hR.symm).1,(fin _ _ hR.symm).2⟩
set_option maxRecDepth 20000
theorem sEmp:SubI (.pv (.agg [.val (.slice none 0 0),.val (.slice none 0 0)])) (.pv (Un.enc ⟨[],[]⟩)):=fun _ _ _ _ _ h=>y72 h
theorem y9a {u:Un} (h:z0p u<=536870912) {f:Fl} (hf:f∈u.flows):f.body.length+wtL f.body<=536870912:=by
  have h1:=y5g hf
  unfold z0p z37 at *
  omega
theorem y4k (u:Un) (hW:z0p u<=536870912):SC Tryz.prog 11 [.pv u.enc] [] (fun k=>k∈[]) (.tup [.pv (z68 trB u).1.enc,iInt (z68 trB u).2]) []:=by
  refine SC.vc tb { gh:=[(5,[.growC 106 1 199 51 5]),(11,[.fzC 106 1 199])],ids:=[(27,3001)] } [] Tryz.func11 rfl rfl ?_
  have hW2:z0p u=u.arrays.length+u.flows.length+wtA u.arrays+wtF u.flows:=rfl
  refine ⟨[],y87 u hW,sR,trivial,rfl,z00 (fun hc=>?_) fun hc=>?_⟩
  · have hz:((z53 u).1==0)=false:=by simpa using hc
    have hH:z68 trB u=(⟨[],[]⟩,1):=by simp [z68,hz]
    rw [hH]
    exact ⟨sT2 sEmp,trivial⟩
  · have hz:(z53 u).1=0:=by simpa using hc
    have hH:z68 trB u=(z42 trB u,0):=by simp [z68,hz]
    rw [hH]
    refine ⟨Nat × List Fl,fun (k,_)=>[(23,iInt k)],fun (_,out)=>[(106,.box [.pv (arrs u.arrays),.sl 199 (out.map Fl.enc).length]),(199,.row ⟨51,5⟩ (out.map Fl.enc))],fun (k,_)=>u.flows.length - k,fun (k,out)=>k<=u.flows.length/\out=(u.flows.take k).map (z48 trB),[],(0,[]),⟨Nat.zero_le _,rfl⟩,⟨rfl,trivial⟩,⟨rfl,rfl,trivial⟩,?_⟩
    rintro ⟨k,out⟩ ⟨hk,rfl⟩
    refine z00 (fun hc=>?_) fun hc=>?_
    · have hlt:=z41 (f:=Fl.enc) rfl hc
      obtain ⟨x,hx,ht,_,hm⟩:=z2s hlt
      obtain ⟨ho,hg⟩:=y8i hz x hm
      have hb:=y9a hW hm
      have hl:((u.flows.take k).map (z48 trB)).length=k:=by simp;omega
      have henc:((u.flows.take (k+1)).map (z48 trB)).map Fl.enc=((u.flows.take k).map (z48 trB)).map Fl.enc++[[vStr x.name,vInt x.ty,vInt x.params,ints x.types,z0m (trB x.body)]]:=by
        rw [ht,List.map_append];exact y9l trB _ x
      exact ⟨z06 (f:=Fl.enc) hx,rfl,[],y2u _ x.body (Nat.lt_succ_self _) ho oM0 [] hg,sR,⟨rfl,trivial⟩,rfl,rfl,zg7 rfl,by simp;omega,by simp,z03 rfl oM0,(k+1,(u.flows.take (k+1)).map (z48 trB)),z0g hlt,⟨hlt,rfl⟩,⟨rfl,trivial⟩,⟨by rw [henc];simp;rfl,by rw [henc];rfl,trivial⟩,rfl,rfl,rfl,rfl⟩
    · rw [List.take_of_length_le (z47 (f:=Fl.enc) rfl hc)]
      exact ⟨rfl,sI,trivial⟩
set_option maxRecDepth 20000
theorem zy5 (k:Int):∀ a b:List (List Nd),cnK k (a++b)=cnK k a+cnK k b
  | [],b=>by simp [cnK]
  | x::r,b=>by simp only [List.cons_append,cnK,zy5 k r b];omega
theorem zr8 (k:Int):∀ (N:Nat) (l:List Nd),SizeOf.sizeOf l<N->l.length+wtL l<=1073741824->SC Tryz.prog 45 [.pv (z0m l),iInt k] [] (fun k=>k∈[]) (iInt (cnL k l)) []
  | 0,_,h,_=>absurd h (Nat.not_lt_zero _)
  | N+1,l,hN,hb=>by
    refine SC.vc tb { jn:=[7] } [] Tryz.func45 rfl rfl ?_
    have hle:cnL k l<=1073741824:=Nat.le_trans (y5k k l) hb
    refine ⟨Nat,fun i=>[(6,iInt i),(5,iInt (cnL k (l.take i)))],fun _=>[],fun i=>l.length - i,fun i=>i<=l.length,[],0,Nat.zero_le _,⟨rfl,rfl,trivial⟩,trivial,?_⟩
    intro i hi
    refine z00 (fun hc=>?_) fun hc=>?_
    · have hlt:=z41 (f:=Nd.enc) rfl hc
      obtain ⟨x,hx,ht,hd,hm⟩:=z2s hlt
      have happ:cnL k l=cnL k (l.take i)+(cnN k x+cnL k (l.drop (i+1))):=by
        conv=>lhs;rw [<- List.take_append_drop i l,hd]
        rw [z7c];rfl
      have hone:cnL k (l.take (i+1))=cnL k (l.take i)+cnN k x:=by rw [ht,z7c];rfl
      rw [z7y] at happ hone
      have hw:=zy0 hm
      have hwa:=(z93 x).2.2
      have hkl:=y17 x.kids
      refine ⟨Unit,fun _=>[(5,iInt ((cnL k (l.take i)+(if x.kind==k then 1 else 0):Nat):Int))],fun _=>[],fun _=>True,[],⟨z08 hx,rfl,z00 (fun h1=>?_) fun h1=>?_⟩,?_⟩
      · have h1':(x.kind==k)=true:=h1
        exact ⟨z03 rfl oM0,(),trivial,⟨ivq (by simp [h1']),trivial⟩,trivial,rfl,rfl,rfl,rfl⟩
      · have h1':(x.kind==k)=false:=h1
        exact ⟨(),trivial,⟨ivq (by simp [h1']),trivial⟩,trivial,rfl,rfl,rfl,rfl⟩
      · rintro _ _
        generalize (if x.kind==k then 1 else 0)=e at happ hone ⊢
        have hfit:x.kind==10->∀ j,cnK k (x.kids.take j)<=cnK k x.kids:=fun _ j=>by
          conv=>rhs;rw [<- List.take_append_drop j x.kids]
          rw [zy5];omega
        refine ⟨Nat,fun j=>[(7,iInt j),(5,iInt ((cnL k (l.take i)+e+cnK k (x.kids.take j):Nat):Int))],fun _=>[],fun j=>x.kids.length - j,fun j=>j<=x.kids.length/\((x.kind==10)=false->j=0),[],0,⟨Nat.zero_le _,fun _=>rfl⟩,⟨rfl,rfl,trivial⟩,trivial,?_⟩
        rintro j ⟨hj,hj0⟩
        have last:(x.kind==10)=false∨x.kids.length<=j->cnL k (l.take i)+e+cnK k (x.kids.take j)=cnL k (l.take (i+1)):=fun h=>by
          rcases h with h | h
          · rw [hj0 h,hone,h];simp [cnK]
          · by_cases h10:(x.kind==10)=true
            · rw [hone,if_pos h10,List.take_of_length_le h];omega
            · have h10':(x.kind==10)=false:=by simpa using h10
              rw [hj0 h10',hone,h10'];simp [cnK]
        refine ⟨z08 hx,rfl,z00 (fun hc2=>?_) fun hc2=>?_⟩
        · have hlt2:=z41 (f:=eKid) rfl hc2
          obtain ⟨q,hq,ht2,_,hm2⟩:=z2s hlt2
          refine ⟨z08 hx,rfl,z00 (fun h10=>?_) fun h10=>?_⟩
          · have h10':(x.kind==10)=true:=h10
            have h1:=hfit h10' (j+1)
            rw [if_pos h10'] at happ
            rw [ht2,zy5] at h1
            have hwq:=zt6 hm2
            have hs:cnK k [q]=cnL k q:=by simp [cnK]
            rw [hs] at h1
            exact ⟨z08 hx,rfl,z06 (f:=eKid) hq,rfl,[],zr8 k N q (Nat.lt_of_lt_of_le (z5k hm rfl hm2) (Nat.le_of_lt_succ hN)) oM0,sR,trivial,rfl,z03 rfl oM0,z03 rfl oM0,j+1,z0g hlt2,⟨hlt2,fun h=>by rw [h] at h10';cases h10'⟩,⟨rfl,ivq (by rw [ht2,zy5,hs];omega),trivial⟩,trivial,rfl,rfl,rfl,rfl⟩
          · exact ⟨z03 rfl oM0,i+1,z0g hlt,hlt,⟨rfl,ivq (by rw [last (.inl h10)]),trivial⟩,trivial,rfl,rfl,rfl,rfl⟩
        · exact ⟨z03 rfl oM0,i+1,z0g hlt,hlt,⟨rfl,ivq (by rw [last (.inr (z47 (f:=eKid) rfl hc2))]),trivial⟩,trivial,rfl,rfl,rfl,rfl⟩
    · exact ⟨sE (by rw [List.take_of_length_le (z47 (f:=Nd.enc) rfl hc)]),trivial⟩
set_option maxRecDepth 20000
set_option maxHeartbeats 2000000
def run0 (ins:List Int) (fuel:Int):Rs:={ ins:=ins,ar:=[],st:=0,code:=0,out:=[],cost:=0,fuel:=if fuel<0 then 0 else fuel,spent:=false }
def mEnd (r:Int × Rs):Rs:=if z0z r.2 then r.2 else { r.2 with st:=1,code:=r.1 }
def runv (s:Rs):PV:=.agg [vInt s.st,vInt s.code,ints s.out,vInt s.cost,vInt s.fuel]
theorem yi8 (fs:List Fl) (hW:z0p ⟨[],fs⟩<=536870912) (hz:(z1a ⟨[],fs⟩).1=0) (ins:List Int) (fuel:Int) (d:Nat) (r:Int × Rs) (h:z3r ⟨[],fs⟩ d (z04 z0b fs 0) [] { run0 ins fuel with ar:=[] }=some r):SC Tryz.prog 17 [.pv (Un.enc ⟨[],fs⟩),.pv (ints ins),iInt fuel] [] (fun _=>False) (.pv (runv (mEnd r))) []:=by
  refine SC.anyR (SC.vc tb { gh:=[(5,[.growC 1001 6 1002 3 1]),(12,[.fzC 1001 6 1002])],ids:=[(26,1001),(45,1004),(47,1003)] } [] Tryz.func17 rfl rfl ?_)
  have hub:∀ f∈fs,lsW f.body<=1073741824:=fun f hf=>Nat.le_trans (zo5 (u:=⟨[],fs⟩) hW hf) oM0
  have hcall:=(zi8 ⟨[],fs⟩ hub (d+1)).1 d (Nat.lt_succ_self d) _ _ _ _ h sI0
  have hal:=y91 h
  have hC:=zx2 ⟨[],fs⟩ hW
  rw [hz] at hC
  have hP:=z4l ⟨[],fs⟩ z0b
  obtain ⟨n,ins',ar',st',code',out',cost',fuel',spent'⟩:=r
  obtain rfl:ar'=[]:=List.eq_nil_of_length_eq_zero hal
  have hO:=z4h ⟨[],fs⟩ ⟨ins',[],st',code',out',cost',fuel',spent'⟩
  obtain ⟨ov,hov⟩:∃ b,z0z ⟨ins',[],st',code',out',cost',fuel',spent'⟩=b:=⟨_,rfl⟩
  rw [hov] at hO
  have hend:mEnd (n,⟨ins',[],st',code',out',cost',fuel',spent'⟩)=if ov then (⟨ins',[],st',code',out',cost',fuel',spent'⟩:Rs) else ⟨ins',[],1,n,out',cost',fuel',spent'⟩:=by unfold mEnd;rw [hov]
  rw [hend]
  clear hend
  refine ⟨[],hC,sR,trivial,rfl,Unit,fun _=>[(10,iInt 0)],fun _=>[],fun _=>0,fun _=>True,[],(),trivial,⟨rfl,trivial⟩,trivial,fun _ _=>⟨[],hP,sR,trivial,rfl,[],hcall,SubA.same (SubA.same (SubA.cons sN sR)),⟨rfl,rfl,trivial⟩,rfl,[],hO,sR,⟨rfl,rfl,trivial⟩,rfl,?_⟩⟩
  cases ov with
  | true=>exact ⟨rfl,sI,trivial⟩
  | false=>exact ⟨rfl,sI,trivial⟩
theorem sr_run1 (fs:List Fl) (A:Ar) (hW:z0p ⟨[A],fs⟩<=536870912) (hz:(z1a ⟨[A],fs⟩).1=0) (ins:List Int) (fuel:Int) (d:Nat) (r:Int × Rs) (h:z3r ⟨[A],fs⟩ d (z04 z0b fs 0) [] { run0 ins fuel with ar:=[List.replicate A.size.toNat 0] }=some r) (hsz:0<=A.size/\A.size<=1000):SC Tryz.prog 17 [.pv (Un.enc ⟨[A],fs⟩),.pv (ints ins),iInt fuel] [] (fun _=>False) (.pv (runv (mEnd r))) []:=by
  refine SC.anyR (SC.vc tb { gh:=[(5,[.growC 1001 6 1002 3 1]),(12,[.fzC 1001 6 1002])],ids:=[(26,1001),(45,1004),(47,1003)] } [] Tryz.func17 rfl rfl ?_)
  have hub:∀ f∈fs,lsW f.body<=1073741824:=fun f hf=>Nat.le_trans (zo5 (u:=⟨[A],fs⟩) hW hf) oM0
  have hcall:=(zi8 ⟨[A],fs⟩ hub (d+1)).1 d (Nat.lt_succ_self d) _ _ _ _ h sI0
  have hal:=y91 h
  have hC:=zx2 ⟨[A],fs⟩ hW
  rw [hz] at hC
  have hP:=z4l ⟨[A],fs⟩ z0b
  obtain ⟨n,ins',ar',st',code',out',cost',fuel',spent'⟩:=r
  obtain ⟨q2,rfl⟩:∃ q2,ar'=[q2]:=List.length_eq_one_iff.1 hal
  have hO:=z4h ⟨[A],fs⟩ ⟨ins',[q2],st',code',out',cost',fuel',spent'⟩
  obtain ⟨ov,hov⟩:∃ b,z0z ⟨ins',[q2],st',code',out',cost',fuel',spent'⟩=b:=⟨_,rfl⟩
  rw [hov] at hO
  have hend:mEnd (n,⟨ins',[q2],st',code',out',cost',fuel',spent'⟩)=if ov then (⟨ins',[q2],st',code',out',cost',fuel',spent'⟩:Rs) else ⟨ins',[q2],1,n,out',cost',fuel',spent'⟩:=by unfold mEnd;rw [hov]
  rw [hend]
  clear hend
  have hTl:((A.size:Int))=(A.size.toNat:Nat):=by omega
  refine ⟨[],hC,sR,trivial,rfl,Bool,fun b=>[(10,iInt (if b then 1 else 0))],fun b=>if b then [(1001,rBox ⟨[A],fs⟩ { run0 ins fuel with ar:=[List.replicate A.size.toNat 0] }),(1003,.box [.sl 1004 ((List.replicate A.size.toNat (0:Int)).map eInt).length]),(1004,rowI (List.replicate A.size.toNat 0))] else [(1001,rBox ⟨[A],fs⟩ { run0 ins fuel with ar:=[] })],fun b=>if b then 0 else 1,fun _=>True,[],false,trivial,⟨rfl,trivial⟩,⟨rfl,trivial⟩,fun b _=>?_⟩
  cases b with
  | false =>
    exact ⟨at0 (a:=Ar.enc A),rfl,rfl,hTl,by omega,by simp,rfl,Nat.zero_lt_one,by decide,z03 (m:=0) (n:=1) rfl dC0,true,Nat.zero_lt_one,trivial,⟨rfl,trivial⟩,⟨rfl,boq (show [IV.sl 1004 A.size.toNat]=_ by simp),rwq (by simp [eInt];exact .inr rfl),trivial⟩,rfl,rfl,rfl,rfl⟩
  | true =>
    refine ⟨[],hP,sR,trivial,rfl,[],hcall,SubA.same (SubA.same (SubA.cons sN sR)),⟨rfl,rfl,rfl,rfl,trivial⟩,rfl,[],hO,sR,⟨rfl,rfl,rfl,rfl,trivial⟩,rfl,?_⟩
    cases ov with
    | true=>exact ⟨rfl,sI,trivial⟩
    | false=>exact ⟨rfl,sI,trivial⟩
set_option maxRecDepth 20000
set_option maxHeartbeats 2000000
mutual
theorem nsz_W:∀ x:Nd,nsz x<=ndW x
  | .mk _ _ _ _ _ _ _ ks=>by have:=kdz_W ks;simp only [nsz,ndW];omega
theorem lsz_W:∀ l:List Nd,lsz l<=lsW l
  | []=>Nat.le_refl _
  | x::r=>by have:=nsz_W x;have:=lsz_W r;simp only [lsz,lsW];omega
theorem kdz_W:∀ ks:List (List Nd),kdz ks<=kdW ks
  | []=>Nat.le_refl _
  | l::r=>by have:=lsz_W l;have:=kdz_W r;simp only [kdz,kdW];omega
end
def szK:List Nd->Nat
  | []=>0
  | x::r=>kdz x.kids+szK r
theorem y53:∀ a b:List Nd,szK (a++b)=szK a+szK b
  | [],b=>by simp [szK]
  | x::r,b=>by simp only [List.cons_append,szK,y53 r b];omega
theorem y3x:∀ a b:List (List Nd),kdz (a++b)=kdz a+kdz b
  | [],b=>by simp [kdz]
  | x::r,b=>by simp only [List.cons_append,kdz,y3x r b];omega
theorem yc3:∀ l:List Nd,lsz l=l.length+szK l
  | []=>rfl
  | x::r=>by simp only [lsz,szK,List.length_cons,zw5,yc3 r];omega
theorem yg9:∀ (N:Nat) (l:List Nd),SizeOf.sizeOf l<N->lsW l<=1073741824->SC Tryz.prog 48 [.pv (z0m l)] [] (fun k=>k∈[]) (iInt (lsz l)) []
  | 0,_,h,_=>absurd h (Nat.not_lt_zero _)
  | N+1,l,hN,hb=>by
    refine SC.vc tb {} [] Tryz.func48 rfl rfl ?_
    have hl:=yc3 l
    have hw:=lsz_W l
    refine ⟨Nat,fun i=>[(4,iInt i),(3,iInt ((l.length+szK (l.take i):Nat)))],fun _=>[],fun i=>l.length - i,fun i=>i<=l.length,[],0,Nat.zero_le _,⟨rfl,ivq (by simp [szK]),trivial⟩,trivial,?_⟩
    intro i hi
    refine z00 (fun hc=>?_) fun hc=>?_
    · have hlt:=z41 (f:=Nd.enc) rfl hc
      obtain ⟨x,hx,ht,hd,hm⟩:=z2s hlt
      have happ:szK l=szK (l.take i)+(kdz x.kids+szK (l.drop (i+1))):=by
        conv=>lhs;rw [<- List.take_append_drop i l,hd]
        rw [y53];rfl
      have hone:szK (l.take (i+1))=szK (l.take i)+kdz x.kids:=by rw [ht,y53];simp [szK]
      have hxw:=(@zw2 l).2 x hm
      have hxe:=z9t x
      refine ⟨Nat,fun j=>[(5,iInt j),(3,iInt ((l.length+szK (l.take i)+kdz (x.kids.take j):Nat)))],fun _=>[],fun j=>x.kids.length - j,fun j=>j<=x.kids.length,[],0,Nat.zero_le _,⟨rfl,ivq (by simp [kdz]),trivial⟩,trivial,?_⟩
      intro j hj
      refine ⟨z08 hx,rfl,z00 (fun hc2=>?_) fun hc2=>?_⟩
      · have hlt2:=z41 (f:=eKid) rfl hc2
        obtain ⟨q,hq,ht2,hd2,hm2⟩:=z2s hlt2
        have happ2:kdz x.kids=kdz (x.kids.take j)+(lsz q+kdz (x.kids.drop (j+1))):=by
          conv=>lhs;rw [<- List.take_append_drop j x.kids,hd2]
          rw [y3x];rfl
        have hone2:kdz (x.kids.take (j+1))=kdz (x.kids.take j)+lsz q:=by rw [ht2,y3x];simp [kdz]
        have hqw:=za6 hm2
        have hkl:=kd_len x.kids
        exact ⟨z08 hx,rfl,z06 (f:=eKid) hq,rfl,[],yg9 N q (Nat.lt_of_lt_of_le (z5k hm rfl hm2) (Nat.le_of_lt_succ hN)) oM0,sR,trivial,rfl,z03 rfl oM0,z03 rfl oM0,j+1,z0g hlt2,hlt2,⟨rfl,ivq (by rw [hone2];omega),trivial⟩,trivial,rfl,rfl,rfl,rfl⟩
      · have hge:=z47 (f:=eKid) rfl hc2
        exact ⟨z03 rfl oM0,i+1,z0g hlt,hlt,⟨rfl,ivq (by rw [hone,List.take_of_length_le hge];omega),trivial⟩,trivial,rfl,rfl,rfl,rfl⟩
    · exact ⟨sE (by rw [List.take_of_length_le (z47 (f:=Nd.enc) rfl hc),hl]),trivial⟩
def uSz:List Fl->Nat
  | []=>0
  | f::r=>lsz f.body+uSz r
theorem y5b:∀ a b:List Fl,uSz (a++b)=uSz a+uSz b
  | [],b=>by simp [uSz]
  | x::r,b=>by simp only [List.cons_append,uSz,y5b r b];omega
theorem uSz_W:∀ l:List Fl,uSz l<=wtF l
  | []=>Nat.le_refl _
  | f::r=>by have:=uSz_W r;have:=lsz_W f.body;have:=y62 f.body;simp only [uSz,wtF,z37];omega
theorem sc_nodes (u:Un) (hW:z0p u<=536870912):SC Tryz.prog 26 [.pv u.enc] [] (fun k=>k∈[]) (iInt (uSz u.flows)) []:=by
  refine SC.vc tb {} [] Tryz.func26 rfl rfl ?_
  have hw:=uSz_W u.flows
  have hw2:wtF u.flows<=z0p u:=by unfold z0p;omega
  have hw3:u.flows.length<=z0p u:=by unfold z0p;omega
  refine ⟨Nat,fun i=>[(4,iInt i),(3,iInt (uSz (u.flows.take i)))],fun _=>[],fun i=>u.flows.length - i,fun i=>i<=u.flows.length,[],0,Nat.zero_le _,⟨rfl,rfl,trivial⟩,trivial,?_⟩
  intro i hi
  refine z00 (fun hc=>?_) fun hc=>?_
  · have hlt:=z41 (f:=Fl.enc) rfl hc
    obtain ⟨f,hf,ht,hd,hm⟩:=z2s hlt
    have happ:uSz u.flows=uSz (u.flows.take i)+(lsz f.body+uSz (u.flows.drop (i+1))):=by
      conv=>lhs;rw [<- List.take_append_drop i u.flows,hd]
      rw [y5b];rfl
    have hone:uSz (u.flows.take (i+1))=uSz (u.flows.take i)+lsz f.body:=by rw [ht,y5b];simp [uSz]
    exact ⟨z06 (f:=Fl.enc) hf,rfl,[],yg9 _ f.body (Nat.lt_succ_self _) (Nat.le_trans (zo5 hW hm) oM0),sR,trivial,rfl,z03 rfl oM0,z03 rfl oM0,i+1,z0g hlt,hlt,⟨rfl,ivq (by rw [hone];omega),trivial⟩,trivial,rfl,rfl,rfl,rfl⟩
  · exact ⟨sE (by rw [List.take_of_length_le (z47 (f:=Fl.enc) rfl hc)]),trivial⟩
theorem sc_ins (l:List Int):SC Tryz.prog 14 [.pv (ints l)] [] (fun k=>k∈[]) (.pv (ints (l.take 10))) []:=by
  refine SC.vc tb {} [] Tryz.func14 rfl rfl ?_
  refine z00 (fun h=>?_) fun h=>?_
  · have h2:(10:Int)<l.length:=by simpa using h
    exact ⟨10,rfl,by omega,by simp;omega,z5j,sE (by simp [ints]),trivial⟩
  · have h2:(l.length:Int)<=10:=by simpa using h
    have:l.length<=10:=by omega
    exact ⟨sE (by rw [List.take_of_length_le this]),trivial⟩
theorem zx3 (l:List Int):SC Tryz.prog 46 [.pv (ints l),.pv (ints l)] [] (fun k=>k∈[]) (iBool true) []:=by
  refine SC.vc tb { gh:=[(1,[.len 0])] } [] Tryz.func46 rfl rfl ?_
  intro hl
  simp only [List.length_map] at hl
  refine z00 (fun h1=>absurd h1 sI0) fun _=>?_
  refine ⟨Nat,fun k=>[(5,iInt k)],fun _=>[],fun k=>l.length - k,fun k=>k<=l.length,[],0,Nat.zero_le _,⟨rfl,trivial⟩,trivial,?_⟩
  intro k hk
  refine z00 (fun hc=>?_) fun hc=>?_
  · have hlt:=z41 (f:=eInt) rfl hc
    obtain ⟨x,hx,ht,hd,_⟩:=z2s hlt
    exact ⟨z06 (f:=eInt) hx,rfl,z06 (f:=eInt) hx,rfl,z00 (fun h2=>absurd h2 sI0) fun _=>⟨z03 rfl oM0,k+1,z0g hlt,hlt,⟨rfl,trivial⟩,trivial,rfl,rfl,rfl,rfl⟩⟩
  · exact ⟨sI,trivial⟩
theorem sc_alike (a b:Rs) (h1:b.st=a.st) (h2:b.code=a.code) (h3:b.out=a.out):SC Tryz.prog 47 [.pv (runv a),.pv (runv b)] [] (fun k=>k∈[]) (iBool true) []:=by
  refine SC.vc tb {} [] Tryz.func47 rfl rfl ?_
  have hS:=zx3 a.out
  obtain ⟨ins,ar,st,code,out,cost,fuel,spent⟩:=a
  obtain ⟨ins',ar',st',code',out',cost',fuel',spent'⟩:=b
  obtain rfl:st'=st:=h1
  obtain rfl:code'=code:=h2
  obtain rfl:out'=out:=h3
  refine z00 (fun _=>?_) fun h=>absurd h sI0
  refine z00 (fun _=>?_) fun h=>absurd h sI0
  exact ⟨[],hS,sR,trivial,rfl,sI,trivial⟩
def Fol (a b:Rs):Prop:=(a.st=0/\a.out <+: b.out)∨(a.st≠0/\b.st=a.st/\b.code=a.code/\b.out=a.out)
theorem zx1 (a b:Rs) (h:Fol a b) (hb:b.out.length<=1073741824):SC Tryz.prog 25 [.pv (runv a),.pv (runv b)] [] (fun k=>k∈[]) (iBool true) []:=by
  refine SC.vc tb {} [] Tryz.func25 rfl rfl ?_
  rcases h with ⟨h1,h2⟩ | ⟨h1,h2,h3,h4⟩
  · have hS:=zx3 a.out
    obtain ⟨ins,ar,st,code,out,cost,fuel,spent⟩:=a
    obtain ⟨ins',ar',st',code',out',cost',fuel',spent'⟩:=b
    obtain rfl:st=0:=h1
    obtain ⟨t,rfl⟩:∃ t,out++t=out':=h2
    refine z00 (fun _=>?_) fun h=>absurd h (by simp;omega)
    exact ⟨out.length,by simp,by omega,by simp,z5j,[],hS,SubA.same (SubA.cons (sE (by simp [ints])) sR),trivial,rfl,sI,trivial⟩
  · have hA:=sc_alike a b h2 h3 h4
    obtain ⟨ins,ar,st,code,out,cost,fuel,spent⟩:=a
    refine z00 (fun h=>absurd (by simpa using h) h1) fun _=>?_
    exact ⟨[],hA,sR,trivial,rfl,sI,trivial⟩
def runA (u:Un) (ins:List Int) (fuel:Int):Rs:={ run0 ins fuel with ar:=u.arrays.map fun a=>List.replicate a.size.toNat 0 }
theorem y0j (u:Un) (ins:List Int) {fuel:Int} (h0:0<=fuel) {B M:Int} (hB:fuel<=B) (hM:fuel<=M):Inv u.arrays.length B M (runA u ins fuel):=by
  have e:(runA u ins fuel).fuel=fuel:=by show (if fuel<0 then 0 else fuel)=fuel;rw [if_neg oM0]
  refine ⟨⟨by rw [e];exact h0,Int.le_refl _,by rw [e];show (0:Int)+fuel<=B;omega⟩,by rw [e];show ((0:Nat):Int)+fuel<=M;omega,by simp [runA]⟩
theorem main_ok {u:Un} (h:(z1a u).1=0):0<=z04 z0b u.flows 0/\∃ g,u.flows[(z04 z0b u.flows 0).toNat]? = some g/\g.params=0:=by
  obtain ⟨h1,_⟩:=(z4r u).1 h
  unfold z10 at h1
  simp only [Bool.and_eq_true] at h1
  have h2:=h1.2
  unfold z6r at h2
  simp only [Bool.and_eq_true,decide_eq_true_eq,beq_iff_eq] at h2
  obtain ⟨⟨h3,h4⟩,h5⟩:=h2
  obtain ⟨j,hj,hjl⟩:=zi2 z0b u.flows 0 oM0 h3
  refine ⟨h3,_,List.getElem?_eq_getElem oM0,?_⟩
  rw [List.getD_eq_getElem?_getD,List.getElem?_eq_getElem oM0] at h5
  exact h5
theorem y0k {u:Un} (hz:(z1a u).1=0) (ins:List Int) {fuel:Int} (h0:0<=fuel) {B M:Int} (hB:B<=4611686018427387903) (hM:M<=1073741824) (hfB:fuel<=B) (hfM:fuel<=M) :
    ∃ d r,z3r u d (z04 z0b u.flows 0) [] (runA u ins fuel)=some r/\Inv u.arrays.length B M r.2:=by
  obtain ⟨m1,g,m2,m3⟩:=main_ok hz
  have hi:=y0j u ins h0 hfB hfM
  have e:(runA u ins fuel).fuel=fuel:=by show (if fuel<0 then 0 else fuel)=fuel;rw [if_neg oM0]
  obtain ⟨r,h1,h2⟩:=(yj8 hB hM rfl (vf_of hz) (3*fuel.toNat+2)).2.2.1 _ [] _ m1 ⟨g,m2,by rw [m3];rfl⟩ hi (by rw [e];omega)
  exact ⟨_,r,h1,h2⟩
structure URel (u v:Un):Prop where
  ar:v.arrays=u.arrays
  pl:∀ name,z04 name v.flows 0=z04 name u.flows 0
  fl:∀ (i:Nat) f g,u.flows[i]? = some f->v.flows[i]? = some g->FRel (uSz u.flows) f g
theorem yk9:∀ {l:List Fl} {f:Fl},f∈l->lsz f.body<=uSz l
  | g::r,f,h=>by
    rcases List.mem_cons.1 h with rfl | h
    ·simp only [uSz];omega
    have:=yk9 h;simp only [uSz];omega
theorem y6f (m:Bool) {u v:Un} (R:URel u v) (ins:List Int) {F F':Int} (h0:0<=F) (h0':0<=F') {B M:Int} (hB:B<=4611686018427387903) (hfB:F<=B) (hfB':F'<=B) (hfM:F<=M) (hfM':F'<=M)
    (hG:G m (uSz u.flows) 0 (uSz u.flows+1) F F') {d d':Nat} {q q':Int × Rs} (h:z3r u d (z04 z0b u.flows 0) [] (runA u ins F)=some q) (h':z3r v d' (z04 z0b v.flows 0) [] (runA v ins F')=some q'):RC m (uSz u.flows) q q':=by
  have e:∀ (u:Un) {fuel:Int},0<=fuel->(runA u ins fuel).fuel=fuel:=fun u fuel h0=>by show (if fuel<0 then 0 else fuel)=fuel;rw [if_neg oM0]
  rw [R.pl] at h'
  refine y1e (B:=B) hB R.ar R.pl R.fl (d+1) d d' _ [] _ _ _ _ (Nat.lt_succ_self _) h h' (y0j u ins h0 hfB hfM).ok (y0j v ins h0' hfB' hfM').ok ⟨⟨⟨rfl,rfl⟩,⟨rfl,rfl⟩,rfl,?_,rfl,rfl⟩,?_,?_⟩
  ·simp only [runA,R.ar]
  ·rw [e u h0,e v h0'];exact hG
  exact Int.le_refl _
theorem z95 {q:Int × Rs} (h:z0z q.2=true):mEnd q=q.2:=if_pos h
theorem zl1 {q:Int × Rs} (h:Live q.2):mEnd q={ q.2 with st:=1,code:=q.1 }:=if_neg (by rw [z0t h];decide)
theorem zg5 (q:Int × Rs):(mEnd q).out=q.2.out:=by unfold mEnd;split<;>rfl
theorem rc_fol {N:Nat} {q q':Int × Rs} (h:RC true N q q'):Fol (mEnd q) (mEnd q')/\((mEnd q).st≠0->(mEnd q').cost<=(mEnd q).cost/\(mEnd q).fuel<=(mEnd q').fuel):=by
  cases h with
  | ok hv hr =>
    rw [zl1 hr.al.l,zl1 hr.al.l']
    have hg:=hr.g
    unfold G at hg
    simp only [if_true] at hg
    have hc:=hr.co
    exact ⟨.inr ⟨show (1:Int)≠0 by decide,rfl,hv,hr.al.out⟩,fun _=>⟨by simpa using hc,by simpa using hg⟩⟩
  | halt hh =>
    obtain ⟨o1,o2⟩:=hh.over
    rw [z95 o1,z95 o2]
    exact ⟨.inr ⟨hh.st,hh.st',hh.code,hh.out⟩,fun _=>⟨hh.co,hh.fu rfl⟩⟩
  | cut hc =>
    unfold Cut at hc
    simp only [if_true] at hc
    have e:=z95 (z60 hc.1)
    refine ⟨.inl ⟨by rw [e];exact hc.2.1,by rw [zg5,zg5];exact hc.2.2⟩,fun h=>absurd (by rw [e];exact hc.2.1) h⟩
theorem rc_fol2 {N:Nat} {q q':Int × Rs} (h:RC false N q q'):Fol (mEnd q') (mEnd q):=by
  cases h with
  | ok hv hr =>
    rw [zl1 hr.al.l,zl1 hr.al.l']
    exact .inr ⟨show (1:Int)≠0 by decide,rfl,hv.symm,hr.al.out.symm⟩
  | halt hh =>
    obtain ⟨o1,o2⟩:=hh.over
    rw [z95 o1,z95 o2]
    exact .inr ⟨by rw [hh.st'];exact hh.st,hh.st'.symm,hh.code.symm,hh.out.symm⟩
  | cut hc =>
    unfold Cut at hc
    simp only [Bool.false_eq_true,if_false] at hc
    have e:=z95 (z60 hc.1)
    exact .inl ⟨by rw [e];exact hc.2.1,by rw [zg5,zg5];exact hc.2.2⟩
section
structure Gn where
  pos:Nat
  types:List Int
  left:Nat
structure Plc where
  If:Bool
  Loop:Bool
  Yield:List Int
  Next:List Int
  Left:List Int
def plc0:Plc:=⟨false,false,[],[],[]⟩
section
variable (l:List UInt8)
def z05 (n:Nat) (g:Gn):Nat × Gn:=(if g.pos+1 > l.length∨g.pos+1 > 150 then 0 else (l.getD g.pos 0).toNat % n,{ g with pos:=g.pos+1 })
def z07 (t:Int) (g:Gn):Int × Gn:=(g.types.length,{ g with types:=g.types++[t] })
def gS1 (tys:List Int) (t:Int):Bool->Int->Int->List Int->Int
  | _,_,v,[]=>v
  | b,k,v,s::r=>if tys.getD s.toNat 0==t&&(b||decide (k > 0)) then gS1 tys t false (k - 1) s r else gS1 tys t false k v r
def gS2 (tys:List Int) (t:Int):Int->List Int->Int
  | v,[]=>v
  | v,s::r=>if tys.getD v.toNat 0 != t then gS2 tys t (if tys.getD s.toNat 0==t then s else v) r else v
def zd2 (seen:List Int) (t:Int) (g:Gn):Int × Gn :=
  (gS2 g.types t (gS1 g.types t true (z05 l 8 g).1 0 seen) seen,(z05 l 8 g).2)
def z1l (seen:List Int):List Int->Gn->List Int × Gn
  | [],g=>([],g)
  | t::r,g=>((zd2 l seen t g).1::(z1l seen r (zd2 l seen t g).2).1,(z1l seen r (zd2 l seen t g).2).2)
def gTyN:Nat->Gn->List Int × Gn
  | 0,g=>([],g)
  | n+1,g=>((1+((z05 l 2 g).1:Int))::(gTyN n (z05 l 2 g).2).1,(gTyN n (z05 l 2 g).2).2)
def z0n (g:Gn):List Int × Gn:=gTyN l (z05 l 3 g).1 (z05 l 3 g).2
def z0j:List Int->Gn->List Int × Gn
  | [],g=>([],g)
  | t::r,g=>((z07 t g).1::(z0j r (z07 t g).2).1,(z0j r (z07 t g).2).2)
def z79:ByteArray:=⟨#[97]⟩
def z3p:ByteArray:=⟨#[102]⟩
def z0l:ByteArray:=⟨#[]⟩
def gNums:List Int:=[0,1,2,3,-1,100]
def y3r:List Int:=[20,21,23,27]
def z46 (kind op n:Int) (name:ByteArray) (seen ins outs:List Int) (g:Gn):Nd × Gn :=
  (.mk kind op n name (z1l l seen ins g).1 (z0j outs (z1l l seen ins g).2).1 [] [],(z0j outs (z1l l seen ins g).2).2)
def z1r (seen:List Int) (g0:Gn):Nd × Gn :=
  let k:=(z05 l 12 g0).1
  let g:=(z05 l 12 g0).2
  if k=0 then z46 l 1 0 (gNums.getD (z05 l 6 g).1 0) z0l seen [] [1] (z05 l 6 g).2
  else if k=1 then z46 l 2 0 (z05 l 2 g).1 z0l seen [] [2] (z05 l 2 g).2
  else if k=2 then z46 l 3 (y3r.getD (z05 l 4 g).1 0) 0 z0l seen [1] [1] (z05 l 4 g).2
  else if k=3 then z46 l 3 22 0 z0l seen [2] [2] g
  else if k=4∨k=5∨k=6 then z46 l 4 (1+((z05 l 11 g).1:Int)) 0 z0l seen [1,1] [1] (z05 l 11 g).2
  else if k=7∨k=8 then z46 l 4 (12+((z05 l 6 g).1:Int)) 0 z0l seen [1,1] [2] (z05 l 6 g).2
  else if k=9 then z46 l 5 0 0 z79 seen [1] [1] g
  else if k=10 then z46 l 6 0 0 z79 seen [1,1] [] g
  else if (z05 l 4 g).1=0 then z46 l 7 0 0 z3p seen [1,2] [1] (z05 l 4 g).2
  else if (z05 l 4 g).1=1 then z46 l 8 0 0 z0l seen [] [1] (z05 l 4 g).2
  else z46 l 9 0 0 z0l seen [1] [] (z05 l 4 g).2
def gEnd (seen:List Int) (p:Plc) (g0:Gn):Nd × Gn :=
  let k:=(z05 l 6 g0).1
  let g:=(z05 l 6 g0).2
  if p.If=true/\k<4 then z46 l 12 0 0 z0l seen p.Yield [] g
  else if p.Loop=true/\k % 2=0 then z46 l 13 0 0 z0l seen p.Next [] g
  else if p.Loop=true then z46 l 14 0 0 z0l seen p.Left [] g
  else z46 l 15 0 0 z0l seen [1] [] g
abbrev GRec:=List Int->Plc->Gn->List Nd × Gn
def z7g (x:List Int->Nd) (t:List Int) (g:Gn):Nd × Gn:=if z01 (x []) then (x [],g) else (x (z0j t g).1,(z0j t g).2)
def gIf (rec:GRec) (all:List Int) (p:Plc) (g:Gn):Nd × Gn :=
  let t:=z0n l g
  let x:Plc:=⟨true,p.Loop,t.1,p.Next,p.Left⟩
  let c:=z1l l all [2] t.2
  let a:=rec all x c.2
  let b:=rec all x a.2
  z7g (fun o=>.mk 10 0 0 z0l c.1 o [] [a.1,b.1]) t.1 b.2
def z9n (rec:GRec) (all:List Int) (g:Gn):Nd × Gn :=
  let t:=z0n l g
  let o:=z0n l t.2
  let a:=z1l l all t.1 o.2
  let q:=z0j t.1 a.2
  let b:=rec (all++q.1) ⟨false,true,[],t.1,o.1⟩ q.2
  z7g (fun z=>.mk 11 0 0 z0l a.1 z q.1 [b.1]) o.1 b.2
def gAny (rec:Option GRec) (all:List Int) (p:Plc) (g:Gn):Nd × Gn :=
  let s:=z1r l all { g with left:=g.left - 1 }
  let k:=z05 l 6 s.2
  match rec with
  | none=>(s.1,k.2)
  | some rec=>if k.1=0 then gIf l rec all p k.2 else if k.1=1 then z9n l rec all k.2 else (s.1,k.2)
def z3c (rec:Option GRec) (p:Plc):Nat->List Nd->List Int->Gn->List Nd × Gn
  | 0,out,all,g=>(out++[(gEnd l all p g).1],(gEnd l all p g).2)
  | i+1,out,all,g =>
    if g.left=0 then (out++[(gEnd l all p g).1],(gEnd l all p g).2)
    else
      let x:=gAny l rec all p g
      if z01 x.1 then (out++[x.1],x.2) else z3c rec p i (out++[x.1]) (all++x.1.outs) x.2
def z2z:Nat->GRec
  | 0,seen,p,g=>z3c l none p (z05 l 6 g).1 [] seen (z05 l 6 g).2
  | d+1,seen,p,g=>z3c l (some (z2z d)) p (z05 l 6 g).1 [] seen (z05 l 6 g).2
def zo9 (i b:Int):List Nd:=[.mk 1 0 3 z0l [] [i] [] [],.mk 2 0 1 z0l [] [b] [] []]
def z2y (name:ByteArray) (params:List Int) (g0:Gn):Fl × Gn :=
  let s:=z0j params { g0 with types:=[],left:=30 }
  let i:=z07 1 s.2
  let b:=z07 2 i.2
  let r:=z2z l 3 (s.1++[i.1,b.1]) plc0 b.2
  (⟨name,1,params.length,r.2.types,zo9 i.1 b.1++r.1⟩,r.2)
def made:Un :=
  let m:=z2y l z0b [] ⟨0,[],0⟩
  ⟨[⟨z79,4⟩],[m.1,(z2y l z3p [1,2] m.2).1]⟩
end
end
def eB (x:UInt8):List PV:=[.val (.int .u8 (x.toNat:Int))]
def bts (l:List UInt8):PV:=.seq (l.map eB)
def z3d (l:List UInt8) (g:Gn):HO:=.box [.pv (bts l),iInt (g.pos:Int),.sl 2002 (g.types.map eInt).length,iInt (g.left:Int)]
def gH (l:List UInt8) (g:Gn):List (Nat × HO):=[(2001,z3d l g),(2002,rowI g.types)]
def gHs (l:List UInt8) (g:Gn) (seen:List Int):List (Nat × HO):=[(2001,z3d l g),(2002,rowI g.types),(2003,rowI seen)]
def InR (tys seen:List Int):Prop:=∀ s∈seen,0<=s/\s.toNat<tys.length
theorem InR.at {tys seen:List Int} (h:InR tys seen) {s:Int} (hs:s∈seen):s.toNat<(tys.map eInt).length/\(tys.map eInt)[s.toNat]? = some [vInt (tys.getD s.toNat 0)]/\s=((s.toNat:Nat):Int):=by
  obtain ⟨h1,h2⟩:=h s hs
  refine ⟨by simpa using h2,?_,by omega⟩
  rw [List.getElem?_map,List.getD,List.getElem?_eq_getElem h2];rfl
theorem z1u {l:List UInt8} {n:Nat} {g:Gn} (hn:0<n):(z05 l n g).1<n:=by
  unfold z05
  simp only
  split
  ·exact hn
  exact Nat.mod_lt _ hn
theorem u8_i64 (x:UInt8):IntKind.i64.wrap (x.toNat:Int)=(x.toNat:Int):=IntWalk.i64_in _ (by have:=x.toNat_lt;omega)
theorem i64_rem {m n:Nat} (hn:0<n):z3x .rem .i64 (m:Int) (n:Int)=some (.int .i64 ((m % n:Nat):Int)):=by
  simp only [z3x,Int.natCast_emod]
  rw [if_neg oM0,Int.tmod_eq_emod_of_nonneg oM0]
theorem ya3 {tys:List Int} {t:Int}:∀ (r:List Int) (b:Bool) (k v:Int),InR tys r->(0<=v/\(v.toNat<tys.length∨v=0))->0<=gS1 tys t b k v r/\((gS1 tys t b k v r).toNat<tys.length∨gS1 tys t b k v r=0)
  | [],_,_,_,_,hv=>hv
  | s::r,b,k,v,h,hv=>by
    unfold gS1
    have hr:InR tys r:=fun x hx=>h x (.tail _ hx)
    split
    ·have:=h s (.head _)
     exact ya3 r _ _ _ hr ⟨this.1,.inl this.2⟩
    exact ya3 r _ _ _ hr hv
theorem z1j (l:List UInt8) (seen:List Int):∀ (ts:List Int) (g:Gn),(z1l l seen ts g).2={ g with pos:=g.pos+ts.length }/\(z1l l seen ts g).1.length=ts.length
  | [],g=>⟨rfl,rfl⟩
  | t::r,g=>by
    have:=z1j l seen r (zd2 l seen t g).2
    simp only [z1l,List.length_cons,this]
    refine ⟨?_,trivial⟩
    simp only [zd2,z05]
    congr 1
    omega
theorem ya4 (l:List UInt8):∀ (n:Nat) (g:Gn),(gTyN l n g).2={ g with pos:=g.pos+n }/\(gTyN l n g).1.length=n
  | 0,g=>⟨rfl,rfl⟩
  | n+1,g=>by
    have:=ya4 l n (z05 l 2 g).2
    simp only [gTyN,List.length_cons,this]
    refine ⟨?_,trivial⟩
    simp only [z05]
    congr 1
    omega
theorem z4s (l:List UInt8) (g:Gn):(z0n l g).2={ g with pos:=g.pos+1+(z05 l 3 g).1 }/\(z0n l g).1.length=(z05 l 3 g).1:=by
  have:=ya4 l (z05 l 3 g).1 (z05 l 3 g).2
  unfold z0n
  rw [this.1]
  exact ⟨rfl,this.2⟩
theorem z22:∀ (ts:List Int) (g:Gn),(z0j ts g).2={ g with types:=g.types++ts }/\(z0j ts g).1.length=ts.length
  | [],g=>⟨by simp [z0j],rfl⟩
  | t::r,g=>by
    have:=z22 r (z07 t g).2
    simp only [z0j,List.length_cons,this]
    refine ⟨?_,trivial⟩
    simp [z07]
theorem y5q:∀ (ts:List Int) (g:Gn),∀ s∈(z0j ts g).1,(g.types.length:Int)<=s/\s<((g.types.length+ts.length:Nat):Int)
  | [],_,s,h=>by simp [z0j] at h
  | t::r,g,s,h=>by
    simp only [z0j,List.mem_cons] at h
    rcases h with rfl | h
    ·simp only [z07,List.length_cons];omega
    have:=y5q r (z07 t g).2 s h
    simp only [z07,List.length_append,List.length_cons,List.length_nil] at this ⊢
    omega
theorem ya5 {a:List Int} {i:Nat} (h:i<a.length):(a.map eInt)[i]? = some [vInt (a.getD i 0)]:=by
  rw [List.getElem?_map,List.getD,List.getElem?_eq_getElem h];rfl
def plcv (p:Plc):PV:=.agg [vBool p.If,vBool p.Loop,ints p.Yield,ints p.Next,ints p.Left]
def y65:IV->IV
  | .pv (.val (.slice none 0 0))=>.pv (.seq [])
  | x=>x
theorem y7e (x:IV):ISub x (y65 x):=by
  unfold y65
  split
  ·exact ISub.pv PSub.nil
  exact ISub.refl _
theorem zp5:∀ cs:List IV,ISubs cs (cs.map y65)
  | []=>trivial
  | x::r=>⟨y7e x,zp5 r⟩
theorem Tr.fixNil {P:Program} {c:Cx} {fr:Fr} {hp:Hp} {Q:Exit->Fr->Heap'->Prop} {x:Code} {k:Nat} {cs:List IV} (hk:look hp k=some (.box cs)) (hR:¬ c.R k) (h:Tr P c x fr (look ((k,some (.box (cs.map y65)))::hp)) Q):Tr P c x fr (look hp) Q :=
  Tr.subBox _ hk (zp5 cs) hR h
section
structure Bd (a b:Nat) (g g':Gn):Prop where
  lf:g'.left<=g.left
  ps:g'.pos+60*g'.left<=g.pos+60*g.left+a
  t1:g.types.length<=g'.types.length
  t2:g'.types.length+10*g'.left<=g.types.length+10*g.left+b
theorem Bd.trans {a b a' b':Nat} {g g' g'':Gn} (h:Bd a b g g') (h':Bd a' b' g' g''):Bd (a+a') (b+b') g g'' :=
  ⟨by have:=h.lf;have:=h'.lf;omega,by have:=h.ps;have:=h'.ps;omega,by have:=h.t1;have:=h'.t1;omega,by have:=h.t2;have:=h'.t2;omega⟩
theorem Bd.mono {a b a' b':Nat} {g g':Gn} (h:Bd a b g g') (ha:a<=a') (hb:b<=b'):Bd a' b' g g' :=
  ⟨h.lf,by have:=h.ps;omega,h.t1,by have:=h.t2;omega⟩
section
variable (l:List UInt8)
theorem z8a (n:Nat) (g:Gn):Bd 1 0 g (z05 l n g).2:=⟨Nat.le_refl _,by simp only [z05];omega,Nat.le_refl _,Nat.le_refl _⟩
theorem zg2 (seen ts:List Int) (g:Gn):Bd ts.length 0 g (z1l l seen ts g).2:=by
  rw [(z1j l seen ts g).1]
  exact ⟨Nat.le_refl _,by simp only [];omega,Nat.le_refl _,Nat.le_refl _⟩
theorem zn4 (ts:List Int) (g:Gn):Bd 0 ts.length g (z0j ts g).2:=by
  rw [(z22 ts g).1]
  exact ⟨Nat.le_refl _,Nat.le_refl _,by simp,by simp only [List.length_append];omega⟩
theorem z3o (g:Gn):Bd 3 0 g (z0n l g).2/\(z0n l g).1.length<=2:=by
  have h3:(z05 l 3 g).1<3:=z1u oM0
  obtain ⟨h1,h2⟩:=z4s l g
  refine ⟨?_,by omega⟩
  rw [h1]
  exact ⟨Nat.le_refl _,by simp only [];omega,Nat.le_refl _,Nat.le_refl _⟩
theorem y96 (kind op n:Int) (name:ByteArray) (seen ins outs:List Int) (g:Gn):Bd ins.length outs.length g (z46 l kind op n name seen ins outs g).2:=by
  have:=(zg2 l seen ins g).trans (zn4 outs (z1l l seen ins g).2)
  simpa [z46] using this
theorem zn5 (seen:List Int) (g:Gn):Bd 4 1 g (z1r l seen g).2:=by
  unfold z1r
  have h0:=z8a l 12 g
  have P:=fun n=>z8a l n (z05 l 12 g).2
  have N:=fun kind op n name ins outs g'=>y96 l kind op n name seen ins outs g'
  simp only
  split
  ·exact ((h0.trans (P 6)).trans (N _ _ _ _ [] [1] _)).mono sI0 sI0
  split
  ·exact ((h0.trans (P 2)).trans (N _ _ _ _ [] [2] _)).mono sI0 sI0
  split
  ·exact ((h0.trans (P 4)).trans (N _ _ _ _ [1] [1] _)).mono sI0 sI0
  split
  ·exact (h0.trans (N _ _ _ _ [2] [2] _)).mono sI0 sI0
  split
  ·exact ((h0.trans (P 11)).trans (N _ _ _ _ [1,1] [1] _)).mono sI0 sI0
  split
  ·exact ((h0.trans (P 6)).trans (N _ _ _ _ [1,1] [2] _)).mono sI0 sI0
  split
  ·exact (h0.trans (N _ _ _ _ [1] [1] _)).mono sI0 sI0
  split
  ·exact (h0.trans (N _ _ _ _ [1,1] [] _)).mono sI0 sI0
  split
  ·exact ((h0.trans (P 4)).trans (N _ _ _ _ [1,2] [1] _)).mono sI0 sI0
  split
  ·exact ((h0.trans (P 4)).trans (N _ _ _ _ [] [1] _)).mono sI0 sI0
  exact ((h0.trans (P 4)).trans (N _ _ _ _ [1] [] _)).mono sI0 sI0
def Plc.small (p:Plc):Prop:=p.Yield.length<=2/\p.Next.length<=2/\p.Left.length<=2
theorem bd_end (seen:List Int) (p:Plc) (hp:p.small) (g:Gn):Bd 3 0 g (gEnd l seen p g).2:=by
  obtain ⟨h1,h2,h3⟩:=hp
  unfold gEnd
  have h0:=z8a l 6 g
  have N:=fun kind op n name ins outs g'=>y96 l kind op n name seen ins outs g'
  simp only
  split
  ·exact (h0.trans (N _ _ _ _ p.Yield [] _)).mono oM0 sI0
  split
  ·exact (h0.trans (N _ _ _ _ p.Next [] _)).mono oM0 sI0
  split
  ·exact (h0.trans (N _ _ _ _ p.Left [] _)).mono oM0 sI0
  exact (h0.trans (N _ _ _ _ [1] [] _)).mono sI0 sI0
def y3i (rec:GRec):Prop:=∀ seen p g,p.small->Bd 4 0 g (rec seen p g).2
theorem y97 (x:List Int->Nd) (t:List Int) (ht:t.length<=2) (g:Gn):Bd 0 2 g (z7g x t g).2:=by
  unfold z7g
  split
  ·exact ⟨Nat.le_refl _,Nat.le_refl _,Nat.le_refl _,by show g.types.length+10*g.left<=g.types.length+10*g.left+2;omega⟩
  exact (zn4 t g).mono (Nat.le_refl _) ht
theorem bd_if {rec:GRec} (hr:y3i rec) (all:List Int) (p:Plc) (hp:p.small) (g:Gn):Bd 12 2 g (gIf l rec all p g).2:=by
  unfold gIf
  simp only
  obtain ⟨h1,h2⟩:=z3o l g
  have h3:=h1.trans (zg2 l all [2] (z0n l g).2)
  have hsm:Plc.small ⟨true,p.Loop,(z0n l g).1,p.Next,p.Left⟩:=⟨h2,hp.2.1,hp.2.2⟩
  have h4:=h3.trans (hr all ⟨true,p.Loop,(z0n l g).1,p.Next,p.Left⟩ _ hsm)
  have h5:=h4.trans (hr all ⟨true,p.Loop,(z0n l g).1,p.Next,p.Left⟩ _ hsm)
  exact (h5.trans (y97 _ _ h2 _)).mono sI0 sI0
theorem y95 {rec:GRec} (hr:y3i rec) (all:List Int) (g:Gn):Bd 12 4 g (z9n l rec all g).2:=by
  unfold z9n
  simp only
  obtain ⟨h1,h2⟩:=z3o l g
  obtain ⟨h3,h4⟩:=z3o l (z0n l g).2
  have h5:=(h1.trans h3).trans ((zg2 l all (z0n l g).1 (z0n l (z0n l g).2).2).mono h2 (Nat.le_refl 0))
  have h6:=h5.trans ((zn4 (z0n l g).1 (z1l l all (z0n l g).1 (z0n l (z0n l g).2).2).2).mono (Nat.le_refl 0) h2)
  have h7:=h6.trans (hr (all++(z0j (z0n l g).1 (z1l l all (z0n l g).1 (z0n l (z0n l g).2).2).2).1) ⟨false,true,[],(z0n l g).1,(z0n l (z0n l g).2).1⟩ _ ⟨by simp,h2,h4⟩)
  exact (h7.trans (y97 _ _ h4 _)).mono oM0 oM0
theorem bd_any {rec:Option GRec} (hr:∀ r,rec=some r->y3i r) (all:List Int) (p:Plc) (hp:p.small) (g:Gn) (hg:0<g.left):Bd 0 0 g (gAny l rec all p g).2:=by
  have h0:({ g with left:=g.left - 1 }:Gn).left+1=g.left:=by show g.left - 1+1=g.left;omega
  have key:∀ g',Bd 17 5 { g with left:=g.left - 1 } g'->Bd 0 0 g g':=fun g' h =>
    ⟨by have:=h.lf;omega,by have:=h.ps;have e:({ g with left:=g.left - 1 }:Gn).pos=g.pos:=rfl;omega,h.t1,by have:=h.t2;have e:({ g with left:=g.left - 1 }:Gn).types=g.types:=rfl;rw [e] at this;omega⟩
  have hs:=(zn5 l all { g with left:=g.left - 1 }).trans (z8a l 6 _)
  unfold gAny
  simp only
  cases rec with
  | none=>exact key _ (hs.mono oM0 oM0)
  | some r =>
    simp only
    split
    ·exact key _ ((hs.trans (bd_if l (hr r rfl) all p hp _)).mono oM0 oM0)
    split
    ·exact key _ ((hs.trans (y95 l (hr r rfl) all _)).mono oM0 oM0)
    exact key _ (hs.mono oM0 oM0)
theorem zy2 {rec:Option GRec} (hr:∀ r,rec=some r->y3i r) (p:Plc) (hp:p.small):∀ (i:Nat) (out:List Nd) (all:List Int) (g:Gn),Bd 3 0 g (z3c l rec p i out all g).2
  | 0,out,all,g=>bd_end l all p hp g
  | i+1,out,all,g=>by
    unfold z3c
    split
    ·exact bd_end l all p hp g
    rename_i hl
    have h1:=bd_any l hr all p hp g oM0
    simp only
    split
    ·exact h1.mono oM0 oM0
    exact (h1.trans (zy2 hr p hp i _ _ _)).mono oM0 oM0
theorem z7b:∀ d:Nat,y3i (z2z l d)
  | 0=>fun seen p g hp=>((z8a l 6 g).trans (zy2 l (rec:=none) (fun r h=>by cases h) p hp _ _ _ _)).mono oM0 oM0
  | d+1=>fun seen p g hp=>((z8a l 6 g).trans (zy2 l (rec:=some (z2z l d)) (fun r h=>by cases h;exact z7b d) p hp _ _ _ _)).mono oM0 oM0
def gRec:Nat->Option GRec
  | 0=>none
  | d+1=>some (z2z l d)
theorem ya2 (d:Nat):∀ r,gRec l d=some r->y3i r:=by
  intro r h
  cases d with
  | zero=>cases h
  | succ d=>cases h;exact z7b l d
theorem z7e (d:Nat) (seen:List Int) (p:Plc) (g:Gn):z2z l d seen p g=z3c l (gRec l d) p (z05 l 6 g).1 [] seen (z05 l 6 g).2:=by cases d<;>rfl
end
theorem InR.mono {tys tys' seen:List Int} (h:InR tys seen) (hl:tys.length<=tys'.length):InR tys' seen:=fun s hs=>⟨(h s hs).1,Nat.lt_of_lt_of_le (h s hs).2 hl⟩
theorem InR.app {tys a b:List Int} (h:InR tys a) (h':InR tys b):InR tys (a++b):=fun s hs=>(List.mem_append.1 hs).elim (h s) (h' s)
theorem InR.outs (ts:List Int) (g:Gn):InR (z0j ts g).2.types (z0j ts g).1:=by
  intro s hs
  have:=y5q ts g s hs
  rw [(z22 ts g).1]
  simp only [List.length_append]
  omega
section
variable (l:List UInt8)
theorem yc8 (kind op n:Int) (name:ByteArray) (seen ins outs:List Int) (g:Gn):InR (z46 l kind op n name seen ins outs g).2.types (z46 l kind op n name seen ins outs g).1.outs/\(z46 l kind op n name seen ins outs g).1.outs.length=outs.length :=
  ⟨InR.outs outs _,(z22 outs _).2⟩
theorem y50 (seen:List Int) (g:Gn):InR (z1r l seen g).2.types (z1r l seen g).1.outs/\(z1r l seen g).1.outs.length<=1:=by
  have N:=fun kind op n name ins outs g'=>yc8 l kind op n name seen ins outs g'
  have fin:∀ {x:Nd × Gn} {k:Nat},InR x.2.types x.1.outs/\x.1.outs.length=k->k<=1->InR x.2.types x.1.outs/\x.1.outs.length<=1:=fun h hk=>⟨h.1,by omega⟩
  unfold z1r
  simp only
  split
  ·exact fin (N _ _ _ _ _ [1] _) sI0
  split
  ·exact fin (N _ _ _ _ _ [2] _) sI0
  split
  ·exact fin (N _ _ _ _ _ [1] _) sI0
  split
  ·exact fin (N _ _ _ _ _ [2] _) sI0
  split
  ·exact fin (N _ _ _ _ _ [1] _) sI0
  split
  ·exact fin (N _ _ _ _ _ [2] _) sI0
  split
  ·exact fin (N _ _ _ _ _ [1] _) sI0
  split
  ·exact fin (N _ _ _ _ _ [] _) sI0
  split
  ·exact fin (N _ _ _ _ _ [1] _) sI0
  split
  ·exact fin (N _ _ _ _ _ [1] _) sI0
  exact fin (N _ _ _ _ _ [] _) sI0
theorem y30 (x:List Int->Nd) (hx:∀ o,(x o).outs=o) (t:List Int) (ht:t.length<=2) (g:Gn):InR (z7g x t g).2.types (z7g x t g).1.outs/\(z7g x t g).1.outs.length<=2:=by
  unfold z7g
  split
  ·rw [hx];exact ⟨fun s hs=>by simp at hs,by simp⟩
  rw [hx];exact ⟨InR.outs t g,by rw [(z22 t g).2];exact ht⟩
theorem y5i {rec:Option GRec} (all:List Int) (p:Plc) (g:Gn):InR (gAny l rec all p g).2.types (gAny l rec all p g).1.outs/\(gAny l rec all p g).1.outs.length<=2:=by
  have hs:=y50 l all { g with left:=g.left - 1 }
  unfold gAny
  simp only
  cases rec with
  | none=>exact ⟨hs.1,Nat.le_trans hs.2 dC0⟩
  | some r =>
    simp only
    split
    ·unfold gIf;exact y30 _ (fun _=>rfl) _ (z3o l _).2 _
    split
    ·unfold z9n;exact y30 _ (fun _=>rfl) _ (z3o l _).2 _
    exact ⟨hs.1,Nat.le_trans hs.2 dC0⟩
end
theorem any_left (l:List UInt8) {rec:Option GRec} (hr:∀ r,rec=some r->y3i r) (all:List Int) (p:Plc) (hp:p.small) (g:Gn) (hg:0<g.left):(gAny l rec all p g).2.left+1<=g.left:=by
  have h0:({ g with left:=g.left - 1 }:Gn).left+1=g.left:=by show g.left - 1+1=g.left;omega
  have hs:=(zn5 l all { g with left:=g.left - 1 }).trans (z8a l 6 _)
  have fin:∀ {a b:Nat} {g':Gn},Bd a b { g with left:=g.left - 1 } g'->g'.left+1<=g.left:=fun h=>by have:=h.lf;omega
  unfold gAny
  simp only
  cases rec with
  | none=>exact fin hs
  | some r =>
    simp only
    split
    ·exact fin (hs.trans (bd_if l (hr r rfl) all p hp _))
    split
    ·exact fin (hs.trans (y95 l (hr r rfl) all _))
    exact fin hs
theorem zv5 (l:List UInt8) (rec:Option GRec) (p:Plc):∀ (i:Nat) (out:List Nd) (all:List Int) (g:Gn),(z3c l rec p i out all g).1.length<=out.length+i+1
  | 0,out,all,g=>by simp [z3c]
  | i+1,out,all,g=>by
    unfold z3c
    split
    ·simp
    simp only
    split
    ·simp
    have:=zv5 l rec p i (out++[(gAny l rec all p g).1]) (all++(gAny l rec all p g).1.outs) (gAny l rec all p g).2
    simp only [List.length_append,List.length_cons,List.length_nil] at this
    omega
theorem zp0 (l:List UInt8) (d:Nat) (seen:List Int) (p:Plc) (g:Gn):(z2z l d seen p g).1.length<=6:=by
  rw [z7e]
  have h6:(z05 l 6 g).1<6:=z1u oM0
  have:=zv5 l (gRec l d) p (z05 l 6 g).1 [] seen (z05 l 6 g).2
  simp only [List.length_nil] at this
  omega
theorem ya1 (l:List UInt8) (name:ByteArray) (params:List Int) (g:Gn) (hp:params.length<=10) (hg:g.pos<=100):(z2y l name params g).2.pos<=2000:=by
  have hS:=(z22 params { g with types:=[],left:=30 }).1
  have hb:=(z7b l 3 ((z0j params { g with types:=[],left:=30 }).1++[(z07 1 (z0j params { g with types:=[],left:=30 }).2).1,(z07 2 (z07 1 (z0j params { g with types:=[],left:=30 }).2).2).1]) plc0 (z07 2 (z07 1 (z0j params { g with types:=[],left:=30 }).2).2).2 ⟨by simp [plc0],by simp [plc0],by simp [plc0]⟩).ps
  have h1:(z07 2 (z07 1 (z0j params { g with types:=[],left:=30 }).2).2).2.pos=g.pos:=by rw [hS];rfl
  have h2:(z07 2 (z07 1 (z0j params { g with types:=[],left:=30 }).2).2).2.left=30:=by rw [hS];rfl
  rw [h1,h2] at hb
  show (z2z l 3 _ plc0 _).2.pos<=2000
  omega
end
section
section
variable (l:List UInt8)
theorem y6w (kind op n:Int) (name:ByteArray) (seen ins outs:List Int) (g:Gn):wtN (z46 l kind op n name seen ins outs g).1=ins.length+outs.length+name.size:=by
  rw [y6v]
  show (z1l l seen ins g).1.length+(z0j outs _).1.length+0+name.size+0=_
  rw [(z1j l seen ins g).2,(z22 outs _).2]
  omega
theorem yn2 (seen:List Int) (g:Gn):wtN (z1r l seen g).1<=4:=by
  unfold z1r
  simp only
  have hn:z0l.size=0:=rfl
  have ha:z79.size=1:=rfl
  have hf:z3p.size=1:=rfl
  repeat' split
  all_goals (rw [y6w];simp only [List.length_cons,List.length_nil,hn,ha,hf];omega)
theorem wt_end (seen:List Int) (p:Plc) (hp:p.small) (g:Gn):wtN (gEnd l seen p g).1<=2:=by
  obtain ⟨h1,h2,h3⟩:=hp
  unfold gEnd
  simp only
  have hn:z0l.size=0:=rfl
  repeat' split
  all_goals (rw [y6w];simp only [List.length_cons,List.length_nil,hn];omega)
def y8z (N:Nat) (rec:GRec):Prop:=∀ seen p g,p.small->wtL (rec seen p g).1<=N/\(rec seen p g).1.length<=6
theorem yn1 (x:List Int->Nd) (t:List Int) (ht:t.length<=2) (g:Gn) (N:Nat) (hx:∀ o,wtN (x o)=o.length+N):wtN (z7g x t g).1<=N+2:=by
  unfold z7g
  split
  ·rw [hx];simp
  rw [hx,(z22 t g).2];omega
theorem wt_if {N:Nat} {rec:GRec} (hr:y8z N rec) (all:List Int) (p:Plc) (hp:p.small) (g:Gn):wtN (gIf l rec all p g).1<=2*N+20:=by
  unfold gIf
  simp only
  obtain ⟨_,h2⟩:=z3o l g
  have hsm:Plc.small ⟨true,p.Loop,(z0n l g).1,p.Next,p.Left⟩:=⟨h2,hp.2.1,hp.2.2⟩
  refine Nat.le_trans (yn1 _ _ h2 _ (1+(1+((rec all ⟨true,p.Loop,(z0n l g).1,p.Next,p.Left⟩ (z1l l all [2] (z0n l g).2).2).1.length+wtL (rec all ⟨true,p.Loop,(z0n l g).1,p.Next,p.Left⟩ (z1l l all [2] (z0n l g).2).2).1)+(1+((rec all ⟨true,p.Loop,(z0n l g).1,p.Next,p.Left⟩ (rec all ⟨true,p.Loop,(z0n l g).1,p.Next,p.Left⟩ (z1l l all [2] (z0n l g).2).2).2).1.length+wtL (rec all ⟨true,p.Loop,(z0n l g).1,p.Next,p.Left⟩ (rec all ⟨true,p.Loop,(z0n l g).1,p.Next,p.Left⟩ (z1l l all [2] (z0n l g).2).2).2).1)))) fun o=>?_) ?_
  ·simp only [wtN,wtK,(z1j l all [2] (z0n l g).2).2,show z0l.size=0 from rfl,List.length_cons,List.length_nil]
   omega
  have h3:=hr all _ (z1l l all [2] (z0n l g).2).2 hsm
  have h4:=hr all _ (rec all ⟨true,p.Loop,(z0n l g).1,p.Next,p.Left⟩ (z1l l all [2] (z0n l g).2).2).2 hsm
  omega
theorem wt_loop {N:Nat} {rec:GRec} (hr:y8z N rec) (all:List Int) (g:Gn):wtN (z9n l rec all g).1<=2*N+20:=by
  unfold z9n
  simp only
  obtain ⟨_,h2⟩:=z3o l g
  obtain ⟨_,h4⟩:=z3o l (z0n l g).2
  generalize hA:z1l l all (z0n l g).1 (z0n l (z0n l g).2).2=A
  have hAl:A.1.length<=2:=by rw [<- hA,(z1j l all _ _).2];exact h2
  generalize hQ:z0j (z0n l g).1 A.2=Q
  have hQl:Q.1.length<=2:=by rw [<- hQ,(z22 _ _).2];exact h2
  have h5:=hr (all++Q.1) ⟨false,true,[],(z0n l g).1,(z0n l (z0n l g).2).1⟩ Q.2 ⟨by simp,h2,h4⟩
  generalize hB:rec (all++Q.1) ⟨false,true,[],(z0n l g).1,(z0n l (z0n l g).2).1⟩ Q.2=B at h5
  refine Nat.le_trans (yn1 _ _ h4 _ (A.1.length+Q.1.length+(1+(B.1.length+wtL B.1))) fun o=>?_) ?_
  ·simp only [wtN,wtK,show z0l.size=0 from rfl]
   omega
  omega
theorem wt_any {N:Nat} {rec:Option GRec} (hr:∀ r,rec=some r->y8z N r) (all:List Int) (p:Plc) (hp:p.small) (g:Gn):wtN (gAny l rec all p g).1<=2*N+20:=by
  have hs:=yn2 l all { g with left:=g.left - 1 }
  unfold gAny
  simp only
  cases rec with
  | none=>exact Nat.le_trans hs oM0
  | some r =>
    simp only
    split
    ·exact wt_if l (hr r rfl) all p hp _
    split
    ·exact wt_loop l (hr r rfl) all _
    exact Nat.le_trans hs oM0
theorem y18 {N:Nat} {rec:Option GRec} (hr:∀ r,rec=some r->y8z N r) (p:Plc) (hp:p.small):∀ (i:Nat) (out:List Nd) (all:List Int) (g:Gn),wtL (z3c l rec p i out all g).1<=wtL out+(i+1)*(2*N+20)
  | 0,out,all,g=>by
    have:=wt_end l all p hp g
    simp only [z3c,z7w,wtL]
    omega
  | i+1,out,all,g=>by
    have he:=wt_end l all p hp g
    have hx:=wt_any l hr all p hp g
    have e:(i+1+1)*(2*N+20)=(i+1)*(2*N+20)+(2*N+20):=Nat.succ_mul _ _
    unfold z3c
    split
    ·simp only [z7w,wtL];omega
    simp only
    split
    ·simp only [z7w,wtL];omega
    have:=y18 hr p hp i (out++[(gAny l rec all p g).1]) (all++(gAny l rec all p g).1.outs) (gAny l rec all p g).2
    simp only [z7w,wtL] at this ⊢
    omega
def zu4:Nat->Nat
  | 0=>120
  | d+1=>6*(2*zu4 d+20)
theorem y8v (d:Nat):zu4 (d+1)=6*(2*zu4 d+20):=rfl
theorem wt_gList (d:Nat):y8z (zu4 d) (z2z l d):=by
  induction d with
  | zero =>
    intro seen p g hp
    refine ⟨?_,zp0 l 0 seen p g⟩
    have h6:(z05 l 6 g).1<6:=z1u oM0
    have:=y18 l (N:=0) (rec:=none) (fun r h=>by cases h) p hp (z05 l 6 g).1 [] seen (z05 l 6 g).2
    rw [z7e]
    show wtL (z3c l none p (z05 l 6 g).1 [] seen (z05 l 6 g).2).1<=zu4 0
    generalize wtL (z3c l none p (z05 l 6 g).1 [] seen (z05 l 6 g).2).1=z at this
    generalize (z05 l 6 g).1=k at *
    have e:zu4 0=120:=rfl
    simp only [wtL,Nat.zero_add,Nat.mul_zero] at this
    rw [e]
    omega
  | succ d ih =>
    intro seen p g hp
    refine ⟨?_,zp0 l (d+1) seen p g⟩
    have h6:(z05 l 6 g).1<6:=z1u oM0
    have:=y18 l (N:=zu4 d) (rec:=some (z2z l d)) (fun r h=>by cases h;exact ih) p hp (z05 l 6 g).1 [] seen (z05 l 6 g).2
    rw [z7e]
    rw [show gRec l (d+1)=some (z2z l d) from rfl,y8v]
    generalize wtL (z3c l (some (z2z l d)) p (z05 l 6 g).1 [] seen (z05 l 6 g).2).1=z at this
    generalize (z05 l 6 g).1=k at *
    generalize zu4 d=m at *
    have h7:(k+1)*(2*m+20)<=6*(2*m+20):=Nat.mul_le_mul_right _ oM0
    simp only [wtL,Nat.zero_add] at this
    exact Nat.le_trans this h7
theorem zc4 (name:ByteArray) (params:List Int) (hp:params.length<=10) (g:Gn):(z2y l name params g).1.types.length<=1000/\z37 (z2y l name params g).1.body<=1000000:=by
  have hs:plc0.small:=⟨by simp [plc0],by simp [plc0],by simp [plc0]⟩
  have hS:=(z22 params { g with types:=[],left:=30 }).1
  generalize hB:(z07 2 (z07 1 (z0j params { g with types:=[],left:=30 }).2).2).2=B
  generalize hE:(z0j params { g with types:=[],left:=30 }).1++[(z07 1 (z0j params { g with types:=[],left:=30 }).2).1,(z07 2 (z07 1 (z0j params { g with types:=[],left:=30 }).2).2).1]=E
  have h1:B.types.length=params.length+2:=by rw [<- hB,hS];simp [z07]
  have h2:B.left=30:=by rw [<- hB,hS];rfl
  have hb:=(z7b l 3 E plc0 B hs).t2
  have hw:=wt_gList l 3 E plc0 B hs
  have e:z2y l name params g=(⟨name,1,params.length,(z2z l 3 E plc0 B).2.types,zo9 (z07 1 (z0j params { g with types:=[],left:=30 }).2).1 (z07 2 (z07 1 (z0j params { g with types:=[],left:=30 }).2).2).1++(z2z l 3 E plc0 B).1⟩,(z2z l 3 E plc0 B).2):=by
    unfold z2y
    simp only [hB,hE]
  rw [e]
  refine ⟨by simp only;omega,?_⟩
  simp only [z37,List.length_append,z7w]
  have h3:wtL (zo9 (z07 1 (z0j params { g with types:=[],left:=30 }).2).1 (z07 2 (z07 1 (z0j params { g with types:=[],left:=30 }).2).2).1)=2:=rfl
  have h4:(zo9 (z07 1 (z0j params { g with types:=[],left:=30 }).2).1 (z07 2 (z07 1 (z0j params { g with types:=[],left:=30 }).2).2).1).length=2:=rfl
  have h5:zu4 3<=500000:=by simp only [zu4];omega
  omega
theorem wt_made:z0p (made l)<=536870912:=by
  have h1:=zc4 l z0b [] sI0 ⟨0,[],0⟩
  have h2:=zc4 l z3p [1,2] sI0 (z2y l z0b [] ⟨0,[],0⟩).2
  have e1:(z2y l z0b [] ⟨0,[],0⟩).1.name.size=4:=rfl
  have e2:(z2y l z3p [1,2] (z2y l z0b [] ⟨0,[],0⟩).2).1.name.size=1:=rfl
  have e3:z79.size=1:=rfl
  simp only [z0p,made,wtA,wtF,List.length_cons,List.length_nil,e1,e2,e3]
  omega
end
end
theorem iota_mem {n:Nat} {v:Int} (h:v∈iota n):0<=v/\v<n:=by
  simp only [iota,List.mem_map,List.mem_range] at h
  obtain ⟨i,hi,rfl⟩:=h
  omega
theorem made_sz (l:List UInt8):uSz (made l).flows<=4000000:=by
  have h1:=(zc4 l z0b [] sI0 ⟨0,[],0⟩).2
  have h2:=(zc4 l z3p [1,2] sI0 (z2y l z0b [] ⟨0,[],0⟩).2).2
  refine Nat.le_trans (uSz_W _) ?_
  simp only [made,wtF]
  have e1:(z2y l z0b [] ⟨0,[],0⟩).1.name.size=4:=rfl
  have e2:(z2y l z3p [1,2] (z2y l z0b [] ⟨0,[],0⟩).2).1.name.size=1:=rfl
  have t1:=(zc4 l z0b [] sI0 ⟨0,[],0⟩).1
  have t2:=(zc4 l z3p [1,2] sI0 (z2y l z0b [] ⟨0,[],0⟩).2).1
  omega
theorem simple_r (u:Un) (f:Fl) (x:Nd) (h10:x.kind≠10) (h11:x.kind≠11):NR u f x:=by
  intro deep w all all' to M to' hty nw hv p r K R' t0 S0 S1 y nx lv he hK h13 h14 h12 hL hC
  have hb:=z19 u f deep _ all hv
  have e10:(x.kind==10)=false:=by simpa using h10
  have e11:(x.kind==11)=false:=by simpa using h11
  rw [z11 u f deep w all hb e10 e11] at hv
  obtain ⟨a1,ho1,a3,a4,a5⟩:=zc2 hv
  have hrun:=z9y to x
  rw [if_neg (by simp [e11]),if_neg (by simp [e10]),p.run] at hrun
  obtain ⟨rfl,rfl⟩:=Prod.mk.inj hrun
  have mo:∀ v∈x.outs,v∈dN x:=fun v h=>by rw [zn8];simp [h]
  have cl:z01 x=z0q x.kind:=by unfold z01;rw [e10,e11];rfl
  have hof:∀ {a b q q':List Int},EqT to' all a b->mOf a x.args=some q->mOf b (trA to' x).args=some q'->q'=q:=fun {a b q q'} hI g g'=>by
    have e2:mOf b (x.args.map (z0o to'))=some q':=g'
    rw [hI.mof a1,g] at e2
    exact (Option.some.inj e2).symm
  have so:∀ {a b a2 b2:List Int} {z:Int},EqT to' all a b->setO x.outs a z a2->setO x.outs b z b2->EqT to' (all++x.outs) a2 b2:=fun {a b a2 b2 z} hI g g' =>
    hI.seto ho1 g g' (fun v hv hm=>nw.stv v hv _ (mo _ hm) rfl) fun v hv=>nw.ft v (mo v hv)
  by_cases hE:12<=x.kind
  ·have hle:=a5 hE
   have ce:z01 x=true:=by
     rw [cl]
     rcases (show x.kind=12∨x.kind=13∨x.kind=14∨x.kind=15 by omega) with e | e | e | e<;>rw [e]<;>rfl
   obtain ⟨rfl,rfl⟩:=hC ce
   rw [List.append_nil]
   have c1:∀ k,k=13∨k=14->x.kind=k->cnN k x≠0:=fun k _ e=>by rw [z7y,e];simp
   refine .ender hE hle rfl ?_ fun a b q q' hI g g'=>?_
   ·rcases (show x.kind=12∨x.kind=13∨x.kind=14∨x.kind=15 by omega) with e | e | e | e
    ·exact .inl (h12 e).1
    ·exact .inl (hK.resolve_right fun h=>c1 13 (.inl rfl) e h.1)
    ·exact .inl (hK.resolve_right fun h=>c1 14 (.inr rfl) e h.2)
    exact .inr e
   obtain rfl:=hof hI g g'
   rcases (show x.kind=12∨x.kind=13∨x.kind=14∨x.kind=15 by omega) with e | e | e | e
   ·exact .inl ⟨e,(h12 e).2,rfl,hI.sub fun v hv=>he.s0 v hv⟩
   ·exact .inr (.inl ⟨e,h13 (c1 13 (.inl rfl) e),rfl,hI.sub fun v hv=>he.s1 v hv⟩)
   ·exact .inr (.inr (.inl ⟨e,h14 (c1 14 (.inr rfl) e),rfl,hI.sub fun v hv=>he.s1 v hv⟩))
   exact .inr (.inr (.inr ⟨e,rfl⟩))
  have ce:z01 x=false:=by
    rw [cl]
    simp [z0q];omega
  show LRel 0 0 (EqT to' all) (x::r) K (trA to' x::R') _
  cases hm:z80 x with
  | true =>
    obtain ⟨hHL,o,ho⟩:=a3 hm
    have hHL':HL (trA to' x):=by cases x;exact hHL
    refine .both (J:=EqT to' (all++x.outs)) hHL hHL' (by cases x;exact Nat.le_refl _) (fun a b a2' b2' hI ha hb2=>?_) (hL ce)
    obtain ⟨q,z,o1,g1,g2,g3,g4⟩:=ha
    obtain ⟨q',z',o1',g1',g2',g3',g4'⟩:=hb2
    obtain rfl:=hof hI g1 g1'
    have g2'':y3w x q'=some z':=by cases x;exact g2'
    rw [g2''] at g2;cases g2
    have g3'':x.outs[0]? = some o1':=g3'
    obtain rfl:o1=o1':=by rw [g3] at g3'';exact Option.some.inj g3''
    rw [ho] at g3 so ⊢
    obtain rfl:o=o1:=by simpa using g3
    exact so hI g4 g4'
  | false =>
    have n1:x.kind≠1:=fun e=>by rw [z80,e] at hm;cases hm
    have n2:x.kind≠2:=fun e=>by rw [z80,e] at hm;cases hm
    exact .eff (J:=EqT to' (all++x.outs)) ⟨n1,n2,h10,h11,by omega,by omega,by omega,by omega⟩ rfl rfl rfl rfl (fun a b q q' hI g g'=>hof hI g g') (fun a b a2' b2' z hI ha hb2=>so hI ha hb2) (hL ce)
theorem node_r (u:Un) (f:Fl) (x:Nd) (ih:∀ q∈x.kids,LA u f q/\LB u f q):NR u f x:=by
  by_cases h10:x.kind=10
  ·exact if_r u f x ih h10
  by_cases h11:x.kind=11
  ·exact loop_r u f x ih h11
  exact simple_r u f x h10 h11
theorem y8s {u:Un} {f:Fl} {deep:Int} {w:Wh} {all:List Int} {x:Nd} (h:z2r u f deep w all x=true):inR f.types.length x.outs:=by
  have hb:=z19 u f deep _ all h
  by_cases h10:x.kind=10
  ·obtain ⟨a,b,hk⟩:=z2k hb h10
   rw [z3w u f deep w all hb h10 hk] at h
   simp only [Bool.and_eq_true] at h
   exact z1k h.2
  by_cases h11:x.kind=11
  ·obtain ⟨a,hk⟩:=z1m hb h11
   rw [z28 u f deep w all hb h11 hk] at h
   simp only [Bool.and_eq_true] at h
   exact z1k h.2
  rw [z11 u f deep w all hb (by simpa using h10) (by simpa using h11)] at h
  exact ok_in h
theorem y5p:∀ {l:List Nd} {v:Int},v∈l.flatMap Nd.outs->v∈dL l
  | x::l,v,h=>by
    simp only [List.flatMap_cons,List.mem_append] at h
    rw [dL]
    rcases h with h | h
    ·exact List.mem_append_left _ (by rw [zn8];simp [h])
    exact List.mem_append_right _ (y5p h)
theorem y9j {u:Un} {f:Fl} {x:Nd} {deep:Int} {w:Wh} {all all':List Int} {to to':TT} {N:List Nd} (hty:HT f) (nw:New f (dL [x]) all all' to) (hv:vGo u f deep w all [x]=true) (P:TPost u f deep w all' to [x] N to') :
    NPost u f deep w all all' to x N to'/\z01 x=true/\New f (dN x) all all' to/\z2r u f deep w all x=true:=by
  simp only [vGo,Bool.and_eq_true,beq_iff_eq,List.isEmpty_nil] at hv
  have hd:¬ deep > 100:=by simpa using hv.1.1.1
  have hdl:dL [x]=dN x:=by simp [dL]
  rw [hdl] at nw
  obtain ⟨M,to1,p⟩:=y69 u f x (fun q _=>zf4 u f _ q (Nat.lt_succ_self _)) deep w all all' to hty hd nw.nd nw.fa nw.ft nw.rel hv.1.1.2
  have h1:=P.raw
  have h2:trR [] to [x]=(M,to1):=by
    simp only [trR,p.run,List.nil_append]
    split<;>rfl
  rw [h2] at h1
  obtain ⟨rfl,rfl⟩:=Prod.mk.inj h1
  exact ⟨p,hv.1.2,nw,hv.1.1.2⟩
theorem y5l {u:Un} {f:Fl} {x z:Nd} {r:List Nd} {deep:Int} {w:Wh} {all all':List Int} {to to':TT} {N:List Nd} (hty:HT f) (nw:New f (dL (x::z::r)) all all' to) (hv:vGo u f deep w all (x::z::r)=true)
    (P:TPost u f deep w all' to (x::z::r) N to') :
    ∃ M to1 R,NPost u f deep w all all' to x M to1/\z01 x=false/\New f (dN x) all all' to/\z2r u f deep w all x=true/\TPost u f deep w (all'++M.flatMap Nd.outs) to1 (z::r) R to'/\N=M++R /\
      New f (dL (z::r)) (all++x.outs) (all'++M.flatMap Nd.outs) to1/\vGo u f deep w (all++x.outs) (z::r)=true:=by
  unfold vGo at hv
  simp only [Bool.and_eq_true,beq_iff_eq,List.isEmpty_cons] at hv
  have hd:¬ deep > 100:=by simpa using hv.1.1.1
  have hdl:dL (x::z::r)=dN x++dL (z::r):=by rw [dL]
  rw [hdl] at nw
  obtain ⟨n1,n2,n3⟩:=List.nodup_append.1 nw.nd
  have nwx:=nw.sub n1 fun v h=>List.mem_append_left _ h
  obtain ⟨M,to1,p⟩:=y69 u f x (fun q _=>zf4 u f _ q (Nat.lt_succ_self _)) deep w all all' to hty hd n1 nwx.fa nwx.ft nw.rel hv.1.1.2
  rcases p.post with ⟨c1,_⟩ | ⟨c1,c2,c3⟩
  ·rw [hv.1.2] at c1;cases c1
  have ho:inR f.types.length x.outs:=y8s hv.1.1.2
  have nwr:New f (dL (z::r)) (all++x.outs) (all'++M.flatMap Nd.outs) to1:=by
    refine ⟨n2,fun v hm=>?_,fun v hm hh=>?_,fun v hm=>(p.keys v fun hn=>n3 v hn v hm rfl).trans (nw.ft v (List.mem_append_right _ hm)),c3,fun v hh=>?_⟩
    ·rw [List.contains_append,nw.fa v (List.mem_append_right _ hm),Bool.false_or,<- Bool.not_eq_true,List.contains_iff_mem]
     exact fun ho=>n3 v (by rw [zn8];simp [ho]) v hm rfl
    ·rcases List.mem_append.1 hh with h | h
     ·exact nw.fb v (List.mem_append_right _ hm) h
     have h2:=(yk0 x to).subset (by rw [p.run];exact y5p h)
     exact n3 v h2 v hm rfl
    rcases List.mem_append.1 hh with h | h
    ·exact nw.inr v h
    exact ho v h
  obtain ⟨R,to2,q⟩:=zf4 u f _ (z::r) (Nat.lt_succ_self _) deep w (all++x.outs) (all'++M.flatMap Nd.outs) to1 hty sI0 n2 nwr.fa nwr.ft c3 hv.2
  have h1:=P.raw
  have hop:z18 ([]++(trN to x).1)=false:=by rw [p.run];exact y6c c2 rfl
  have h2:trR [] to (x::z::r)=(M++R,to2):=by
    rw [trR,if_neg (by rw [hop];simp),p.run]
    rw [p.run] at hop
    rw [q.run _ hop];simp
  rw [h2] at h1
  obtain ⟨rfl,rfl⟩:=Prod.mk.inj h1
  exact ⟨M,to1,R,p,hv.1.2,nwx,hv.1.1.2,q,rfl,nwr,hv.2⟩
theorem go_A (u:Un) (f:Fl):∀ (l:List Nd),(∀ x∈l,NR u f x)->LA u f l
  | [],_=>fun _ _ _ _ _ _ _ _ h=>absurd rfl h
  | [x],ih=>fun deep w all all' to N to' hty _ nw hv P K t0 S0 S1 y nx lv he hK h13 h14 h12=>by
    obtain ⟨p,c,nwx,hvx⟩:=y9j hty nw hv P
    have e:∀ k,cnL k [x]=cnN k x:=fun k=>by simp [cnL]
    rw [e,e] at hK
    rw [e] at h13 h14
    have:=ih x (.head _) deep w all all' to N to' hty nwx hvx p [] K [] t0 S0 S1 y nx lv he (hK.imp_right fun h=>⟨h.1,h.2.1⟩) h13 h14 (fun e12=>⟨hK.resolve_right (fun h=>Bool.noConfusion (h.2.2.symm.trans (y67 hvx e12).1)),h12 e12⟩) (fun h=>by rw [c] at h;cases h) fun _=>⟨rfl,rfl⟩
    rwa [List.append_nil] at this
  | x::z::r,ih=>fun deep w all all' to N to' hty _ nw hv P K t0 S0 S1 y nx lv he hK h13 h14 h12=>by
    obtain ⟨M,to1,R,p,c,nwx,hvx,q,rfl,nwr,hvr⟩:=y5l hty nw hv P
    have e:∀ k,cnL k (x::z::r)=cnN k x+cnL k (z::r):=fun k=>by rw [cnL]
    rw [e,e] at hK
    rw [e] at h13 h14
    refine ih x (.head _) deep w all all' to M to1 hty nwx hvx p (z::r) K R t0 S0 S1 y nx lv he (hK.imp_right fun h=>⟨by omega,by omega⟩) (fun h=>h13 oM0) (fun h=>h14 oM0) (fun e12=>absurd e12 (zh8 c).1) (fun _=>?_) fun h=>by rw [c] at h;cases h
    exact go_A u f (z::r) (fun y hy=>ih y (.tail _ hy)) deep w _ _ to1 R to' hty sI0 nwr hvr q K t0 S0 S1 y nx lv (he.step (fun v hv=>List.mem_append_left _ hv) fun v hv=>p.keys v fun hm=>nwx.na hm hv)
      (hK.imp_right fun h=>⟨by omega,by omega,h.2.2⟩) (fun h=>h13 oM0) (fun h=>h14 oM0) fun h=>h12 (by rw [show x::z::r=[x]++(z::r) from rfl,z4j sI0];exact h)
theorem go_B (u:Un) (f:Fl):∀ (l:List Nd),(∀ x∈l,NR u f x)->LB u f l
  | [],_=>fun _ _ _ _ _ _ _ _ h=>absurd rfl h
  | [x],ih=>fun deep w all all' to N to' hty _ nw hv P g K R' t0 S0 S1 y nx lv tX SX he hk hk2 h13 h14 hX hL=>by
    obtain ⟨p,c,nwx,hvx⟩:=y9j hty nw hv P
    have hkx:x.kind=g.k:=hk
    have e10:(x.kind==10)=false:=by rw [hkx];rcases hk2 with h | h<;>rw [h]<;>rfl
    have e11:(x.kind==11)=false:=by rw [hkx];rcases hk2 with h | h<;>rw [h]<;>rfl
    have hrun:=z9y to x
    rw [if_neg (by simp [e11]),if_neg (by simp [e10]),p.run] at hrun
    obtain ⟨rfl,rfl⟩:=Prod.mk.inj hrun
    rw [z11 u f deep w all (z19 u f deep _ all hvx) e10 e11] at hvx
    have hse:=(zc2 hvx).1
    refine .leave hkx hk2 (fun a b p a2 hI g1 g2=>?_) hL
    exact hX a b p a2 hI (by show mOf b (x.args.map (z0o to'))=some p;rw [hI.mof hse];exact g1) g2
  | x::z::r,ih=>fun deep w all all' to N to' hty _ nw hv P g K R' t0 S0 S1 y nx lv tX SX he hk hk2 h13 h14 hX hL=>by
    obtain ⟨M,to1,R,p,c,nwx,hvx,q,rfl,nwr,hvr⟩:=y5l hty nw hv P
    have e:∀ k,cnL k (x::z::r)=cnN k x+cnL k (z::r):=fun k=>by rw [cnL]
    rw [e] at h13 h14
    have hkr:z0h (z::r)=g.k:=by rw [show x::z::r=[x]++(z::r) from rfl,z4j sI0] at hk;exact hk
    have c14:cnN 14 x=0:=by
      rcases h14 with h | ⟨h,h2⟩
      ·omega
      have:=za7 (.inr rfl) (hkr.trans h)
      omega
    rw [List.dropLast_append_of_ne_nil q.ne,List.append_assoc]
    refine ih x (.head _) deep w all all' to M to1 hty nwx hvx p (z::r) (g::K) _ t0 S0 S1 y nx lv he (.inr ⟨by omega,c14⟩) (fun h=>absurd oM0 h) (fun h=>absurd c14 h) (fun e12=>absurd e12 (zh8 c).1) (fun _=>?_) fun h=>by rw [c] at h;cases h
    exact go_B u f (z::r) (fun y hy=>ih y (.tail _ hy)) deep w _ _ to1 R to' hty sI0 nwr hvr q g K R' t0 S0 S1 y nx lv tX SX (he.step (fun v hv=>List.mem_append_left _ hv) fun v hv=>p.keys v fun hm=>nwx.na hm hv)
      hkr hk2 oM0 (h14.imp (fun h=>by omega) fun h=>⟨h.1,by omega⟩)
      (fun a b p a2 hI g1 g2=>hX a b p a2 (hI.sub fun v hv=>⟨List.mem_append_left _ hv,rfl⟩) (by
        have:z30 (M++R)=z30 R:=by unfold z30;rw [zz7 q.ne]
        rw [this];exact g1) g2) hL
theorem yb8 (u:Un) (f:Fl):∀ (N:Nat) (l:List Nd),SizeOf.sizeOf l<N->LA u f l/\LB u f l
  | 0,_,h=>absurd h (Nat.not_lt_zero _)
  | N+1,l,hN=>by
    have h:∀ x∈l,NR u f x:=fun x hx=>node_r u f x fun q hq=>yb8 u f N q (Nat.lt_of_lt_of_le (z5k hx rfl hq) (Nat.le_of_lt_succ hN))
    exact ⟨go_A u f l h,go_B u f l h⟩
theorem yk4 {u:Un} (hz:(z1a u).1=0) {f:Fl} (hf:f∈u.flows):FRel (uSz u.flows) f (z48 trB f):=by
  refine ⟨rfl,yk9 hf,?_⟩
  have hF:=((z4r u).1 hz).2 f hf
  obtain ⟨N,to',P⟩:=zc7 hF
  have h:=zd1 hF
  have hp:=z7d hF
  have hv:=h.1
  simp only [z2t,Bool.and_eq_true] at hv
  have hne:f.body≠[]:=by intro e;rw [e] at hv;simp at hv
  have fa:∀ v∈dL f.body,(iota f.params.toNat).contains v=false:=fun v hm=>by
    have:=h.2.2 v hm
    cases hc:(iota f.params.toNat).contains v with
    | false=>rfl
    | true=>rw [zo4 hp hc] at this;cases this
  have nw:New f (dL f.body) (iota f.params.toNat) (iota f.params.toNat) []:=⟨h.2.1,fa,fun v hm hh=>Bool.noConfusion ((fa v hm).symm.trans (List.contains_iff_mem.2 hh)),fun _ _=>rfl,fun v hv v0 v1=>⟨hv,v0,v1,rfl⟩,fun v hv=>by
    have:=iota_mem hv
    omega⟩
  have hA:=(yb8 u f _ f.body (Nat.lt_succ_self _)).1 1 z1d _ _ [] N to' (y9x hF) hne nw hv.2 P [] [] [] [] true true true ⟨fun v hv=>by simp at hv,fun v hv=>by simp at hv⟩ (.inl rfl) (fun _=>rfl) (fun _=>rfl) fun _=>rfl
  have eB:(z48 trB f).body=N:=by show (trL [] f.body).1=N;rw [P.tr]
  rw [eB]
  refine .weak (fun a b h v hv=>by rw [h.1];rfl) (hA.monoE fun n p p' a b h=>?_)
  unfold EF
  rcases h with ⟨_,_,rfl,_⟩ | ⟨_,_,rfl,_⟩ | ⟨_,_,rfl,_⟩ | ⟨_,rfl⟩<;>rfl
theorem trim_rel {u:Un} (hz:(z1a u).1=0):URel u (z42 trB u):=by
  refine ⟨rfl,fun name=>zi0 trB name u.flows 0,fun i f g h h'=>?_⟩
  have:(z42 trB u).flows[i]? = (u.flows[i]?).map (z48 trB):=List.getElem?_map ..
  rw [h',h] at this
  obtain rfl:g=z48 trB f:=Option.some.inj this
  exact yk4 hz (List.mem_of_getElem? h)
set_option maxRecDepth 20000
set_option maxHeartbeats 2000000
theorem zz3 {m n z:Int} (hn:n≠0) (h:m.tdiv n=z) (h1:-9223372036854775808<=z/\z<=9223372036854775807):z3x .quo .i64 m n=some (.int .i64 z):=by
  subst h;simp only [z3x];rw [if_neg hn,IntWalk.i64_in _ h1]
theorem ye8 (u v:Un) (hW:z0p u<=536870912) (ins:List Int) (fuel q:Int) (hf:0<=fuel/\fuel<=1000000) (hq:fuel.tdiv 4=q) (a b c d:Rs)
    (hA:SC Tryz.prog 17 [.pv u.enc,.pv (ints ins),iInt fuel] [] (fun _=>False) (.pv (runv a)) [])
    (hB:SC Tryz.prog 17 [.pv v.enc,.pv (ints ins),iInt fuel] [] (fun _=>False) (.pv (runv b)) [])
    (hC:SC Tryz.prog 17 [.pv v.enc,.pv (ints ins),iInt q] [] (fun _=>False) (.pv (runv c)) [])
    (hD:SC Tryz.prog 17 [.pv u.enc,.pv (ints ins),iInt ((q+1)*((uSz u.flows:Int)+1))] [] (fun _=>False) (.pv (runv d)) [])
    (h1:Fol a b) (h2:a.st≠0->b.cost<=a.cost/\a.fuel<=b.fuel) (h3:Fol c d) (hb:b.out.length<=1073741824) (hd:d.out.length<=1073741824) :
    SC Tryz.prog 13 [.pv u.enc,.pv v.enc,.pv (ints ins),iInt fuel] [] (fun k=>k∈[]) (iBool true) []:=by
  refine SC.vc tb {} [] Tryz.func13 rfl rfl ?_
  have hF1:=zx1 a b h1 hb
  have hF2:=zx1 c d h3 hd
  have hN:=sc_nodes u hW
  have hw:=uSz_W u.flows
  have hw2:wtF u.flows<=z0p u:=by unfold z0p;omega
  have hqb:0<=q/\q<=1000000:=by
    rw [<- hq,Int.tdiv_eq_ediv_of_nonneg hf.1];omega
  have hm:-9223372036854775808<=(q+1)*((uSz u.flows:Int)+1)/\(q+1)*((uSz u.flows:Int)+1)<=9223372036854775807:=by
    have x1:0<=(q+1)*((uSz u.flows:Int)+1):=Int.mul_nonneg oM0 oM0
    have x2:(q+1)*((uSz u.flows:Int)+1)<=1000001*536870913:=Int.mul_le_mul oM0 oM0 oM0 oM0
    omega
  obtain ⟨ains,aar,ast,acode,aout,acost,afuel,asp⟩:=a
  obtain ⟨bins,bar,bst,bcode,bout,bcost,bfuel,bsp⟩:=b
  dsimp only at h2
  refine ⟨[],hA,sR,trivial,rfl,[],hB,sR,trivial,rfl,[],hF1,sR,trivial,rfl,?_⟩
  refine z00 (fun h5=>?_) fun h5=>?_
  · have hst:ast≠0:=by simpa using h5
    obtain ⟨c1,c2⟩:=h2 hst
    refine z00 (fun h6=>absurd h6 (by simp;omega)) fun _=>z00 (fun h6=>absurd h6 (by simp;omega)) fun _=>?_
    exact ⟨zz3 dC0 hq oM0,[],hC,sR,trivial,rfl,zz3 dC0 hq oM0,z03 rfl oM0,[],hN,sR,trivial,rfl,z03 rfl oM0,yb2 rfl hm,[],hD,sR,trivial,rfl,[],hF2,sR,trivial,rfl,sI,trivial⟩
  · exact ⟨zz3 dC0 hq oM0,[],hC,sR,trivial,rfl,zz3 dC0 hq oM0,z03 rfl oM0,[],hN,sR,trivial,rfl,z03 rfl oM0,yb2 rfl hm,[],hD,sR,trivial,rfl,[],hF2,sR,trivial,rfl,sI,trivial⟩
theorem arr_size {u:Un} {A:Ar} (hz:(z1a u).1=0) (h:u.arrays=[A]):0<=A.size/\A.size<=1000:=by
  obtain ⟨h1,_⟩:=(z4r u).1 hz
  unfold z10 at h1
  simp only [Bool.and_eq_true] at h1
  have h2:=h1.1.1
  rw [h] at h2
  simp only [r8gA,gArr,Bool.and_eq_true,Bool.not_eq_true',decide_eq_false_iff_not] at h2
  omega
theorem y6n (u:Un) (h1:u.arrays.length<=1) (hW:z0p u<=536870912) (hz:(z1a u).1=0) (ins:List Int) (fuel:Int) (d:Nat) (r:Int × Rs) (h:z3r u d (z04 z0b u.flows 0) [] (runA u ins fuel)=some r) :
    SC Tryz.prog 17 [.pv u.enc,.pv (ints ins),iInt fuel] [] (fun _=>False) (.pv (runv (mEnd r))) []:=by
  have hs:=@arr_size u
  obtain ⟨ar,fs⟩:=u
  rcases ar with _ | ⟨A,_ | ⟨A2,t⟩⟩
  · exact yi8 fs hW hz ins fuel d r h
  · exact sr_run1 fs A hW hz ins fuel d r h (hs hz rfl)
  · simp at h1
theorem y4m {u v:Un} (R:URel u v) (h1:u.arrays.length<=1) (hW:z0p u<=536870912) (hW':z0p v<=536870912) (hz:(z1a u).1=0) (hz':(z1a v).1=0) (hN:uSz u.flows<=4000000) (ins:List Int) (fuel:Int) (hf:0<=fuel/\fuel<=510) :
    SC Tryz.prog 13 [.pv u.enc,.pv v.enc,.pv (ints ins),iInt fuel] [] (fun k=>k∈[]) (iBool true) []:=by
  have hq:0<=fuel.tdiv 4/\fuel.tdiv 4<=127:=by rw [Int.tdiv_eq_ediv_of_nonneg hf.1];omega
  have hfD0:0<=(fuel.tdiv 4+1)*((uSz u.flows:Int)+1):=Int.mul_nonneg oM0 oM0
  have hfD:(fuel.tdiv 4+1)*((uSz u.flows:Int)+1)<=128*4000001:=Int.mul_le_mul oM0 oM0 oM0 oM0
  have B:(1073741824:Int)<=4611686018427387903:=by decide
  have M:(1073741824:Int)<=1073741824:=by decide
  have hav:v.arrays.length<=1:=by rw [R.ar];exact h1
  obtain ⟨da,qa,ra,ia⟩:=y0k hz ins hf.1 B M oM0 oM0
  obtain ⟨db,qb,rb,ib⟩:=y0k hz' ins hf.1 B M oM0 oM0
  obtain ⟨dc,qc,rc,ic⟩:=y0k hz' ins hq.1 B M oM0 oM0
  obtain ⟨dd,qd,rd,id⟩:=y0k hz ins hfD0 B M oM0 oM0
  have k1:=rc_fol (y6f true R ins hf.1 hf.1 B (M:=1073741824) oM0 oM0 oM0 oM0 (by unfold G;simp) ra rb)
  have k2:=rc_fol2 (y6f false R ins hfD0 hq.1 B (M:=1073741824) oM0 oM0 oM0 oM0 (by
    unfold G
    simp only [Bool.false_eq_true,if_false]
    rw [Int.add_mul]
    generalize fuel.tdiv 4*((uSz u.flows:Int)+1)=P
    omega) rd rc)
  have ob:qb.2.out.length<=1073741824:=by have:=ib.out;have:=ib.ok.1;omega
  have od:qd.2.out.length<=1073741824:=by have:=id.out;have:=id.ok.1;omega
  exact ye8 u v hW ins fuel (fuel.tdiv 4) oM0 rfl _ _ _ _ (y6n u h1 hW hz ins fuel da qa ra) (y6n v hav hW' hz' ins fuel db qb rb) (y6n v hav hW' hz' ins _ dc qc rc) (y6n u h1 hW hz ins _ dd qd rd) k1.1 k1.2 k2 (by rw [zg5];exact ob) (by rw [zg5];exact od)
theorem z2m (l:List UInt8) (n:Nat) (g:Gn) (hn:0<n) (hb:g.pos<=1000000):SC Tryz.prog 53 [.ptr 2001 0,iInt (n:Int)] (gH l g) (fun _=>False) (iInt ((z05 l n g).1:Int)) (gH l (z05 l n g).2):=by
  refine SC.of Tryz.func53 rfl (lb rfl) fun F ρ w=>?_
  refine tQ <| tG <| sm 1 rfl <| nL <| tQ <| tG <| sm 1 rfl <| cV rfl (nCk rfl rfl rfl) <| sm 2 rfl <| cV rfl (oB rfl rfl (z03 rfl oM0)) <| cV rfl (nCk rfl rfl rfl) <| sm 1 rfl ?_
  refine c0 (sBx rfl rfl rfl rfl ((fun h=>h)) tS3 (rfl) (lb rfl)) <| nL <| tQ <| tQ <| Tr.still zd9 kR0 rfl <| smS 1 rfl <| sV rfl (nCk rfl rfl rfl) <| smS 3 rfl <| sV rfl (nCk rfl rfl rfl) <| smS 2 rfl <| sV rfl (oSm Tryz.underlying29 rfl) <| smS 2 rfl ?_
  refine WS.split (t:=22) rfl (fun hb22=>?_) (fun hb22=>?_)
  ·refine smS 6 rfl <| WS.nil <| Tr.condT rfl ?_
   have hc:g.pos+1 > l.length∨g.pos+1 > 150:=by
     (have:=hb22;simp at this;omega)
   refine tQ <| tG <| sm 1 rfl <| nL <| tRt <| rOk rfl ?_ (po2 rfl rfl)
   simp only [z05,if_pos hc]
   rfl
  refine smS 1 rfl <| syV rfl rfl (nCk rfl rfl rfl) <| smS 4 rfl <| WS.nil ?_
  refine tC rfl (fun hc28=>?_) fun hc28=>?_
  ·have hc:g.pos+1 > l.length∨g.pos+1 > 150:=by
     (have:=hc28;simp at this;omega)
   refine tQ <| tG <| sm 1 rfl <| nL <| tRt <| rOk rfl ?_ (po2 rfl rfl)
   simp only [z05,if_pos hc]
   rfl
  have hc:¬ (g.pos+1 > l.length∨g.pos+1 > 150):=by
    simp at hb22 hc28
    omega
  have hlt:g.pos<l.length:=by omega
  have hi:=z06 (f:=eB) (List.getElem?_eq_getElem hlt)
  have hgd:l.getD g.pos 0=l[g.pos]:=by rw [List.getD,List.getElem?_eq_getElem hlt];rfl
  generalize l[g.pos]=x at hi hgd
  have hrem:z3x .rem .i64 (IntKind.i64.wrap (x.toNat:Int)) (n:Int)=some (.int .i64 ((x.toNat % n:Nat):Int)):=by rw [u8_i64];exact i64_rem hn
  refine tSk <| tQ <| Tr.still zd9 kR0 rfl <| smS 1 rfl <| sV rfl (nCk rfl rfl rfl) <| smS 3 rfl <| sV rfl (nCk rfl rfl rfl) <| smS 2 rfl <| sV rfl (oB rfl rfl (z2f rfl oM0)) <| sV rfl (iSq rfl rfl rfl Tryz.underlying29 hi tS5 rfl oM0) <| smS 1 rfl <| sV rfl (zb0 rfl rfl ⟨_,Tryz.underlying5⟩ uT3) ?_
  refine smS 1 rfl <| sV rfl (oB rfl rfl hrem) <| smS 1 rfl <| WS.nil <| tRt <| rOk rfl ?_ (po2 rfl rfl)
  simp only [z05,if_neg hc,hgd]
theorem ze6 (l:List UInt8) (t:Int) (g:Gn) (hb:g.types.length<=1000000):SC Tryz.prog 35 [.ptr 2001 0,iInt t] (gH l g) (fun _=>False) (iInt (z07 t g).1) (gH l (z07 t g).2):=by
  refine SC.of Tryz.func35 rfl (lb rfl) fun F ρ w=>?_
  have hbl:(g.types.map eInt).length=g.types.length:=by simp
  have hbl2:((z07 t g).2.types.map eInt).length=g.types.length+1:=by simp [z07]
  refine tQ <| tG <| sm 1 rfl <| nL <| tQ <| tG <| sm 2 rfl <| cV rfl (nCk rfl rfl rfl) <| sm 3 rfl <| cE rfl (bSl rfl rfl uT35 tZ3 tS3 rfl rfl rfl rfl (fbk rfl) rfl) ?_
  refine cE rfl (aPp rfl rfl rfl rfl (by rfl) ((fun h=>h)) uT35 tB3 dC0 (by (simp [z0c];done)) (by (simp [z0c,PV.one];rfl)) (by simp [maxLen,z0c];omega) (by simp [z0c];omega)) ?_
  refine cV rfl (nCk rfl rfl rfl) <| sm 1 rfl <| c0 (sBx rfl rfl rfl rfl ((fun h=>h)) tS35 (⟨_,_,rfl,by simp⟩) (lb rfl)) <| nL <| tQ ?_
  refine Tr.heap (σ':=look [(2001,some (z3d l (z07 t g).2)),(2002,some (rowI (z07 t g).2.types))]) (lkq [2001,2002] rfl rfl ⟨(by first | exact congrArg (fun z=>some (HO.row _ z)) (by simp [z07,z0c,eInt]) | exact congrArg (fun z=>some (HO.box z)) (by simp [z07,z0c,eInt])),(by first | exact congrArg (fun z=>some (HO.row _ z)) (by simp [z07,z0c,eInt]) | exact congrArg (fun z=>some (HO.box z)) (by simp [z07,z0c,eInt])),trivial⟩) ?_
  refine tG <| sm 1 rfl <| cV rfl (nCk rfl rfl rfl) <| sm 2 rfl <| cV rfl (z9b rfl rfl rfl rfl uT35) <| cV rfl (oB rfl rfl (z2f rfl oM0)) <| sm 1 rfl <| nL <| tRt <| rOk rfl ?_ (po2 rfl rfl)
  refine congrArg (fun z=>IV.pv (.val (.int .i64 z))) ?_
  rw [hbl2]
  simp only [z07]
  omega
theorem sc_gSome (l:List UInt8) (g:Gn) (seen:List Int) (t:Int) (hs:InR g.types seen) (hb:g.pos<=999999) (hsl:seen.length<=1000000):SC Tryz.prog 80 [.ptr 2001 0,.sl 2003 (seen.map eInt).length,iInt t] (gHs l g seen) (fun _=>False) (iInt (zd2 l seen t g).1) (gHs l (zd2 l seen t g).2 seen):=by
  refine SC.of Tryz.func80 rfl (lb rfl) fun F ρ w=>?_
  have hp8:(z05 l 8 g).1<8:=z1u oM0
  refine tQ <| tG <| sm 1 rfl <| nL <| tQ <| tG <| sm 1 rfl <| cE rfl (ocr (z2m l 8 g oM0 oM0) y9q rfl (po2 rfl rfl) rfl (fun k (h:_)=>.inr h) rfl rfl) <| sm 1 rfl <| nL <| tQ <| tG ?_
  refine sm 1 rfl <| nL <| tQ <| tQ <| tG <| sm 1 rfl <| nL <| tBk <| Tr.sub (Sub.of (fr':=[(9,iInt 0),(8,iInt 0),(7,iInt ((z05 l 8 g).1:Int)),(0,.ptr 2001 0),(1,.sl 2003 (seen.map eInt).length),(2,iInt t)]) ⟨rfl,rfl,rfl,rfl,rfl,rfl,trivial⟩) <| Tr.heap (σ':=look [(2001,some (z3d l (z05 l 8 g).2)),(2002,some (rowI (z05 l 8 g).2.types)),(2003,some (rowI seen))]) (lkq [2001,2002,2003] rfl rfl ⟨rfl,rfl,rfl,trivial⟩) ?_
  refine Tr.loop (fun fr σ m=>∃ (i:Nat) (k:Int) (v:Int),(i<=seen.length)/\(k<=8 /\ -(i:Int)<=k)/\(gS1 g.types t (i==0) k v (seen.drop i)=gS1 g.types t true (z05 l 8 g).1 0 seen)/\fr=[(9,iInt i),(8,iInt v),(7,iInt k),(0,.ptr 2001 0),(1,.sl 2003 (seen.map eInt).length),(2,iInt t)] /\ σ = look [(2001,some (z3d l (z05 l 8 g).2)),(2002,some (rowI (z05 l 8 g).2.types)),(2003,some (rowI seen))]/\m=seen.length - i) (n:=seen.length - 0) ?_ ?_
  ·exact ⟨0,((z05 l 8 g).1:Int),0,Nat.zero_le _,⟨by omega,by omega⟩,rfl,rfl,rfl,rfl⟩
  rintro fr σ m ⟨i,k,v,hI0,hI1,hI2,rfl,rfl,rfl⟩
  refine tQ <| tQ <| tG <| sm 2 rfl <| cV rfl (z9b rfl rfl rfl rfl uT35) <| sm 1 rfl <| nL ?_
  refine tC rfl (fun hc16=>?_) fun hc16=>?_
  ·have hlt:i<seen.length:=by simpa using hc16
   have hd:=List.drop_eq_getElem_cons hlt
   have hm:=List.getElem_mem hlt
   have hi:=z06 (f:=eInt) (List.getElem?_eq_getElem hlt)
   generalize seen[i]=s at hd hm hi
   have hil:i<(seen.map eInt).length:=by rw [List.length_map];exact hlt
   obtain ⟨hs1,hs2,hs3⟩:=hs.at hm
   refine tSk <| tQ <| tBk <| tQ <| Tr.still zd9 kR0 rfl <| smS 1 rfl <| sV rfl (nCk rfl rfl rfl) <| smS 4 rfl <| sV rfl (iRw rfl rfl rfl rfl rfl uT35 tS3 hil (by rfl)) <| sV rfl (lRw rfl rfl rfl rfl (Nat.add_zero _).symm hi rfl uT3 rfl trivial) <| sV rfl (iRw rfl rfl rfl rfl rfl uT35 tS3 hs1 (by assumption)) <| sV rfl (lRw rfl rfl rfl rfl (Nat.add_zero _).symm hs2 rfl uT3 rfl trivial) ?_
   refine smS 3 rfl ?_
   refine WS.split (t:=31) rfl (fun hb31=>?_) (fun hb31=>?_)
   ·refine smS 3 rfl ?_
    refine WS.split (t:=34) rfl (fun hb34=>?_) (fun hb34=>?_)
    ·refine smS 4 rfl <| WS.nil <| Tr.condT rfl <| tQ <| tG <| sm 2 rfl <| cV rfl (iRw rfl rfl rfl rfl rfl uT35 tS3 hil (by rfl)) <| cV rfl (lRw rfl rfl rfl rfl (Nat.add_zero _).symm hi rfl uT3 rfl trivial) <| sm 1 rfl <| nL <| tG <| sm 1 rfl ?_
     refine cV rfl (oB rfl rfl (z2f rfl oM0)) <| sm 1 rfl <| nL <| tG <| sm 1 rfl <| cV rfl (oB rfl rfl (z03 rfl oM0)) <| sm 1 rfl <| nL ?_
     refine ⟨_,_,?_,Sub.of (fr':=[(9,iInt (i+1)),(8,iInt s),(7,iInt (k - 1)),(0,.ptr 2001 0),(1,.sl 2003 (seen.map eInt).length),(2,iInt t)]) ⟨rfl,rfl,rfl,rfl,rfl,rfl,trivial⟩,(i+1),(k - 1),s,?_,?_,?_,rfl,rfl,rfl⟩
     ·omega
     ·omega
     ·omega
     rw [<- hI2,hd]
     have hi0:(i+1==0)=false:=rfl
     rw [hi0]
     simp only [gS1]
     (rw [if_pos (by clear hs3 hi hs hd hm hs1 hs2 hI2;simp_all)];done)
    refine smS 4 rfl <| WS.nil ?_
    refine tC rfl (fun hc38=>?_) fun hc38=>?_
    ·refine tQ <| tG <| sm 2 rfl <| cV rfl (iRw rfl rfl rfl rfl rfl uT35 tS3 hil (by rfl)) <| cV rfl (lRw rfl rfl rfl rfl (Nat.add_zero _).symm hi rfl uT3 rfl trivial) <| sm 1 rfl <| nL <| tG <| sm 1 rfl <| cV rfl (oB rfl rfl (z2f rfl oM0)) <| sm 1 rfl <| nL ?_
     refine tG <| sm 1 rfl <| cV rfl (oB rfl rfl (z03 rfl oM0)) <| sm 1 rfl <| nL ?_
     refine ⟨_,_,?_,Sub.of (fr':=[(9,iInt (i+1)),(8,iInt s),(7,iInt (k - 1)),(0,.ptr 2001 0),(1,.sl 2003 (seen.map eInt).length),(2,iInt t)]) ⟨rfl,rfl,rfl,rfl,rfl,rfl,trivial⟩,(i+1),(k - 1),s,?_,?_,?_,rfl,rfl,rfl⟩
     ·omega
     ·omega
     ·omega
     rw [<- hI2,hd]
     have hi0:(i+1==0)=false:=rfl
     rw [hi0]
     simp only [gS1]
     (rw [if_pos (by clear hs3 hi hs hd hm hs1 hs2 hI2;simp_all)];done)
    refine tSk <| tG <| sm 1 rfl <| cV rfl (oB rfl rfl (z03 rfl oM0)) <| sm 1 rfl <| nL ?_
    refine ⟨_,_,?_,Sub.of (fr':=[(9,iInt (i+1)),(8,iInt v),(7,iInt k),(0,.ptr 2001 0),(1,.sl 2003 (seen.map eInt).length),(2,iInt t)]) ⟨rfl,rfl,rfl,rfl,rfl,rfl,trivial⟩,(i+1),k,v,?_,?_,?_,rfl,rfl,rfl⟩
    ·omega
    ·omega
    ·omega
    rw [<- hI2,hd]
    have hi0:(i+1==0)=false:=rfl
    rw [hi0]
    simp only [gS1]
    (rw [if_neg (by clear hs3 hi hs hd hm hs1 hs2 hI2;simp_all)];done)
   refine smS 3 rfl <| WS.noU rfl rfl rfl rfl rfl rfl <| WS.noU rfl rfl rfl rfl rfl rfl <| smS 2 rfl <| WS.nil <| Tr.condF rfl <| tSk <| tG <| sm 1 rfl <| cV rfl (oB rfl rfl (z03 rfl oM0)) <| sm 1 rfl <| nL ?_
   refine ⟨_,_,?_,Sub.of (fr':=[(9,iInt (i+1)),(8,iInt v),(7,iInt k),(0,.ptr 2001 0),(1,.sl 2003 (seen.map eInt).length),(2,iInt t)]) ⟨rfl,rfl,rfl,rfl,rfl,rfl,trivial⟩,(i+1),k,v,?_,?_,?_,rfl,rfl,rfl⟩
   ·omega
   ·omega
   ·omega
   rw [<- hI2,hd]
   have hi0:(i+1==0)=false:=rfl
   rw [hi0]
   simp only [gS1]
   (rw [if_neg (by clear hs3 hi hs hd hm hs1 hs2 hI2;simp_all)];done)
  refine tEx <| tQ <| tQ ?_
  have hge:seen.length<=i:=by simpa using hc16
  rw [List.drop_eq_nil_of_le hge] at hI2
  simp only [gS1] at hI2
  obtain ⟨v0,hv0e⟩:∃ v0,gS1 g.types t true (z05 l 8 g).1 0 seen=v0:=⟨_,rfl⟩
  have hv0:=ya3 (t:=t) seen true (z05 l 8 g).1 0 hs ⟨by omega,.inr rfl⟩
  rw [hv0e] at hI2 hv0
  subst hI2
  refine tG <| sm 1 rfl <| nL <| tBk <| Tr.sub (Sub.of (fr':=[(10,iInt 0),(8,iInt v),(0,.ptr 2001 0),(1,.sl 2003 (seen.map eInt).length),(2,iInt t)]) ⟨rfl,rfl,rfl,rfl,rfl,trivial⟩) ?_
  refine Tr.loop (fun fr σ m=>∃ (i:Nat) (v1:Int),(i<=seen.length)/\(gS2 g.types t v1 (seen.drop i)=gS2 g.types t v seen)/\(0<=v1/\(v1.toNat<g.types.length∨v1=0))/\fr=[(10,iInt i),(8,iInt v1),(0,.ptr 2001 0),(1,.sl 2003 (seen.map eInt).length),(2,iInt t)] /\ σ = look [(2001,some (z3d l (z05 l 8 g).2)),(2002,some (rowI (z05 l 8 g).2.types)),(2003,some (rowI seen))]/\m=seen.length - i) (n:=seen.length - 0) ?_ ?_
  ·exact ⟨0,v,Nat.zero_le _,rfl,hv0,rfl,rfl,rfl⟩
  rintro fr σ m ⟨i,v1,hI0,hI1,hI2,rfl,rfl,rfl⟩
  refine tQ <| tQ <| tG <| sm 2 rfl <| cV rfl (z9b rfl rfl rfl rfl uT35) <| sm 2 rfl ?_
  refine wS 49 rfl (fun hb49=>?_) fun hb49=>?_
  ·have hlt:i<seen.length:=by simpa using hb49
   have hd:=List.drop_eq_getElem_cons hlt
   have hm:=List.getElem_mem hlt
   have hi:=z06 (f:=eInt) (List.getElem?_eq_getElem hlt)
   generalize seen[i]=s at hd hm hi
   have hil:i<(seen.map eInt).length:=by rw [List.length_map];exact hlt
   obtain ⟨hs1,hs2,hs3⟩:=hs.at hm
   have hvr:v1.toNat<g.types.length:=by
     rcases hI2.2 with h1 | h1
     ·exact h1
     subst h1
     have:s.toNat<g.types.length:=by simpa using hs1
     simp;omega
   have hvm:InR g.types [v1]:=fun x hx=>by rw [List.mem_singleton.1 hx];exact ⟨hI2.1,hvr⟩
   obtain ⟨hv1,hv2,hv3⟩:=hvm.at (.head _)
   refine sm 1 rfl <| yV rfl rfl (nCk rfl rfl rfl) <| sm 3 rfl <| yV rfl rfl (iRw rfl rfl rfl rfl rfl uT35 tS3 hv1 (by assumption)) <| yV rfl rfl (lRw rfl rfl rfl rfl (Nat.add_zero _).symm hv2 rfl uT3 rfl trivial) <| sm 3 rfl <| nL ?_
   refine tC rfl (fun hc59=>?_) fun hc59=>?_
   ·have hcont:(g.types.getD v1.toNat 0 != t)=true:=hc59
    refine tSk <| tQ <| tBk <| tQ <| Tr.still zd9 kR0 rfl <| smS 1 rfl <| sV rfl (nCk rfl rfl rfl) <| smS 4 rfl <| sV rfl (iRw rfl rfl rfl rfl rfl uT35 tS3 hil (by rfl)) <| sV rfl (lRw rfl rfl rfl rfl (Nat.add_zero _).symm hi rfl uT3 rfl trivial) <| sV rfl (iRw rfl rfl rfl rfl rfl uT35 tS3 hs1 (by assumption)) <| sV rfl (lRw rfl rfl rfl rfl (Nat.add_zero _).symm hs2 rfl uT3 rfl trivial) ?_
    refine smS 2 rfl <| WS.nil ?_
    refine tC rfl (fun hc73=>?_) fun hc73=>?_
    ·refine tG <| sm 2 rfl <| cV rfl (iRw rfl rfl rfl rfl rfl uT35 tS3 hil (by rfl)) <| cV rfl (lRw rfl rfl rfl rfl (Nat.add_zero _).symm hi rfl uT3 rfl trivial) <| sm 1 rfl <| nL <| tG <| sm 1 rfl <| cV rfl (oB rfl rfl (z03 rfl oM0)) <| sm 1 rfl <| nL ?_
     refine ⟨_,_,?_,Sub.of (fr':=[(10,iInt (i+1)),(8,iInt s),(0,.ptr 2001 0),(1,.sl 2003 (seen.map eInt).length),(2,iInt t)]) ⟨rfl,rfl,rfl,rfl,rfl,trivial⟩,(i+1),s,?_,?_,?_,rfl,rfl,rfl⟩
     ·omega
     ·omega
     ·rw [<- hI1,hd]
      simp only [gS2]
      rw [if_pos hcont]
      (rw [if_pos hc73];done)
     first
     | exact hI2
     | exact ⟨by omega,.inl (by simpa using hs1)⟩
    refine tSk <| tG <| sm 1 rfl <| cV rfl (oB rfl rfl (z03 rfl oM0)) <| sm 1 rfl <| nL ?_
    refine ⟨_,_,?_,Sub.of (fr':=[(10,iInt (i+1)),(8,iInt v1),(0,.ptr 2001 0),(1,.sl 2003 (seen.map eInt).length),(2,iInt t)]) ⟨rfl,rfl,rfl,rfl,rfl,trivial⟩,(i+1),v1,?_,?_,?_,rfl,rfl,rfl⟩
    ·omega
    ·omega
    ·rw [<- hI1,hd]
     simp only [gS2]
     rw [if_pos hcont]
     (rw [if_neg (by rw [hc73];decide)];done)
    first
    | exact hI2
    | exact ⟨by omega,.inl (by simpa using hs1)⟩
   refine tEx <| tQ <| tG <| sm 2 rfl <| nL <| tRt <| rOk rfl ?_ (po3 rfl rfl rfl)
   refine congrArg iInt ?_
   show _=gS2 g.types t (gS1 g.types t true (z05 l 8 g).1 0 seen) seen
   rw [hv0e,<- hI1]
   (rw [hd]
    simp only [gS2]
    rw [if_neg (by rw [show (g.types.getD v1.toNat 0 != t)=false from hc59];decide)]
    done)
  refine sm 10 rfl <| nL <| Tr.condF rfl <| tEx <| tQ <| tG <| sm 2 rfl <| nL <| tRt <| rOk rfl ?_ (po3 rfl rfl rfl)
  refine congrArg iInt ?_
  show _=gS2 g.types t (gS1 g.types t true (z05 l 8 g).1 0 seen) seen
  rw [hv0e,<- hI1]
  (rw [List.drop_eq_nil_of_le (by simpa using hb49)]
   rfl)
theorem z1w (l:List UInt8) (seen ts:List Int) (g:Gn) (hs:InR g.types seen) (hb:g.pos+ts.length<=1000000) (hsl:seen.length<=1000000):SC Tryz.prog 56 [.ptr 2001 0,.sl 2003 (seen.map eInt).length,.pv (ints ts)] (gHs l g seen) (fun _=>False) (.pv (ints (z1l l seen ts g).1)) (gHs l (z1l l seen ts g).2 seen):=by
  refine SC.of Tryz.func56 rfl (lb rfl) fun F ρ w=>?_
  refine Tr.lenOf (t:=2) rfl (fun hl=>?_)
  simp only [List.length_map] at hl
  refine tQ <| tG <| sm 1 rfl <| nL <| tQ <| tG <| sm 1 rfl <| nL <| tQ <| tQ <| Tr.grow (t:=7) (k:=107) ⟨3,1⟩ rfl rfl rfl rfl rfl <| tG ?_
  refine sm 1 rfl <| nL <| tBk <| Tr.sub (Sub.of (fr':=[(8,iInt 0),(7,.sl 107 (([]:List Int).map eInt).length),(0,.ptr 2001 0),(1,.sl 2003 (seen.map eInt).length),(2,.pv (ints ts))]) ⟨rfl,rfl,rfl,rfl,rfl,trivial⟩) <| Tr.heap (σ':=look [(107,some (rowI ([]:List Int))),(2001,some (z3d l g)),(2002,some (rowI g.types)),(2003,some (rowI seen))]) (lkq [107,2001,2002,2003] rfl rfl ⟨rfl,rfl,rfl,rfl,trivial⟩) ?_
  refine Tr.loop (fun fr σ m=>∃ (i:Nat) (acc:List Int) (g1:Gn),(i<=ts.length)/\(acc++(z1l l seen (ts.drop i) g1).1=(z1l l seen ts g).1)/\((z1l l seen (ts.drop i) g1).2=(z1l l seen ts g).2)/\(g1.types=g.types)/\(g1.pos+(ts.length - i)<=1000000)/\(acc.length=i)/\fr=[(8,iInt i),(7,.sl 107 (acc.map eInt).length),(0,.ptr 2001 0),(1,.sl 2003 (seen.map eInt).length),(2,.pv (ints ts))] /\ σ = look [(107,some (rowI acc)),(2001,some (z3d l g1)),(2002,some (rowI g1.types)),(2003,some (rowI seen))]/\m=ts.length - i) (n:=ts.length - 0) ?_ ?_
  ·exact ⟨0,([]:List Int),g,Nat.zero_le _,sI0,rfl,rfl,hb,rfl,rfl,rfl,rfl⟩
  rintro fr σ m ⟨i,acc,g1,hI0,hI1,hI2,hIt,hIb,hIa,rfl,rfl,rfl⟩
  refine tQ <| tQ <| tG <| sm 2 rfl <| cV rfl (oSm uT35 rfl) <| sm 1 rfl <| nL ?_
  refine tC rfl (fun hc12=>?_) fun hc12=>?_
  ·have hlt:i<ts.length:=by simpa using hc12
   have hd:=List.drop_eq_getElem_cons hlt
   have hm:=List.getElem_mem hlt
   have hi:=z06 (f:=eInt) (List.getElem?_eq_getElem hlt)
   generalize ts[i]=x at hd hm hi
   have hal:(acc.map eInt).length=acc.length:=by simp
   refine tSk <| tQ <| tBk <| tG <| sm 5 rfl <| cV rfl (iSq rfl rfl rfl uT35 hi tS3 rfl (by rfl)) <| sm 1 rfl <| cE rfl (ocr (sc_gSome l g1 seen x (by rw [hIt];exact hs) oM0 hsl) ent80 rfl (po3 rfl rfl rfl) rfl (fun k (h:_)=>.inr h) rfl rfl) <| cE rfl (bSl rfl rfl uT35 tZ3 tS3 rfl rfl rfl rfl (fbk rfl) rfl) ?_
   refine cE rfl (aPp rfl rfl rfl rfl (by rfl) ((fun h=>h)) uT35 tB3 dC0 (by (simp [z0c];done)) (by (simp [z0c,PV.one];rfl)) (by simp [maxLen,z0c];omega) (by simp [z0c];omega)) ?_
   refine sm 1 rfl <| nL <| tG <| sm 1 rfl <| cV rfl (oB rfl rfl (z03 rfl oM0)) <| sm 1 rfl <| nL ?_
   refine ⟨_,_,?_,Sub.of (fr':=[(8,iInt (i+1)),(7,.sl 107 ((acc++[(zd2 l seen x g1).1]).map eInt).length),(0,.ptr 2001 0),(1,.sl 2003 (seen.map eInt).length),(2,.pv (ints ts))]) ⟨rfl,congrArg (fun z=>some (IV.sl _ z)) (by simp [z0c,eInt]),rfl,rfl,rfl,trivial⟩,(i+1),(acc++[(zd2 l seen x g1).1]),(zd2 l seen x g1).2,?_,?_,?_,?_,?_,?_,rfl,(funext (lkq [107,2001,2002,2003] rfl rfl ⟨(congrArg (fun z=>some (HO.row _ z)) (by simp [z0c,eInt])),rfl,rfl,rfl,trivial⟩)),rfl⟩
   ·omega
   ·omega
   ·rw [<- hI1,hd];simp [z1l]
   ·rw [<- hI2,hd];rfl
   ·exact hIt
   ·show g1.pos+1+(ts.length - (i+1))<=1000000
    omega
   simp [hIa]
  refine tEx <| tQ <| Tr.freeze (t:=7) (k:=107) rfl rfl sI0 ?_
  have hge:ts.length<=i:=by simpa using hc12
  rw [List.drop_eq_nil_of_le hge] at hI1 hI2
  simp only [z1l,List.append_nil] at hI1 hI2
  subst hI2
  refine tG <| sm 2 rfl <| nL <| tRt <| rOk rfl ?_ (po3 rfl rfl rfl)
  rw [<- hI1]
  rfl
theorem z8w (l:List UInt8) (g:Gn) (hb:g.pos<=999990):SC Tryz.prog 55 [.ptr 2001 0] (gH l g) (fun _=>False) (.pv (ints (z0n l g).1)) (gH l (z0n l g).2):=by
  refine SC.of Tryz.func55 rfl (lb rfl) fun F ρ w=>?_
  have hp3:(z05 l 3 g).1<3:=z1u oM0
  refine tQ <| tG <| sm 1 rfl <| nL <| tQ <| tG <| sm 1 rfl <| nL <| tQ <| tQ <| Tr.grow (t:=3) (k:=103) ⟨3,1⟩ rfl rfl rfl rfl rfl <| tG ?_
  refine sm 1 rfl <| cE rfl (ocr (z2m l 3 g oM0 oM0) y9q rfl (po2 rfl rfl) rfl (fun k (h:_)=>.inr h) rfl rfl) <| sm 1 rfl <| nL <| tBk <| Tr.sub (Sub.of (fr':=[(4,iInt (((z05 l 3 g).1:Nat):Int)),(3,.sl 103 (([]:List Int).map eInt).length),(0,.ptr 2001 0)]) ⟨rfl,rfl,rfl,trivial⟩) <| Tr.heap (σ':=look [(103,some (rowI ([]:List Int))),(2001,some (z3d l (z05 l 3 g).2)),(2002,some (rowI (z05 l 3 g).2.types))]) (lkq [103,2001,2002] rfl rfl ⟨rfl,rfl,rfl,trivial⟩) ?_
  refine Tr.loop (fun fr σ m=>∃ (n:Nat) (acc:List Int) (g1:Gn),(n<=3)/\(acc++(gTyN l n g1).1=(z0n l g).1)/\((gTyN l n g1).2=(z0n l g).2)/\(g1.pos+n<=1000000)/\(acc.length+n<=3)/\fr=[(4,iInt ((n:Nat):Int)),(3,.sl 103 (acc.map eInt).length),(0,.ptr 2001 0)] /\ σ = look [(103,some (rowI acc)),(2001,some (z3d l g1)),(2002,some (rowI g1.types))]/\m=n+1) (n:=(z05 l 3 g).1+1) ?_ ?_
  ·exact ⟨(z05 l 3 g).1,([]:List Int),(z05 l 3 g).2,oM0,(by rw [List.nil_append];rfl),rfl,(by simp only [z05] at hp3 ⊢;omega),(by simp;omega),rfl,rfl,rfl⟩
  rintro fr σ m ⟨n,acc,g1,hI0,hI1,hI2,hIb,hIa,rfl,rfl,rfl⟩
  refine tQ <| tQ <| tG <| sm 2 rfl <| nL ?_
  refine tC rfl (fun hc8=>?_) fun hc8=>?_
  ·have hn0:0<n:=by simpa using hc8
   obtain ⟨m,rfl⟩:∃ m,n=m+1:=⟨n - 1,by omega⟩
   have hp2:(z05 l 2 g1).1<2:=z1u oM0
   have hal:(acc.map eInt).length=acc.length:=by simp
   refine tSk <| tQ <| tBk <| tG <| sm 2 rfl <| cE rfl (ocr (z2m l 2 g1 oM0 oM0) y9q rfl (po2 rfl rfl) rfl (fun k (h:_)=>.inr h) rfl rfl) <| cV rfl (oB rfl rfl (z03 rfl oM0)) <| cE rfl (bSl rfl rfl uT35 tZ3 tS3 rfl rfl rfl rfl (fbk rfl) rfl) ?_
   refine cE rfl (aPp rfl rfl rfl rfl (by rfl) ((fun h=>h)) uT35 tB3 dC0 (by (simp [z0c];done)) (by (simp [z0c,PV.one];rfl)) (by simp [maxLen,z0c];omega) (by simp [z0c];omega)) ?_
   refine sm 1 rfl <| nL <| tG <| sm 1 rfl <| cV rfl (oB rfl rfl (z2f rfl oM0)) <| sm 1 rfl <| nL ?_
   refine ⟨_,_,?_,Sub.of (fr':=[(4,iInt ((m:Nat):Int)),(3,.sl 103 ((acc++[1+((z05 l 2 g1).1:Int)]).map eInt).length),(0,.ptr 2001 0)]) ⟨congrArg (fun z=>some (iInt z)) oM0,congrArg (fun z=>some (IV.sl _ z)) (by simp [z0c,eInt]),rfl,trivial⟩,m,(acc++[1+((z05 l 2 g1).1:Int)]),(z05 l 2 g1).2,?_,?_,?_,?_,?_,rfl,(funext (lkq [103,2001,2002] rfl rfl ⟨(congrArg (fun z=>some (HO.row _ z)) (by simp [z0c,eInt])),rfl,rfl,trivial⟩)),rfl⟩
   ·omega
   ·omega
   ·rw [<- hI1];simp [gTyN]
   ·rw [<- hI2];rfl
   ·show g1.pos+1+m<=1000000
    omega
   simp;omega
  refine tEx <| tQ <| Tr.freeze (t:=3) (k:=103) rfl rfl sI0 ?_
  obtain rfl:n=0:=by simp at hc8;omega
  simp only [gTyN,List.append_nil] at hI1 hI2
  subst hI2
  refine tG <| sm 2 rfl <| nL <| tRt <| rOk rfl ?_ (po2 rfl rfl)
  rw [<- hI1]
  rfl
theorem z2l (l:List UInt8) (ts:List Int) (g:Gn) (hb:g.types.length+ts.length<=1000000):SC Tryz.prog 34 [.ptr 2001 0,.pv (ints ts)] (gH l g) (fun _=>False) (.pv (ints (z0j ts g).1)) (gH l (z0j ts g).2):=by
  refine SC.of Tryz.func34 rfl (lb rfl) fun F ρ w=>?_
  refine Tr.lenOf (t:=1) rfl (fun hl=>?_)
  simp only [List.length_map] at hl
  refine tQ <| tG <| sm 1 rfl <| nL <| tQ <| tG <| sm 1 rfl <| nL <| tQ <| tQ <| Tr.grow (t:=5) (k:=105) ⟨3,1⟩ rfl rfl rfl rfl rfl <| tG ?_
  refine sm 1 rfl <| nL <| tBk <| Tr.sub (Sub.of (fr':=[(6,iInt 0),(5,.sl 105 (([]:List Int).map eInt).length),(0,.ptr 2001 0),(1,.pv (ints ts))]) ⟨rfl,rfl,rfl,rfl,trivial⟩) <| Tr.heap (σ':=look [(105,some (rowI ([]:List Int))),(2001,some (z3d l g)),(2002,some (rowI g.types))]) (lkq [105,2001,2002] rfl rfl ⟨rfl,rfl,rfl,trivial⟩) ?_
  refine Tr.loop (fun fr σ m=>∃ (i:Nat) (acc:List Int) (g1:Gn),(i<=ts.length)/\(acc++(z0j (ts.drop i) g1).1=(z0j ts g).1)/\((z0j (ts.drop i) g1).2=(z0j ts g).2)/\(g1.types.length+(ts.length - i)<=1000000)/\(acc.length=i)/\fr=[(6,iInt i),(5,.sl 105 (acc.map eInt).length),(0,.ptr 2001 0),(1,.pv (ints ts))] /\ σ = look [(105,some (rowI acc)),(2001,some (z3d l g1)),(2002,some (rowI g1.types))]/\m=ts.length - i) (n:=ts.length - 0) ?_ ?_
  ·exact ⟨0,([]:List Int),g,Nat.zero_le _,sI0,rfl,hb,rfl,rfl,rfl,rfl⟩
  rintro fr σ m ⟨i,acc,g1,hI0,hI1,hI2,hIb,hIa,rfl,rfl,rfl⟩
  refine tQ <| tQ <| tG <| sm 2 rfl <| cV rfl (oSm uT35 rfl) <| sm 1 rfl <| nL ?_
  refine tC rfl (fun hc10=>?_) fun hc10=>?_
  ·have hlt:i<ts.length:=by simpa using hc10
   have hd:=List.drop_eq_getElem_cons hlt
   have hm:=List.getElem_mem hlt
   have hi:=z06 (f:=eInt) (List.getElem?_eq_getElem hlt)
   generalize ts[i]=x at hd hm hi
   have hal:(acc.map eInt).length=acc.length:=by simp
   refine tSk <| tQ <| tBk <| tG <| sm 4 rfl <| cV rfl (iSq rfl rfl rfl uT35 hi tS3 rfl (by rfl)) <| sm 1 rfl <| cE rfl (ocr (ze6 l x g1 oM0) ent35 rfl (po2 rfl rfl) rfl (fun k (h:_)=>.inr h) rfl rfl) <| cE rfl (bSl rfl rfl uT35 tZ3 tS3 rfl rfl rfl rfl (fbk rfl) rfl) ?_
   refine cE rfl (aPp rfl rfl rfl rfl (by rfl) ((fun h=>h)) uT35 tB3 dC0 (by (simp [z0c];done)) (by (simp [z0c,PV.one];rfl)) (by simp [maxLen,z0c];omega) (by simp [z0c];omega)) ?_
   refine sm 1 rfl <| nL <| tG <| sm 1 rfl <| cV rfl (oB rfl rfl (z03 rfl oM0)) <| sm 1 rfl <| nL ?_
   refine ⟨_,_,?_,Sub.of (fr':=[(6,iInt (i+1)),(5,.sl 105 ((acc++[(z07 x g1).1]).map eInt).length),(0,.ptr 2001 0),(1,.pv (ints ts))]) ⟨rfl,congrArg (fun z=>some (IV.sl _ z)) (by simp [z0c,eInt]),rfl,rfl,trivial⟩,(i+1),(acc++[(z07 x g1).1]),(z07 x g1).2,?_,?_,?_,?_,?_,rfl,(funext (lkq [105,2001,2002] rfl rfl ⟨(congrArg (fun z=>some (HO.row _ z)) (by simp [z0c,eInt])),rfl,rfl,trivial⟩)),rfl⟩
   ·omega
   ·omega
   ·rw [<- hI1,hd];simp [z0j]
   ·rw [<- hI2,hd];rfl
   ·simp only [z07,List.length_append,List.length_cons,List.length_nil]
    omega
   simp [hIa]
  refine tEx <| tQ <| Tr.freeze (t:=5) (k:=105) rfl rfl sI0 ?_
  have hge:ts.length<=i:=by simpa using hc10
  rw [List.drop_eq_nil_of_le hge] at hI1 hI2
  simp only [z0j,List.append_nil] at hI1 hI2
  subst hI2
  rw [<- hI1]
  refine tG <| sm 2 rfl <| nL <| tRt <| rOk rfl rfl (po2 rfl rfl)
theorem yf2 (l:List UInt8) (ts:List Int) (g:Gn) (hb:g.types.length+ts.length<=1000000):SC Tryz.prog 34 [.ptr 2001 0,.pv (ints ts)] (gH l g) (fun _=>False) (.sl 2005 ((z0j ts g).1.map eInt).length) ((2005,rowI (z0j ts g).1)::gH l (z0j ts g).2):=by
  refine SC.of Tryz.func34 rfl (lb rfl) fun F ρ w=>?_
  refine Tr.lenOf (t:=1) rfl (fun hl=>?_)
  simp only [List.length_map] at hl
  refine tQ <| tG <| sm 1 rfl <| nL <| tQ <| tG <| sm 1 rfl <| nL <| tQ <| tQ <| Tr.grow (t:=5) (k:=2005) ⟨3,1⟩ rfl rfl rfl rfl rfl <| tG ?_
  refine sm 1 rfl <| nL <| tBk <| Tr.sub (Sub.of (fr':=[(6,iInt 0),(5,.sl 2005 (([]:List Int).map eInt).length),(0,.ptr 2001 0),(1,.pv (ints ts))]) ⟨rfl,rfl,rfl,rfl,trivial⟩) <| Tr.heap (σ':=look [(2005,some (rowI ([]:List Int))),(2001,some (z3d l g)),(2002,some (rowI g.types))]) (lkq [2005,2001,2002] rfl rfl ⟨rfl,rfl,rfl,trivial⟩) ?_
  refine Tr.loop (fun fr σ m=>∃ (i:Nat) (acc:List Int) (g1:Gn),(i<=ts.length)/\(acc++(z0j (ts.drop i) g1).1=(z0j ts g).1)/\((z0j (ts.drop i) g1).2=(z0j ts g).2)/\(g1.types.length+(ts.length - i)<=1000000)/\(acc.length=i)/\fr=[(6,iInt i),(5,.sl 2005 (acc.map eInt).length),(0,.ptr 2001 0),(1,.pv (ints ts))] /\ σ = look [(2005,some (rowI acc)),(2001,some (z3d l g1)),(2002,some (rowI g1.types))]/\m=ts.length - i) (n:=ts.length - 0) ?_ ?_
  ·exact ⟨0,([]:List Int),g,Nat.zero_le _,sI0,rfl,hb,rfl,rfl,rfl,rfl⟩
  rintro fr σ m ⟨i,acc,g1,hI0,hI1,hI2,hIb,hIa,rfl,rfl,rfl⟩
  refine tQ <| tQ <| tG <| sm 2 rfl <| cV rfl (oSm uT35 rfl) <| sm 1 rfl <| nL ?_
  refine tC rfl (fun hc10=>?_) fun hc10=>?_
  ·have hlt:i<ts.length:=by simpa using hc10
   have hd:=List.drop_eq_getElem_cons hlt
   have hm:=List.getElem_mem hlt
   have hi:=z06 (f:=eInt) (List.getElem?_eq_getElem hlt)
   generalize ts[i]=x at hd hm hi
   have hal:(acc.map eInt).length=acc.length:=by simp
   refine tSk <| tQ <| tBk <| tG <| sm 4 rfl <| cV rfl (iSq rfl rfl rfl uT35 hi tS3 rfl (by rfl)) <| sm 1 rfl <| cE rfl (ocr (ze6 l x g1 oM0) ent35 rfl (po2 rfl rfl) rfl (fun k (h:_)=>.inr h) rfl rfl) <| cE rfl (bSl rfl rfl uT35 tZ3 tS3 rfl rfl rfl rfl (fbk rfl) rfl) ?_
   refine cE rfl (aPp rfl rfl rfl rfl (by rfl) ((fun h=>h)) uT35 tB3 dC0 (by (simp [z0c];done)) (by (simp [z0c,PV.one];rfl)) (by simp [maxLen,z0c];omega) (by simp [z0c];omega)) ?_
   refine sm 1 rfl <| nL <| tG <| sm 1 rfl <| cV rfl (oB rfl rfl (z03 rfl oM0)) <| sm 1 rfl <| nL ?_
   refine ⟨_,_,?_,Sub.of (fr':=[(6,iInt (i+1)),(5,.sl 2005 ((acc++[(z07 x g1).1]).map eInt).length),(0,.ptr 2001 0),(1,.pv (ints ts))]) ⟨rfl,congrArg (fun z=>some (IV.sl _ z)) (by simp [z0c,eInt]),rfl,rfl,trivial⟩,(i+1),(acc++[(z07 x g1).1]),(z07 x g1).2,?_,?_,?_,?_,?_,rfl,(funext (lkq [2005,2001,2002] rfl rfl ⟨(congrArg (fun z=>some (HO.row _ z)) (by simp [z0c,eInt])),rfl,rfl,trivial⟩)),rfl⟩
   ·omega
   ·omega
   ·rw [<- hI1,hd];simp [z0j]
   ·rw [<- hI2,hd];rfl
   ·simp only [z07,List.length_append,List.length_cons,List.length_nil]
    omega
   simp [hIa]
  refine tEx <| tQ ?_
  have hge:ts.length<=i:=by simpa using hc10
  rw [List.drop_eq_nil_of_le hge] at hI1 hI2
  simp only [z0j,List.append_nil] at hI1 hI2
  subst hI2
  rw [<- hI1]
  refine tG <| sm 2 rfl <| nL <| tRt <| rOk rfl rfl (po3 rfl rfl rfl)
set_option maxRecDepth 20000
theorem y7x (l:List UInt8) (seen:List Int) (g:Gn) (hs:InR g.types seen) (hb:g.pos<=999980) (hbt:g.types.length<=999990) (hsl:seen.length<=1000000):SC Tryz.prog 54 [.ptr 2001 0,.sl 2003 (seen.map eInt).length] (gHs l g seen) (fun _=>False) (.pv (ndv (z1r l seen g).1)) (gHs l (z1r l seen g).2 seen):=by
  refine SC.sameR (SC.vc tb {} [] Tryz.func54 rfl rfl ?_) fun k _ h=>h.elim
  have h0:=z2m l 12 g oM0 oM0
  have h12:(z05 l 12 g).1<12:=z1u oM0
  have hp:(z05 l 12 g).2.pos=g.pos+1:=by simp only [z05]
  have hs1:InR (z05 l 12 g).2.types seen:=by simp only [z05];exact hs
  have ht:(z05 l 12 g).2.types.length=g.types.length:=by simp only [z05]
  unfold z1r
  generalize z05 l 12 g=A at h0 h12 hp hs1 ht ⊢
  obtain ⟨k,g1⟩:=A
  dsimp only at h0 h12 hp hs1 ht ⊢
  have hN:(gNums.map eInt)[(z05 l 6 g1).1]? = some [vInt (gNums.getD (z05 l 6 g1).1 0)]:=ya5 (z1u oM0)
  have hO:(y3r.map eInt)[(z05 l 4 g1).1]? = some [vInt (y3r.getD (z05 l 4 g1).1 0)]:=ya5 (z1u oM0)
  have hp11:(z05 l 11 g1).1<11:=z1u oM0
  have hp6:(z05 l 6 g1).1<6:=z1u oM0
  have hk:k=0∨k=1∨k=2∨k=3∨k=4∨k=5∨k=6∨k=7∨k=8∨k=9∨k=10∨k=11:=by omega
  rcases hk with rfl | rfl | rfl | rfl | rfl | rfl | rfl | rfl | rfl | rfl | rfl | rfl
  · exact ⟨[],h0,sR,⟨rfl,rfl,trivial⟩,rfl,[],z2m l 6 g1 oM0 oM0,sR,⟨rfl,rfl,trivial⟩,rfl,hN,rfl,[],z2l l [1] (z05 l 6 g1).2 (by simp [z05,z1j];omega),sR,⟨rfl,rfl,trivial⟩,rfl,sP (z15 _),rfl,rfl,rfl,trivial⟩
  · exact ⟨[],h0,sR,⟨rfl,rfl,trivial⟩,rfl,[],z2m l 2 g1 oM0 oM0,sR,⟨rfl,rfl,trivial⟩,rfl,[],z2l l [2] (z05 l 2 g1).2 (by simp [z05,z1j];omega),sR,⟨rfl,rfl,trivial⟩,rfl,sP (z15 _),rfl,rfl,rfl,trivial⟩
  · exact ⟨[],h0,sR,⟨rfl,rfl,trivial⟩,rfl,[],z2m l 4 g1 oM0 oM0,sR,⟨rfl,rfl,trivial⟩,rfl,hO,rfl,[],z1w l seen [1] (z05 l 4 g1).2 hs1 (by simp [z05];omega) hsl,sR,⟨rfl,rfl,rfl,trivial⟩,rfl,[],z2l l [1] (z1l l seen [1] (z05 l 4 g1).2).2 (by simp [z05,z1j];omega),sR,⟨rfl,rfl,trivial⟩,rfl,sP (z15 _),rfl,rfl,rfl,trivial⟩
  · exact ⟨[],h0,sR,⟨rfl,rfl,trivial⟩,rfl,[],z1w l seen [2] g1 hs1 (by simp [z05];omega) hsl,sR,⟨rfl,rfl,rfl,trivial⟩,rfl,[],z2l l [2] (z1l l seen [2] g1).2 (by simp [z05,z1j];omega),sR,⟨rfl,rfl,trivial⟩,rfl,sP (z15 _),rfl,rfl,rfl,trivial⟩
  · exact ⟨[],h0,sR,⟨rfl,rfl,trivial⟩,rfl,[],z2m l 11 g1 oM0 oM0,sR,⟨rfl,rfl,trivial⟩,rfl,z03 rfl oM0,[],z1w l seen [1,1] (z05 l 11 g1).2 hs1 (by simp [z05];omega) hsl,sR,⟨rfl,rfl,rfl,trivial⟩,rfl,[],z2l l [1] (z1l l seen [1,1] (z05 l 11 g1).2).2 (by simp [z05,z1j];omega),sR,⟨rfl,rfl,trivial⟩,rfl,sP (z15 _),rfl,rfl,rfl,trivial⟩
  · exact ⟨[],h0,sR,⟨rfl,rfl,trivial⟩,rfl,[],z2m l 11 g1 oM0 oM0,sR,⟨rfl,rfl,trivial⟩,rfl,z03 rfl oM0,[],z1w l seen [1,1] (z05 l 11 g1).2 hs1 (by simp [z05];omega) hsl,sR,⟨rfl,rfl,rfl,trivial⟩,rfl,[],z2l l [1] (z1l l seen [1,1] (z05 l 11 g1).2).2 (by simp [z05,z1j];omega),sR,⟨rfl,rfl,trivial⟩,rfl,sP (z15 _),rfl,rfl,rfl,trivial⟩
  · exact ⟨[],h0,sR,⟨rfl,rfl,trivial⟩,rfl,[],z2m l 11 g1 oM0 oM0,sR,⟨rfl,rfl,trivial⟩,rfl,z03 rfl oM0,[],z1w l seen [1,1] (z05 l 11 g1).2 hs1 (by simp [z05];omega) hsl,sR,⟨rfl,rfl,rfl,trivial⟩,rfl,[],z2l l [1] (z1l l seen [1,1] (z05 l 11 g1).2).2 (by simp [z05,z1j];omega),sR,⟨rfl,rfl,trivial⟩,rfl,sP (z15 _),rfl,rfl,rfl,trivial⟩
  · exact ⟨[],h0,sR,⟨rfl,rfl,trivial⟩,rfl,[],z2m l 6 g1 oM0 oM0,sR,⟨rfl,rfl,trivial⟩,rfl,z03 rfl oM0,[],z1w l seen [1,1] (z05 l 6 g1).2 hs1 (by simp [z05];omega) hsl,sR,⟨rfl,rfl,rfl,trivial⟩,rfl,[],z2l l [2] (z1l l seen [1,1] (z05 l 6 g1).2).2 (by simp [z05,z1j];omega),sR,⟨rfl,rfl,trivial⟩,rfl,sP (z15 _),rfl,rfl,rfl,trivial⟩
  · exact ⟨[],h0,sR,⟨rfl,rfl,trivial⟩,rfl,[],z2m l 6 g1 oM0 oM0,sR,⟨rfl,rfl,trivial⟩,rfl,z03 rfl oM0,[],z1w l seen [1,1] (z05 l 6 g1).2 hs1 (by simp [z05];omega) hsl,sR,⟨rfl,rfl,rfl,trivial⟩,rfl,[],z2l l [2] (z1l l seen [1,1] (z05 l 6 g1).2).2 (by simp [z05,z1j];omega),sR,⟨rfl,rfl,trivial⟩,rfl,sP (z15 _),rfl,rfl,rfl,trivial⟩
  · exact ⟨[],h0,sR,⟨rfl,rfl,trivial⟩,rfl,[],z1w l seen [1] g1 hs1 (by simp [z05];omega) hsl,sR,⟨rfl,rfl,rfl,trivial⟩,rfl,[],z2l l [1] (z1l l seen [1] g1).2 (by simp [z05,z1j];omega),sR,⟨rfl,rfl,trivial⟩,rfl,sP (z15 _),rfl,rfl,rfl,trivial⟩
  · exact ⟨[],h0,sR,⟨rfl,rfl,trivial⟩,rfl,[],z1w l seen [1,1] g1 hs1 (by simp [z05];omega) hsl,sR,⟨rfl,rfl,rfl,trivial⟩,rfl,sP (z15 _),rfl,rfl,rfl,trivial⟩
  · have h4:=z2m l 4 g1 oM0 oM0
    have hl4:(z05 l 4 g1).1<4:=z1u oM0
    have hp4:(z05 l 4 g1).2.pos=g1.pos+1:=by simp only [z05]
    have hs4:InR (z05 l 4 g1).2.types seen:=by simp only [z05];exact hs1
    have ht4:(z05 l 4 g1).2.types.length=g1.types.length:=by simp only [z05]
    generalize z05 l 4 g1=A at h4 hl4 hp4 hs4 ht4 ⊢
    obtain ⟨j,g2⟩:=A
    dsimp only at h4 hl4 hp4 hs4 ht4 ⊢
    have hj:j=0∨j=1∨j=2∨j=3:=by omega
    rcases hj with rfl | rfl | rfl | rfl
    · exact ⟨[],h0,sR,⟨rfl,rfl,trivial⟩,rfl,[],h4,sR,⟨rfl,rfl,trivial⟩,rfl,[],z1w l seen [1,2] g2 hs4 (by simp [z05];omega) hsl,sR,⟨rfl,rfl,rfl,trivial⟩,rfl,[],z2l l [1] (z1l l seen [1,2] g2).2 (by simp [z05,z1j];omega),sR,⟨rfl,rfl,trivial⟩,rfl,sP (z15 _),rfl,rfl,rfl,trivial⟩
    · exact ⟨[],h0,sR,⟨rfl,rfl,trivial⟩,rfl,[],h4,sR,⟨rfl,rfl,trivial⟩,rfl,[],z2l l [1] g2 (by simp [z05,z1j];omega),sR,⟨rfl,rfl,trivial⟩,rfl,sP (z15 _),rfl,rfl,rfl,trivial⟩
    · exact ⟨[],h0,sR,⟨rfl,rfl,trivial⟩,rfl,[],h4,sR,⟨rfl,rfl,trivial⟩,rfl,[],z1w l seen [1] g2 hs4 (by simp [z05];omega) hsl,sR,⟨rfl,rfl,rfl,trivial⟩,rfl,sP (z15 _),rfl,rfl,rfl,trivial⟩
    · exact ⟨[],h0,sR,⟨rfl,rfl,trivial⟩,rfl,[],h4,sR,⟨rfl,rfl,trivial⟩,rfl,[],z1w l seen [1] g2 hs4 (by simp [z05];omega) hsl,sR,⟨rfl,rfl,rfl,trivial⟩,rfl,sP (z15 _),rfl,rfl,rfl,trivial⟩
set_option maxRecDepth 20000
set_option maxHeartbeats 2000000
theorem sc_gEnd (l:List UInt8) (seen:List Int) (p:Plc) (g:Gn) (hs:InR g.types seen) (hb:g.pos<=999980) (hsl:seen.length<=1000000) (hp1:p.Yield.length<=2) (hp2:p.Next.length<=2) (hp3:p.Left.length<=2):SC Tryz.prog 58 [.ptr 2001 0,.sl 2003 (seen.map eInt).length,.pv (plcv p)] (gHs l g seen) (fun _=>False) (.pv (ndv (gEnd l seen p g).1)) (gHs l (gEnd l seen p g).2 seen):=by
  refine SC.sameR (SC.vc tb {} [] Tryz.func58 rfl rfl ?_) fun k _ h=>h.elim
  have h0:=z2m l 6 g oM0 oM0
  have h6:(z05 l 6 g).1<6:=z1u oM0
  have hp:(z05 l 6 g).2.pos=g.pos+1:=by simp only [z05]
  have hs1:InR (z05 l 6 g).2.types seen:=by simp only [z05];exact hs
  unfold gEnd
  generalize z05 l 6 g=A at h0 h6 hp hs1 ⊢
  obtain ⟨k,g1⟩:=A
  obtain ⟨b1,b2,Y,N,L⟩:=p
  dsimp only at h0 h6 hp hs1 hp1 hp2 hp3 ⊢
  rcases (show k=0∨k=1∨k=2∨k=3∨k=4∨k=5 by omega) with rfl | rfl | rfl | rfl | rfl | rfl<;>cases b1<;>cases b2<;>first
    | exact ⟨[],h0,sR,⟨rfl,rfl,trivial⟩,rfl,[],z1w l seen Y g1 hs1 oM0 hsl,sR,⟨rfl,rfl,rfl,trivial⟩,rfl,sP (z15 _),rfl,rfl,rfl,trivial⟩
    | exact ⟨[],h0,sR,⟨rfl,rfl,trivial⟩,rfl,[],z1w l seen N g1 hs1 oM0 hsl,sR,⟨rfl,rfl,rfl,trivial⟩,rfl,sP (z15 _),rfl,rfl,rfl,trivial⟩
    | exact ⟨[],h0,sR,⟨rfl,rfl,trivial⟩,rfl,rfl,[],z1w l seen N g1 hs1 oM0 hsl,sR,⟨rfl,rfl,rfl,trivial⟩,rfl,sP (z15 _),rfl,rfl,rfl,trivial⟩
    | exact ⟨[],h0,sR,⟨rfl,rfl,trivial⟩,rfl,[],z1w l seen L g1 hs1 oM0 hsl,sR,⟨rfl,rfl,rfl,trivial⟩,rfl,sP (z15 _),rfl,rfl,rfl,trivial⟩
    | exact ⟨[],h0,sR,⟨rfl,rfl,trivial⟩,rfl,rfl,[],z1w l seen L g1 hs1 oM0 hsl,sR,⟨rfl,rfl,rfl,trivial⟩,rfl,sP (z15 _),rfl,rfl,rfl,trivial⟩
    | exact ⟨[],h0,sR,⟨rfl,rfl,trivial⟩,rfl,[],z1w l seen [1] g1 hs1 (by simp only [List.length_cons,List.length_nil];omega) hsl,sR,⟨rfl,rfl,rfl,trivial⟩,rfl,sP (z15 _),rfl,rfl,rfl,trivial⟩
    | exact ⟨[],h0,sR,⟨rfl,rfl,trivial⟩,rfl,rfl,[],z1w l seen [1] g1 hs1 (by simp only [List.length_cons,List.length_nil];omega) hsl,sR,⟨rfl,rfl,rfl,trivial⟩,rfl,sP (z15 _),rfl,rfl,rfl,trivial⟩
def qS (l:List UInt8) (all:List Int) (g1:Gn) (m1:Nat):Nd × Gn:=z1r l all { g1 with left:=m1 }
def qK (l:List UInt8) (all:List Int) (g1:Gn) (m1:Nat):Nat × Gn:=z05 l 6 (qS l all g1 m1).2
def qT (l:List UInt8) (all:List Int) (g1:Gn) (m1:Nat):List Int × Gn:=z0n l (qK l all g1 m1).2
def qC (l:List UInt8) (all:List Int) (g1:Gn) (m1:Nat):List Int × Gn:=z1l l all [2] (qT l all g1 m1).2
def qP (l:List UInt8) (all:List Int) (g1:Gn) (m1:Nat) (p:Plc):Plc:=⟨true,p.Loop,(qT l all g1 m1).1,p.Next,p.Left⟩
def qA (l:List UInt8) (m:Nat) (all:List Int) (p:Plc) (g1:Gn) (m1:Nat):List Nd × Gn:=z2z l m all (qP l all g1 m1 p) (qC l all g1 m1).2
def qB (l:List UInt8) (m:Nat) (all:List Int) (p:Plc) (g1:Gn) (m1:Nat):List Nd × Gn:=z2z l m all (qP l all g1 m1 p) (qA l m all p g1 m1).2
def qO (l:List UInt8) (all:List Int) (g1:Gn) (m1:Nat):List Int × Gn:=z0n l (qT l all g1 m1).2
def qE (l:List UInt8) (all:List Int) (g1:Gn) (m1:Nat):List Int × Gn:=z1l l all (qT l all g1 m1).1 (qO l all g1 m1).2
def qQ (l:List UInt8) (all:List Int) (g1:Gn) (m1:Nat):List Int × Gn:=z0j (qT l all g1 m1).1 (qE l all g1 m1).2
def qL (l:List UInt8) (all:List Int) (g1:Gn) (m1:Nat):Plc:=⟨false,true,[],(qT l all g1 m1).1,(qO l all g1 m1).1⟩
def qD (l:List UInt8) (m:Nat) (all:List Int) (g1:Gn) (m1:Nat):List Nd × Gn:=z2z l m (all++(qQ l all g1 m1).1) (qL l all g1 m1) (qQ l all g1 m1).2
def gHr (k:Nat) (l:List UInt8) (g:Gn) (seen:List Int):List (Nat × HO):=[(2001,z3d l g),(2002,rowI g.types),(k,rowI seen)]
theorem zr7 (l:List UInt8) (seen ts:List Int) (g:Gn) (hs:InR g.types seen) (hb:g.pos+ts.length<=1000000) (hsl:seen.length<=1000000):SC Tryz.prog 56 [.ptr 2001 0,.sl 2010 (seen.map eInt).length,.pv (ints ts)] (gHr 2010 l g seen) (fun _=>False) (.pv (ints (z1l l seen ts g).1)) (gHr 2010 l (z1l l seen ts g).2 seen):=SC.sw 2003 2010 (z1w l seen ts g hs hb hsl)
theorem y4n (l:List UInt8) (seen:List Int) (g:Gn) (hs:InR g.types seen) (hb:g.pos<=999980) (hbt:g.types.length<=999990) (hsl:seen.length<=1000000):SC Tryz.prog 54 [.ptr 2001 0,.sl 2010 (seen.map eInt).length] (gHr 2010 l g seen) (fun _=>False) (.pv (ndv (z1r l seen g).1)) (gHr 2010 l (z1r l seen g).2 seen):=SC.sw 2003 2010 (y7x l seen g hs hb hbt hsl)
theorem y6h (l:List UInt8) (seen:List Int) (p:Plc) (g:Gn) (hs:InR g.types seen) (hb:g.pos<=999980) (hsl:seen.length<=1000000) (hp:p.small):SC Tryz.prog 58 [.ptr 2001 0,.sl 2010 (seen.map eInt).length,.pv (plcv p)] (gHr 2010 l g seen) (fun _=>False) (.pv (ndv (gEnd l seen p g).1)) (gHr 2010 l (gEnd l seen p g).2 seen):=SC.sw 2003 2010 (sc_gEnd l seen p g hs hb hsl hp.1 hp.2.1 hp.2.2)
def LSCg (l:List UInt8) (d:Nat):Prop:=∀ (seen:List Int) (p:Plc) (g:Gn),InR g.types seen->p.small->g.pos+60*g.left<=900000->g.types.length+10*g.left<=900000->seen.length+10*g.left<=900000 ->
  SC Tryz.prog 36 [.ptr 2001 0,.sl 2003 (seen.map eInt).length,.pv (plcv p),iInt (d:Int)] (gHs l g seen) (fun _=>False) (.pv (z0m (z2z l d seen p g).1)) (gHs l (z2z l d seen p g).2 seen)
theorem LSCg.at2010 {l:List UInt8} {d:Nat} (h:LSCg l d) (seen:List Int) (p:Plc) (g:Gn) (h1:InR g.types seen) (h2:p.small) (h3:g.pos+60*g.left<=900000) (h4:g.types.length+10*g.left<=900000) (h5:seen.length+10*g.left<=900000) :
    SC Tryz.prog 36 [.ptr 2001 0,.sl 2010 (seen.map eInt).length,.pv (plcv p),iInt (d:Int)] (gHr 2010 l g seen) (fun _=>False) (.pv (z0m (z2z l d seen p g).1)) (gHr 2010 l (z2z l d seen p g).2 seen):=SC.sw 2003 2010 (h seen p g h1 h2 h3 h4 h5)
theorem LSCg.at2019 {l:List UInt8} {d:Nat} (h:LSCg l d) (seen:List Int) (p:Plc) (g:Gn) (h1:InR g.types seen) (h2:p.small) (h3:g.pos+60*g.left<=900000) (h4:g.types.length+10*g.left<=900000) (h5:seen.length+10*g.left<=900000) :
    SC Tryz.prog 36 [.ptr 2001 0,.sl 2019 (seen.map eInt).length,.pv (plcv p),iInt (d:Int)] (gHr 2019 l g seen) (fun _=>False) (.pv (z0m (z2z l d seen p g).1)) (gHr 2019 l (z2z l d seen p g).2 seen):=SC.sw 2003 2019 (h seen p g h1 h2 h3 h4 h5)
theorem y2m (l:List UInt8) (d:Nat) (hd3:d<=100) (ih:∀ m,d=m+1->LSCg l m) (seen:List Int) (p:Plc) (g:Gn) (hs:InR g.types seen) (hp:p.small) (hb1:g.pos+60*g.left<=900000) (hb2:g.types.length+10*g.left<=900000) (hb3:seen.length+10*g.left<=900000):SC Tryz.prog 36 [.ptr 2001 0,.sl 2003 (seen.map eInt).length,.pv (plcv p),iInt (d:Int)] (gHs l g seen) (fun _=>False) (.pv (z0m (z2z l d seen p g).1)) (gHs l (z2z l d seen p g).2 seen):=by
  refine SC.of Tryz.func36 rfl (lb rfl) fun F ρ w=>?_
  have h6:(z05 l 6 g).1<6:=z1u oM0
  have hsl0:(seen.map eInt).length=seen.length:=by simp
  refine tQ <| tG <| cE rfl (z3y rfl rfl) <| sm 1 rfl <| nL <| tQ <| tG <| sm 1 rfl <| nL <| tQ <| tG <| sm 1 rfl ?_
  refine nL <| tQ <| Tr.grow (t:=10) (k:=2010) ⟨3,1⟩ rfl rfl rfl rfl rfl <| tG <| sm 2 rfl ?_
  refine cE rfl (z5p rfl rfl rfl rfl rfl rfl rfl sI0 uT35 tB3 dC0 z5j z5n (by simp [maxLen];omega) (by simp;omega)) ?_
  refine sm 1 rfl <| nL <| tQ <| tQ <| Tr.grow (t:=9) (k:=109) ⟨42,8⟩ rfl rfl rfl rfl rfl <| tG <| sm 1 rfl <| cE rfl (ocr (z2m l 6 g oM0 oM0) y9q rfl (po2 rfl rfl) rfl (fun k (h:_)=>.inr h) rfl rfl) <| sm 1 rfl <| nL <| tBk <| Tr.sub (Sub.of (fr':=[(11,iInt (((z05 l 6 g).1:Nat):Int)),(10,.sl 2010 (seen.map eInt).length),(9,.sl 109 (([]:List Nd).map Nd.enc).length),(6,.pv (.ept [vBool p.If,vBool p.Loop,ints p.Yield,ints p.Next,ints p.Left] 0)),(0,.ptr 2001 0),(3,iInt (d:Int))]) ⟨rfl,congrArg (fun z=>some (IV.sl _ z)) sI0,rfl,rfl,rfl,rfl,trivial⟩) ?_
  refine Tr.heap (σ':=look [(109,some (.row ⟨42,8⟩ (([]:List Nd).map Nd.enc))),(2010,some (rowI seen)),(2001,some (z3d l (z05 l 6 g).2)),(2002,some (rowI (z05 l 6 g).2.types)),(2003,some (rowI seen))]) (lkq [109,2010,2001,2002,2003] rfl rfl ⟨rfl,(congrArg (fun z=>some (HO.row _ z)) sI0),rfl,rfl,rfl,trivial⟩) ?_
  refine Tr.loop (fun fr σ m=>∃ (n:Nat) (out:List Nd) (all:List Int) (g1:Gn),(z3c l (gRec l d) p n out all g1=z2z l d seen p g)/\(InR g1.types all)/\(g1.pos+60*g1.left<=900001)/\(g1.types.length+10*g1.left<=900000)/\(all.length+10*g1.left<=900000)/\(out.length+n<=5)/\fr=[(11,iInt ((n:Nat):Int)),(10,.sl 2010 (all.map eInt).length),(9,.sl 109 (out.map Nd.enc).length),(6,.pv (.ept [vBool p.If,vBool p.Loop,ints p.Yield,ints p.Next,ints p.Left] 0)),(0,.ptr 2001 0),(3,iInt (d:Int))] /\ σ = look [(109,some (.row ⟨42,8⟩ (out.map Nd.enc))),(2010,some (rowI all)),(2001,some (z3d l g1)),(2002,some (rowI g1.types)),(2003,some (rowI seen))]/\m=n+1) (n:=(z05 l 6 g).1+1) ?_ ?_
  ·exact ⟨(z05 l 6 g).1,([]:List Nd),seen,(z05 l 6 g).2,(z7e l d seen p g).symm,hs,(by simp only [z05];omega),hb2,hb3,(by simp;omega),rfl,rfl,rfl⟩
  rintro fr σ m ⟨n,out,all,g1,hI,hIn,hIp,hIt,hIa,hIo,rfl,rfl,rfl⟩
  refine tQ <| tQ <| tG <| sm 3 rfl ?_
  refine wS 27 rfl (fun hb27=>?_) fun hb27=>?_
  ·refine sm 1 rfl <| yV rfl rfl (nCk rfl rfl rfl) <| sm 4 rfl <| nL ?_
   refine tC rfl (fun hc33=>?_) fun hc33=>?_
   ·refine tSk <| tQ <| tBk <| tQ ?_
    have hn0:0<n:=by simpa using hb27
    obtain ⟨n1,rfl⟩:∃ n1,n=n1+1:=⟨n - 1,by omega⟩
    have hl0:0<g1.left:=by simpa using hc33
    have hleft:¬ g1.left=0:=by omega
    obtain ⟨m1,hm1⟩:∃ m1,g1.left=m1+1:=⟨g1.left - 1,by omega⟩
    have hXb:=bd_any l (ya2 l d) all p hp g1 hl0
    have hXo:=y5i l (rec:=gRec l d) all p g1
    have hXl:(gAny l (gRec l d) all p g1).2.left+1<=g1.left:=any_left l (ya2 l d) all p hp g1 hl0
    refine tG <| sm 2 rfl <| cV rfl (nCk rfl rfl rfl) <| sm 2 rfl <| cV rfl (oB rfl rfl (z2f rfl oM0)) <| cV rfl (nCk rfl rfl rfl) <| sm 1 rfl <| c0 (sBx rfl rfl rfl rfl ((fun h=>h)) tS3 (rfl) (lb rfl)) <| nL <| tQ <| Tr.heap (σ':=look [(109,some (.row ⟨42,8⟩ (out.map Nd.enc))),(2010,some (rowI all)),(2001,some (z3d l { g1 with left:=m1 })),(2002,some (rowI { g1 with left:=m1 }.types)),(2003,some (rowI seen))]) (lkq [2001,109,2010,2002,2003] rfl rfl ⟨(by exact congrArg (fun z=>some (HO.box [.pv (bts l),iInt (g1.pos:Int),.sl 2002 (g1.types.map eInt).length,iInt z])) (by show (g1.left:Int) - 1=(m1:Int);omega)),rfl,rfl,rfl,rfl,trivial⟩) <| tG ?_
    refine sm 2 rfl <| cE rfl (ocr (y4n l all { g1 with left:=m1 } hIn (by show g1.pos<=999980;omega) (by show g1.types.length<=999990;omega) oM0) ent54 rfl (po3 rfl rfl rfl) rfl (fun k (h:_)=>.inr h) rfl rfl) <| cE rfl (aLc (k:=112) rfl tZ42 rfl rfl rfl rfl) <| c0 (sBA rfl rfl rfl rfl rfl ((fun h=>h)) tS42 (flk rfl) (lb rfl)) <| nL <| tQ ?_
    have e2:({ g1 with left:=g1.left - 1 }:Gn)={ g1 with left:=m1 }:=by rw [hm1];rfl
    have hSb:Bd 4 1 { g1 with left:=m1 } (qS l all g1 m1).2:=zn5 l all { g1 with left:=m1 }
    have hS1:=hSb.ps
    have hS2:=hSb.t1
    have hS3:=hSb.t2
    have hS4:=hSb.lf
    have hKb:Bd 1 0 (qS l all g1 m1).2 (qK l all g1 m1).2:=z8a l 6 (qS l all g1 m1).2
    have hK1:=hKb.ps
    have hK2:=hKb.t1
    have hK3:=hKb.t2
    have hK4:=hKb.lf
    dsimp only at hS1 hS2 hS3 hS4
    refine tG <| sm 1 rfl <| cE rfl (ocr (z2m l 6 (qS l all g1 m1).2 oM0 oM0) y9q rfl (po2 rfl rfl) rfl (fun k (h:_)=>.inr h) rfl rfl) <| sm 1 rfl <| nL <| tQ ?_
    refine Tr.cut (fr':=[(12,.ptr 112 0),(11,iInt ((n1+1:Nat):Int)),(10,.sl 2010 (all.map eInt).length),(9,.sl 109 (out.map Nd.enc).length),(6,.pv (.ept [vBool p.If,vBool p.Loop,ints p.Yield,ints p.Next,ints p.Left] 0)),(0,.ptr 2001 0),(3,iInt (d:Int))]) (σ':=look [(112,some (.box [.pv (vInt (gAny l (gRec l d) all p g1).1.kind),.pv (vInt (gAny l (gRec l d) all p g1).1.op),.pv (vInt (gAny l (gRec l d) all p g1).1.n),.pv (vStr (gAny l (gRec l d) all p g1).1.name),.pv (ints (gAny l (gRec l d) all p g1).1.args),.pv (ints (gAny l (gRec l d) all p g1).1.outs),.pv (ints (gAny l (gRec l d) all p g1).1.params),.pv (kids (gAny l (gRec l d) all p g1).1.kids)])),(109,some (.row ⟨42,8⟩ (out.map Nd.enc))),(2010,some (rowI all)),(2001,some (z3d l (gAny l (gRec l d) all p g1).2)),(2002,some (rowI (gAny l (gRec l d) all p g1).2.types)),(2003,some (rowI seen))]) ?_ ?_
    ·refine tBk <| tQ <| tG <| sm 3 rfl ?_
     refine wS 52 rfl (fun hb52=>?_) fun hb52=>?_
     ·refine sm 4 rfl <| nL ?_
      refine tC rfl (fun hc49=>?_) fun hc49=>?_
      ·have hk0:(z05 l 6 (qS l all g1 m1).2).1=0:=by simp at hb52;omega
       obtain ⟨m,rfl⟩:∃ m,d=m+1:=⟨d - 1,by simp at hc49;omega⟩
       obtain ⟨hTb,hTl⟩:Bd 3 0 (qK l all g1 m1).2 (qT l all g1 m1).2/\(qT l all g1 m1).1.length<=2:=z3o l (qK l all g1 m1).2
       have hT1:=hTb.ps
       have hT2:=hTb.t1
       have hT3:=hTb.t2
       have hT4:=hTb.lf
       have hXP:Plc.small (qP l all g1 m1 p):=⟨hTl,hp.2.1,hp.2.2⟩
       have hCb:Bd 1 0 (qT l all g1 m1).2 (qC l all g1 m1).2:=zg2 l all [2] (qT l all g1 m1).2
       have hC1:=hCb.ps
       have hC2:=hCb.t1
       have hC3:=hCb.t2
       have hC4:=hCb.lf
       have hAb:Bd 4 0 (qC l all g1 m1).2 (qA l m all p g1 m1).2:=z7b l m all (qP l all g1 m1 p) (qC l all g1 m1).2 hXP
       have hA1:=hAb.ps
       have hA2:=hAb.t1
       have hA3:=hAb.t2
       have hA4:=hAb.lf
       have hBb:Bd 4 0 (qA l m all p g1 m1).2 (qB l m all p g1 m1).2:=z7b l m all (qP l all g1 m1 p) (qA l m all p g1 m1).2 hXP
       have hB1:=hBb.ps
       have hB2:=hBb.t1
       have hB3:=hBb.t2
       have hB4:=hBb.lf
       refine tQ <| tG <| sm 1 rfl <| cE rfl (ocr (z8w l (qK l all g1 m1).2 oM0) y9r rfl (po2 rfl rfl) rfl (fun k (h:_)=>.inr h) rfl rfl) <| sm 1 rfl <| nL <| tQ <| tG <| sm 7 rfl <| cV rfl (bPu rfl rfl tZ77 tP77 rfl (fbk rfl) rfl) <| cE rfl (aLc (k:=115) rfl tZ77 rfl rfl rfl rfl) <| c0 (sBA rfl rfl rfl rfl rfl ((fun h=>h)) tS77 (flk rfl) (lb rfl)) ?_
       refine nL <| tQ <| Tr.freezeBox (t:=15) (k:=115) rfl rfl rfl <| tG <| sm 2 rfl <| cE rfl (bSl rfl rfl uT35 tZ3 tS3 rfl rfl rfl rfl (fbk rfl) rfl) ?_
       refine cE rfl (ocr (zr7 l all [2] (qT l all g1 m1).2 (hIn.mono oM0) (by simp only [List.length_cons,List.length_nil];omega) oM0) ent56 rfl (po3 rfl rfl rfl) rfl (fun k (h:_)=>.inr h) rfl rfl) ?_
       refine cV rfl (bPu rfl rfl tZ42 tP42 rfl (fbk rfl) rfl) <| c0 (sBA rfl rfl rfl rfl rfl ((fun h=>h)) tS42 (flk rfl) (lb rfl)) <| nL <| tQ <| Tr.fixNil (k:=112) rfl (fun h=>h) <| tG <| sm 2 rfl <| cV rfl (lEA rfl rfl Tryz.underlying77 rfl tS77 (lb rfl)) <| sm 1 rfl <| cV rfl (oB rfl rfl (z2f rfl oM0)) <| cE rfl (cRr ((ih m rfl).at2010 all (qP l all g1 m1 p) (qC l all g1 m1).2 (hIn.mono oM0) hXP oM0 oM0 oM0) y9p rfl rfl (sSm rfl (sSm rfl (sSm rfl (sSm (congrArg (fun z=>iInt z) oM0) Subs.nil)))) (po3 rfl rfl rfl) (by rfl) (fun k (h:_)=>.inr h) rfl (by rfl)) <| sm 1 rfl ?_
       refine nL <| tQ <| tG <| sm 3 rfl <| cV rfl (lEA rfl rfl Tryz.underlying77 rfl tS77 (lb rfl)) <| sm 1 rfl <| cV rfl (oB rfl rfl (z2f rfl oM0)) <| cE rfl (cRr ((ih m rfl).at2010 all (qP l all g1 m1 p) (qA l m all p g1 m1).2 (hIn.mono oM0) hXP oM0 oM0 oM0) y9p rfl rfl (sSm rfl (sSm rfl (sSm rfl (sSm (congrArg (fun z=>iInt z) oM0) Subs.nil)))) (po3 rfl rfl rfl) (by rfl) (fun k (h:_)=>.inr h) rfl (by rfl)) <| cE rfl (bSl rfl rfl Tryz.underlying40 tZ43 tS43 rfl rfl rfl rfl (fbk rfl) rfl) <| sm 1 rfl <| c0 (sBx rfl rfl rfl rfl ((fun h=>h)) tS40 (rfl) (lb rfl)) <| nL ?_
       refine tQ <| tG <| cV rfl (lBP rfl rfl rfl uT42 rfl tS42 (lb rfl) rfl trivial) <| cE rfl (ocq (z4g (.mk 10 0 0 z0l (qC l all g1 m1).1 [] [] [(qA l m all p g1 m1).1,(qB l m all p g1 m1).1]:Nd)) y9s rfl rfl) <| sm 1 rfl <| nL ?_
       refine tC rfl (fun hc88=>?_) fun hc88=>?_
       ·have hX:gAny l (gRec l (m+1)) all p g1=((.mk 10 0 0 z0l (qC l all g1 m1).1 (z0j (qT l all g1 m1).1 (qB l m all p g1 m1).2).1 [] [(qA l m all p g1 m1).1,(qB l m all p g1 m1).1]:Nd),(z0j (qT l all g1 m1).1 (qB l m all p g1 m1).2).2):=by
          have hcl:z01 (.mk 10 0 0 z0l (qC l all g1 m1).1 [] [] [(qA l m all p g1 m1).1,(qB l m all p g1 m1).1]:Nd)=false:=by simpa using hc88
          unfold gAny
          simp only [gRec,e2]
          exact (if_pos hk0).trans (if_neg (fun h=>Bool.noConfusion (hcl.symm.trans h)))
        refine tG <| sm 2 rfl <| cE rfl (ocr (z2l l (qT l all g1 m1).1 (qB l m all p g1 m1).2 oM0) y74 rfl (po2 rfl rfl) rfl (fun k (h:_)=>.inr h) rfl rfl) <| sm 1 rfl <| c0 (sBx rfl rfl rfl rfl ((fun h=>h)) tS35 (rfl) (lb rfl)) <| nL ?_
        refine ⟨rfl,Sub.of ⟨rfl,rfl,rfl,rfl,rfl,rfl,rfl,trivial⟩,funext (lkq [112,109,2010,2001,2002,2003,115,2019] rfl rfl ⟨(by first | rfl | (rw [hX];rfl)),rfl,rfl,(by first | rfl | (rw [hX];rfl)),(by first | rfl | (rw [hX];rfl)),rfl,rfl,rfl,trivial⟩)⟩
       have hX:gAny l (gRec l (m+1)) all p g1=((.mk 10 0 0 z0l (qC l all g1 m1).1 [] [] [(qA l m all p g1 m1).1,(qB l m all p g1 m1).1]:Nd),(qB l m all p g1 m1).2):=by
         have hcl:z01 (.mk 10 0 0 z0l (qC l all g1 m1).1 [] [] [(qA l m all p g1 m1).1,(qB l m all p g1 m1).1]:Nd)=true:=by simpa using hc88
         unfold gAny
         simp only [gRec,e2]
         exact (if_pos hk0).trans (if_pos hcl)
       refine tSk ?_
       refine ⟨rfl,Sub.of ⟨rfl,rfl,rfl,rfl,rfl,rfl,rfl,trivial⟩,funext (lkq [112,109,2010,2001,2002,2003,115,2019] rfl rfl ⟨(by first | rfl | (rw [hX];rfl)),rfl,rfl,(by first | rfl | (rw [hX];rfl)),(by first | rfl | (rw [hX];rfl)),rfl,rfl,rfl,trivial⟩)⟩
      refine tQ <| tG <| sm 3 rfl ?_
      refine wS 96 rfl (fun hb96=>?_) fun hb96=>?_
      ·refine sm 4 rfl <| nL ?_
       refine tC rfl (fun hc93=>?_) fun hc93=>?_
       ·have hk1:(z05 l 6 (qS l all g1 m1).2).1=1:=by simp at hb96;omega
        obtain ⟨m,rfl⟩:∃ m,d=m+1:=⟨d - 1,by simp at hc93;omega⟩
        obtain ⟨hTb,hTl⟩:Bd 3 0 (qK l all g1 m1).2 (qT l all g1 m1).2/\(qT l all g1 m1).1.length<=2:=z3o l (qK l all g1 m1).2
        have hT1:=hTb.ps
        have hT2:=hTb.t1
        have hT3:=hTb.t2
        have hT4:=hTb.lf
        obtain ⟨hOb,hOl⟩:Bd 3 0 (qT l all g1 m1).2 (qO l all g1 m1).2/\(qO l all g1 m1).1.length<=2:=z3o l (qT l all g1 m1).2
        have hO1:=hOb.ps
        have hO2:=hOb.t1
        have hO3:=hOb.t2
        have hO4:=hOb.lf
        have hLP:Plc.small (qL l all g1 m1):=⟨by simp [qL],hTl,hOl⟩
        have hCb:Bd (qT l all g1 m1).1.length 0 (qO l all g1 m1).2 (qE l all g1 m1).2:=zg2 l all (qT l all g1 m1).1 (qO l all g1 m1).2
        have hC1:=hCb.ps
        have hC2:=hCb.t1
        have hC3:=hCb.t2
        have hC4:=hCb.lf
        have hQb:Bd 0 (qT l all g1 m1).1.length (qE l all g1 m1).2 (qQ l all g1 m1).2:=zn4 (qT l all g1 m1).1 (qE l all g1 m1).2
        have hQ1:=hQb.ps
        have hQ2:=hQb.t1
        have hQ3:=hQb.t2
        have hQ4:=hQb.lf
        have hQl:(qQ l all g1 m1).1.length=(qT l all g1 m1).1.length:=(z22 (qT l all g1 m1).1 (qE l all g1 m1).2).2
        have hInQ:InR (qQ l all g1 m1).2.types (all++(qQ l all g1 m1).1):=(hIn.mono oM0).app (InR.outs _ _)
        have hBb:Bd 4 0 (qQ l all g1 m1).2 (qD l m all g1 m1).2:=z7b l m (all++(qQ l all g1 m1).1) (qL l all g1 m1) (qQ l all g1 m1).2 hLP
        have hB1:=hBb.ps
        have hB2:=hBb.t1
        have hB3:=hBb.t2
        have hB4:=hBb.lf
        have hQl2:((qQ l all g1 m1).1.map eInt).length=(qQ l all g1 m1).1.length:=by simp
        have hal:(all.map eInt).length=all.length:=by simp
        have hQl3:=(z22 (qT l all g1 m1).1 (qE l all g1 m1).2).2
        refine tQ <| tG <| sm 1 rfl <| cE rfl (ocr (z8w l (qK l all g1 m1).2 oM0) y9r rfl (po2 rfl rfl) rfl (fun k (h:_)=>.inr h) rfl rfl) <| sm 1 rfl <| cE rfl (ocr (z8w l (qT l all g1 m1).2 oM0) y9r rfl (po2 rfl rfl) rfl (fun k (h:_)=>.inr h) rfl rfl) <| sm 2 rfl <| nL <| tQ <| tG <| sm 3 rfl <| cE rfl (ocr (zr7 l all (qT l all g1 m1).1 (qO l all g1 m1).2 (hIn.mono oM0) oM0 oM0) ent56 rfl (po3 rfl rfl rfl) rfl (fun k (h:_)=>.inr h) rfl rfl) ?_
        refine sm 2 rfl <| cE rfl (ocr (z2l l (qT l all g1 m1).1 (qE l all g1 m1).2 oM0) y74 rfl (po2 rfl rfl) rfl (fun k (h:_)=>.inr h) rfl rfl) <| cV rfl (bPu rfl rfl tZ42 tP42 rfl (fbk rfl) rfl) <| c0 (sBA rfl rfl rfl rfl rfl ((fun h=>h)) tS42 (flk rfl) (lb rfl)) <| nL <| tQ <| Tr.fixNil (k:=112) rfl (fun h=>h) <| tG <| sm 1 rfl <| nL <| tQ <| Tr.grow (t:=19) (k:=2019) ⟨3,1⟩ rfl rfl rfl rfl rfl ?_
        refine tG <| sm 2 rfl ?_
        refine cE rfl (z5p rfl rfl rfl rfl rfl rfl rfl sI0 uT35 tB3 dC0 z5j z5n (by simp [maxLen];omega) (by simp;omega)) ?_
        refine sm 1 rfl <| nL <| tQ <| tG <| sm 3 rfl ?_
        refine cE rfl (aPp rfl rfl rfl rfl (by (simp;done)) ((fun h=>h)) uT35 tB3 dC0 (z5j) (z5n) (by simp [maxLen,z0c];omega) (by simp [z0c];omega)) ?_
        refine sm 1 rfl <| nL <| tQ ?_
        refine Tr.heap (σ':=look [(2019,some (rowI (all++(qQ l all g1 m1).1))),(112,some (.box [.pv (vInt (.mk 11 0 0 z0l (qE l all g1 m1).1 [] (qQ l all g1 m1).1 []:Nd).kind),.pv (vInt (.mk 11 0 0 z0l (qE l all g1 m1).1 [] (qQ l all g1 m1).1 []:Nd).op),.pv (vInt (.mk 11 0 0 z0l (qE l all g1 m1).1 [] (qQ l all g1 m1).1 []:Nd).n),.pv (vStr (.mk 11 0 0 z0l (qE l all g1 m1).1 [] (qQ l all g1 m1).1 []:Nd).name),.pv (ints (.mk 11 0 0 z0l (qE l all g1 m1).1 [] (qQ l all g1 m1).1 []:Nd).args),.pv (ints (.mk 11 0 0 z0l (qE l all g1 m1).1 [] (qQ l all g1 m1).1 []:Nd).outs),.pv (ints (.mk 11 0 0 z0l (qE l all g1 m1).1 [] (qQ l all g1 m1).1 []:Nd).params),.pv (kids (.mk 11 0 0 z0l (qE l all g1 m1).1 [] (qQ l all g1 m1).1 []:Nd).kids)])),(109,some (.row ⟨42,8⟩ (out.map Nd.enc))),(2010,some (rowI all)),(2001,some (z3d l (qQ l all g1 m1).2)),(2002,some (rowI (qQ l all g1 m1).2.types)),(2003,some (rowI seen))]) (lkq [2019,112,109,2010,2001,2002,2003] rfl rfl ⟨(congrArg (fun z=>some (HO.row _ z)) (by simp [qQ])),rfl,rfl,rfl,rfl,rfl,rfl,trivial⟩) ?_
        refine tG <| sm 4 rfl <| cV rfl (bPu rfl rfl tZ77 tP77 rfl (fbk rfl) rfl) <| sm 1 rfl <| cV rfl (oB rfl rfl (z2f rfl oM0)) ?_
        refine cE rfl (cRr ((ih m rfl).at2019 (all++(qQ l all g1 m1).1) (qL l all g1 m1) (qQ l all g1 m1).2 hInQ hLP oM0 oM0 (by rw [List.length_append];omega)) y9p rfl rfl (sSm rfl (sSm (congrArg (fun n=>IV.sl 2019 n) (by simp [qQ])) (Subs.cons (fun _ _ _ _ h=>z90 (q:=plcv (qL l all g1 m1)) (PSub.agg (ps:=[vBool false,vBool true,.val (.slice none 0 0),ints (qT l all g1 m1).1,ints (qO l all g1 m1).1]) (And.intro (PSub.refl _) (And.intro (PSub.refl _) (And.intro PSub.nil (And.intro (PSub.refl _) (And.intro (PSub.refl _) trivial)))))) h) (sSm (congrArg (fun z=>iInt z) oM0) Subs.nil)))) (po3 rfl rfl rfl) (by rfl) (fun k (h:_)=>.inr h) rfl (by rfl)) ?_
        refine cE rfl (bSl rfl rfl Tryz.underlying40 tZ43 tS43 rfl rfl rfl rfl (fbk rfl) rfl) <| sm 1 rfl <| c0 (sBx rfl rfl rfl rfl ((fun h=>h)) tS40 (rfl) (lb rfl)) <| nL <| tQ <| Tr.drop (k:=2019) <| tG <| cV rfl (lBP rfl rfl rfl uT42 rfl tS42 (lb rfl) rfl trivial) <| cE rfl (ocq (z4g (.mk 11 0 0 z0l (qE l all g1 m1).1 [] (qQ l all g1 m1).1 [(qD l m all g1 m1).1]:Nd)) y9s rfl rfl) <| sm 1 rfl <| nL ?_
        refine tC rfl (fun hc131=>?_) fun hc131=>?_
        ·have hX:gAny l (gRec l (m+1)) all p g1=((.mk 11 0 0 z0l (qE l all g1 m1).1 (z0j (qO l all g1 m1).1 (qD l m all g1 m1).2).1 (qQ l all g1 m1).1 [(qD l m all g1 m1).1]:Nd),(z0j (qO l all g1 m1).1 (qD l m all g1 m1).2).2):=by
           have hcl:z01 (.mk 11 0 0 z0l (qE l all g1 m1).1 [] (qQ l all g1 m1).1 [(qD l m all g1 m1).1]:Nd)=false:=by simpa using hc131
           have hk0:¬ (z05 l 6 (qS l all g1 m1).2).1=0:=by omega
           unfold gAny
           simp only [gRec,e2]
           exact (if_neg hk0).trans ((if_pos hk1).trans (if_neg (fun h=>Bool.noConfusion (hcl.symm.trans h))))
         refine tG <| sm 2 rfl <| cE rfl (ocr (z2l l (qO l all g1 m1).1 (qD l m all g1 m1).2 oM0) y74 rfl (po2 rfl rfl) rfl (fun k (h:_)=>.inr h) rfl rfl) <| sm 1 rfl <| c0 (sBx rfl rfl rfl rfl ((fun h=>h)) tS35 (rfl) (lb rfl)) <| nL ?_
         refine ⟨rfl,Sub.of ⟨rfl,rfl,rfl,rfl,rfl,rfl,rfl,trivial⟩,funext (lkq [112,109,2010,2001,2002,2003,115,2019] rfl rfl ⟨(by first | rfl | (rw [hX];rfl)),rfl,rfl,(by first | rfl | (rw [hX];rfl)),(by first | rfl | (rw [hX];rfl)),rfl,rfl,rfl,trivial⟩)⟩
        have hX:gAny l (gRec l (m+1)) all p g1=((.mk 11 0 0 z0l (qE l all g1 m1).1 [] (qQ l all g1 m1).1 [(qD l m all g1 m1).1]:Nd),(qD l m all g1 m1).2):=by
          have hcl:z01 (.mk 11 0 0 z0l (qE l all g1 m1).1 [] (qQ l all g1 m1).1 [(qD l m all g1 m1).1]:Nd)=true:=by simpa using hc131
          have hk0:¬ (z05 l 6 (qS l all g1 m1).2).1=0:=by omega
          unfold gAny
          simp only [gRec,e2]
          exact (if_neg hk0).trans ((if_pos hk1).trans (if_pos hcl))
        refine tSk ?_
        refine ⟨rfl,Sub.of ⟨rfl,rfl,rfl,rfl,rfl,rfl,rfl,trivial⟩,funext (lkq [112,109,2010,2001,2002,2003,115,2019] rfl rfl ⟨(by first | rfl | (rw [hX];rfl)),rfl,rfl,(by first | rfl | (rw [hX];rfl)),(by first | rfl | (rw [hX];rfl)),rfl,rfl,rfl,trivial⟩)⟩
       have hX:gAny l (gRec l d) all p g1=((qS l all g1 m1).1,(qK l all g1 m1).2):=by
         unfold gAny
         simp only [e2]
         cases d with
         | zero=>rfl
         | succ m =>
           have hk0:¬ (z05 l 6 (qS l all g1 m1).2).1=0:=by first | (simp at hb52<;>omega) | (simp at hc49<;>omega)
           have hk1:¬ (z05 l 6 (qS l all g1 m1).2).1=1:=by first | (simp at hb96<;>omega) | (simp at hc93<;>omega)
           exact (if_neg hk0).trans (if_neg hk1)
       refine tSk ?_
       refine ⟨rfl,Sub.of ⟨rfl,rfl,rfl,rfl,rfl,rfl,rfl,trivial⟩,funext (lkq [112,109,2010,2001,2002,2003,115,2019] rfl rfl ⟨(by first | rfl | (rw [hX];rfl)),rfl,rfl,(by first | rfl | (rw [hX];rfl)),(by first | rfl | (rw [hX];rfl)),rfl,rfl,rfl,trivial⟩)⟩
      refine sm 4 rfl <| nL <| Tr.condF rfl ?_
      have hX:gAny l (gRec l d) all p g1=((qS l all g1 m1).1,(qK l all g1 m1).2):=by
        unfold gAny
        simp only [e2]
        cases d with
        | zero=>rfl
        | succ m =>
          have hk0:¬ (z05 l 6 (qS l all g1 m1).2).1=0:=by first | (simp at hb52<;>omega) | (simp at hc49<;>omega)
          have hk1:¬ (z05 l 6 (qS l all g1 m1).2).1=1:=by first | (simp at hb96<;>omega) | (simp at hc93<;>omega)
          exact (if_neg hk0).trans (if_neg hk1)
      refine tSk ?_
      refine ⟨rfl,Sub.of ⟨rfl,rfl,rfl,rfl,rfl,rfl,rfl,trivial⟩,funext (lkq [112,109,2010,2001,2002,2003,115,2019] rfl rfl ⟨(by first | rfl | (rw [hX];rfl)),rfl,rfl,(by first | rfl | (rw [hX];rfl)),(by first | rfl | (rw [hX];rfl)),rfl,rfl,rfl,trivial⟩)⟩
     refine sm 4 rfl <| nL <| Tr.condF rfl <| tQ <| tG <| sm 3 rfl ?_
     refine wS 96 rfl (fun hb96=>?_) fun hb96=>?_
     ·refine sm 4 rfl <| nL ?_
      refine tC rfl (fun hc93=>?_) fun hc93=>?_
      ·have hk1:(z05 l 6 (qS l all g1 m1).2).1=1:=by simp at hb96;omega
       obtain ⟨m,rfl⟩:∃ m,d=m+1:=⟨d - 1,by simp at hc93;omega⟩
       obtain ⟨hTb,hTl⟩:Bd 3 0 (qK l all g1 m1).2 (qT l all g1 m1).2/\(qT l all g1 m1).1.length<=2:=z3o l (qK l all g1 m1).2
       have hT1:=hTb.ps
       have hT2:=hTb.t1
       have hT3:=hTb.t2
       have hT4:=hTb.lf
       obtain ⟨hOb,hOl⟩:Bd 3 0 (qT l all g1 m1).2 (qO l all g1 m1).2/\(qO l all g1 m1).1.length<=2:=z3o l (qT l all g1 m1).2
       have hO1:=hOb.ps
       have hO2:=hOb.t1
       have hO3:=hOb.t2
       have hO4:=hOb.lf
       have hLP:Plc.small (qL l all g1 m1):=⟨by simp [qL],hTl,hOl⟩
       have hCb:Bd (qT l all g1 m1).1.length 0 (qO l all g1 m1).2 (qE l all g1 m1).2:=zg2 l all (qT l all g1 m1).1 (qO l all g1 m1).2
       have hC1:=hCb.ps
       have hC2:=hCb.t1
       have hC3:=hCb.t2
       have hC4:=hCb.lf
       have hQb:Bd 0 (qT l all g1 m1).1.length (qE l all g1 m1).2 (qQ l all g1 m1).2:=zn4 (qT l all g1 m1).1 (qE l all g1 m1).2
       have hQ1:=hQb.ps
       have hQ2:=hQb.t1
       have hQ3:=hQb.t2
       have hQ4:=hQb.lf
       have hQl:(qQ l all g1 m1).1.length=(qT l all g1 m1).1.length:=(z22 (qT l all g1 m1).1 (qE l all g1 m1).2).2
       have hInQ:InR (qQ l all g1 m1).2.types (all++(qQ l all g1 m1).1):=(hIn.mono oM0).app (InR.outs _ _)
       have hBb:Bd 4 0 (qQ l all g1 m1).2 (qD l m all g1 m1).2:=z7b l m (all++(qQ l all g1 m1).1) (qL l all g1 m1) (qQ l all g1 m1).2 hLP
       have hB1:=hBb.ps
       have hB2:=hBb.t1
       have hB3:=hBb.t2
       have hB4:=hBb.lf
       have hQl2:((qQ l all g1 m1).1.map eInt).length=(qQ l all g1 m1).1.length:=by simp
       have hal:(all.map eInt).length=all.length:=by simp
       have hQl3:=(z22 (qT l all g1 m1).1 (qE l all g1 m1).2).2
       refine tQ <| tG <| sm 1 rfl <| cE rfl (ocr (z8w l (qK l all g1 m1).2 oM0) y9r rfl (po2 rfl rfl) rfl (fun k (h:_)=>.inr h) rfl rfl) <| sm 1 rfl <| cE rfl (ocr (z8w l (qT l all g1 m1).2 oM0) y9r rfl (po2 rfl rfl) rfl (fun k (h:_)=>.inr h) rfl rfl) <| sm 2 rfl <| nL <| tQ <| tG <| sm 3 rfl <| cE rfl (ocr (zr7 l all (qT l all g1 m1).1 (qO l all g1 m1).2 (hIn.mono oM0) oM0 oM0) ent56 rfl (po3 rfl rfl rfl) rfl (fun k (h:_)=>.inr h) rfl rfl) ?_
       refine sm 2 rfl <| cE rfl (ocr (z2l l (qT l all g1 m1).1 (qE l all g1 m1).2 oM0) y74 rfl (po2 rfl rfl) rfl (fun k (h:_)=>.inr h) rfl rfl) <| cV rfl (bPu rfl rfl tZ42 tP42 rfl (fbk rfl) rfl) <| c0 (sBA rfl rfl rfl rfl rfl ((fun h=>h)) tS42 (flk rfl) (lb rfl)) <| nL <| tQ <| Tr.fixNil (k:=112) rfl (fun h=>h) <| tG <| sm 1 rfl <| nL <| tQ <| Tr.grow (t:=19) (k:=2019) ⟨3,1⟩ rfl rfl rfl rfl rfl ?_
       refine tG <| sm 2 rfl ?_
       refine cE rfl (z5p rfl rfl rfl rfl rfl rfl rfl sI0 uT35 tB3 dC0 z5j z5n (by simp [maxLen];omega) (by simp;omega)) ?_
       refine sm 1 rfl <| nL <| tQ <| tG <| sm 3 rfl ?_
       refine cE rfl (aPp rfl rfl rfl rfl (by (simp;done)) ((fun h=>h)) uT35 tB3 dC0 (z5j) (z5n) (by simp [maxLen,z0c];omega) (by simp [z0c];omega)) ?_
       refine sm 1 rfl <| nL <| tQ ?_
       refine Tr.heap (σ':=look [(2019,some (rowI (all++(qQ l all g1 m1).1))),(112,some (.box [.pv (vInt (.mk 11 0 0 z0l (qE l all g1 m1).1 [] (qQ l all g1 m1).1 []:Nd).kind),.pv (vInt (.mk 11 0 0 z0l (qE l all g1 m1).1 [] (qQ l all g1 m1).1 []:Nd).op),.pv (vInt (.mk 11 0 0 z0l (qE l all g1 m1).1 [] (qQ l all g1 m1).1 []:Nd).n),.pv (vStr (.mk 11 0 0 z0l (qE l all g1 m1).1 [] (qQ l all g1 m1).1 []:Nd).name),.pv (ints (.mk 11 0 0 z0l (qE l all g1 m1).1 [] (qQ l all g1 m1).1 []:Nd).args),.pv (ints (.mk 11 0 0 z0l (qE l all g1 m1).1 [] (qQ l all g1 m1).1 []:Nd).outs),.pv (ints (.mk 11 0 0 z0l (qE l all g1 m1).1 [] (qQ l all g1 m1).1 []:Nd).params),.pv (kids (.mk 11 0 0 z0l (qE l all g1 m1).1 [] (qQ l all g1 m1).1 []:Nd).kids)])),(109,some (.row ⟨42,8⟩ (out.map Nd.enc))),(2010,some (rowI all)),(2001,some (z3d l (qQ l all g1 m1).2)),(2002,some (rowI (qQ l all g1 m1).2.types)),(2003,some (rowI seen))]) (lkq [2019,112,109,2010,2001,2002,2003] rfl rfl ⟨(congrArg (fun z=>some (HO.row _ z)) (by simp [qQ])),rfl,rfl,rfl,rfl,rfl,rfl,trivial⟩) ?_
       refine tG <| sm 4 rfl <| cV rfl (bPu rfl rfl tZ77 tP77 rfl (fbk rfl) rfl) <| sm 1 rfl <| cV rfl (oB rfl rfl (z2f rfl oM0)) ?_
       refine cE rfl (cRr ((ih m rfl).at2019 (all++(qQ l all g1 m1).1) (qL l all g1 m1) (qQ l all g1 m1).2 hInQ hLP oM0 oM0 (by rw [List.length_append];omega)) y9p rfl rfl (sSm rfl (sSm (congrArg (fun n=>IV.sl 2019 n) (by simp [qQ])) (Subs.cons (fun _ _ _ _ h=>z90 (q:=plcv (qL l all g1 m1)) (PSub.agg (ps:=[vBool false,vBool true,.val (.slice none 0 0),ints (qT l all g1 m1).1,ints (qO l all g1 m1).1]) (And.intro (PSub.refl _) (And.intro (PSub.refl _) (And.intro PSub.nil (And.intro (PSub.refl _) (And.intro (PSub.refl _) trivial)))))) h) (sSm (congrArg (fun z=>iInt z) oM0) Subs.nil)))) (po3 rfl rfl rfl) (by rfl) (fun k (h:_)=>.inr h) rfl (by rfl)) ?_
       refine cE rfl (bSl rfl rfl Tryz.underlying40 tZ43 tS43 rfl rfl rfl rfl (fbk rfl) rfl) <| sm 1 rfl <| c0 (sBx rfl rfl rfl rfl ((fun h=>h)) tS40 (rfl) (lb rfl)) <| nL <| tQ <| Tr.drop (k:=2019) <| tG <| cV rfl (lBP rfl rfl rfl uT42 rfl tS42 (lb rfl) rfl trivial) <| cE rfl (ocq (z4g (.mk 11 0 0 z0l (qE l all g1 m1).1 [] (qQ l all g1 m1).1 [(qD l m all g1 m1).1]:Nd)) y9s rfl rfl) <| sm 1 rfl <| nL ?_
       refine tC rfl (fun hc131=>?_) fun hc131=>?_
       ·have hX:gAny l (gRec l (m+1)) all p g1=((.mk 11 0 0 z0l (qE l all g1 m1).1 (z0j (qO l all g1 m1).1 (qD l m all g1 m1).2).1 (qQ l all g1 m1).1 [(qD l m all g1 m1).1]:Nd),(z0j (qO l all g1 m1).1 (qD l m all g1 m1).2).2):=by
          have hcl:z01 (.mk 11 0 0 z0l (qE l all g1 m1).1 [] (qQ l all g1 m1).1 [(qD l m all g1 m1).1]:Nd)=false:=by simpa using hc131
          have hk0:¬ (z05 l 6 (qS l all g1 m1).2).1=0:=by omega
          unfold gAny
          simp only [gRec,e2]
          exact (if_neg hk0).trans ((if_pos hk1).trans (if_neg (fun h=>Bool.noConfusion (hcl.symm.trans h))))
        refine tG <| sm 2 rfl <| cE rfl (ocr (z2l l (qO l all g1 m1).1 (qD l m all g1 m1).2 oM0) y74 rfl (po2 rfl rfl) rfl (fun k (h:_)=>.inr h) rfl rfl) <| sm 1 rfl <| c0 (sBx rfl rfl rfl rfl ((fun h=>h)) tS35 (rfl) (lb rfl)) <| nL ?_
        refine ⟨rfl,Sub.of ⟨rfl,rfl,rfl,rfl,rfl,rfl,rfl,trivial⟩,funext (lkq [112,109,2010,2001,2002,2003,115,2019] rfl rfl ⟨(by first | rfl | (rw [hX];rfl)),rfl,rfl,(by first | rfl | (rw [hX];rfl)),(by first | rfl | (rw [hX];rfl)),rfl,rfl,rfl,trivial⟩)⟩
       have hX:gAny l (gRec l (m+1)) all p g1=((.mk 11 0 0 z0l (qE l all g1 m1).1 [] (qQ l all g1 m1).1 [(qD l m all g1 m1).1]:Nd),(qD l m all g1 m1).2):=by
         have hcl:z01 (.mk 11 0 0 z0l (qE l all g1 m1).1 [] (qQ l all g1 m1).1 [(qD l m all g1 m1).1]:Nd)=true:=by simpa using hc131
         have hk0:¬ (z05 l 6 (qS l all g1 m1).2).1=0:=by omega
         unfold gAny
         simp only [gRec,e2]
         exact (if_neg hk0).trans ((if_pos hk1).trans (if_pos hcl))
       refine tSk ?_
       refine ⟨rfl,Sub.of ⟨rfl,rfl,rfl,rfl,rfl,rfl,rfl,trivial⟩,funext (lkq [112,109,2010,2001,2002,2003,115,2019] rfl rfl ⟨(by first | rfl | (rw [hX];rfl)),rfl,rfl,(by first | rfl | (rw [hX];rfl)),(by first | rfl | (rw [hX];rfl)),rfl,rfl,rfl,trivial⟩)⟩
      have hX:gAny l (gRec l d) all p g1=((qS l all g1 m1).1,(qK l all g1 m1).2):=by
        unfold gAny
        simp only [e2]
        cases d with
        | zero=>rfl
        | succ m =>
          have hk0:¬ (z05 l 6 (qS l all g1 m1).2).1=0:=by first | (simp at hb52<;>omega) | (simp at hc49<;>omega)
          have hk1:¬ (z05 l 6 (qS l all g1 m1).2).1=1:=by first | (simp at hb96<;>omega) | (simp at hc93<;>omega)
          exact (if_neg hk0).trans (if_neg hk1)
      refine tSk ?_
      refine ⟨rfl,Sub.of ⟨rfl,rfl,rfl,rfl,rfl,rfl,rfl,trivial⟩,funext (lkq [112,109,2010,2001,2002,2003,115,2019] rfl rfl ⟨(by first | rfl | (rw [hX];rfl)),rfl,rfl,(by first | rfl | (rw [hX];rfl)),(by first | rfl | (rw [hX];rfl)),rfl,rfl,rfl,trivial⟩)⟩
     refine sm 4 rfl <| nL <| Tr.condF rfl ?_
     have hX:gAny l (gRec l d) all p g1=((qS l all g1 m1).1,(qK l all g1 m1).2):=by
       unfold gAny
       simp only [e2]
       cases d with
       | zero=>rfl
       | succ m =>
         have hk0:¬ (z05 l 6 (qS l all g1 m1).2).1=0:=by first | (simp at hb52<;>omega) | (simp at hc49<;>omega)
         have hk1:¬ (z05 l 6 (qS l all g1 m1).2).1=1:=by first | (simp at hb96<;>omega) | (simp at hc93<;>omega)
         exact (if_neg hk0).trans (if_neg hk1)
     refine tSk ?_
     refine ⟨rfl,Sub.of ⟨rfl,rfl,rfl,rfl,rfl,rfl,rfl,trivial⟩,funext (lkq [112,109,2010,2001,2002,2003,115,2019] rfl rfl ⟨(by first | rfl | (rw [hX];rfl)),rfl,rfl,(by first | rfl | (rw [hX];rfl)),(by first | rfl | (rw [hX];rfl)),rfl,rfl,rfl,trivial⟩)⟩
    refine tQ ?_
    have hol:(out.map Nd.enc).length=out.length:=by simp
    have hal:(all.map eInt).length=all.length:=by simp
    have hxo:((gAny l (gRec l d) all p g1).1.outs.map eInt).length=(gAny l (gRec l d) all p g1).1.outs.length:=by simp
    have hxo2:=hXo.2
    refine tG <| sm 1 rfl <| cV rfl (lBP rfl rfl rfl uT42 rfl tS42 (lb rfl) rfl trivial) <| cE rfl (bSl rfl rfl uT43 tZ42 tS42 rfl rfl rfl rfl (fbk rfl) rfl) ?_
    refine cE rfl (aPp rfl rfl rfl rfl (by rfl) ((fun h=>h)) uT43 tB42 dC0 (by (simp [z0c];done)) (zh2 _) (by simp [maxLen,z0c];omega) (by simp [z0c];omega)) ?_
    refine sm 1 rfl <| nL <| tQ <| tQ <| tG <| cV rfl (lBP rfl rfl rfl uT42 rfl tS42 (lb rfl) rfl trivial) <| cE rfl (ocq (z4g (gAny l (gRec l d) all p g1).1) y9s rfl rfl) <| nL ?_
    refine tC rfl (fun hc141=>?_) fun hc141=>?_
    ·refine tQ ?_
     have hres:z2z l d seen p g=(out++[(gAny l (gRec l d) all p g1).1],(gAny l (gRec l d) all p g1).2):=by rw [<- hI,z3c,if_neg hleft,if_pos hc141]
     refine tG <| sm 2 rfl <| nL ?_
     refine Tr.freeze (t:=8) (k:=109) rfl rfl (by simp [z0c]) ?_
     refine tRt ?_
     rw [hres]
     refine rOk rfl (congrArg (fun z=>IV.pv (.seq z)) (by simp [z0c,Nd.enc_eq,Nd.cells_eta])) (po3 rfl rfl rfl)
    refine tSk <| tG <| sm 3 rfl ?_
    refine cE rfl (aPp rfl rfl rfl rfl (by rfl) ((fun h=>h)) uT35 tB3 dC0 (z5j) (z5n) (by simp [maxLen,z0c];omega) (by simp [z0c];omega)) ?_
    refine sm 1 rfl <| nL <| Tr.drop (k:=112) <| tG <| sm 1 rfl <| cV rfl (oB rfl rfl (z2f rfl oM0)) <| sm 1 rfl <| nL ?_
    refine ⟨_,_,?_,Sub.of (fr':=[(11,iInt ((n1:Nat):Int)),(10,.sl 2010 ((all++(gAny l (gRec l d) all p g1).1.outs).map eInt).length),(9,.sl 109 ((out++[(gAny l (gRec l d) all p g1).1]).map Nd.enc).length),(6,.pv (.ept [vBool p.If,vBool p.Loop,ints p.Yield,ints p.Next,ints p.Left] 0)),(0,.ptr 2001 0),(3,iInt (d:Int))]) ⟨congrArg (fun z=>some (iInt z)) oM0,congrArg (fun z=>some (IV.sl _ z)) sI0,congrArg (fun z=>some (IV.sl _ z)) (by simp [z0c]),rfl,rfl,rfl,trivial⟩,n1,(out++[(gAny l (gRec l d) all p g1).1]),(all++(gAny l (gRec l d) all p g1).1.outs),(gAny l (gRec l d) all p g1).2,?_,?_,?_,?_,?_,?_,rfl,(funext (lkq [112,109,2010,2001,2002,2003] rfl rfl ⟨rfl,(by first | rfl | exact congrArg (fun z=>some (HO.row _ z)) (by simp [z0c,Nd.enc_eq,Nd.cells_eta]) | exact congrArg (fun z=>some (HO.row _ z)) sI0),(by first | rfl | exact congrArg (fun z=>some (HO.row _ z)) (by simp [z0c,Nd.enc_eq,Nd.cells_eta]) | exact congrArg (fun z=>some (HO.row _ z)) sI0),rfl,rfl,rfl,trivial⟩)),rfl⟩
    ·omega
    ·rw [<- hI,z3c,if_neg hleft,if_neg (by rw [hc141];decide)]
    ·exact (hIn.mono hXb.t1).app hXo.1
    ·have:=hXb.ps;omega
    ·have:=hXb.t2;omega
    ·have:=hXo.2;rw [List.length_append];have:=hXl;omega
    simp;omega
   refine tEx <| tQ ?_
   have hres:z2z l d seen p g=(out++[(gEnd l all p g1).1],(gEnd l all p g1).2):=by
     rw [<- hI]
     (have h0:g1.left=0:=by simpa using hc33
      cases n with
      | zero=>rw [z3c]
      | succ n=>rw [z3c,if_pos h0])
   have hol:(out.map Nd.enc).length=out.length:=by simp
   refine tG <| sm 3 rfl <| cV rfl (lEA rfl rfl Tryz.underlying77 rfl tS77 (lb rfl)) <| cE rfl (ocr (y6h l all p g1 hIn oM0 oM0 hp) ent58 rfl (po3 rfl rfl rfl) rfl (fun k (h:_)=>.inr h) rfl rfl) <| cE rfl (bSl rfl rfl uT43 tZ42 tS42 rfl rfl rfl rfl (fbk rfl) rfl) ?_
   refine cE rfl (aPp rfl rfl rfl rfl (by rfl) ((fun h=>h)) uT43 tB42 dC0 (by (simp [z0c];done)) (zh2 _) (by simp [maxLen,z0c];omega) (by simp [z0c];omega)) ?_
   refine sm 1 rfl <| nL ?_
   refine Tr.freeze (t:=8) (k:=109) rfl rfl (by simp [z0c]) ?_
   refine tRt ?_
   rw [hres]
   refine rOk rfl (congrArg (fun z=>IV.pv (.seq z)) (by simp [z0c,Nd.enc_eq,Nd.cells_eta])) (po3 rfl rfl rfl)
  refine sm 6 rfl <| nL <| Tr.condF rfl <| tEx <| tQ ?_
  have hres:z2z l d seen p g=(out++[(gEnd l all p g1).1],(gEnd l all p g1).2):=by
    rw [<- hI]
    (have h0:n=0:=by simpa using hb27
     rw [h0,z3c]
     done)
  have hol:(out.map Nd.enc).length=out.length:=by simp
  refine tG <| sm 3 rfl <| cV rfl (lEA rfl rfl Tryz.underlying77 rfl tS77 (lb rfl)) <| cE rfl (ocr (y6h l all p g1 hIn oM0 oM0 hp) ent58 rfl (po3 rfl rfl rfl) rfl (fun k (h:_)=>.inr h) rfl rfl) <| cE rfl (bSl rfl rfl uT43 tZ42 tS42 rfl rfl rfl rfl (fbk rfl) rfl) ?_
  refine cE rfl (aPp rfl rfl rfl rfl (by rfl) ((fun h=>h)) uT43 tB42 dC0 (by (simp [z0c];done)) (zh2 _) (by simp [maxLen,z0c];omega) (by simp [z0c];omega)) ?_
  refine sm 1 rfl <| nL ?_
  refine Tr.freeze (t:=8) (k:=109) rfl rfl (by simp [z0c]) ?_
  refine tRt ?_
  rw [hres]
  refine rOk rfl (congrArg (fun z=>IV.pv (.seq z)) (by simp [z0c,Nd.enc_eq,Nd.cells_eta])) (po3 rfl rfl rfl)
theorem y6j (l:List UInt8):∀ d,d<=100->LSCg l d
  | 0,h=>fun seen p g h1 h2 h3 h4 h5=>y2m l 0 h (fun m e=>by omega) seen p g h1 h2 h3 h4 h5
  | d+1,h=>fun seen p g h1 h2 h3 h4 h5=>y2m l (d+1) h (fun m e=>by obtain rfl:d=m:=oM0;exact y6j l d oM0) seen p g h1 h2 h3 h4 h5
theorem yf1 (l:List UInt8) (seen:List Int) (p:Plc) (g:Gn) (h1:InR g.types seen) (h2:p.small) (h3:g.pos+60*g.left<=900000) (h4:g.types.length+10*g.left<=900000) (h5:seen.length+10*g.left<=900000) :
    SC Tryz.prog 36 [.ptr 2001 0,.sl 2005 (seen.map eInt).length,.pv (plcv p),iInt 3] (gHr 2005 l g seen) (fun _=>False) (.pv (z0m (z2z l 3 seen p g).1)) (gHr 2005 l (z2z l 3 seen p g).2 seen):=SC.sw 2003 2005 (y6j l 3 oM0 seen p g h1 h2 h3 h4 h5)
def genF (l:List UInt8) (g:Gn) (ty:PV):HO:=.box [.pv (bts l),iInt (g.pos:Int),.pv ty,iInt (g.left:Int)]
theorem plc0_sub:PSub (.agg [vBool false,vBool false,.val (.slice none 0 0),.val (.slice none 0 0),.val (.slice none 0 0)]) (plcv plc0):=z15 [vBool false,vBool false,.val (.slice none 0 0),.val (.slice none 0 0),.val (.slice none 0 0)]
theorem y6i (l:List UInt8) (name:ByteArray) (params:List Int) (hpl:params.length<=10) (g:Gn) (hb:g.pos<=500000) (ty:PV):SC Tryz.prog 21 [.ptr 2001 0,iStr name,.pv (ints params)] [(2001,genF l g ty)] (fun _=>False) (.pv (.agg (z2y l name params g).1.enc)) [(2001,genF l (z2y l name params g).2 (ints (z2y l name params g).2.types))]:=by
  refine SC.ofC Tryz.func21 rfl (lb rfl) rfl fun F ρ w=>?_
  refine Tr.lenOf (t:=2) rfl (fun hl=>?_)
  simp only [List.length_map] at hl
  have hS:=(z22 params { g with types:=[],left:=30 }).1
  have hSl:=(z22 params { g with types:=[],left:=30 }).2
  have hSin:=InR.outs params { g with types:=[],left:=30 }
  have hst:(z0j params { g with types:=[],left:=30 }).2.types.length=params.length:=by rw [hS];simp
  have hsp:(z0j params { g with types:=[],left:=30 }).2.pos=g.pos/\(z0j params { g with types:=[],left:=30 }).2.left=30:=by rw [hS];exact ⟨rfl,rfl⟩
  have hbt:(z07 2 (z07 1 (z0j params { g with types:=[],left:=30 }).2).2).2.types.length=params.length+2:=by simp [z07,hst]
  have hbp:(z07 2 (z07 1 (z0j params { g with types:=[],left:=30 }).2).2).2.pos=g.pos/\(z07 2 (z07 1 (z0j params { g with types:=[],left:=30 }).2).2).2.left=30:=hsp
  have hin:InR (z07 2 (z07 1 (z0j params { g with types:=[],left:=30 }).2).2).2.types ((z0j params { g with types:=[],left:=30 }).1++[(z07 1 (z0j params { g with types:=[],left:=30 }).2).1,(z07 2 (z07 1 (z0j params { g with types:=[],left:=30 }).2).2).1]):=by
    refine (hSin.mono oM0).app fun s hs=>?_
    simp only [List.mem_cons,List.not_mem_nil,or_false] at hs
    rcases hs with rfl | rfl
    ·rw [hbt];simp only [z07,hst];omega
    rw [hbt];simp only [z07,List.length_append,List.length_cons,List.length_nil,hst];omega
  have hsl2:((z0j params { g with types:=[],left:=30 }).1.map eInt).length=(z0j params { g with types:=[],left:=30 }).1.length:=by simp
  refine tQ <| tG <| cE rfl (aLc (k:=106) rfl tZ51 rfl rfl rfl rfl) <| nL <| tQ <| tG <| sm 2 rfl <| cV rfl (nCk rfl rfl rfl) <| sm 1 rfl <| c0 (sBx rfl rfl rfl rfl ((fun h=>h)) tS35 (rfl) (lb rfl)) <| cV rfl (nCk rfl rfl rfl) <| sm 1 rfl ?_
  refine c0 (sBx rfl rfl rfl rfl ((fun h=>h)) tS3 (rfl) (lb rfl)) <| nL <| tQ <| Tr.growCell (k:=2002) (k2:=2001) (j:=2) ⟨3,1⟩ rfl rfl rfl rfl rfl rfl <| Tr.heap (σ':=look [(106,some (.box [.pv (vStr ⟨#[]⟩),iInt 0,iInt 0,.pv (.val (.slice none 0 0)),.pv (.val (.slice none 0 0))])),(2001,some (z3d l { g with types:=[],left:=30 })),(2002,some (rowI []))]) (lkq [106,2001,2002] rfl rfl ⟨rfl,rfl,rfl,trivial⟩) <| tG <| sm 2 rfl <| cE rfl (ok_calln (k0:=2005) (yf2 l params { g with types:=[],left:=30 } (by show 0+params.length<=1000000;omega)) y74 rfl rfl (sRf _ _) (po2 rfl rfl) rfl rfl rfl rfl rfl (fun k (h:_)=>.inr h) rfl (by rfl)) <| sm 1 rfl <| nL <| tQ <| tG ?_
  refine sm 1 rfl <| cE rfl (ocr (ze6 l 1 (z0j params { g with types:=[],left:=30 }).2 oM0) ent35 rfl (po2 rfl rfl) rfl (fun k (h:_)=>.inr h) rfl rfl) <| sm 1 rfl ?_
  refine cE rfl (ocr (ze6 l 2 (z07 1 (z0j params { g with types:=[],left:=30 }).2).2 (by simp only [z07,List.length_append,List.length_cons,List.length_nil];omega)) ent35 rfl (po2 rfl rfl) rfl (fun k (h:_)=>.inr h) rfl rfl) ?_
  refine sm 2 rfl <| nL <| tQ <| tG <| sm 1 rfl <| cE rfl (bSl rfl rfl uT35 tZ3 tS3 rfl rfl rfl rfl (fbk rfl) rfl) <| cV rfl (bPu rfl rfl tZ42 tP42 rfl (fbk rfl) rfl) <| WL.sub (Sub.cons2 (fun _ _ _ _ h=>z90 (z15 _) h) Sub.rfl') <| sm 1 rfl <| cE rfl (bSl rfl rfl uT35 tZ3 tS3 rfl rfl rfl rfl (fbk rfl) rfl) <| cV rfl (bPu rfl rfl tZ42 tP42 rfl (fbk rfl) rfl) <| WL.sub (Sub.cons2 (fun _ _ _ _ h=>z90 (z15 _) h) Sub.rfl') ?_
  refine cE rfl (z82 (k:=110) rfl rfl uT43 tZ42 tS42 rfl rfl rfl rfl (fbk rfl) rfl rfl rfl rfl rfl) <| sm 1 rfl <| nL <| tQ <| tG <| sm 3 rfl <| cE rfl (bSl rfl rfl uT35 tZ3 tS3 rfl rfl rfl rfl (fbk rfl) rfl) ?_
  refine cE rfl (aPp rfl rfl rfl rfl (by rfl) sI0 uT35 tB3 dC0 (by simp [z0c]) (z5n (l:=[(z07 1 (z0j params { g with types:=[],left:=30 }).2).1,(z07 2 (z07 1 (z0j params { g with types:=[],left:=30 }).2).2).1])) (by simp [maxLen,z0c];omega) (by simp [z0c];omega)) ?_
  refine sm 1 rfl <| nL <| tQ ?_
  refine Tr.heap (σ':=look [(106,some (.box [.pv (vStr ⟨#[]⟩),iInt 0,iInt 0,.pv (.val (.slice none 0 0)),.pv (.val (.slice none 0 0))])),(110,some (.row ⟨42,8⟩ ((zo9 (z07 1 (z0j params { g with types:=[],left:=30 }).2).1 (z07 2 (z07 1 (z0j params { g with types:=[],left:=30 }).2).2).1).map Nd.enc))),(2005,some (rowI ((z0j params { g with types:=[],left:=30 }).1++[(z07 1 (z0j params { g with types:=[],left:=30 }).2).1,(z07 2 (z07 1 (z0j params { g with types:=[],left:=30 }).2).2).1]))),(2001,some (z3d l (z07 2 (z07 1 (z0j params { g with types:=[],left:=30 }).2).2).2)),(2002,some (rowI (z07 2 (z07 1 (z0j params { g with types:=[],left:=30 }).2).2).2.types))]) (lkq [106,110,2005,2001,2002] rfl rfl ⟨rfl,rfl,(congrArg (fun z=>some (HO.row _ z)) (by simp [z0c,eInt])),rfl,rfl,trivial⟩) ?_
  refine tG <| sm 3 rfl <| cV rfl (bPu rfl rfl tZ77 tP77 rfl (fbk rfl) rfl) ?_
  have hli:=z7b l 3 ((z0j params { g with types:=[],left:=30 }).1++[(z07 1 (z0j params { g with types:=[],left:=30 }).2).1,(z07 2 (z07 1 (z0j params { g with types:=[],left:=30 }).2).2).1]) plc0 (z07 2 (z07 1 (z0j params { g with types:=[],left:=30 }).2).2).2 ⟨by simp [plc0],by simp [plc0],by simp [plc0]⟩
  have hrl:=zp0 l 3 ((z0j params { g with types:=[],left:=30 }).1++[(z07 1 (z0j params { g with types:=[],left:=30 }).2).1,(z07 2 (z07 1 (z0j params { g with types:=[],left:=30 }).2).2).1]) plc0 (z07 2 (z07 1 (z0j params { g with types:=[],left:=30 }).2).2).2
  refine cE rfl (cRr (yf1 l ((z0j params { g with types:=[],left:=30 }).1++[(z07 1 (z0j params { g with types:=[],left:=30 }).2).1,(z07 2 (z07 1 (z0j params { g with types:=[],left:=30 }).2).2).1]) plc0 (z07 2 (z07 1 (z0j params { g with types:=[],left:=30 }).2).2).2 hin ⟨by simp [plc0],by simp [plc0],by simp [plc0]⟩ oM0 oM0 (by simp;omega)) y9p rfl rfl (sSm rfl (sSm (congrArg (fun n=>IV.sl 2005 n) (by simp [z5m])) (Subs.cons (fun _ _ _ _ h=>z90 plc0_sub h) (sSm rfl Subs.nil)))) (po3 rfl rfl rfl) (by rfl) (fun k (h:_)=>.inr h) rfl (by rfl)) ?_
  refine cE rfl (aPp rfl rfl rfl rfl (by rfl) ((fun h=>h)) uT43 tB42 dC0 (yb1) (yb0) (by simp [maxLen,z0c];omega) (by simp [z0c];omega)) ?_
  refine sm 1 rfl <| nL <| tQ ?_
  refine Tr.freeze (t:=10) (k:=110) rfl rfl (by simp [z0c,zo9];omega) ?_
  refine Tr.freezeCell (k:=2002) (k2:=2001) (j:=2) (n:=((z2z l 3 ((z0j params { g with types:=[],left:=30 }).1++[(z07 1 (z0j params { g with types:=[],left:=30 }).2).1,(z07 2 (z07 1 (z0j params { g with types:=[],left:=30 }).2).2).1]) plc0 (z07 2 (z07 1 (z0j params { g with types:=[],left:=30 }).2).2).2).2.types.map eInt).length) rfl rfl rfl rfl dC0 <| tG <| sm 2 rfl <| cV rfl (oSm uT35 rfl) <| sm 1 rfl <| cV rfl (nCk rfl rfl rfl) <| sm 3 rfl <| cV rfl (bPu rfl rfl tZ51 tP51 rfl (fbk rfl) rfl) <| c0 (sBA rfl rfl rfl rfl rfl ((fun h=>h)) tS51 (flk rfl) (lb rfl)) <| nL <| tRt <| rCk (.inl rfl) (fun _ _ ho=>lBP ho rfl rfl Tryz.underlying51 rfl tS51 (lb rfl) rfl trivial) ?_ (po1 rfl)
  rfl
set_option maxRecDepth 20000
set_option maxHeartbeats 2000000
theorem sc_made (l:List UInt8):SC Tryz.prog 10 [.pv (bts l)] [] (fun _=>False) (.pv (made l).enc) []:=by
  refine SC.anyR (SC.vc tb { ids:=[(7,2001)],gh:=[(5,[.fzC 104 1 116])] } [] Tryz.func10 rfl rfl ?_)
  have hb1:(z2y l z0b [] ⟨0,[],0⟩).2.pos<=2000:=ya1 l z0b [] ⟨0,[],0⟩ sI0 sI0
  have h1:=y6i l z0b [] sI0 ⟨0,[],0⟩ sI0 (.val (.slice none 0 0))
  have h2:=y6i l z3p [1,2] sI0 (z2y l z0b [] ⟨0,[],0⟩).2 oM0 (ints (z2y l z0b [] ⟨0,[],0⟩).2.types)
  exact ⟨[],h1,SubA.same (SubA.same (SubA.cons sN sR)),⟨rfl,trivial⟩,rfl,rfl,zg7 rfl,by simp,rfl,[],h2,sR,⟨rfl,trivial⟩,rfl,rfl,zg7 rfl,by simp,rfl,rfl,sI,trivial⟩
theorem sc_run0 (u:Un) (hu:u.arrays=[]) (hW:z0p u<=536870912) (hz:(z1a u).1=0) (ins:List Int) (fuel:Int) (d:Nat) (r:Int × Rs) (h:z3r u d (z04 z0b u.flows 0) [] (run0 ins fuel)=some r):SC Tryz.prog 17 [.pv u.enc,.pv (ints ins),iInt fuel] [] (fun _=>False) (.pv (runv (mEnd r))) []:=by
  obtain ⟨ar,fs⟩:=u
  obtain rfl:ar=[]:=hu
  exact yi8 fs hW hz ins fuel d r h
set_option maxRecDepth 20000
theorem intne {m n:Nat} (h:((m:Int) != n)=true):m≠n:=fun e=>by subst e;simp at h
theorem inteq {m n:Nat} (h:((m:Int) != n)=false):m=n:=Int.ofNat.inj (by simpa using h)
theorem sc_lIdle (x:Nd):SC Tryz.prog 44 [.pv (ndv x)] [] (fun k=>k∈[]) (iBool (zz4 x.kids)) []:=by
  refine SC.vc tb { gh:=[(9,[.len 57])] } [] Tryz.func44 rfl rfl ?_
  have no:∀ ks:List (List Nd),ks.length≠2->zz4 ks=false:=fun ks h=>by
    match ks,h with
    | [],_=>rfl
    | [_],_=>rfl
    | [_,_],h=>exact absurd rfl h
    | _::_::_::_,_=>rfl
  have no2:∀ a b:List Nd,(a.length≠1∨b.length≠1)->z2e a b=false:=fun a b h=>by
    match a,b,h with
    | [],_,_=>rfl
    | [_],[],_=>rfl
    | [_],[_],h=>simp at h
    | [_],_::_::_,_=>rfl
    | _::_::_,_,_=>rfl
  refine z00 (fun h1=>?_) fun h1=>?_
  · exact ⟨sE (by rw [no _ (by have:=intne h1;simpa using this)]),trivial⟩
  · obtain ⟨a,b,hk⟩:∃ a b,x.kids=[a,b]:=by
      have h2:x.kids.length=2:=by have:=inteq h1;simpa using this
      match x.kids,h2 with
      | [a,b],_=>exact ⟨a,b,rfl⟩
    obtain ⟨h0,h1',_,_⟩:=y5x hk
    have hI:zz4 x.kids=z2e a b:=by rw [hk];rfl
    rw [hI]
    refine ⟨h0,rfl,z00 (fun ha=>?_) fun ha=>?_⟩
    · exact ⟨sE (by rw [no2 a b (.inl (by have:=intne ha;simpa using this))]),trivial⟩
    · obtain ⟨y,rfl⟩:∃ y,a=[y]:=List.length_eq_one_iff.1 (by have:=inteq ha;simpa using this)
      refine ⟨h1',rfl,z00 (fun hb=>?_) fun hb=>?_⟩
      · exact ⟨sE (by rw [no2 _ b (.inr (by have:=intne hb;simpa using this))]),trivial⟩
      · obtain ⟨z,rfl⟩:∃ z,b=[z]:=List.length_eq_one_iff.1 (by have:=inteq hb;simpa using this)
        refine ⟨h0,rfl,z08 (i:=0) (x:=y) rfl,rfl,h1',rfl,z08 (i:=0) (x:=z) rfl,rfl,z00 (fun hy=>?_) fun hy=>?_⟩
        · have hy':(y.kind==12)=false:=by simpa using hy
          exact ⟨sE (by simp [z2e,hy']),trivial⟩
        · have hy':(y.kind==12)=true:=by simpa using hy
          refine z00 (fun hz=>?_) fun hz=>?_
          · have hz':(z.kind==12)=false:=by simpa using hz
            exact ⟨sE (by simp [z2e,hz']),trivial⟩
          · have hz':(z.kind==12)=true:=by simpa using hz
            have hT:z2e [y] [z]=(y.args==z.args):=by simp [z2e,hy',hz']
            rw [hT]
            refine z00 (fun hn=>?_) fun hn=>?_
            · exact ⟨sE (by rw [y92 (by have:=intne hn;simp at this;omega)]),trivial⟩
            · have hlm:y.args.length=z.args.length:=by have:=inteq hn;simpa using this
              refine ⟨Nat,fun k=>[(5,iInt k)],fun _=>[],fun k=>y.args.length - k,fun k=>k<=y.args.length/\y.args.take k=z.args.take k,[],0,⟨Nat.zero_le _,rfl⟩,⟨rfl,trivial⟩,trivial,?_⟩
              rintro k ⟨hk',he⟩
              refine z00 (fun hc=>?_) fun hc=>?_
              · have hlt:=z41 (f:=eInt) rfl hc
                obtain ⟨v,hv,ht,_,_⟩:=z2s hlt
                obtain ⟨u,hu,ht2,_,_⟩:=z2s (show k<z.args.length by omega)
                intro hl
                simp only [List.length_map] at hl
                refine ⟨z06 (f:=eInt) hv,rfl,z06 (f:=eInt) hu,rfl,z00 (fun h2=>?_) fun h2=>?_⟩
                · have hvu:v≠u:=by simpa using h2
                  have hne:(y.args==z.args)=false:=by
                    cases hq:y.args==z.args with
                    | false=>rfl
                    | true=>rw [eq_of_beq hq,hu] at hv;exact absurd (Option.some.inj hv).symm hvu
                  exact ⟨sE (by rw [hne]),trivial⟩
                · have hvu:v=u:=by simpa using h2
                  exact ⟨z03 rfl oM0,k+1,z0g hlt,⟨hlt,by rw [ht,ht2,he,hvu]⟩,⟨rfl,trivial⟩,trivial,rfl,rfl,rfl,rfl⟩
              · have hge:=z47 (f:=eInt) rfl hc
                rw [List.take_of_length_le hge,List.take_of_length_le oM0] at he
                exact ⟨sE (by rw [he];simp),trivial⟩
theorem onceK_no {ks:List (List Nd)} (h:ks.length≠1):y7n ks=false:=by
  match ks,h with
  | [],_=>rfl
  | [_],h=>exact absurd rfl h
  | _::_::_,_=>rfl
theorem yf0:∀ (N:Nat) (l:List Nd),SizeOf.sizeOf l<N->l.length+wtL l<=1073741824->SC Tryz.prog 24 [.pv (z0m l)] [] (fun k=>k∈[]) (iBool (fiL l)) []
  | 0,_,h,_=>absurd h (Nat.not_lt_zero _)
  | N+1,l,hN,hb=>by
    refine SC.vc tb { jn:=[7,12] } [] Tryz.func24 rfl rfl ?_
    refine ⟨Nat,fun i=>[(3,iInt i)],fun _=>[],fun i=>l.length - i,fun i=>i<=l.length/\fiL l=fiL (l.drop i),[],0,⟨Nat.zero_le _,rfl⟩,⟨rfl,trivial⟩,trivial,?_⟩
    rintro i ⟨hi,hI⟩
    refine z00 (fun hc=>?_) fun hc=>?_
    · have hlt:=z41 (f:=Nd.enc) rfl hc
      obtain ⟨x,hx,ht,hd,hm⟩:=z2s hlt
      have hw:=zy0 hm
      have hwa:=(z93 x).2.2
      have hkl:=y17 x.kids
      rw [hd,fiL,y5n] at hI
      have bad:(x.kind==10&&zz4 x.kids)=true∨(x.kind==11&&y7n x.kids)=true∨fiK x.kids=false->fiL l=false:=fun h=>by
        rw [hI]
        rcases h with h | h | h<;>rw [h]<;>simp
      refine ⟨z08 hx,rfl,Unit,fun _=>[],fun _=>[],fun _=>(x.kind==10&&zz4 x.kids)=false,[],?_,?_⟩
      · refine z00 (fun h1=>?_) fun h1=>?_
        · have h1':(x.kind==10)=true:=h1
          refine ⟨[],sc_lIdle x,sR,trivial,rfl,z00 (fun h2=>?_) fun h2=>?_⟩
          · have h2':zz4 x.kids=true:=h2
            exact ⟨sE (by rw [bad (.inl (by rw [h1',h2'];rfl))]),trivial⟩
          · have h2':zz4 x.kids=false:=h2
            exact ⟨(),by rw [h2',Bool.and_false],trivial,trivial,rfl,rfl,rfl,rfl⟩
        · have h1':(x.kind==10)=false:=h1
          exact ⟨(),by rw [h1',Bool.false_and],trivial,trivial,rfl,rfl,rfl,rfl⟩
      · intro _ hA
        rw [hA] at hI
        refine ⟨Unit,fun _=>[],fun _=>[],fun _=>(x.kind==11&&y7n x.kids)=false,[],?_,?_⟩
        · refine z00 (fun h1=>?_) fun h1=>?_
          · have h1':(x.kind==11)=true:=h1
            refine z00 (fun h2=>?_) fun h2=>?_
            · obtain ⟨a,hks⟩:∃ a,x.kids=[a]:=List.length_eq_one_iff.1 (Int.ofNat.inj (by simpa using h2))
              have h0:(x.kids.map eKid)[0]? = some [z0m a]:=by rw [hks];rfl
              have hO:y7n x.kids=(!a.isEmpty&&z27 a):=by rw [hks];rfl
              have hal:a.length+wtL a<=1073741824:=by rw [hks] at hwa;simp only [wtK] at hwa;omega
              refine ⟨h0,rfl,z00 (fun h3=>?_) fun h3=>?_⟩
              · have hpos:0<a.length:=by simpa using h3
                have hem:a.isEmpty=false:=by cases a with
                  | nil=>cases hpos
                  | cons _ _=>rfl
                rw [hem,Bool.not_false,Bool.true_and] at hO
                refine ⟨h0,rfl,[],zr8 14 _ a (Nat.lt_succ_self _) hal,sR,trivial,rfl,[],zr8 13 _ a (Nat.lt_succ_self _) hal,sR,trivial,rfl,z00 (fun h4=>?_) fun h4=>?_⟩
                · have h13:cnL 13 a=0:=by have:=of_decide_eq_true h4;omega
                  refine z00 (fun h5=>?_) fun h5=>?_
                  · have h14:cnL 14 a=0:=by have:=of_decide_eq_true h5;omega
                    exact ⟨sE (by rw [bad (.inr (.inl (by rw [h1',hO];simp [z27,h13,h14])))]),trivial⟩
                  · have h14:cnL 14 a≠0:=by have:=of_decide_eq_false h5;omega
                    refine z00 (fun h6=>?_) fun h6=>?_
                    · have h15:cnL 14 a=1:=by have:=of_decide_eq_true h6;omega
                      obtain ⟨A,e,he,_,hl,_⟩:=za8 (l:=a) (by intro h;rw [h] at hpos;cases hpos)
                      have hlen2:(a.map Nd.enc).length=A.length+1:=by rw [he];simp
                      refine ⟨z2f (z:=(A.length:Int)) (by rw [hlen2];omega) (by rw [he] at hal;simp at hal;omega),z08 (i:=A.length) (x:=e) (by rw [he];simp),rfl,z00 (fun h7=>?_) fun h7=>?_⟩
                      · have h7':(e.kind==14)=true:=h7
                        exact ⟨sE (by rw [bad (.inr (.inl (by rw [h1',hO];simp only [z27,h13,h15,hl,h7'];rfl)))]),trivial⟩
                      · have h7':(e.kind==14)=false:=h7
                        exact ⟨(),by rw [hO];simp only [z27,h13,h15,hl,h7'];simp,trivial,trivial,rfl,rfl,rfl,rfl⟩
                    · have h15:cnL 14 a≠1:=by have:=of_decide_eq_false h6;omega
                      exact ⟨(),by rw [hO];simp [z27,h13,h14,h15],trivial,trivial,rfl,rfl,rfl,rfl⟩
                · have h13:cnL 13 a≠0:=by have:=of_decide_eq_false h4;omega
                  exact ⟨(),by rw [hO];simp [z27,h13],trivial,trivial,rfl,rfl,rfl,rfl⟩
              · have hem:a=[]:=by
                  have:¬ 0<a.length:=by simpa using h3
                  exact List.length_eq_zero_iff.1 oM0
                exact ⟨(),by rw [hO,hem];simp,trivial,trivial,rfl,rfl,rfl,rfl⟩
            · have hne:x.kids.length≠1:=fun e=>by
                simp only [List.length_map,e] at h2;cases h2
              exact ⟨(),by rw [onceK_no hne,Bool.and_false],trivial,trivial,rfl,rfl,rfl,rfl⟩
          · have h1':(x.kind==11)=false:=h1
            exact ⟨(),by rw [h1',Bool.false_and],trivial,trivial,rfl,rfl,rfl,rfl⟩
        · intro _ hB
          rw [hB] at hI
          simp only [Bool.not_false,Bool.true_and] at hI
          refine ⟨Nat,fun j=>[(7,iInt j)],fun _=>[],fun j=>x.kids.length - j,fun j=>j<=x.kids.length/\fiK x.kids=fiK (x.kids.drop j),[],0,⟨Nat.zero_le _,rfl⟩,⟨rfl,trivial⟩,trivial,?_⟩
          rintro j ⟨hj,hJ⟩
          refine z00 (fun hc2=>?_) fun hc2=>?_
          · have hlt2:=z41 (f:=eKid) rfl hc2
            obtain ⟨q,hq,_,hd2,hm2⟩:=z2s hlt2
            have hwq:=zt6 hm2
            rw [hd2,fiK] at hJ
            refine ⟨z06 (f:=eKid) hq,rfl,[],yf0 N q (Nat.lt_of_lt_of_le (z5k hm rfl hm2) (Nat.le_of_lt_succ hN)) oM0,sR,trivial,rfl,z00 (fun h3=>?_) fun h3=>?_⟩
            · have h3':fiL q=false:=by simpa using h3
              exact ⟨sE (by rw [bad (.inr (.inr (by rw [hJ,h3',Bool.false_and])))]),trivial⟩
            · have h3':fiL q=true:=by simpa using h3
              exact ⟨z03 rfl oM0,j+1,z0g hlt2,⟨hlt2,by rw [hJ,h3',Bool.true_and]⟩,⟨rfl,trivial⟩,trivial,rfl,rfl,rfl,rfl⟩
          · rw [List.drop_eq_nil_of_le (z47 (f:=eKid) rfl hc2)] at hJ
            have hk1:fiK x.kids=true:=hJ
            exact ⟨z03 rfl oM0,i+1,z0g hlt,⟨hlt,by rw [hI,hk1,Bool.true_and]⟩,⟨rfl,trivial⟩,trivial,rfl,rfl,rfl,rfl⟩
    · rw [List.drop_eq_nil_of_le (z47 (f:=Nd.enc) rfl hc)] at hI
      exact ⟨sE (by rw [hI];rfl),trivial⟩
set_option maxRecDepth 20000
theorem sc_right (u:Un) (hW:z0p u<=536870912):SC Tryz.prog 12 [.pv u.enc] [] (fun k=>k∈[]) (iBool (y33 u)) []:=by
  refine SC.vc tb {} [] Tryz.func12 rfl rfl ?_
  have hW2:z0p u=u.arrays.length+u.flows.length+wtA u.arrays+wtF u.flows:=rfl
  refine ⟨Nat,fun k=>[(3,iInt k)],fun _=>[],fun k=>u.flows.length - k,fun k=>k<=u.flows.length/\y33 u=(u.flows.drop k).all fun f=>fiL f.body,[],0,⟨Nat.zero_le _,rfl⟩,⟨rfl,trivial⟩,trivial,?_⟩
  rintro k ⟨hk,hI⟩
  refine z00 (fun hc=>?_) fun hc=>?_
  · have hlt:=z41 (f:=Fl.enc) rfl hc
    obtain ⟨x,hx,_,hd,hm⟩:=z2s hlt
    have hb:=y9a hW hm
    rw [hd,List.all_cons] at hI
    refine ⟨z06 (f:=Fl.enc) hx,rfl,[],yf0 _ x.body (Nat.lt_succ_self _) oM0,sR,trivial,rfl,z00 (fun h1=>?_) fun h1=>?_⟩
    · have h1':fiL x.body=false:=by simpa using h1
      exact ⟨sE (by rw [hI,h1',Bool.false_and]),trivial⟩
    · have h1':fiL x.body=true:=by simpa using h1
      exact ⟨z03 rfl oM0,k+1,z0g hlt,⟨hlt,by rw [hI,h1',Bool.true_and]⟩,⟨rfl,trivial⟩,trivial,rfl,rfl,rfl,rfl⟩
  · rw [List.drop_eq_nil_of_le (z47 (f:=Fl.enc) rfl hc)] at hI
    exact ⟨sE (by rw [hI];rfl),trivial⟩
theorem y45 (l:List Nd):z37 (trB l)<=z37 l:=zw4 l
theorem yh4 (ts:List Int) (l:List Nd):SC Tryz.prog 16 [.pv (ints ts),.pv (z0m l)] [] (fun k=>k∈[]) (.pv (.agg [.val (.slice none 0 0),flws [⟨z0b,1,0,ts,l⟩]])) []:=by
  refine SC.vc tb {} [] Tryz.func16 rfl rfl ?_
  exact ⟨sI,trivial⟩
set_option maxRecDepth 20000
def wakeL:List Nd:=[.mk 8 0 0 ⟨#[]⟩ [] [0] [] [],.mk 11 0 0 ⟨#[]⟩ [] [1] [] [[.mk 9 0 0 ⟨#[]⟩ [0] [] [] [],.mk 14 0 0 ⟨#[]⟩ [0] [] [] []]],.mk 15 0 0 ⟨#[]⟩ [1] [] [] []]
def y15:Un:=⟨[],[⟨z0b,1,0,[1,1],wakeL⟩]⟩
theorem z9l:(z1a y15).1=0:=by decide +kernel
theorem zt4:z0p y15<=536870912:=by decide +kernel
theorem yn0:((z3r (z42 trB y15) 20 (z04 z0b (z42 trB y15).flows 0) [] (run0 [3] 5)).map fun r=>(z0z r.2,r.1,r.2.out))=some (false,3,[3]):=by decide +kernel
theorem wake_run:∃ r,z3r (z42 trB y15) 20 (z04 z0b (z42 trB y15).flows 0) [] (run0 [3] 5)=some r/\(mEnd r).st=1/\(mEnd r).code=3/\(mEnd r).out=[3]:=by
  have h:=yn0
  rw [Option.map_eq_some_iff] at h
  obtain ⟨r,h1,h2⟩:=h
  simp only [Prod.mk.injEq] at h2
  refine ⟨r,h1,?_,?_,?_⟩
  · simp only [mEnd,h2.1,Bool.false_eq_true,if_false]
  · simp only [mEnd,h2.1,Bool.false_eq_true,if_false,h2.2.1]
  · simp only [mEnd,h2.1,Bool.false_eq_true,if_false,h2.2.2]
def rawN (k n:Int) (a o:PV) (ks:PV):List PV:=[vInt k,vInt 0,vInt n,vStr ⟨#[]⟩,a,o,.val (.slice none 0 0),ks]
def ym9:PV:=.seq [rawN 8 0 (.val (.slice none 0 0)) (.seq [[vInt 0]]) (.val (.slice none 0 0)),rawN 11 0 (.val (.slice none 0 0)) (.seq [[vInt 1]]) (.seq [[.seq [rawN 9 0 (.seq [[vInt 0]]) (.val (.slice none 0 0)) (.val (.slice none 0 0)),rawN 14 0 (.seq [[vInt 0]]) (.val (.slice none 0 0)) (.val (.slice none 0 0))]]]),rawN 15 0 (.seq [[vInt 1]]) (.val (.slice none 0 0)) (.val (.slice none 0 0))]
theorem wake_sub:PSub ym9 (z0m wakeL):=by
  show PSub _ (.seq [_,_,_])
  repeat' (first | exact PSub.nil | exact PSub.refl _ | exact trivial | refine And.intro ?_ ?_ | refine PSub.seq (ps:=[_,_,_]) (qs:=[_,_,_]) ?_ | refine PSub.seq (ps:=[_,_]) (qs:=[_,_]) ?_ | refine PSub.seq (ps:=[_]) (qs:=[_]) ?_)
theorem y71:z68 trB ⟨[],[]⟩=(⟨[],[]⟩,1):=zw7 trB (by decide +kernel)
theorem ye7 (L:List Nd) (hL:PSub ym9 (z0m L)) (V:Un) (hH:z68 trB ⟨[],[⟨z0b,1,0,[1,1],L⟩]⟩=(V,0)) (hW:z0p ⟨[],[⟨z0b,1,0,[1,1],L⟩]⟩<=536870912) (hVa:V.arrays=[]) (hVl:V.flows.length=1) (hVr:y33 V=true) (hVW:z0p V<=536870912) (hVz:(z1a V).1=0)
    (r:Int × Rs) (hr:z3r V 20 (z04 z0b V.flows 0) [] (run0 [3] 5)=some r) (h1:(mEnd r).st=1) (h2:(mEnd r).code=3) (h3:(mEnd r).out=[3]):SC Tryz.prog 7 [] [] (fun k=>k∈[]) (iBool true) []:=by
  refine SC.vc tb {} [] Tryz.func7 rfl rfl ?_
  have hsc:=y4k ⟨[],[⟨z0b,1,0,[1,1],L⟩]⟩ hW
  rw [hH] at hsc
  have hse:=y4k ⟨[],[]⟩ dC0
  rw [y71] at hse
  refine ⟨[],yh4 [1,1] L,SubA.same (SubA.cons (sP hL) SubA.nil),trivial,rfl,?_⟩
  refine ⟨[],hsc,SubA.cons (sP (PSub.agg ⟨PSub.nil,PSub.refl _,trivial⟩)) SubA.nil,trivial,rfl,?_⟩
  have hrun:=sc_run0 V hVa hVW hVz [3] 5 20 r hr
  rw [show runv (mEnd r) = .agg [vInt 1,vInt 3,.seq [[vInt 3]],vInt (mEnd r).cost,vInt (mEnd r).fuel] by simp only [runv,h1,h2,h3];rfl] at hrun
  have hsr:=sc_right V hVW
  rw [hVr] at hsr
  refine ⟨[],hrun,sR,trivial,rfl,z00 (fun hl=>?_) fun hl=>by simp [hVl] at hl⟩
  exact ⟨[],hsr,sR,trivial,rfl,at0,rfl,[],hse,SubA.cons sEmp SubA.nil,trivial,rfl,sI,trivial⟩
theorem sc_awake:SC Tryz.prog 7 [] [] (fun k=>k∈[]) (iBool true) []:=by
  obtain ⟨r,hr,h1,h2,h3⟩:=wake_run
  have hc:=zu6 z9l
  exact ye7 wakeL wake_sub (z42 trB y15) (z69 trB z9l) zt4 rfl rfl (by have:=y7t y15;rw [z69 trB z9l] at this;exact this) (by have:=y0e trB y45 y15;rw [z69 trB z9l] at this;exact Nat.le_trans this zt4) (by rw [hc]) r hr h1 h2 h3
section
def Px (g g':Gn):Prop:=∃ q,g'.types=g.types++q
theorem Px.refl (g:Gn):Px g g:=⟨[],by simp⟩
theorem Px.trans {a b c:Gn} (h:Px a b) (h':Px b c):Px a c:=by
  obtain ⟨q,e⟩:=h
  obtain ⟨r,e'⟩:=h'
  exact ⟨q++r,by rw [e',e,List.append_assoc]⟩
theorem Px.len {a b:Gn} (h:Px a b):a.types.length<=b.types.length:=by obtain ⟨q,e⟩:=h;rw [e];simp
section
variable (l:List UInt8)
theorem zi1 (n:Nat) (g:Gn):Px g (z05 l n g).2:=⟨[],by simp [z05]⟩
theorem zq6 (seen ts:List Int) (g:Gn):Px g (z1l l seen ts g).2:=⟨[],by rw [(z1j l seen ts g).1];simp⟩
theorem z7l (ts:List Int) (g:Gn):Px g (z0j ts g).2:=⟨ts,by rw [(z22 ts g).1]⟩
theorem y0h (g:Gn):Px g (z0n l g).2:=⟨[],by rw [(z4s l g).1];simp⟩
theorem y4d (kind op n:Int) (name:ByteArray) (seen ins outs:List Int) (g:Gn):Px g (z46 l kind op n name seen ins outs g).2:=(zq6 l seen ins g).trans (z7l outs _)
theorem zq7 (seen:List Int) (g:Gn):Px g (z1r l seen g).2:=by
  unfold z1r
  have h0:=zi1 l 12 g
  simp only
  repeat' split
  all_goals first
  | exact h0.trans ((zi1 l _ _).trans (y4d l _ _ _ _ _ _ _ _))
  | exact h0.trans (y4d l _ _ _ _ _ _ _ _)
theorem px_end (seen:List Int) (p:Plc) (g:Gn):Px g (gEnd l seen p g).2:=by
  unfold gEnd
  have h0:=zi1 l 6 g
  simp only
  repeat' split
  all_goals exact h0.trans (y4d l _ _ _ _ _ _ _ _)
def zg1 (rec:GRec):Prop:=∀ seen p g,Px g (rec seen p g).2
theorem y0g (x:List Int->Nd) (t:List Int) (g:Gn):Px g (z7g x t g).2:=by
  unfold z7g
  split
  ·exact .refl _
  exact z7l t g
theorem px_if {rec:GRec} (hr:zg1 rec) (all:List Int) (p:Plc) (g:Gn):Px g (gIf l rec all p g).2:=by
  unfold gIf
  exact (y0h l g).trans ((zq6 l _ _ _).trans ((hr _ _ _).trans ((hr _ _ _).trans (y0g _ _ _))))
theorem px_loop {rec:GRec} (hr:zg1 rec) (all:List Int) (g:Gn):Px g (z9n l rec all g).2:=by
  unfold z9n
  exact (y0h l g).trans ((y0h l _).trans ((zq6 l _ _ _).trans ((z7l _ _).trans ((hr _ _ _).trans (y0g _ _ _)))))
theorem y6d {rec:Option GRec} (hr:∀ r,rec=some r->zg1 r) (all:List Int) (p:Plc) (g:Gn):Px g (gAny l rec all p g).2:=by
  have h0:Px g { g with left:=g.left - 1 }:=⟨[],by simp⟩
  have hs:=h0.trans ((zq7 l all { g with left:=g.left - 1 }).trans (zi1 l 6 _))
  unfold gAny
  simp only
  cases rec with
  | none=>exact hs
  | some r =>
    simp only
    split
    ·exact hs.trans (px_if l (hr r rfl) all p _)
    split
    ·exact hs.trans (px_loop l (hr r rfl) all _)
    exact hs
def z5d (rec:Option GRec) (p:Plc):Nat->List Int->Gn->List Nd × Gn
  | 0,all,g=>([(gEnd l all p g).1],(gEnd l all p g).2)
  | i+1,all,g =>
    if g.left=0 then ([(gEnd l all p g).1],(gEnd l all p g).2)
    else if z01 (gAny l rec all p g).1 then ([(gAny l rec all p g).1],(gAny l rec all p g).2)
      else ((gAny l rec all p g).1::(z5d rec p i (all++(gAny l rec all p g).1.outs) (gAny l rec all p g).2).1,(z5d rec p i (all++(gAny l rec all p g).1.outs) (gAny l rec all p g).2).2)
theorem z7f (rec:Option GRec) (p:Plc):∀ (i:Nat) (out:List Nd) (all:List Int) (g:Gn),z3c l rec p i out all g=(out++(z5d l rec p i all g).1,(z5d l rec p i all g).2)
  | 0,out,all,g=>rfl
  | i+1,out,all,g=>by
    unfold z3c z5d
    split
    ·rfl
    simp only
    split
    ·rfl
    rw [z7f rec p i];simp
theorem zz0 (rec:Option GRec) (p:Plc):∀ (i:Nat) (all:List Int) (g:Gn),(z5d l rec p i all g).1≠[]
  | 0,all,g=>by simp [z5d]
  | i+1,all,g=>by
    unfold z5d
    repeat' split
    all_goals simp
theorem zq8 {rec:Option GRec} (hr:∀ r,rec=some r->zg1 r) (p:Plc):∀ (i:Nat) (all:List Int) (g:Gn),Px g (z5d l rec p i all g).2
  | 0,all,g=>px_end l all p g
  | i+1,all,g=>by
    unfold z5d
    split
    ·exact px_end l all p g
    split
    ·exact y6d l hr all p g
    exact (y6d l hr all p g).trans (zq8 hr p i _ _)
theorem y0f (d:Nat):zg1 (z2z l d):=by
  induction d with
  | zero =>
    intro seen p g
    rw [z7e,z7f]
    exact (zi1 l 6 g).trans (zq8 l (fun r h=>by cases h) p _ _ _)
  | succ d ih =>
    intro seen p g
    rw [z7e,z7f]
    exact (zi1 l 6 g).trans (zq8 l (fun r h=>by cases h;exact ih) p _ _ _)
theorem z5v (d:Nat) (seen:List Int) (p:Plc) (g:Gn):z2z l d seen p g=z5d l (gRec l d) p (z05 l 6 g).1 seen (z05 l 6 g).2:=by
  rw [z7e,z7f];simp
def Fresh (a b:Nat) (ds:List Int):Prop:=ds.Nodup/\∀ v∈ds,(a:Int)<=v/\v<(b:Int)
theorem Fresh.nil (a b:Nat):Fresh a b []:=⟨List.nodup_nil,fun _ h=>by simp at h⟩
theorem Fresh.app {a b b' c:Nat} {x y:List Int} (h:Fresh a b x) (h':Fresh b' c y) (hb:b<=b') (ha:a<=b') (hc:b<=c):Fresh a c (x++y):=by
  refine ⟨List.nodup_append.2 ⟨h.1,h'.1,fun u hu v hv e=>?_⟩,fun v hv=>?_⟩
  ·have h1:=h.2 u hu
   have h2:=h'.2 v hv
   omega
  rcases List.mem_append.1 hv with hv | hv
  ·have:=h.2 v hv;omega
  have:=h'.2 v hv;omega
theorem Fresh.mono {a b a' b':Nat} {x:List Int} (h:Fresh a b x) (ha:a'<=a) (hb:b<=b'):Fresh a' b' x:=⟨h.1,fun v hv=>by have:=h.2 v hv;omega⟩
theorem z96:∀ (ts:List Int) (g:Gn),Fresh g.types.length (z0j ts g).2.types.length (z0j ts g).1
  | [],g=>.nil _ _
  | t::r,g=>by
    have ih:=z96 r (z07 t g).2
    have h1:Fresh g.types.length (g.types.length+1) [(z07 t g).1]:=⟨by simp,fun v hv=>by
      rw [List.mem_singleton.1 hv];simp only [z07];omega⟩
    have e:(z07 t g).2.types.length=g.types.length+1:=by simp [z07]
    have hl:=(z7l r (z07 t g).2).len
    rw [e] at ih hl
    exact h1.app ih (Nat.le_refl _) oM0 hl
theorem zv3 (kind op n:Int) (name:ByteArray) (seen ins outs:List Int) (g:Gn):Fresh g.types.length (z46 l kind op n name seen ins outs g).2.types.length (dN (z46 l kind op n name seen ins outs g).1):=by
  have h:=z96 outs (z1l l seen ins g).2
  have e:(z1l l seen ins g).2.types=g.types:=by rw [(z1j l seen ins g).1]
  rw [e] at h
  simpa [z46,zn8,Nd.params,Nd.kids,Nd.outs,dK] using h
theorem y1q (seen:List Int) (g:Gn):Fresh g.types.length (z1r l seen g).2.types.length (dN (z1r l seen g).1):=by
  have N:=fun kind op n name ins outs g'=>zv3 l kind op n name seen ins outs g'
  unfold z1r
  simp only
  repeat' split
  all_goals exact N _ _ _ _ _ _ _
theorem y1p (seen:List Int) (p:Plc) (g:Gn):Fresh g.types.length (gEnd l seen p g).2.types.length (dN (gEnd l seen p g).1):=by
  have N:=fun kind op n name ins outs g'=>zv3 l kind op n name seen ins outs g'
  unfold gEnd
  simp only
  repeat' split
  all_goals exact N _ _ _ _ _ _ _
def y8w (rec:GRec):Prop:=∀ seen p g,Fresh g.types.length (rec seen p g).2.types.length (dL (rec seen p g).1)
theorem zv4 (x:List Int->Nd) (D:List Int) (a:Nat) (hx:∀ o,dN (x o)=D++o) (t:List Int) (g:Gn) (hD:Fresh a g.types.length D) (ha:a<=g.types.length):Fresh a (z7g x t g).2.types.length (dN (z7g x t g).1):=by
  unfold z7g
  split
  ·rw [hx,List.append_nil];exact hD
  rw [hx];exact hD.app (z96 t g) (Nat.le_refl _) ha (z7l t g).len
theorem fresh_if {rec:GRec} (hr:y8w rec) (hp:zg1 rec) (all:List Int) (p:Plc) (g:Gn):Fresh g.types.length (gIf l rec all p g).2.types.length (dN (gIf l rec all p g).1):=by
  unfold gIf
  simp only
  generalize hT:z0n l g=T
  generalize hC:z1l l all [2] T.2=C
  have eT:T.2.types=g.types:=by rw [<- hT,(z4s l g).1]
  have eC:C.2.types=g.types:=by rw [<- hC,(z1j l all [2] T.2).1];exact eT
  have hA:=hr all ⟨true,p.Loop,T.1,p.Next,p.Left⟩ C.2
  have pA:=(hp all ⟨true,p.Loop,T.1,p.Next,p.Left⟩ C.2).len
  generalize rec all ⟨true,p.Loop,T.1,p.Next,p.Left⟩ C.2=A at *
  have hB:=hr all ⟨true,p.Loop,T.1,p.Next,p.Left⟩ A.2
  have pB:=(hp all ⟨true,p.Loop,T.1,p.Next,p.Left⟩ A.2).len
  generalize rec all ⟨true,p.Loop,T.1,p.Next,p.Left⟩ A.2=B at *
  rw [eC] at hA pA
  refine zv4 _ (dL A.1++dL B.1) g.types.length (fun o=>by simp [dN,dK]) T.1 B.2 (hA.app hB (Nat.le_refl _) pA pB) oM0
theorem y77 {rec:GRec} (hr:y8w rec) (hp:zg1 rec) (all:List Int) (g:Gn):Fresh g.types.length (z9n l rec all g).2.types.length (dN (z9n l rec all g).1):=by
  unfold z9n
  simp only
  generalize hT:z0n l g=T
  generalize hO:z0n l T.2=O
  generalize hA:z1l l all T.1 O.2=A
  have eT:T.2.types=g.types:=by rw [<- hT,(z4s l g).1]
  have eO:O.2.types=g.types:=by rw [<- hO,(z4s l T.2).1];exact eT
  have eA:A.2.types=g.types:=by rw [<- hA,(z1j l all T.1 O.2).1];exact eO
  have hQ:=z96 T.1 A.2
  have pQ:=(z7l T.1 A.2).len
  generalize z0j T.1 A.2=Q at *
  have hB:=hr (all++Q.1) ⟨false,true,[],T.1,O.1⟩ Q.2
  have pB:=(hp (all++Q.1) ⟨false,true,[],T.1,O.1⟩ Q.2).len
  generalize rec (all++Q.1) ⟨false,true,[],T.1,O.1⟩ Q.2=B at *
  rw [eA] at hQ pQ
  refine zv4 _ (Q.1++dL B.1) g.types.length (fun o=>by simp [dN,dK]) O.1 B.2 (hQ.app hB (Nat.le_refl _) pQ pB) oM0
theorem ya0 {rec:Option GRec} (hr:∀ r,rec=some r->y8w r/\zg1 r) (all:List Int) (p:Plc) (g:Gn):Fresh g.types.length (gAny l rec all p g).2.types.length (dN (gAny l rec all p g).1):=by
  have hs:=y1q l all { g with left:=g.left - 1 }
  have ps:=(zq7 l all { g with left:=g.left - 1 }).len
  unfold gAny
  simp only
  cases rec with
  | none=>exact hs
  | some r =>
    simp only
    split
    ·exact (fresh_if l (hr r rfl).1 (hr r rfl).2 all p _).mono ps (Nat.le_refl _)
    split
    ·exact (y77 l (hr r rfl).1 (hr r rfl).2 all _).mono ps (Nat.le_refl _)
    exact hs
theorem zg9 {rec:Option GRec} (hr:∀ r,rec=some r->y8w r/\zg1 r) (p:Plc):∀ (i:Nat) (all:List Int) (g:Gn),Fresh g.types.length (z5d l rec p i all g).2.types.length (dL (z5d l rec p i all g).1)
  | 0,all,g=>by
    have:=y1p l all p g
    simpa [z5d,dL] using this
  | i+1,all,g=>by
    have he:=y1p l all p g
    have hx:=ya0 l hr all p g
    have px:=(y6d l (fun r h=>(hr r h).2) all p g).len
    unfold z5d
    split
    ·simpa [dL] using he
    split
    ·simpa [dL] using hx
    have ih:=zg9 hr p i (all++(gAny l rec all p g).1.outs) (gAny l rec all p g).2
    have pt:=(zq8 l (fun r h=>(hr r h).2) p i (all++(gAny l rec all p g).1.outs) (gAny l rec all p g).2).len
    simp only [dL]
    exact hx.app ih (Nat.le_refl _) px pt
theorem y76 (d:Nat):y8w (z2z l d):=by
  induction d with
  | zero =>
    intro seen p g
    rw [z5v]
    exact zg9 l (fun r h=>by cases h) p (z05 l 6 g).1 seen (z05 l 6 g).2
  | succ d ih =>
    intro seen p g
    rw [z5v]
    exact zg9 l (fun r h=>by cases h;exact ⟨ih,y0f l d⟩) p (z05 l 6 g).1 seen (z05 l 6 g).2
end
end
section
def PxT (g:Gn) (T:List Int):Prop:=∃ q,T=g.types++q
theorem PxT.of {a b:Gn} {T:List Int} (h:Px a b) (h':PxT b T):PxT a T:=by
  obtain ⟨q,e⟩:=h
  obtain ⟨r,e'⟩:=h'
  exact ⟨q++r,by rw [e',e,List.append_assoc]⟩
theorem PxT.len {a:Gn} {T:List Int} (h:PxT a T):a.types.length<=T.length:=by obtain ⟨q,e⟩:=h;rw [e];simp
theorem PxT.getD {a:Gn} {T:List Int} (h:PxT a T) {n:Nat} (hn:n<a.types.length):a.types.getD n 0=T.getD n 0:=by
  obtain ⟨q,rfl⟩:=h
  simp [List.getD,List.getElem?_append_left hn]
structure Sn (T:List Int) (n:Nat) (seen:List Int):Prop where
  zero:(0:Int)∈seen
  one:∃ s∈seen,T.getD s.toNat 0=1
  two:∃ s∈seen,T.getD s.toNat 0=2
  inr:∀ s∈seen,0<=s/\s.toNat<n
theorem Sn.mono {T:List Int} {n m:Nat} {seen:List Int} (h:Sn T n seen) (hm:n<=m):Sn T m seen:=⟨h.zero,h.one,h.two,fun s hs=>⟨(h.inr s hs).1,Nat.lt_of_lt_of_le (h.inr s hs).2 hm⟩⟩
theorem Sn.app {T:List Int} {n m:Nat} {seen new:List Int} (h:Sn T n seen) (hm:n<=m) (hn:∀ s∈new,0<=s/\s.toNat<m):Sn T m (seen++new):=by
  obtain ⟨s,h1,h2⟩:=h.one
  obtain ⟨s',h3,h4⟩:=h.two
  exact ⟨List.mem_append_left _ h.zero,⟨s,List.mem_append_left _ h1,h2⟩,⟨s',List.mem_append_left _ h3,h4⟩,fun v hv=>(List.mem_append.1 hv).elim ((h.mono hm).inr v) (hn v)⟩
theorem y3s {tys seen:List Int} {t:Int}:∀ (r:List Int) (b:Bool) (k v:Int),(∀ s∈r,s∈seen)->v∈seen->gS1 tys t b k v r∈seen
  | [],_,_,_,_,hv=>hv
  | s::r,b,k,v,h,hv=>by
    unfold gS1
    have hr:∀ x∈r,x∈seen:=fun x hx=>h x (.tail _ hx)
    split
    ·exact y3s r _ _ _ hr (h s (.head _))
    exact y3s r _ _ _ hr hv
theorem y3t {tys seen:List Int} {t:Int}:∀ (r:List Int) (v:Int),(∀ s∈r,s∈seen)->v∈seen->gS2 tys t v r∈seen
  | [],_,_,hv=>hv
  | s::r,v,h,hv=>by
    unfold gS2
    have hr:∀ x∈r,x∈seen:=fun x hx=>h x (.tail _ hx)
    split
    ·split
     ·exact y3t r _ hr (h s (.head _))
     exact y3t r _ hr hv
    exact hv
theorem y5r {tys:List Int} {t:Int} {r:List Int} {v:Int} (h:tys.getD v.toNat 0=t):gS2 tys t v r=v:=by
  cases r with
  | nil=>rfl
  | cons s r=>unfold gS2;rw [if_neg (by rw [h];simp)]
theorem gS2_ty {tys:List Int} {t:Int}:∀ (r:List Int) (v:Int),(∃ s∈r,tys.getD s.toNat 0=t)->tys.getD (gS2 tys t v r).toNat 0=t
  | [],v,h=>by obtain ⟨s,hs,_⟩:=h;simp at hs
  | s::r,v,h=>by
    by_cases hv:tys.getD v.toNat 0=t
    ·rw [y5r hv];exact hv
    unfold gS2
    rw [if_pos (by simpa using hv)]
    by_cases hs:tys.getD s.toNat 0=t
    ·rw [if_pos (by simpa using hs),y5r hs];exact hs
    rw [if_neg (by simpa using hs)]
    refine gS2_ty r v ?_
    obtain ⟨x,hx,hxt⟩:=h
    rcases List.mem_cons.1 hx with rfl | hx
    ·exact absurd hxt hs
    exact ⟨x,hx,hxt⟩
def Ty12 (ts:List Int):Prop:=∀ t∈ts,t=1∨t=2
theorem Ty12.ne {ts:List Int} (h:Ty12 ts):∀ t∈ts,t≠0:=fun t ht=>by rcases h t ht with rfl | rfl<;>decide
section
variable (l:List UInt8)
theorem some_ok {g:Gn} {T seen:List Int} {t:Int} (h:PxT g T) (hs:Sn T g.types.length seen) (ht:t=1∨t=2):(zd2 l seen t g).1∈seen/\T.getD (zd2 l seen t g).1.toNat 0=t:=by
  have hm:(zd2 l seen t g).1∈seen:=y3t seen _ (fun _ h=>h) (y3s seen _ _ _ (fun _ h=>h) hs.zero)
  refine ⟨hm,?_⟩
  rw [<- h.getD (hs.inr _ hm).2]
  refine gS2_ty seen _ ?_
  obtain ⟨s,h1,h2⟩:∃ s∈seen,T.getD s.toNat 0=t:=by
    rcases ht with rfl | rfl
    ·exact hs.one
    exact hs.two
  exact ⟨s,h1,by rw [h.getD (hs.inr s h1).2];exact h2⟩
theorem use_ok {T seen:List Int} {n:Nat} {v w:Int} (hs:Sn T n seen) (hn:n<=T.length) (hv:v∈seen) (hw:w=0∨T.getD v.toNat 0=w):z5t T seen v w=true:=by
  obtain ⟨h1,h2⟩:=hs.inr v hv
  unfold z5t
  have e1:decide (v<0)=false:=by simp;omega
  have e2:decide (v ≥ T.length)=false:=by simp;omega
  have e3:seen.contains v=true:=by simpa using hv
  have e4:(w != 0&&(T.getD v.toNat 0 != w))=false:=by
    rcases hw with rfl | h
    ·rfl
    rw [h];simp
  rw [e1,e2,e3,e4];rfl
theorem zo0 {T seen:List Int}:∀ (ts:List Int) {g:Gn},PxT g T->Sn T g.types.length seen->Ty12 ts->z02 T seen (z1l l seen ts g).1 ts=true/\(∀ v∈(z1l l seen ts g).1,v∈seen)/\(z1l l seen ts g).1.map (fun v=>T.getD v.toNat 0)=ts
  | [],g,_,_,_=>⟨rfl,fun v hv=>by simp [z1l] at hv,rfl⟩
  | t::r,g,h,hs,ht=>by
    obtain ⟨h1,h2⟩:=some_ok l h hs (ht t (.head _))
    obtain ⟨i1,i2,i3⟩:=zo0 (seen:=seen) r (g:=(zd2 l seen t g).2) h hs (fun x hx=>ht x (.tail _ hx))
    simp only [z02,Bool.and_eq_true] at i1
    refine ⟨?_,fun v hv=>?_,?_⟩
    ·simp only [z1l,z02,z0u,Bool.and_eq_true,List.length_cons]
     refine ⟨?_,use_ok hs h.len h1 (.inr h2),i1.2⟩
     have:=i1.1
     simp only [beq_iff_eq] at this ⊢
     omega
    ·simp only [z1l,List.mem_cons] at hv
     rcases hv with rfl | hv
     ·exact h1
     exact i2 v hv
    simp only [z1l,List.map_cons,h2,i3]
theorem zh9 {T:List Int}:∀ (ts:List Int) (g:Gn),PxT (z0j ts g).2 T->z21 T (z0j ts g).1 ts=true
  | [],_,_=>rfl
  | t::r,g,h=>by
    have ih:=zh9 r (z07 t g).2 h
    have hg:PxT (z07 t g).2 T:=PxT.of (z7l r (z07 t g).2) h
    obtain ⟨q,e⟩:=hg
    have e2:T=(g.types++[t])++q:=e
    simp only [z0j,z21,Bool.and_eq_true]
    refine ⟨?_,ih⟩
    simp only [z4y,Bool.and_eq_true,Bool.or_eq_true,beq_iff_eq,z07]
    refine ⟨⟨decide_eq_true oM0,decide_eq_true ?_⟩,.inr ?_⟩
    ·rw [e2];simp only [List.length_append,List.length_cons,List.length_nil];omega
    rw [e2]
    simp [List.getD]
theorem zf9 {T:List Int}:∀ {l ts:List Int},z21 T l ts=true->z21 T l (zer l)=true
  | [],[],_=>rfl
  | [],_::_,h=>by simp [z21] at h
  | _::_,[],h=>by simp [z21] at h
  | v::r,t::ts,h=>by
    simp only [z21,Bool.and_eq_true] at h
    have ih:=zf9 h.2
    have h1:=h.1
    simp only [z4y,Bool.and_eq_true] at h1
    show (z4y T v 0&&z21 T r (zer r))=true
    rw [ih]
    simp [z4y,h1.1.1,h1.1.2]
theorem y6s {T:List Int}:∀ {l ts:List Int},z21 T l ts=true->(∀ t∈ts,t≠0)->l.all (z6k T)=true/\l.map (fun v=>T.getD v.toNat 0)=ts
  | [],[],_,_=>⟨rfl,rfl⟩
  | [],_::_,h,_=>by simp [z21] at h
  | _::_,[],h,_=>by simp [z21] at h
  | v::r,t::ts,h,hn=>by
    simp only [z21,Bool.and_eq_true] at h
    obtain ⟨i1,i2⟩:=y6s h.2 (fun x hx=>hn x (.tail _ hx))
    have h1:=h.1
    simp only [z4y,Bool.and_eq_true,Bool.or_eq_true,beq_iff_eq] at h1
    have ht:T.getD v.toNat 0=t:=h1.2.resolve_left (hn t (.head _))
    refine ⟨?_,?_⟩
    ·simp only [List.all_cons,Bool.and_eq_true]
     exact ⟨by simp only [z6k,Bool.and_eq_true];exact h1.1,i1⟩
    simp only [List.map_cons,ht,i2]
theorem y46 {T:List Int} {ts:List Int} {g:Gn} (h:PxT (z0j ts g).2 T) (ht:Ty12 ts):r8of T (z0j ts g).1=ts:=by
  obtain ⟨h1,h2⟩:=y6s (zh9 ts g h) ht.ne
  unfold r8of
  rw [if_pos h1,h2]
theorem tyN_12:∀ (n:Nat) (g:Gn),Ty12 (gTyN l n g).1
  | 0,_=>fun t ht=>by simp [gTyN] at ht
  | n+1,g=>fun t ht=>by
    have h2:(z05 l 2 g).1<2:=z1u oM0
    simp only [gTyN,List.mem_cons] at ht
    rcases ht with rfl | ht
    ·omega
    exact tyN_12 n _ t ht
theorem z9k (g:Gn):Ty12 (z0n l g).1:=tyN_12 l _ _
structure Env (u:Un) (f:Fl):Prop where
  ty:f.ty=1
  ar:z0e z79 u.arrays 0 ≥ 0
  fl:z04 z3p u.flows 0 ≥ 0
  flw:∃ g,u.flows[(z04 z3p u.flows 0).toNat]? = some g/\g.types.take g.params.toNat=[1,2]/\g.ty=1
end
end
section
theorem z43 {kind op n:Int} {name:ByteArray} {args outs:List Int} (ho:(kind=3∨kind=4)∨op=0) (hn:(kind=1∨kind=2)∨n=0) (hm:(kind=5∨kind=6∨kind=7)∨name=z0l) (h10:kind≠10) (h11:kind≠11) :
    z12 (.mk kind op n name args outs [] [])=true:=by
  have e0:z0l.toList=[]:=z62 z0l
  have hm2:(kind=5∨kind=6∨kind=7)∨name.toList=[]:=hm.imp id fun h=>by rw [h,e0]
  simp only [z12,r8op,y7q,zw9,r8kn,Nd.kind,Nd.op,Nd.n,Nd.name,Nd.kids,Nd.params,Bool.and_eq_true,Bool.or_eq_true,beq_iff_eq,List.length_nil]
  refine ⟨⟨⟨⟨ho,hn⟩,?_⟩,?_⟩,.inr rfl⟩
  ·rcases hm2 with (h | h | h) | h
   ·exact .inl (.inl (.inl h))
   ·exact .inl (.inl (.inr h))
   ·exact .inl (.inr h)
   exact .inr h
  rw [if_neg h11,if_neg h10];rfl
section
variable (l:List UInt8) {u:Un} {f:Fl} {seen:List Int} {w:Wh} {deep:Int}
def Leaf (u:Un) (f:Fl) (seen:List Int) (w:Wh) (x:Nd):Prop:=z12 x=true/\(x.kind==10)=false/\(x.kind==11)=false/\(z38 u f x seen w).ok f.types x.outs=true
theorem Leaf.ok {x:Nd} (h:Leaf u f seen w x):z2r u f deep w seen x=true:=by
  rw [z11 u f deep w seen h.1 h.2.1 h.2.2.1];exact h.2.2.2
theorem y3n {x:Nd} (h1:(x.kind==10)=false) (h2:(x.kind==11)=false):z01 x=z0q x.kind:=by
  unfold z01
  rw [h1,h2];rfl
section
variable {A O:List Int} {op n:Int} {name:ByteArray}
theorem sF1:z38 u f (.mk 1 op n name A O [] []) seen w=⟨z02 f.types seen A [],some [1]⟩:=rfl
theorem sF2:z38 u f (.mk 2 op n name A O [] []) seen w=⟨(n==0||n==1)&&z02 f.types seen A [],some [2]⟩:=rfl
theorem sF3:z38 u f (.mk 3 op n name A O [] []) seen w=⟨z2a op&&z02 f.types seen A [(z0a op).1],some [(z0a op).2]⟩:=rfl
theorem sF4:z38 u f (.mk 4 op n name A O [] []) seen w=⟨z1t op&&z02 f.types seen A [(z0a op).1,(z0a op).1]&&f.types.getD (A.getD 0 0).toNat 0==f.types.getD (A.getD 1 0).toNat 0,some [(z0a op).2]⟩:=rfl
theorem sF5:z38 u f (.mk 5 op n name A O [] []) seen w=⟨decide (z0e name u.arrays 0 ≥ 0)&&z02 f.types seen A [1],some [1]⟩:=rfl
theorem sF6:z38 u f (.mk 6 op n name A O [] []) seen w=⟨decide (z0e name u.arrays 0 ≥ 0)&&z02 f.types seen A [1,1],none⟩:=rfl
theorem sF7 {g:Fl} (h:z04 name u.flows 0 ≥ 0) (hg:u.flows[(z04 name u.flows 0).toNat]? = some g):z38 u f (.mk 7 op n name A O [] []) seen w=⟨z02 f.types seen A (g.types.take g.params.toNat),some [g.ty]⟩:=by
  have e:z38 u f (.mk 7 op n name A O [] []) seen w=(if decide (z04 name u.flows 0 ≥ 0)=true then match u.flows[(z04 name u.flows 0).toNat]? with
      | some g=>⟨z02 f.types seen A (g.types.take g.params.toNat),some [g.ty]⟩
      | none=>⟨false,none⟩
    else ⟨false,none⟩):=rfl
  rw [e,if_pos (decide_eq_true h),hg]
theorem sF8:z38 u f (.mk 8 op n name A O [] []) seen w=⟨(A.length:Int)==0,some [1]⟩:=rfl
theorem sF9:z38 u f (.mk 9 op n name A O [] []) seen w=⟨z02 f.types seen A [1],none⟩:=rfl
theorem sF12:z38 u f (.mk 12 op n name A O [] []) seen w=⟨w.If&&z02 f.types seen A w.Yield,none⟩:=rfl
theorem sF13:z38 u f (.mk 13 op n name A O [] []) seen w=⟨w.Loop&&z02 f.types seen A w.Next,none⟩:=rfl
theorem sF14:z38 u f (.mk 14 op n name A O [] []) seen w=⟨w.Loop&&z02 f.types seen A w.Left,none⟩:=rfl
theorem sF15:z38 u f (.mk 15 op n name A O [] []) seen w=⟨z02 f.types seen A [f.ty],none⟩:=rfl
theorem leaf1 (hO:z21 f.types O [1]=true):Leaf u f seen w (.mk 1 0 n z0l [] O [] []) :=
  ⟨z43 (.inr rfl) (.inl (.inl rfl)) (.inr rfl) dC0 dC0,rfl,rfl,by
    rw [sF1];simpa [SForm.ok,z02,z0u,Nd.outs] using hO⟩
theorem leaf2 (hn:n=0∨n=1) (hO:z21 f.types O [2]=true):Leaf u f seen w (.mk 2 0 n z0l [] O [] []) :=
  ⟨z43 (.inr rfl) (.inl (.inr rfl)) (.inr rfl) dC0 dC0,rfl,rfl,by
    have h1:(n==0||n==1)=true:=by rcases hn with rfl | rfl<;>rfl
    rw [sF2];simp only [SForm.ok,h1,Nd.outs,hO];rfl⟩
theorem leaf3 {a b:Int} (h1:z2a op=true) (h2:z0a op=(a,b)) (hA:z02 f.types seen A [a]=true) (hO:z21 f.types O [b]=true):Leaf u f seen w (.mk 3 op 0 z0l A O [] []) :=
  ⟨z43 (.inl (.inl rfl)) (.inr rfl) (.inr rfl) dC0 dC0,rfl,rfl,by
    rw [sF3];simp only [SForm.ok,h1,h2,Nd.outs,hA,hO];rfl⟩
theorem leaf4 {a b:Int} (h1:z1t op=true) (h2:z0a op=(a,b)) (hA:z02 f.types seen A [a,a]=true) (ht:f.types.getD (A.getD 0 0).toNat 0=f.types.getD (A.getD 1 0).toNat 0) (hO:z21 f.types O [b]=true):Leaf u f seen w (.mk 4 op 0 z0l A O [] []) :=
  ⟨z43 (.inl (.inr rfl)) (.inr rfl) (.inr rfl) dC0 dC0,rfl,rfl,by
    rw [sF4];simp only [SForm.ok,h1,h2,Nd.outs,hA,hO,ht,Bool.true_and,Bool.and_true,beq_self_eq_true]⟩
theorem leaf5 (E:Env u f) (hA:z02 f.types seen A [1]=true) (hO:z21 f.types O [1]=true):Leaf u f seen w (.mk 5 0 0 z79 A O [] []) :=
  ⟨z43 (.inr rfl) (.inr rfl) (.inl (.inl rfl)) dC0 dC0,rfl,rfl,by
    rw [sF5];simp only [SForm.ok,decide_eq_true E.ar,Nd.outs,hA,hO];rfl⟩
theorem leaf6 (E:Env u f) (hA:z02 f.types seen A [1,1]=true):Leaf u f seen w (.mk 6 0 0 z79 A [] [] []) :=
  ⟨z43 (.inr rfl) (.inr rfl) (.inl (.inr (.inl rfl))) dC0 dC0,rfl,rfl,by
    rw [sF6];simp only [SForm.ok,decide_eq_true E.ar,hA];rfl⟩
theorem leaf7 (E:Env u f) (hA:z02 f.types seen A [1,2]=true) (hO:z21 f.types O [1]=true):Leaf u f seen w (.mk 7 0 0 z3p A O [] []) :=
  ⟨z43 (.inr rfl) (.inr rfl) (.inl (.inr (.inr rfl))) dC0 dC0,rfl,rfl,by
    obtain ⟨g,h1,h2,h3⟩:=E.flw
    rw [sF7 E.fl h1];simp only [SForm.ok,h2,h3,Nd.outs,hA,hO];rfl⟩
theorem leaf8 (hO:z21 f.types O [1]=true):Leaf u f seen w (.mk 8 0 0 z0l [] O [] []) :=
  ⟨z43 (.inr rfl) (.inr rfl) (.inr rfl) dC0 dC0,rfl,rfl,by
    rw [sF8];simp only [SForm.ok,Nd.outs,hO];rfl⟩
theorem leaf9 (hA:z02 f.types seen A [1]=true):Leaf u f seen w (.mk 9 0 0 z0l A [] [] []) :=
  ⟨z43 (.inr rfl) (.inr rfl) (.inr rfl) dC0 dC0,rfl,rfl,by
    rw [sF9];simp only [SForm.ok,hA];rfl⟩
theorem leafE {k:Int} {want:List Int} (hk:(k=12/\w.If=true/\want=w.Yield)∨(k=13/\w.Loop=true/\want=w.Next)∨(k=14/\w.Loop=true/\want=w.Left)∨(k=15/\want=[f.ty])) (hA:z02 f.types seen A want=true):Leaf u f seen w (.mk k 0 0 z0l A [] [] []):=by
  have hb:z12 (.mk k 0 0 z0l A [] [] [])=true:=z43 (.inr rfl) (.inr rfl) (.inr rfl) oM0 oM0
  rcases hk with ⟨rfl,h1,rfl⟩ | ⟨rfl,h1,rfl⟩ | ⟨rfl,h1,rfl⟩ | ⟨rfl,rfl⟩
  ·exact ⟨hb,rfl,rfl,by rw [sF12];simp only [SForm.ok,h1,hA];rfl⟩
  ·exact ⟨hb,rfl,rfl,by rw [sF13];simp only [SForm.ok,h1,hA];rfl⟩
  ·exact ⟨hb,rfl,rfl,by rw [sF14];simp only [SForm.ok,h1,hA];rfl⟩
  exact ⟨hb,rfl,rfl,by rw [sF15];simp only [SForm.ok,hA];rfl⟩
end
theorem y31 (E:Env u f) {g:Gn} (h:PxT (z1r l seen g).2 f.types) (hs:Sn f.types g.types.length seen):Leaf u f seen w (z1r l seen g).1/\z0q (z1r l seen g).1.kind=false:=by
  have key:∀ (kind op n:Int) (name:ByteArray) (ins outs:List Int) (g':Gn),g'.types=g.types->PxT (z46 l kind op n name seen ins outs g').2 f.types->Ty12 ins ->
      (∀ A O,z02 f.types seen A ins=true->A.map (fun v=>f.types.getD v.toNat 0)=ins->z21 f.types O outs=true->Leaf u f seen w (.mk kind op n name A O [] []))->z0q kind=false ->
      Leaf u f seen w (z46 l kind op n name seen ins outs g').1/\z0q (z46 l kind op n name seen ins outs g').1.kind=false:=by
    intro kind op n name ins outs g' hg hp hi hL hk
    have hp1:PxT (z1l l seen ins g').2 f.types:=PxT.of (z7l outs _) hp
    have hp0:PxT g' f.types:=PxT.of (zq6 l seen ins g') hp1
    obtain ⟨a1,_,a3⟩:=zo0 l (seen:=seen) ins hp0 (by rw [hg];exact hs) hi
    exact ⟨hL _ _ a1 a3 (zh9 outs _ hp),hk⟩
  have i1:Ty12 [1]:=by intro t ht;simp at ht;omega
  have i2:Ty12 [2]:=by intro t ht;simp at ht;omega
  have i11:Ty12 [1,1]:=by intro t ht;simp at ht;omega
  have i12:Ty12 [1,2]:=by intro t ht;simp at ht;omega
  have i0:Ty12 []:=by intro t ht;simp at ht
  have nilA:∀ {A:List Int},A.map (fun v=>f.types.getD v.toNat 0)=[]->A=[]:=fun h=>by simpa using h
  have twoA:∀ {A:List Int} {t:Int},A.map (fun v=>f.types.getD v.toNat 0)=[t,t]->f.types.getD (A.getD 0 0).toNat 0=f.types.getD (A.getD 1 0).toNat 0:=by
    intro A t hA
    rcases A with _ | ⟨a,_ | ⟨b,_ | ⟨c,A⟩⟩⟩
    ·simp at hA
    ·simp at hA
    ·simp only [List.map_cons,List.map_nil,List.cons.injEq,and_true] at hA
     show f.types.getD a.toNat 0=f.types.getD b.toNat 0
     rw [hA.1,hA.2]
    simp at hA
  have two00:∀ {A:List Int},z02 f.types seen A [1,1]=true->z02 f.types seen A [0,0]=true:=by
    intro A hA
    rcases A with _ | ⟨a,_ | ⟨b,_ | ⟨c,A⟩⟩⟩
    ·simp [z02] at hA
    ·simp [z02] at hA
    ·simp only [z02,z0u,z5t,Bool.and_eq_true,Bool.not_eq_true',Bool.or_eq_false_iff] at hA ⊢
     simp_all
    simp [z02] at hA
    omega
  unfold z1r at h ⊢
  simp only at h ⊢
  split
  ·rename_i hk;simp only [hk,if_true] at h
   exact key 1 0 _ z0l [] [1] _ rfl h i0 (fun A O _ h2 h3=>by rw [nilA h2];exact leaf1 h3) rfl
  rename_i n0;rw [if_neg n0] at h
  split
  ·rename_i hk;rw [if_pos hk] at h
   have h2:(z05 l 2 (z05 l 12 g).2).1<2:=z1u oM0
   exact key 2 0 _ z0l [] [2] _ rfl h i0 (fun A O _ h2 h3=>by rw [nilA h2];exact leaf2 oM0 h3) rfl
  rename_i n1;rw [if_neg n1] at h
  split
  ·rename_i hk;rw [if_pos hk] at h
   have h4:(z05 l 4 (z05 l 12 g).2).1<4:=z1u oM0
   generalize (z05 l 4 (z05 l 12 g).2).1=z at *
   have hz:y3r.getD z 0=20∨y3r.getD z 0=21∨y3r.getD z 0=23∨y3r.getD z 0=27:=by
     have h5:z=0∨z=1∨z=2∨z=3:=by omega
     rcases h5 with rfl | rfl | rfl | rfl
     ·exact .inl rfl
     ·exact .inr (.inl rfl)
     ·exact .inr (.inr (.inl rfl))
     exact .inr (.inr (.inr rfl))
   exact key 3 _ 0 z0l [1] [1] _ rfl h i1 (fun A O h1 _ h3=>leaf3 (by rcases hz with e | e | e | e<;>rw [e]<;>rfl) (by rcases hz with e | e | e | e<;>rw [e]<;>rfl) h1 h3) rfl
  rename_i n2;rw [if_neg n2] at h
  split
  ·rename_i hk;rw [if_pos hk] at h
   exact key 3 22 0 z0l [2] [2] _ rfl h i2 (fun A O h1 _ h3=>leaf3 rfl rfl h1 h3) rfl
  rename_i n3;rw [if_neg n3] at h
  split
  ·rename_i hk;rw [if_pos hk] at h
   have h11:(z05 l 11 (z05 l 12 g).2).1<11:=z1u oM0
   exact key 4 _ 0 z0l [1,1] [1] _ rfl h i11 (fun A O h1 h2 h3=>leaf4 (a:=1) (b:=1) (by simp [z1t];omega) (by
     unfold z0a
     rw [if_neg (by simp;omega),if_neg (by simp;omega),if_neg (by simp;omega)]) h1 (twoA h2) h3) rfl
  rename_i n4;rw [if_neg n4] at h
  split
  ·rename_i hk;rw [if_pos hk] at h
   have h6:(z05 l 6 (z05 l 12 g).2).1<6:=z1u oM0
   refine key 4 _ 0 z0l [1,1] [2] _ rfl h i11 (fun A O h1 h2 h3=>?_) rfl
   by_cases hz:(z05 l 6 (z05 l 12 g).2).1<4
   ·exact leaf4 (a:=1) (b:=2) (by simp [z1t];omega) (by
      unfold z0a
      rw [if_neg (by simp;omega),if_neg (by simp;omega),if_pos (by simp;omega)]) h1 (twoA h2) h3
   exact leaf4 (a:=0) (b:=2) (by simp [z1t];omega) (by
     unfold z0a
     rw [if_neg (by simp;omega),if_pos (by simp;omega)]) (two00 h1) (twoA h2) h3
  rename_i n5;rw [if_neg n5] at h
  split
  ·rename_i hk;rw [if_pos hk] at h
   exact key 5 0 0 z79 [1] [1] _ rfl h i1 (fun A O h1 _ h3=>leaf5 E h1 h3) rfl
  rename_i n6;rw [if_neg n6] at h
  split
  ·rename_i hk;rw [if_pos hk] at h
   exact key 6 0 0 z79 [1,1] [] _ rfl h i11 (fun A O h1 _ h3=>by
     cases O with
     | nil=>exact leaf6 E h1
     | cons _ _=>simp [z21] at h3) rfl
  rename_i n7;rw [if_neg n7] at h
  split
  ·rename_i hk;rw [if_pos hk] at h
   exact key 7 0 0 z3p [1,2] [1] _ rfl h i12 (fun A O h1 _ h3=>leaf7 E h1 h3) rfl
  rename_i n8;rw [if_neg n8] at h
  split
  ·rename_i hk;rw [if_pos hk] at h
   exact key 8 0 0 z0l [] [1] _ rfl h i0 (fun A O _ h2 h3=>by rw [nilA h2];exact leaf8 h3) rfl
  rename_i hk;rw [if_neg hk] at h
  exact key 9 0 0 z0l [1] [] _ rfl h i1 (fun A O h1 _ h3=>by
    cases O with
    | nil=>exact leaf9 h1
    | cons _ _=>simp [z21] at h3) rfl
end
end
section
structure Plc.T12 (p:Plc):Prop where
  y:Ty12 p.Yield
  n:Ty12 p.Next
  v:Ty12 p.Left
structure Wr (p:Plc) (w:Wh) (L:List Nd):Prop where
  i:p.If=true->w.If=true
  lp:p.Loop=true->w.Loop=true/\w.Next=p.Next
  y:z1b L=12->w.Yield=p.Yield
  lv:z0r L=true->w.Left=p.Left
section
variable (l:List UInt8) {u:Un} {f:Fl}
theorem gEnd_ok (E:Env u f) {seen:List Int} {p:Plc} {g:Gn} {w:Wh} (h:PxT (gEnd l seen p g).2 f.types) (hs:Sn f.types g.types.length seen) (hp:p.T12) (W:Wr p w [(gEnd l seen p g).1]) :
    Leaf u f seen w (gEnd l seen p g).1/\z0q (gEnd l seen p g).1.kind=true:=by
  have key:∀ (k:Int) (ins:List Int) (g':Gn),g'.types=g.types->PxT (z46 l k 0 0 z0l seen ins [] g').2 f.types->Ty12 ins ->
      ((k=12/\w.If=true/\ins=w.Yield)∨(k=13/\w.Loop=true/\ins=w.Next)∨(k=14/\w.Loop=true/\ins=w.Left)∨(k=15/\ins=[f.ty])) ->
      Leaf u f seen w (z46 l k 0 0 z0l seen ins [] g').1/\z0q (z46 l k 0 0 z0l seen ins [] g').1.kind=true:=by
    intro k ins g' hg hp' hi hk
    have hp0:PxT g' f.types:=PxT.of (zq6 l seen ins g') hp'
    obtain ⟨a1,_,_⟩:=zo0 l (seen:=seen) ins hp0 (by rw [hg];exact hs) hi
    refine ⟨leafE hk a1,?_⟩
    show (decide (k ≥ 12)&&decide (k<=15))=true
    rw [decide_eq_true oM0,decide_eq_true oM0];rfl
  unfold gEnd at h W ⊢
  simp only at h W ⊢
  split
  ·rename_i hk;rw [if_pos hk] at h W
   exact key 12 p.Yield _ rfl h hp.y (.inl ⟨rfl,W.i hk.1,(W.y rfl).symm⟩)
  rename_i n1;rw [if_neg n1] at h W
  split
  ·rename_i hk;rw [if_pos hk] at h W
   exact key 13 p.Next _ rfl h hp.n (.inr (.inl ⟨rfl,(W.lp hk.1).1,(W.lp hk.1).2.symm⟩))
  rename_i n2;rw [if_neg n2] at h W
  split
  ·rename_i hk;rw [if_pos hk] at h W
   exact key 14 p.Left _ rfl h hp.v (.inr (.inr (.inl ⟨rfl,(W.lp hk).1,(W.lv rfl).symm⟩)))
  rename_i hk;rw [if_neg hk] at h W
  exact key 15 [1] _ rfl h (by intro t ht;simp at ht;omega) (.inr (.inr (.inr ⟨rfl,by rw [E.ty]⟩)))
def y8x (u:Un) (f:Fl) (d:Nat) (rec:GRec):Prop:=∀ (seen:List Int) (p:Plc) (g:Gn) (w:Wh) (deep:Int),PxT (rec seen p g).2 f.types->Sn f.types g.types.length seen->p.T12->Wr p w (rec seen p g).1->deep+d<=100->z2t u f deep w seen (rec seen p g).1=true
theorem if_ok {d:Nat} {rec:GRec} (hr:y8x u f d rec) (hpx:zg1 rec) {all:List Int} {p:Plc} {g:Gn} {w:Wh} {deep:Int} (h:PxT (gIf l rec all p g).2 f.types) (hs:Sn f.types g.types.length all) (hp:p.T12)
    (hlp:p.Loop=true->w.Loop=true/\w.Next=p.Next) (hlv:z20 (gIf l rec all p g).1=true->w.Left=p.Left) (hd:deep+1+d<=100):z2r u f deep w all (gIf l rec all p g).1=true:=by
  unfold gIf at h hlv ⊢
  simp only at h hlv ⊢
  have t12:=z9k l g
  generalize hT:z0n l g=T at *
  generalize hC:z1l l all [2] T.2=C at *
  have eT:T.2.types=g.types:=by rw [<- hT,(z4s l g).1]
  have eC:C.2.types=g.types:=by rw [<- hC,(z1j l all [2] T.2).1];exact eT
  have hA:=fun w' deep'=>hr all ⟨true,p.Loop,T.1,p.Next,p.Left⟩ C.2 w' deep'
  have pA:=hpx all ⟨true,p.Loop,T.1,p.Next,p.Left⟩ C.2
  generalize rec all ⟨true,p.Loop,T.1,p.Next,p.Left⟩ C.2=A at *
  have hB:=fun w' deep'=>hr all ⟨true,p.Loop,T.1,p.Next,p.Left⟩ A.2 w' deep'
  have pB:=hpx all ⟨true,p.Loop,T.1,p.Next,p.Left⟩ A.2
  generalize rec all ⟨true,p.Loop,T.1,p.Next,p.Left⟩ A.2=B at *
  have xB:PxT B.2 f.types:=PxT.of (y0g _ _ _) h
  have xA:PxT A.2 f.types:=PxT.of pB xB
  have xC:PxT C.2 f.types:=PxT.of pA xA
  have sC:Sn f.types C.2.types.length all:=by rw [eC];exact hs
  have sA:Sn f.types A.2.types.length all:=sC.mono pA.len
  have xT:PxT T.2 f.types:=by obtain ⟨q,e⟩:=xC;exact ⟨q,by rw [e,eC,eT]⟩
  have hCt:z02 f.types all C.1 [2]=true:=by
    have:=(zo0 l (seen:=all) [2] xT (by rw [eT];exact hs) (by intro t ht;simp at ht;omega)).1
    rw [hC] at this;exact this
  have p12:Plc.T12 ⟨true,p.Loop,T.1,p.Next,p.Left⟩:=⟨t12,hp.n,hp.v⟩
  -- a node with such outs
  have key:∀ o:List Int,z21 f.types o (zer o)=true->(z01 (.mk 10 0 0 z0l C.1 o [] [A.1,B.1])=true->o=[])->(z1b A.1=12->r8of f.types o=T.1)->(z1b B.1=12->r8of f.types o=T.1) ->
      (z20 (.mk 10 0 0 z0l C.1 o [] [A.1,B.1])=true->w.Left=p.Left)->z2r u f deep w all (.mk 10 0 0 z0l C.1 o [] [A.1,B.1])=true:=by
    intro o ho hc hyA hyB hl
    have e0:z0l.toList=[]:=z62 z0l
    have hb:z12 (.mk 10 0 0 z0l C.1 o [] [A.1,B.1])=true:=by
      simp [z12,r8op,y7q,zw9,r8kn,Nd.kind,Nd.op,Nd.n,Nd.name,Nd.kids,Nd.params,e0]
    rw [z3w u f deep w all hb rfl rfl]
    have hl2:∀ q,q∈[A.1,B.1]->z0r q=true->w.Left=p.Left:=by
      intro q hq hq2
      refine hl ?_
      simp only [z20,z2q,Bool.or_false]
      simp only [List.mem_cons,List.not_mem_nil,or_false] at hq
      rcases hq with rfl | rfl
      ·rw [hq2];rfl
      rw [hq2];simp
    have vA:=hA (w1 w f (.mk 10 0 0 z0l C.1 o [] [A.1,B.1])) (deep+1) xA sC p12 ⟨fun _=>rfl,hlp,hyA,hl2 _ (.head _)⟩ hd
    have vB:=hB (w1 w f (.mk 10 0 0 z0l C.1 o [] [A.1,B.1])) (deep+1) xB sA p12 ⟨fun _=>rfl,hlp,hyB,hl2 _ (.tail _ (.head _))⟩ hd
    have ho2:zb2 (.mk 10 0 0 z0l C.1 o [] [A.1,B.1])=true:=by
      unfold zb2
      cases hcl:z01 (.mk 10 0 0 z0l C.1 o [] [A.1,B.1]) with
      | false=>simp
      | true=>rw [hc hcl];rfl
    simp only [Bool.and_eq_true]
    exact ⟨⟨⟨⟨hCt,vA⟩,vB⟩,ho2⟩,ho⟩
  unfold z7g at h hlv ⊢
  split
  ·rename_i hcl
   rw [if_pos hcl] at hlv
   have hcl2:(z1b A.1 != 12&&z1b B.1 != 12)=true:=hcl
   simp only [Bool.and_eq_true,bne_iff_ne] at hcl2
   exact key [] rfl (fun _=>rfl) (fun e=>absurd e hcl2.1) (fun e=>absurd e hcl2.2) hlv
  rename_i hcl
  rw [if_neg hcl] at h hlv
  have ho:=y46 (T:=f.types) h t12
  exact key _ (zf9 (zh9 _ _ h)) (fun hc=>absurd hc hcl) (fun _=>ho) (fun _=>ho) hlv
theorem loop_ok {d:Nat} {rec:GRec} (hr:y8x u f d rec) (hpx:zg1 rec) {all:List Int} {g:Gn} {w:Wh} {deep:Int} (h:PxT (z9n l rec all g).2 f.types) (hs:Sn f.types g.types.length all) (hd:deep+1+d<=100):z2r u f deep w all (z9n l rec all g).1=true:=by
  unfold z9n at h ⊢
  simp only at h ⊢
  have t12:=z9k l g
  generalize hT:z0n l g=T at *
  have o12:=z9k l T.2
  generalize hO:z0n l T.2=O at *
  generalize hA:z1l l all T.1 O.2=A at *
  have eT:T.2.types=g.types:=by rw [<- hT,(z4s l g).1]
  have eO:O.2.types=g.types:=by rw [<- hO,(z4s l T.2).1];exact eT
  have eA:A.2.types=g.types:=by rw [<- hA,(z1j l all T.1 O.2).1];exact eO
  generalize hQ:z0j T.1 A.2=Q at *
  have hB:=fun w' deep'=>hr (all++Q.1) ⟨false,true,[],T.1,O.1⟩ Q.2 w' deep'
  have pB:=hpx (all++Q.1) ⟨false,true,[],T.1,O.1⟩ Q.2
  generalize rec (all++Q.1) ⟨false,true,[],T.1,O.1⟩ Q.2=B at *
  have xB:PxT B.2 f.types:=PxT.of (y0g _ _ _) h
  have xQ:PxT Q.2 f.types:=PxT.of pB xB
  have pQ:Px A.2 Q.2:=by rw [<- hQ];exact z7l T.1 A.2
  have xA:PxT A.2 f.types:=PxT.of pQ xQ
  have xO:PxT O.2 f.types:=by obtain ⟨q,e⟩:=xA;exact ⟨q,by rw [e,eA,eO]⟩
  have hAt:z02 f.types all A.1 T.1=true:=by
    have:=(zo0 l (seen:=all) T.1 xO (by rw [eO];exact hs) t12).1
    rw [hA] at this;exact this
  have hQo:z21 f.types Q.1 T.1=true:=by have:=zh9 (T:=f.types) T.1 A.2 (by rw [hQ];exact xQ);rw [hQ] at this;exact this
  have hQt:r8of f.types Q.1=T.1:=by have:=y46 (T:=f.types) (g:=A.2) (ts:=T.1) (by rw [hQ];exact xQ) t12;rw [hQ] at this;exact this
  have sQ:Sn f.types Q.2.types.length (all++Q.1):=by
    have hin:=InR.outs T.1 A.2
    rw [hQ] at hin
    exact hs.app (by have:=pQ.len;rw [eA] at this;exact this) hin
  have key:∀ o:List Int,z21 f.types o (zer o)=true->(z01 (.mk 11 0 0 z0l A.1 o Q.1 [B.1])=true->o=[])->(z0r B.1=true->r8of f.types o=O.1)->z2r u f deep w all (.mk 11 0 0 z0l A.1 o Q.1 [B.1])=true:=by
    intro o ho hc hl
    have e0:z0l.toList=[]:=z62 z0l
    have hb:z12 (.mk 11 0 0 z0l A.1 o Q.1 [B.1])=true:=by
      simp [z12,r8op,y7q,zw9,r8kn,Nd.kind,Nd.op,Nd.n,Nd.name,Nd.kids,Nd.params,e0]
    rw [z28 u f deep w all hb rfl rfl]
    have vB:=hB (w2 f (.mk 11 0 0 z0l A.1 o Q.1 [B.1])) (deep+1) xB sQ ⟨fun t ht=>(by simp at ht),t12,o12⟩ ⟨fun e=>(by cases e),fun _=>⟨rfl,hQt⟩,fun _=>rfl,hl⟩ hd
    have ho2:zb2 (.mk 11 0 0 z0l A.1 o Q.1 [B.1])=true:=by
      unfold zb2
      cases hcl:z01 (.mk 11 0 0 z0l A.1 o Q.1 [B.1]) with
      | false=>simp
      | true=>rw [hc hcl];rfl
    simp only [Bool.and_eq_true]
    refine ⟨⟨⟨⟨?_,zf9 hQo⟩,vB⟩,ho2⟩,ho⟩
    show z02 f.types all A.1 (r8of f.types Q.1)=true
    rw [hQt];exact hAt
  unfold z7g at h ⊢
  split
  ·rename_i hcl
   have hcl2:(!z0r B.1)=true:=hcl
   exact key [] rfl (fun _=>rfl) (fun e=>by rw [e] at hcl2;cases hcl2)
  rename_i hcl
  rw [if_neg hcl] at h
  have ho:=y46 (T:=f.types) h o12
  exact key _ (zf9 (zh9 _ _ h)) (fun hc=>absurd hc hcl) (fun _=>ho)
theorem any_ok (E:Env u f) {d:Nat} {rec:Option GRec} (hr:∀ r,rec=some r->y8x u f d r/\zg1 r) {all:List Int} {p:Plc} {g:Gn} {w:Wh} {deep:Int} (h:PxT (gAny l rec all p g).2 f.types) (hs:Sn f.types g.types.length all) (hp:p.T12)
    (hlp:p.Loop=true->w.Loop=true/\w.Next=p.Next) (hlv:z20 (gAny l rec all p g).1=true->w.Left=p.Left) (hd:deep+1+d<=100):z2r u f deep w all (gAny l rec all p g).1=true:=by
  have hs':Sn f.types ({ g with left:=g.left - 1 }:Gn).types.length all:=hs
  have ps:=zq7 l all { g with left:=g.left - 1 }
  have sS:=hs'.mono ps.len
  unfold gAny at h hlv ⊢
  simp only at h hlv ⊢
  cases rec with
  | none=>exact (y31 l E (w:=w) h hs').1.ok
  | some r =>
    simp only at h hlv ⊢
    split
    ·rename_i hk;rw [if_pos hk] at h hlv
     exact if_ok l (hr r rfl).1 (hr r rfl).2 h sS hp hlp hlv hd
    rename_i n0;rw [if_neg n0] at h hlv
    split
    ·rename_i hk;rw [if_pos hk] at h hlv
     exact loop_ok l (hr r rfl).1 (hr r rfl).2 h sS hd
    rename_i n1;rw [if_neg n1] at h
    exact (y31 l E (w:=w) h hs').1.ok
theorem yb9 {x:Nd} {q:List Nd} (h:q≠[]):z1b (x::q)=z1b q:=by
  cases q with
  | nil=>exact absurd rfl h
  | cons y r=>unfold z1b;rw [List.getLast?_cons_cons]
theorem yj2 (E:Env u f) {d:Nat} {rec:Option GRec} (hr:∀ r,rec=some r->y8x u f d r/\zg1 r) {p:Plc} (hp:p.T12) {w:Wh} {deep:Int} (hd:deep+1+d<=100) (hd0:deep<=100):∀ (i:Nat) (all:List Int) (g:Gn),PxT (z5d l rec p i all g).2 f.types->Sn f.types g.types.length all->Wr p w (z5d l rec p i all g).1 ->
    vGo u f deep w all (z5d l rec p i all g).1=true:=by
  have e100:(!decide (deep > 100))=true:=by rw [decide_eq_false oM0];rfl
  have fin:∀ (all:List Int) (g:Gn),PxT (gEnd l all p g).2 f.types->Sn f.types g.types.length all->Wr p w [(gEnd l all p g).1]->vGo u f deep w all [(gEnd l all p g).1]=true:=by
    intro all g h hs W
    obtain ⟨h1,h2⟩:=gEnd_ok l E h hs hp W
    have hc:z01 (gEnd l all p g).1=true:=by rw [y3n h1.2.1 h1.2.2.1];exact h2
    simp only [vGo,e100,h1.ok (deep:=deep),hc,List.isEmpty_nil,Bool.and_true]
    rfl
  intro i
  induction i with
  | zero=>intro all g h hs W;exact fin all g h hs W
  | succ i ih =>
    intro all g h hs W
    unfold z5d at h W ⊢
    split
    ·rename_i hk;rw [if_pos hk] at h W
     exact fin all g h hs W
    rename_i n0;rw [if_neg n0] at h W
    split
    ·rename_i hc;rw [if_pos hc] at h W
     have hv:=any_ok l E hr (deep:=deep) h hs hp W.lp (fun e=>W.lv (by simp only [z0r,e,Bool.true_or])) hd
     simp only [vGo,e100,hv,hc,List.isEmpty_nil,Bool.and_true]
     rfl
    rename_i hc;rw [if_neg hc] at h W
    have hne:=zz0 l rec p i (all++(gAny l rec all p g).1.outs) (gAny l rec all p g).2
    have px1:PxT (gAny l rec all p g).2 f.types:=PxT.of (zq8 l (fun r e=>(hr r e).2) p i _ _) h
    have hv:=any_ok l E hr (deep:=deep) px1 hs hp W.lp (fun e=>W.lv (by simp only [z0r,e,Bool.true_or])) hd
    have hcf:z01 (gAny l rec all p g).1=false:=by simpa using hc
    have hem:(z5d l rec p i (all++(gAny l rec all p g).1.outs) (gAny l rec all p g).2).1.isEmpty=false:=by
      cases hq:(z5d l rec p i (all++(gAny l rec all p g).1.outs) (gAny l rec all p g).2).1 with
      | nil=>exact absurd hq hne
      | cons _ _=>rfl
    have pg:=(y6d l (fun r e=>(hr r e).2) all p g).len
    have ho:=(y5i l (rec:=rec) all p g).1
    have hgo:=ih _ _ h (hs.app pg ho) ⟨W.i,W.lp,fun e=>W.y (by rw [yb9 hne];exact e),fun e=>W.lv (by simp only [z0r,e,Bool.or_true])⟩
    simp only [vGo,e100,hv,hcf,hem,hgo,Bool.and_true]
    rfl
theorem list_ok (E:Env u f) (d:Nat):y8x u f (d+1) (z2z l d):=by
  induction d with
  | zero =>
    intro seen p g w deep h hs hp W hd
    rw [z5v] at h W ⊢
    have:=yj2 l E (d:=0) (rec:=gRec l 0) (fun r h=>by cases h) hp (w:=w) (deep:=deep) (by simpa using hd) oM0 _ _ _ h hs W
    have hne:=zz0 l (gRec l 0) p (z05 l 6 g).1 seen (z05 l 6 g).2
    simp only [z2t,this,Bool.and_true]
    cases hq:(z5d l (gRec l 0) p (z05 l 6 g).1 seen (z05 l 6 g).2).1 with
    | nil=>exact absurd hq hne
    | cons _ _=>rfl
  | succ d ih =>
    intro seen p g w deep h hs hp W hd
    rw [z5v] at h W ⊢
    have:=yj2 l E (d:=d+1) (rec:=gRec l (d+1)) (fun r h=>by cases h;exact ⟨ih,y0f l d⟩) hp (w:=w) (deep:=deep) oM0 oM0 _ _ _ h hs W
    have hne:=zz0 l (gRec l (d+1)) p (z05 l 6 g).1 seen (z05 l 6 g).2
    simp only [z2t,this,Bool.and_true]
    cases hq:(z5d l (gRec l (d+1)) p (z05 l 6 g).1 seen (z05 l 6 g).2).1 with
    | nil=>exact absurd hq hne
    | cons _ _=>rfl
end
end
end Go.Proofs.YtekdhljpmflboaaGreat
