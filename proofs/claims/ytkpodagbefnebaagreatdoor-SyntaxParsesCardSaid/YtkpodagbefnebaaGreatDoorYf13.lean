import Derived.Test.YtkpodagbefnebaaGreatDoorYf12
import Derived.Lib.AtoiErrMem
set_option linter.unusedSimpArgs false
set_option linter.unusedVariables false
set_option linter.unusedSectionVars false
namespace Go.Proofs.YtkpodagbefnebaaGreatDoor
namespace Am
open Tk Go.RowKit
set_option maxRecDepth 100000
set_option maxHeartbeats 1000000
theorem r6 {e x:Ex} (h:x∈e.kids):SizeOf.sizeOf x<SizeOf.sizeOf e:=by
 obtain ⟨op,a,rel,b,names,set,kids⟩:=e
 have:=List.sizeOf_lt_of_mem h
 simp only[Ex.mk.sizeOf_spec]
 simp only at this
 omega
theorem js {x:Ex}:∀ {l:List Ex},x∈l→br x≤cF l
 |[],h=>by cases h
 |y :: l,h=>by
  rw[cF]
  rcases List.mem_cons.1 h with rfl|h
  ·omega
  ·have:=js h;omega
theorem qV:∀ (n:Nat) (e:Ex),SizeOf.sizeOf e<n→br e≤4294967296→Pure Tryz.prog 133 [.agg (exC e)] (.c (sI (br e)))
 |0,_,h,_=>absurd h (Nat.not_lt_zero _)
 |n+1,e,h,hb=>by
  have ih:∀ x∈e.kids,Pure Tryz.prog 133 [.agg (exC x)] (.c (sI (br x))):=fun x hx=>
   qV n x (by have:=r6 hx;omega) (by have:=js hx;have:=fL e;omega)
  have he:=fL e
  refine fn1 (fn:=Tryz.f133) Tryz.call133 Tryz.func133 rfl Tryz.ntmps133 Tryz.results133 rfl (by rfl) ?_
  repeat'(first|(with_reducible first|apply AW.seq|apply AW.block|apply AW.ret|apply AW.exit|apply aa|apply aE|apply aH|apply y_e|refine ae ?_)|((with_reducible apply ai);first|refine t_v AS.v ?_|refine t_w AS.w ?_)|((with_reducible refine aq ?_);((refine ah (fun hc=>?_) (fun hc=>?_);all_goals(try(exfalso;simp[*] at hc;done)))))|((with_reducible refine aM ?_);refine k_i ?_)|fail)
  simp only[List.length_map]
  refine AW.fact (t:=7) rfl (fun κ w x hr=>mO hr) fun hn=>?_
  refine AW.loop (fun m σ=>∃ j,m=e.kids.length - j∧j≤e.kids.length∧σ=mk [(3,.c (sI (cF (e.kids.take j)))),(7,.c (.lst none 10 (e.kids.map exC))),(8,.c (sI e.kids.length)),(9,.c (sI j))] []) e.kids.length ?_ ?_
  ·exact⟨_,wkA,0,rfl,Nat.zero_le _,rfl⟩
  rintro m σ ⟨j,rfl,hj,rfl⟩
  by_cases hlt:j<e.kids.length
  ·obtain ⟨x,hx⟩:∃ x,e.kids[j]? =some x:=⟨_,List.getElem?_eq_getElem hlt⟩
   have ihx:=ih x (List.mem_of_getElem? hx)
   have et:cF (e.kids.take (j+1))=max (cF (e.kids.take j)) (br x):=by
    rw[List.take_add_one,hx];exact jA _ _
   have ei:(max ((cF (e.kids.take j):Nat):Int) (br x:Nat))=((cF (e.kids.take (j+1)):Nat):Int):=by rw[et];omega
   repeat'(first|(with_reducible first|apply AW.seq|apply AW.block|apply AW.skip|apply aa|apply aw|apply y_e|refine ae ?_)|((with_reducible apply ai);first|refine t_v AS.v ?_|refine t_v (by exact aj (hP:=ihx)) ?_|refine t_w AS.w ?_)|((with_reducible apply ay);refine t_s AS.s ?_)|((with_reducible refine aq ?_);((refine ah (fun hc=>?_) (fun hc=>?_);all_goals(try(exfalso;simp[*] at hc;done)))))|fail)
   exact⟨_,_,(show e.kids.length - (j+1)<e.kids.length - j by omega),by rw[ei];exact wkA,j+1,rfl,hlt,rfl⟩
  ·have e1:e.kids.take j=e.kids:=List.take_of_length_le (by omega)
   rw[e1]
   repeat'(first|(with_reducible first|apply AW.seq|apply AW.block|apply AW.ret|apply AW.exit|apply aa|apply aE|apply aH|apply y_e|refine ae ?_)|((with_reducible apply ai);first|refine t_v AS.v ?_|refine t_w AS.w ?_)|((with_reducible refine aq ?_);((refine ah (fun hc=>?_) (fun hc=>?_);all_goals(try(exfalso;simp[*] at hc;done)))))|((with_reducible refine aM ?_);refine k_i ?_)|fail)
   rw[he]
   omega
theorem wg (e:Ex) (hb:br e≤4294967296):Pure Tryz.prog 133 [.agg (exC e)] (.c (sI (br e))):=qV _ e (Nat.lt_succ_self _) hb
theorem r5 {a r b op:Int} {ns:List ByteArray} {st:Se}:br ⟨op,a,r,b,ns,st,[]⟩=1:=by rw[br,cF]
theorem Bz {op:Int} (x:Ex):br {Ex.zero with op:=op,kids:=[x]}=br x+1:=by rw[fL];simp only[cF];omega
theorem vz {op:Int} (x y:Ex):br {Ex.zero with op:=op,kids:=[x,y]}=max (br x) (br y)+1:=by rw[fL];simp only[cF];omega
section
variable {l:List Tok} {k k':Ix l} {c d:Int}
theorem zF {v:Bool} {x:Ex} (h:mA v k= .ok (x,k')):br x=1:=by
 unfold mA at h
 obtain ⟨⟨a,k1⟩,h1,h2⟩:=aA.1 h;(try dsimp only at h2)
 split at h2
 ·split at h2
  ·obtain ⟨⟨t,k3⟩,h3,h4⟩:=aA.1 h2;(try dsimp only at h4)
   injection h4 with h4;injection h4 with h4 h5;subst h4;exact r5
  ·obtain ⟨⟨t,k3⟩,h3,h4⟩:=aA.1 h2;(try dsimp only at h4)
   injection h4 with h4;injection h4 with h4 h5;subst h4;exact r5
 ·obtain ⟨⟨r,k2⟩,h3,h4⟩:=aA.1 h2;(try dsimp only at h4)
  obtain ⟨⟨b,k3⟩,h5,h6⟩:=aA.1 h4;(try dsimp only at h6)
  injection h6 with h6;injection h6 with h6 h7;subst h6;exact r5
theorem ra (hf:Fine l) (v:Bool):∀ n:Nat,(∀ {x:Ex} {k k':Ix l},ew v n k= .ok (x,k')→br x+k.1≤k'.1)∧(∀ {x:Ex} {k k':Ix l},fI v n k= .ok (x,k')→br x+k.1≤k'.1)∧(∀ {e x:Ex} {k k':Ix l},cT v n e k= .ok (x,k')→br x+k.1≤br e+k'.1)∧(∀ {x:Ex} {k k':Ix l},fy v n k= .ok (x,k')→br x+k.1≤k'.1)∧(∀ {e x:Ex} {k k':Ix l},cU v n e k= .ok (x,k')→br x+k.1≤br e+k'.1)
 |0=>⟨fun h=>(by cases h),fun h=>(by cases h),fun h=>(by cases h),fun h=>(by cases h),fun h=>(by cases h)⟩
 |n+1=>by
  obtain ⟨i1,i2,i3,i4,i5⟩:=ra hf v n
  refine⟨fun {x k k'} h=>?_,fun {x k k'} h=>?_,fun {e x k k'} h=>?_,fun {x k k'} h=>?_,fun {e x k k'} h=>?_⟩
  ·rw[ew] at h
   split at h
   ·rename_i hb
    have e1:=aW hf hb
    obtain ⟨⟨t,k3⟩,h3,h4⟩:=aA.1 h
    injection h4 with h4
    injection h4 with h4 h5
    subst h4 h5
    have:=i1 h3
    rw[Bz]
    show _≤k3.1
    show br t+1+k.1≤k3.1
    omega
   ·split at h
    ·rename_i hb
     have e1:=aW hf hb
     obtain ⟨⟨t,k3⟩,h3,h4⟩:=aA.1 h;(try dsimp only at h4)
     obtain ⟨⟨u,k4⟩,h6,h7⟩:=aA.1 h4;(try dsimp only at h7)
     injection h7 with h7
     injection h7 with h7 h5
     subst h7 h5
     have:=i4 h3
     have:=(dI hf h6).2
     omega
    ·have:=zF h
     have:=tP hf h
     omega
  ·rw[fI] at h
   obtain ⟨⟨t,k3⟩,h3,h4⟩:=aA.1 h;(try dsimp only at h4)
   have:=i1 h3
   have:=i3 h4
   omega
  ·rw[cT] at h
   split at h
   ·rename_i hb
    have e1:=aW hf hb
    obtain ⟨⟨t,k3⟩,h3,h4⟩:=aA.1 h;(try dsimp only at h4)
    have:=i1 h3
    have h5:=i3 h4
    rw[vz] at h5
    have:=ik e
    omega
   ·injection h with h
    injection h with h1 h2
    subst h1 h2
    exact Nat.le_refl _
  ·rw[fy] at h
   obtain ⟨⟨t,k3⟩,h3,h4⟩:=aA.1 h;(try dsimp only at h4)
   have:=i2 h3
   have:=i5 h4
   omega
  ·rw[cU] at h
   split at h
   ·rename_i hb
    have e1:=aW hf hb
    obtain ⟨⟨t,k3⟩,h3,h4⟩:=aA.1 h;(try dsimp only at h4)
    have:=i2 h3
    have h5:=i5 h4
    rw[vz] at h5
    have:=ik e
    omega
   ·injection h with h
    injection h with h1 h2
    subst h1 h2
    exact Nat.le_refl _
theorem pF (hf:Fine l) (v:Bool):MX Tryz.prog 66 [(0,psO k c d)] [.c (.ptr 0 0),.c (sB v)] (cI v k) (fun e=>.agg (exC e)) (fun k'=>[(0,psO k' c d)]) pvS:=by
 have hl:=hf.le
 have hk:=k.2
 have i3:=(Dt hf v (fuel l)).2.2 k c d (by unfold fuel;omega)
 have hlv:∀ {x:Ex} {k':Ix l},fy v (fuel l) k= .ok (x,k')→br x≤4294967296:=fun {x k'} h=>by
  have:=(ra hf v (fuel l)).2.2.2.1 h
  have:=k'.2
  omega
 refine MXA (fn:=Tryz.f66) Tryz.call66 Tryz.func66 rfl Tryz.ntmps66 Tryz.results66 rfl rfl ?_
 repeat'((fail_if_success (with_reducible refine bA 3 ?_));(first|(with_reducible first|apply AW.seq|apply aa|apply aF|apply y_e|refine ae ?_)|((with_reducible apply ai);first|refine t_v AS.v ?_|refine t_v (by exact az (hP:=bQ)) ?_|refine t_w AS.w ?_|refine bm (hP:=i3) (k1:=fun x k h=>?_) (k2:=fun e h σx=>?_))|((with_reducible apply ay);refine t_s AS.s ?_)|((with_reducible refine aD ?_);(with_reducible refine aS ?_))|fail))
 ·have hx:=wg x (hlv h)
  repeat'(first|(with_reducible first|apply AW.seq|apply AW.skip|apply AW.ret|apply aa|apply aF|apply y_e|refine ae ?_)|((with_reducible apply ai);first|refine t_v AS.v ?_|refine t_v (by exact aj (hP:=hx)) ?_|refine t_q (hP:=dD _ _) (k:=fun σx=>?_))|((with_reducible apply ay);refine t_s AS.s ?_)|((with_reducible refine aq ?_);((refine ah (fun hc=>?_) (fun hc=>?_))))|((with_reducible refine aD ?_);first|(with_reducible refine aS ?_)|refine b8 (k:=?_))|fail)
  ·rw[cI,h]
   simp only[ag]
   rw[if_pos (by have:=of_decide_eq_true hc;omega)]
  ·exact⟨_,_,by rw[cI,h];simp only[ag];rw[if_neg (by have:=of_decide_eq_false hc;omega)],aU _,ar rfl⟩
 ·(first|(simp_all[cI,ag,au,adv,Lv.zero,Sp.zero,Rg.zero,Ct.zero];done)|fail "end")
theorem CH (hf:Fine l):MX Tryz.prog 255 [(0,psO k c d)] [.c (.ptr 0 0)] (gQ k) (fun s=>.c (sS s)) (fun k'=>[(0,psO k' c d)]) pvS:=by
 have hl:=hf.le
 have a:=(se (k:=k) (c:=c) (d:=d) hf).ok _ _ rfl
 refine MXA (fn:=Tryz.f255) Tryz.call255 Tryz.func255 rfl Tryz.ntmps255 Tryz.results255 rfl rfl ?_
 repeat'(first|(with_reducible first|apply AW.seq|apply AW.block|apply AW.skip|apply AW.ret|apply aa|apply aF|apply aw|apply bI|apply y_e|refine ae ?_)|((with_reducible apply ai);first|refine t_v AS.v ?_|refine t_v (by exact az (hP:=bQ)) ?_|refine t_w AS.w ?_|refine t_w (by exact av (hP:=a)) ?_|refine t_q (hP:=dD _ _) (k:=fun σx=>?_))|((with_reducible apply ay);refine t_s AS.s ?_)|((with_reducible refine aq ?_);((refine ah (fun hc=>?_) (fun hc=>?_))))|((with_reducible refine aD ?_);first|(with_reducible refine aS ?_)|refine l_1 (k:=?_))|fail)
 all_goals(first|(refine⟨_,_,?_,(by rfl),(by exact ar rfl)⟩;simp_all[gQ,ag,au,adv,Lv.zero,Sp.zero,Rg.zero,Ct.zero];done)|(simp_all[gQ,ag,au,adv,Lv.zero,Sp.zero,Rg.zero,Ct.zero];done)|fail "end")
def rC:Except Fa (Ex×Nat)→V
 | .ok (e,n)=>.tup [.agg (exC e),.c (sI n),.agg (faC Fa.zero)]
 | .error f=>.tup [.agg (exC Ex.zero),.c (sI 0),.agg (faC f)]
theorem qi (hf:Fine l) {cnd:List Tok→Except Fa (Ex×Nat)} (hT:Pure Tryz.prog 78 [.c (.lst none 4 ((l.drop k.1).map tkC))] (rC (cnd (l.drop k.1)))) (hok:∀ e n,cnd (l.drop k.1)= .ok (e,n)→k.1+n<l.length) (hno:∀ f,cnd (l.drop k.1)= .error f→f.code≠0):MX Tryz.prog 247 [(0,psO k c d)] [.c (.ptr 0 0)] (ig cnd k) (fun e=>.agg (exC e)) (fun k'=>[(0,psO k' c d)]) pvS:=by
 have hl:=hf.le
 have hk:=k.2
 cases ht:cnd (l.drop k.1) with
 |ok p=>
  obtain ⟨e,n⟩:=p
  have hlt:=hok e n ht
  rw[ht] at hT
  have hT:Pure _ _ _ (.tup [.agg (exC e),.c (sI n),.agg (faC Fa.zero)]):=hT
  have e1:ig cnd k= .ok (e,⟨k.1+n,hlt⟩):=by rw[ig,ht];simp only[ag,uQ];rw[dif_pos hlt]
  rw[e1]
  refine MXA (fn:=Tryz.f247) Tryz.call247 Tryz.func247 rfl Tryz.ntmps247 Tryz.results247 rfl rfl ?_
  repeat'(first|(with_reducible first|apply AW.seq|apply AW.skip|apply AW.ret|apply aa|apply aF|apply y_e|refine ae ?_|refine b7 ?_)|((with_reducible apply ai);first|refine t_v AS.v ?_|refine t_v (by exact aj (hP:=hT)) ?_|refine t_w AS.w ?_)|((with_reducible apply ay);first|refine t_s AS.s ?_|refine t_p (k:=fun σx=>?_))|((with_reducible refine aq ?_);first|refine aJ ?_|(refine ah (fun hc=>?_) (fun hc=>?_);all_goals(try(exfalso;simp[*] at hc;done))))|((with_reducible refine aD ?_);first|(with_reducible refine aS ?_)|refine b8 (k:=?_))|(refine⟨by decide +kernel,?_⟩)|fail)
  exact⟨_,_,rfl,aU _,ar rfl⟩
 |error f=>
  have hc0:=hno f ht
  rw[ht] at hT
  have hT:Pure _ _ _ (.tup [.agg (exC Ex.zero),.c (sI 0),.agg (faC f)]):=hT
  have e1:ig cnd k= .error f:=by rw[ig,ht];rfl
  rw[e1]
  refine MXA (fn:=Tryz.f247) Tryz.call247 Tryz.func247 rfl Tryz.ntmps247 Tryz.results247 rfl rfl ?_
  repeat'(first|(with_reducible first|apply AW.seq|apply AW.skip|apply AW.ret|apply aa|apply aF|apply y_e|refine ae ?_|refine b7 ?_)|((with_reducible apply ai);first|refine t_v AS.v ?_|refine t_v (by exact aj (hP:=hT)) ?_|refine t_w AS.w ?_)|((with_reducible apply ay);first|refine t_s AS.s ?_|refine t_p (k:=fun σx=>?_))|((with_reducible refine aq ?_);first|refine aJ ?_|(refine ah (fun hc=>?_) (fun hc=>?_);all_goals(try(exfalso;simp[*] at hc;done))))|((with_reducible refine aD ?_);first|(with_reducible refine aS ?_)|refine b8 (k:=?_))|(refine⟨by decide +kernel,?_⟩)|fail)
  rfl
end
end Am
namespace Am
open Tk Go.RowKit
set_option maxRecDepth 100000
set_option maxHeartbeats 1000000
theorem oR {b:UInt8} (h:dgB b=true):48≤b.toNat∧b.toNat≤57:=by
 unfold dgB eP bi at h
 have:=of_decide_eq_true h
 omega
theorem FC {l:List UInt8}:∀ {n:Nat},l.all dgB=true→Lib.decFrom n l=some (l.foldl (fun n c=>10*n+(c.toNat - 48)) n):=by
 induction l with
 |nil=>intro n _;rfl
 |cons b l ih=>
  intro n h
  rw[List.all_cons,Bool.and_eq_true] at h
  have hb:48≤b.toNat∧b.toNat≤57:=by
   exact oR h.1
  rw[Lib.decFrom,Lib.digitVal,if_pos hb]
  show Lib.decFrom _ l=_
  rw[ih h.2,List.foldl_cons,Nat.mul_comm]
theorem decLe {l:List UInt8}:∀ {n:Nat},l.all dgB=true→l.foldl (fun n c=>10*n+(c.toNat - 48)) n<(n+1)*10 ^ l.length:=by
 induction l with
 |nil=>intro n _;simp
 |cons b l ih=>
  intro n h
  rw[List.all_cons,Bool.and_eq_true] at h
  have hb:48≤b.toNat∧b.toNat≤57:=by
   exact oR h.1
  have:=ih (n:=10*n+(b.toNat - 48)) h.2
  rw[List.foldl_cons,List.length_cons,Nat.pow_succ]
  refine Nat.lt_of_lt_of_le this ?_
  have e:(n+1)*(10 ^ l.length*10)=((n+1)*10)*10 ^ l.length:=by rw[Nat.mul_comm (10 ^ l.length) 10,Nat.mul_assoc]
  rw[e]
  exact Nat.mul_le_mul_right _ (by omega)
theorem CE {s:ByteArray} (h0:0<s.data.toList.length) (h9:s.data.toList.length≤9) (hd:s.data.toList.all dgB=true):Pure Tryz.prog 106 [.c (sS s)] (.tup [.c (sI (ja s)),.c (.sc .nilIface)]):=by
 refine⟨Tryz.call106,fun w S us _ hS hu=>?_⟩
 have he:us= #[.string s]:=by
  apply Array.ext'
  match hl:us.toList,hu with
  |[x],hu=>
   have h1:x= .string s:=Cq.uniq .sc (hu.2 0 _ x rfl rfl)
   rw[h1]
  |[],hu=>exact absurd hu.1 (by simp)
  |_ :: _ :: _,hu=>exact absurd hu.1 (by simp)
 subst he
 have ha:Lib.atoi s.data.toList=some ((ja s:Nat):Int):=by
  unfold ja
  revert h0 hd
  cases s.data.toList with
  |nil=>intro h0;simp at h0
  |cons b r=>
   intro _ hd
   have hb:48≤b.toNat∧b.toNat≤57:=by
    rw[List.all_cons,Bool.and_eq_true] at hd
    exact oR hd.1
   have n1:(b == 45)=false:=by
    cases h:(b == 45) with
    |false=>rfl
    |true=>have:=eq_of_beq h;subst this;exact absurd hb.1 (by decide)
   have n2:(b == 43)=false:=by
    cases h:(b == 43) with
    |false=>rfl
    |true=>have:=eq_of_beq h;subst this;exact absurd hb.1 (by decide)
   rw[Lib.atoi,n1,n2]
   simp only[Bool.false_eq_true,if_false]
   rw[Lib.decNat]
   simp only[List.isEmpty_cons,Bool.false_eq_true,if_false]
   rw[FC hd];rfl
 refine(Tryz.strconv_Atoi s _ (by rw[bc];omega) ha w).mono ?_
 rintro e w' ⟨rfl,t,rfl⟩
 have hb:=Lib.bytesWorld_below w 5 t
 refine⟨_,rfl,Keep.of_below hb,.tup rfl fun j x v hx hv=>?_⟩
 match j,hx,hv with
 |0,hx,hv=>injection hx with hx;injection hv with hv;subst hx hv;exact .c (.sc rfl)
 |1,hx,hv=>injection hx with hx;injection hv with hv;subst hx hv;exact .c (.sc rfl)
theorem Bv {s:ByteArray} (h9:s.data.toList.length≤9) (hd:s.data.toList.all dgB=true):ja s<10000000000:=by
 have h1:=decLe (n:=0) hd
 unfold ja
 refine Nat.lt_of_lt_of_le h1 ?_
 have:10 ^ s.data.toList.length≤10 ^ 9:=Nat.pow_le_pow_right (by decide) h9
 omega
section
variable {l:List Tok} {k k':Ix l} {c d:Int}
theorem xY (hf:Fine l):MX Tryz.prog 50 [(0,psO k c d)] [.c (.ptr 0 0)] (gG k) (fun m=>.agg (moC m)) (fun k'=>[(0,psO k' c d)]) pvS:=by
 have hl:=hf.le
 refine MXA (fn:=Tryz.f50) Tryz.call50 Tryz.func50 rfl Tryz.ntmps50 Tryz.results50 rfl rfl ?_
 repeat'((fail_if_success (with_reducible refine bA 6 ?_));(first|(with_reducible first|apply AW.seq|apply AW.skip|apply aa|apply aF|apply y_e|refine ae ?_)|((with_reducible apply ai);first|refine t_v AS.v ?_|refine t_v (by exact az (hP:=bQ)) ?_|refine t_w AS.w ?_|refine bm (hP:=mK hf _) (k1:=fun x k h=>?_) (k2:=fun e h σx=>?_)|refine bm (hP:=dq hf) (k1:=fun x k h=>?_) (k2:=fun e h σx=>?_)|refine t_q (hP:=dD _ _) (k:=fun σx=>?_))|((with_reducible apply ay);refine t_s AS.s ?_)|((with_reducible refine aq ?_);((refine ah (fun hc=>?_) (fun hc=>?_))))|((with_reducible refine aD ?_);(with_reducible refine aS ?_))|fail))
 ·(first|(simp_all[gG,ag,au,adv,Lv.zero,Sp.zero,Rg.zero,Ct.zero];done)|fail "end")
 ·rename_i k0 _ k1 h1
  have hk2:(tk k).kind=2:=by simpa using hc
  obtain ⟨n1,n2,n3⟩:=hf.nm k hk2
  have ap:=CE n1 n2 n3
  have dl:=Bv n2 n3
  have lps:=cg (c:=c) (d:=d) hf (k:=k) (by rw[hk2];decide)
  have en:((k.1:Nat):Int)+1=(((nx k).1:Nat):Int):=by rw[eG hf (by rw[hk2];decide)];rfl
  have hk:=k.2
  repeat'((fail_if_success (with_reducible refine bA 10 ?_));(first|(with_reducible first|apply AW.seq|apply AW.skip|apply aa|apply aF|apply y_e|refine ae ?_)|((with_reducible apply ai);first|refine t_v AS.v ?_|refine t_v (by exact aj (hP:=ap)) ?_|refine t_q (hP:=dD _ _) (k:=fun σx=>?_))|((with_reducible apply aK);refine t_m (hs:=fun hg=>AS.v) (k:=?_))|((with_reducible apply ay);refine t_s AS.s ?_)|((with_reducible refine aq ?_);((refine ah (fun hc=>?_) (fun hc=>?_))))|((with_reducible refine aD ?_);(with_reducible refine aS ?_))|fail))
  ·have hb:9999<ja (tk k).text:=by simp at hc;omega
   rw[gG,h1]
   simp only[ag]
   rw[h]
   simp only[ag]
   rw[if_pos hk2,if_pos hb]
  ·have hb:¬ 9999<ja (tk k).text:=by simp at hc;omega
   simp only[en]
   have e:gG k0=aT ⟨#[59]⟩ (nx k)>>=fun y=>.ok (⟨x,(ja (tk k).text:Int),[]⟩,y.2):=by
    rw[gG,h1]
    simp only[ag]
    rw[h]
    simp only[ag]
    rw[if_pos hk2,if_neg hb]
   rw[e]
   repeat'(first|(with_reducible first|apply AW.seq|apply AW.ret|apply aa|apply aF|apply y_e|refine ae ?_)|((with_reducible apply ai);first|refine t_v AS.v ?_|refine bm (hP:=iC hf _) (k1:=fun x k h=>?_) (k2:=fun e h σx=>?_))|((with_reducible apply ay);refine t_s AS.s ?_)|((with_reducible refine aD ?_);first|(with_reducible refine aS ?_)|refine b8 (k:=?_))|fail)
   all_goals(first|(refine⟨_,_,?_,(by rfl),(by exact ar rfl)⟩;simp_all[Mo.zero,ag,au,adv,Lv.zero,Sp.zero,Rg.zero,Ct.zero];done)|(simp_all[Mo.zero,ag,au,adv,Lv.zero,Sp.zero,Rg.zero,Ct.zero];done)|fail "end")
 ·(first|(simp_all[gG,ag,au,adv,Lv.zero,Sp.zero,Rg.zero,Ct.zero];done)|fail "end")
 ·(first|(simp_all[gG,ag,au,adv,Lv.zero,Sp.zero,Rg.zero,Ct.zero];done)|fail "end")
end
end Am
end Go.Proofs.YtkpodagbefnebaaGreatDoor
