import Derived.Test.YtkpodagbefnebaaGreatDoorYg13
import Derived.Lib.AtoiErrMem
set_option linter.unusedSimpArgs false
set_option linter.unusedVariables false
set_option linter.unusedSectionVars false
namespace Go.Proofs.YtkpodagbefnebaaGreatDoor
namespace Am
open Tk Go.RowKit
set_option maxRecDepth 100000
set_option maxHeartbeats 1000000
theorem Gz {e x:Ex} (h:x∈e.kids):SizeOf.sizeOf x<SizeOf.sizeOf e:=by
 obtain ⟨op,a,rel,b,names,set,kids⟩:=e
 have:=List.sizeOf_lt_of_mem h
 simp only[Ex.mk.sizeOf_spec]
 simp only at this
 omega
theorem mh {x:Ex}:∀ {l:List Ex},x∈l→cz x≤cS l
 |[],h=>by cases h
 |y :: l,h=>by
  rw[cS]
  rcases List.mem_cons.1 h with rfl|h
  ·omega
  ·have:=mh h;omega
theorem tK:∀ (n:Nat) (e:Ex),SizeOf.sizeOf e<n→cz e≤4294967296→Pure Tryz.prog 133 [.agg (exC e)] (.c (sI (cz e)))
 |0,_,h,_=>absurd h (Nat.not_lt_zero _)
 |n+1,e,h,hb=>by
  have ih:∀ x∈e.kids,Pure Tryz.prog 133 [.agg (exC x)] (.c (sI (cz x))):=fun x hx=>
   tK n x (by have:=Gz hx;omega) (by have:=mh hx;have:=jc e;omega)
  have he:=jc e
  refine fn1 (fn:=Tryz.f133) Tryz.call133 Tryz.func133 rfl Tryz.ntmps133 Tryz.results133 rfl (by rfl) ?_
  repeat'(first|(with_reducible first|apply AW.seq|apply AW.block|apply AW.ret|apply AW.exit|apply ae|apply aG|apply aT|apply y_e|refine ag ?_)|((with_reducible apply ak);first|refine t_v AS.v ?_|refine t_w AS.w ?_)|((with_reducible refine av ?_);((refine aj (fun hc=>?_) (fun hc=>?_);all_goals(try(exfalso;simp[*] at hc;done)))))|((with_reducible refine aF ?_);refine k_i ?_)|fail)
  simp only[List.length_map]
  refine AW.fact (t:=7) rfl (fun κ w x hr=>gB hr) fun hn=>?_
  refine AW.loop (fun m σ=>∃ j,m=e.kids.length - j∧j≤e.kids.length∧σ=mk [(3,.c (sI (cS (e.kids.take j)))),(7,.c (.lst none 10 (e.kids.map exC))),(8,.c (sI e.kids.length)),(9,.c (sI j))] []) e.kids.length ?_ ?_
  ·exact⟨_,wkA,0,rfl,Nat.zero_le _,rfl⟩
  rintro m σ ⟨j,rfl,hj,rfl⟩
  by_cases hlt:j<e.kids.length
  ·obtain ⟨x,hx⟩:∃ x,e.kids[j]? =some x:=⟨_,List.getElem?_eq_getElem hlt⟩
   have ihx:=ih x (List.mem_of_getElem? hx)
   have et:cS (e.kids.take (j+1))=max (cS (e.kids.take j)) (cz x):=by
    rw[List.take_add_one,hx];exact mg _ _
   have ei:(max ((cS (e.kids.take j):Nat):Int) (cz x:Nat))=((cS (e.kids.take (j+1)):Nat):Int):=by rw[et];omega
   repeat'(first|(with_reducible first|apply AW.seq|apply AW.block|apply AW.skip|apply ae|apply ay|apply y_e|refine ag ?_)|((with_reducible apply ak);first|refine t_v AS.v ?_|refine t_v (by exact ah (hP:=ihx)) ?_|refine t_w AS.w ?_)|((with_reducible apply aX);refine t_s AS.s ?_)|((with_reducible refine av ?_);((refine aj (fun hc=>?_) (fun hc=>?_);all_goals(try(exfalso;simp[*] at hc;done)))))|fail)
   exact⟨_,_,(show e.kids.length - (j+1)<e.kids.length - j by omega),by rw[ei];exact wkA,j+1,rfl,hlt,rfl⟩
  ·have e1:e.kids.take j=e.kids:=List.take_of_length_le (by omega)
   rw[e1]
   repeat'(first|(with_reducible first|apply AW.seq|apply AW.block|apply AW.ret|apply AW.exit|apply ae|apply aG|apply aT|apply y_e|refine ag ?_)|((with_reducible apply ak);first|refine t_v AS.v ?_|refine t_w AS.w ?_)|((with_reducible refine av ?_);((refine aj (fun hc=>?_) (fun hc=>?_);all_goals(try(exfalso;simp[*] at hc;done)))))|((with_reducible refine aF ?_);refine k_i ?_)|fail)
   rw[he]
   omega
theorem Bb (e:Ex) (hb:cz e≤4294967296):Pure Tryz.prog 133 [.agg (exC e)] (.c (sI (cz e))):=tK _ e (Nat.lt_succ_self _) hb
theorem HM {a r b op:Int} {ns:List ByteArray} {st:Se}:cz ⟨op,a,r,b,ns,st,[]⟩=1:=by rw[cz,cS]
theorem JQ {op:Int} (x:Ex):cz {Ex.zero with op:=op,kids:=[x]}=cz x+1:=by rw[jc];simp only[cS];omega
theorem HP {op:Int} (x y:Ex):cz {Ex.zero with op:=op,kids:=[x,y]}=max (cz x) (cz y)+1:=by rw[jc];simp only[cS];omega
section
variable {l:List Tok} {k k':Ix l} {c d:Int}
theorem DZ {v:Bool} {x:Ex} (h:kk v k= .ok (x,k')):cz x=1:=by
 unfold kk at h
 obtain ⟨⟨a,k1⟩,h1,h2⟩:=az.1 h;(try dsimp only at h2)
 split at h2
 ·split at h2
  ·obtain ⟨⟨t,k3⟩,h3,h4⟩:=az.1 h2;(try dsimp only at h4)
   injection h4 with h4;injection h4 with h4 h5;subst h4;exact HM
  ·obtain ⟨⟨t,k3⟩,h3,h4⟩:=az.1 h2;(try dsimp only at h4)
   injection h4 with h4;injection h4 with h4 h5;subst h4;exact HM
 ·obtain ⟨⟨r,k2⟩,h3,h4⟩:=az.1 h2;(try dsimp only at h4)
  obtain ⟨⟨b,k3⟩,h5,h6⟩:=az.1 h4;(try dsimp only at h6)
  injection h6 with h6;injection h6 with h6 h7;subst h6;exact HM
theorem tf (hf:Fine l) (v:Bool):∀ n:Nat,(∀ {x:Ex} {k k':Ix l},dD v n k= .ok (x,k')→cz x+k.1≤k'.1)∧(∀ {x:Ex} {k k':Ix l},fe v n k= .ok (x,k')→cz x+k.1≤k'.1)∧(∀ {e x:Ex} {k k':Ix l},cF v n e k= .ok (x,k')→cz x+k.1≤cz e+k'.1)∧(∀ {x:Ex} {k k':Ix l},ff v n k= .ok (x,k')→cz x+k.1≤k'.1)∧(∀ {e x:Ex} {k k':Ix l},cG v n e k= .ok (x,k')→cz x+k.1≤cz e+k'.1)
 |0=>⟨fun h=>(by cases h),fun h=>(by cases h),fun h=>(by cases h),fun h=>(by cases h),fun h=>(by cases h)⟩
 |n+1=>by
  obtain ⟨i1,i2,i3,i4,i5⟩:=tf hf v n
  refine⟨fun {x k k'} h=>?_,fun {x k k'} h=>?_,fun {e x k k'} h=>?_,fun {x k k'} h=>?_,fun {e x k k'} h=>?_⟩
  ·rw[dD] at h
   split at h
   ·rename_i hb
    have e1:=bD hf hb
    obtain ⟨⟨t,k3⟩,h3,h4⟩:=az.1 h
    injection h4 with h4
    injection h4 with h4 h5
    subst h4 h5
    have:=i1 h3
    rw[JQ]
    show _≤k3.1
    show cz t+1+k.1≤k3.1
    omega
   ·split at h
    ·rename_i hb
     have e1:=bD hf hb
     obtain ⟨⟨t,k3⟩,h3,h4⟩:=az.1 h;(try dsimp only at h4)
     obtain ⟨⟨u,k4⟩,h6,h7⟩:=az.1 h4;(try dsimp only at h7)
     injection h7 with h7
     injection h7 with h7 h5
     subst h7 h5
     have:=i4 h3
     have:=(eP hf h6).2
     omega
    ·have:=DZ h
     have:=xp hf h
     omega
  ·rw[fe] at h
   obtain ⟨⟨t,k3⟩,h3,h4⟩:=az.1 h;(try dsimp only at h4)
   have:=i1 h3
   have:=i3 h4
   omega
  ·rw[cF] at h
   split at h
   ·rename_i hb
    have e1:=bD hf hb
    obtain ⟨⟨t,k3⟩,h3,h4⟩:=az.1 h;(try dsimp only at h4)
    have:=i1 h3
    have h5:=i3 h4
    rw[HP] at h5
    have:=tI e
    omega
   ·injection h with h
    injection h with h1 h2
    subst h1 h2
    exact Nat.le_refl _
  ·rw[ff] at h
   obtain ⟨⟨t,k3⟩,h3,h4⟩:=az.1 h;(try dsimp only at h4)
   have:=i2 h3
   have:=i5 h4
   omega
  ·rw[cG] at h
   split at h
   ·rename_i hb
    have e1:=bD hf hb
    obtain ⟨⟨t,k3⟩,h3,h4⟩:=az.1 h;(try dsimp only at h4)
    have:=i2 h3
    have h5:=i5 h4
    rw[HP] at h5
    have:=tI e
    omega
   ·injection h with h
    injection h with h1 h2
    subst h1 h2
    exact Nat.le_refl _
theorem r4 (hf:Fine l) (v:Bool):MX Tryz.prog 66 [(0,psO k c d)] [.c (.ptr 0 0),.c (sB v)] (dG v k) (fun e=>.agg (exC e)) (fun k'=>[(0,psO k' c d)]) pvS:=by
 have hl:=hf.le
 have hk:=k.2
 have i3:=(Ht hf v (fuel l)).2.2 k c d (by unfold fuel;omega)
 have hlv:∀ {x:Ex} {k':Ix l},ff v (fuel l) k= .ok (x,k')→cz x≤4294967296:=fun {x k'} h=>by
  have:=(tf hf v (fuel l)).2.2.2.1 h
  have:=k'.2
  omega
 refine MXA (fn:=Tryz.f66) Tryz.call66 Tryz.func66 rfl Tryz.ntmps66 Tryz.results66 rfl rfl ?_
 repeat'((fail_if_success (with_reducible refine ch 3 ?_));(first|(with_reducible first|apply AW.seq|apply ae|apply aD|apply y_e|refine ag ?_)|((with_reducible apply ak);first|refine t_v AS.v ?_|refine t_v (by exact bm (hP:=cr)) ?_|refine t_w AS.w ?_|refine bB (hP:=i3) (k1:=fun x k h=>?_) (k2:=fun e h σx=>?_))|((with_reducible apply aX);refine t_s AS.s ?_)|((with_reducible refine bj ?_);(with_reducible refine aW ?_))|fail))
 ·have hx:=Bb x (hlv h)
  repeat'(first|(with_reducible first|apply AW.seq|apply AW.skip|apply AW.ret|apply ae|apply aD|apply y_e|refine ag ?_)|((with_reducible apply ak);first|refine t_v AS.v ?_|refine t_v (by exact ah (hP:=hx)) ?_|refine t_q (hP:=eC _ _) (k:=fun σx=>?_))|((with_reducible apply aX);refine t_s AS.s ?_)|((with_reducible refine av ?_);((refine aj (fun hc=>?_) (fun hc=>?_))))|((with_reducible refine bj ?_);first|(with_reducible refine aW ?_)|refine fG (k:=?_))|fail)
  ·rw[dG,h]
   simp only[aa]
   rw[if_pos (by have:=of_decide_eq_true hc;omega)]
  ·exact⟨_,_,by rw[dG,h];simp only[aa];rw[if_neg (by have:=of_decide_eq_false hc;omega)],cd _,aC rfl⟩
 ·(first|(simp_all[dG,aa,aq,adv,Lv.zero,Sp.zero,Rg.zero,Ct.zero];done)|fail "end")
theorem IH (hf:Fine l):MX Tryz.prog 255 [(0,psO k c d)] [.c (.ptr 0 0)] (iI k) (fun s=>.c (sS s)) (fun k'=>[(0,psO k' c d)]) pvS:=by
 have hl:=hf.le
 have a:=(wF (k:=k) (c:=c) (d:=d) hf).ok _ _ rfl
 refine MXA (fn:=Tryz.f255) Tryz.call255 Tryz.func255 rfl Tryz.ntmps255 Tryz.results255 rfl rfl ?_
 repeat'(first|(with_reducible first|apply AW.seq|apply AW.block|apply AW.skip|apply AW.ret|apply ae|apply aD|apply ay|apply ca|apply y_e|refine ag ?_)|((with_reducible apply ak);first|refine t_v AS.v ?_|refine t_v (by exact bm (hP:=cr)) ?_|refine t_w AS.w ?_|refine t_w (by exact cf (hP:=a)) ?_|refine t_q (hP:=eC _ _) (k:=fun σx=>?_))|((with_reducible apply aX);refine t_s AS.s ?_)|((with_reducible refine av ?_);((refine aj (fun hc=>?_) (fun hc=>?_))))|((with_reducible refine bj ?_);first|(with_reducible refine aW ?_)|refine l_1 (k:=?_))|fail)
 all_goals(first|(refine⟨_,_,?_,(by rfl),(by exact aC rfl)⟩;simp_all[iI,aa,aq,adv,Lv.zero,Sp.zero,Rg.zero,Ct.zero];done)|(simp_all[iI,aa,aq,adv,Lv.zero,Sp.zero,Rg.zero,Ct.zero];done)|fail "end")
def wI:Except Fa (Ex×Nat)→V
 | .ok (e,n)=>.tup [.agg (exC e),.c (sI n),.agg (faC Fa.zero)]
 | .error f=>.tup [.agg (exC Ex.zero),.c (sI 0),.agg (faC f)]
theorem ti (hf:Fine l) {cnd:List Tok→Except Fa (Ex×Nat)} (hT:Pure Tryz.prog 78 [.c (.lst none 4 ((l.drop k.1).map tkC))] (wI (cnd (l.drop k.1)))) (hok:∀ e n,cnd (l.drop k.1)= .ok (e,n)→k.1+n<l.length) (hno:∀ f,cnd (l.drop k.1)= .error f→f.code≠0):MX Tryz.prog 247 [(0,psO k c d)] [.c (.ptr 0 0)] (fQ cnd k) (fun e=>.agg (exC e)) (fun k'=>[(0,psO k' c d)]) pvS:=by
 have hl:=hf.le
 have hk:=k.2
 cases ht:cnd (l.drop k.1) with
 |ok p=>
  obtain ⟨e,n⟩:=p
  have hlt:=hok e n ht
  rw[ht] at hT
  have hT:Pure _ _ _ (.tup [.agg (exC e),.c (sI n),.agg (faC Fa.zero)]):=hT
  have e1:fQ cnd k= .ok (e,⟨k.1+n,hlt⟩):=by rw[fQ,ht];simp only[aa,tF];rw[dif_pos hlt]
  rw[e1]
  refine MXA (fn:=Tryz.f247) Tryz.call247 Tryz.func247 rfl Tryz.ntmps247 Tryz.results247 rfl rfl ?_
  repeat'(first|(with_reducible first|apply AW.seq|apply AW.skip|apply AW.ret|apply ae|apply aD|apply y_e|refine ag ?_|refine bh ?_)|((with_reducible apply ak);first|refine t_v AS.v ?_|refine t_v (by exact ah (hP:=hT)) ?_|refine t_w AS.w ?_)|((with_reducible apply aX);first|refine t_s AS.s ?_|refine t_p (k:=fun σx=>?_))|((with_reducible refine av ?_);first|refine cg ?_|(refine aj (fun hc=>?_) (fun hc=>?_);all_goals(try(exfalso;simp[*] at hc;done))))|((with_reducible refine bj ?_);first|(with_reducible refine aW ?_)|refine fG (k:=?_))|(refine⟨by decide +kernel,?_⟩)|fail)
  exact⟨_,_,rfl,cd _,aC rfl⟩
 |error f=>
  have hc0:=hno f ht
  rw[ht] at hT
  have hT:Pure _ _ _ (.tup [.agg (exC Ex.zero),.c (sI 0),.agg (faC f)]):=hT
  have e1:fQ cnd k= .error f:=by rw[fQ,ht];rfl
  rw[e1]
  refine MXA (fn:=Tryz.f247) Tryz.call247 Tryz.func247 rfl Tryz.ntmps247 Tryz.results247 rfl rfl ?_
  repeat'(first|(with_reducible first|apply AW.seq|apply AW.skip|apply AW.ret|apply ae|apply aD|apply y_e|refine ag ?_|refine bh ?_)|((with_reducible apply ak);first|refine t_v AS.v ?_|refine t_v (by exact ah (hP:=hT)) ?_|refine t_w AS.w ?_)|((with_reducible apply aX);first|refine t_s AS.s ?_|refine t_p (k:=fun σx=>?_))|((with_reducible refine av ?_);first|refine cg ?_|(refine aj (fun hc=>?_) (fun hc=>?_);all_goals(try(exfalso;simp[*] at hc;done))))|((with_reducible refine bj ?_);first|(with_reducible refine aW ?_)|refine fG (k:=?_))|(refine⟨by decide +kernel,?_⟩)|fail)
  rfl
end
end Am
namespace Am
open Tk Go.RowKit
set_option maxRecDepth 100000
set_option maxHeartbeats 1000000
theorem r6 {b:UInt8} (h:dgB b=true):48≤b.toNat∧b.toNat≤57:=by
 unfold dgB fC bi at h
 have:=of_decide_eq_true h
 omega
theorem L8 {l:List UInt8}:∀ {n:Nat},l.all dgB=true→Lib.decFrom n l=some (l.foldl (fun n c=>10*n+(c.toNat - 48)) n):=by
 induction l with
 |nil=>intro n _;rfl
 |cons b l ih=>
  intro n h
  rw[List.all_cons,Bool.and_eq_true] at h
  have hb:48≤b.toNat∧b.toNat≤57:=by
   exact r6 h.1
  rw[Lib.decFrom,Lib.digitVal,if_pos hb]
  show Lib.decFrom _ l=_
  rw[ih h.2,List.foldl_cons,Nat.mul_comm]
theorem decLe {l:List UInt8}:∀ {n:Nat},l.all dgB=true→l.foldl (fun n c=>10*n+(c.toNat - 48)) n<(n+1)*10 ^ l.length:=by
 induction l with
 |nil=>intro n _;simp
 |cons b l ih=>
  intro n h
  rw[List.all_cons,Bool.and_eq_true] at h
  have hb:48≤b.toNat∧b.toNat≤57:=by
   exact r6 h.1
  have:=ih (n:=10*n+(b.toNat - 48)) h.2
  rw[List.foldl_cons,List.length_cons,Nat.pow_succ]
  refine Nat.lt_of_lt_of_le this ?_
  have e:(n+1)*(10 ^ l.length*10)=((n+1)*10)*10 ^ l.length:=by rw[Nat.mul_comm (10 ^ l.length) 10,Nat.mul_assoc]
  rw[e]
  exact Nat.mul_le_mul_right _ (by omega)
theorem Hi {s:ByteArray} (h0:0<s.data.toList.length) (h9:s.data.toList.length≤9) (hd:s.data.toList.all dgB=true):Pure Tryz.prog 106 [.c (sS s)] (.tup [.c (sI (ky s)),.c (.sc .nilIface)]):=by
 refine⟨Tryz.call106,fun w S us _ hS hu=>?_⟩
 have he:us= #[.string s]:=by
  apply Array.ext'
  match hl:us.toList,hu with
  |[x],hu=>
   have h1:x= .string s:=Cq.uniq .sc (hu.2 0 _ x rfl rfl)
   rw[h1]
  |[],hu=>exact absurd hu.1 (by simp)
  |_ :: _ :: _,hu=>exact absurd hu.1 (by simp)
 subst he
 have ha:Lib.atoi s.data.toList=some ((ky s:Nat):Int):=by
  unfold ky
  revert h0 hd
  cases s.data.toList with
  |nil=>intro h0;simp at h0
  |cons b r=>
   intro _ hd
   have hb:48≤b.toNat∧b.toNat≤57:=by
    rw[List.all_cons,Bool.and_eq_true] at hd
    exact r6 hd.1
   have n1:(b == 45)=false:=by
    cases h:(b == 45) with
    |false=>rfl
    |true=>have:=eq_of_beq h;subst this;exact absurd hb.1 (by decide)
   have n2:(b == 43)=false:=by
    cases h:(b == 43) with
    |false=>rfl
    |true=>have:=eq_of_beq h;subst this;exact absurd hb.1 (by decide)
   rw[Lib.atoi,n1,n2]
   simp only[Bool.false_eq_true,if_false]
   rw[Lib.decNat]
   simp only[List.isEmpty_cons,Bool.false_eq_true,if_false]
   rw[L8 hd];rfl
 refine(Tryz.strconv_Atoi s _ (by rw[bX];omega) ha w).mono ?_
 rintro e w' ⟨rfl,t,rfl⟩
 have hb:=Lib.bytesWorld_below w 5 t
 refine⟨_,rfl,Keep.of_below hb,.tup rfl fun j x v hx hv=>?_⟩
 match j,hx,hv with
 |0,hx,hv=>injection hx with hx;injection hv with hv;subst hx hv;exact .c (.sc rfl)
 |1,hx,hv=>injection hx with hx;injection hv with hv;subst hx hv;exact .c (.sc rfl)
theorem E6 {s:ByteArray} (h9:s.data.toList.length≤9) (hd:s.data.toList.all dgB=true):ky s<10000000000:=by
 have h1:=decLe (n:=0) hd
 unfold ky
 refine Nat.lt_of_lt_of_le h1 ?_
 have:10 ^ s.data.toList.length≤10 ^ 9:=Nat.pow_le_pow_right (by decide) h9
 omega
section
variable {l:List Tok} {k k':Ix l} {c d:Int}
theorem Bu (hf:Fine l):MX Tryz.prog 50 [(0,psO k c d)] [.c (.ptr 0 0)] (gm k) (fun m=>.agg (moC m)) (fun k'=>[(0,psO k' c d)]) pvS:=by
 have hl:=hf.le
 refine MXA (fn:=Tryz.f50) Tryz.call50 Tryz.func50 rfl Tryz.ntmps50 Tryz.results50 rfl rfl ?_
 repeat'((fail_if_success (with_reducible refine ch 6 ?_));(first|(with_reducible first|apply AW.seq|apply AW.skip|apply ae|apply aD|apply y_e|refine ag ?_)|((with_reducible apply ak);first|refine t_v AS.v ?_|refine t_v (by exact bm (hP:=cr)) ?_|refine t_w AS.w ?_|refine bB (hP:=oI hf _) (k1:=fun x k h=>?_) (k2:=fun e h σx=>?_)|refine bB (hP:=dZ hf) (k1:=fun x k h=>?_) (k2:=fun e h σx=>?_)|refine t_q (hP:=eC _ _) (k:=fun σx=>?_))|((with_reducible apply aX);refine t_s AS.s ?_)|((with_reducible refine av ?_);((refine aj (fun hc=>?_) (fun hc=>?_))))|((with_reducible refine bj ?_);(with_reducible refine aW ?_))|fail))
 ·(first|(simp_all[gm,aa,aq,adv,Lv.zero,Sp.zero,Rg.zero,Ct.zero];done)|fail "end")
 ·rename_i k0 _ k1 h1
  have hk2:(tk k).kind=2:=by simpa using hc
  obtain ⟨n1,n2,n3⟩:=hf.nm k hk2
  have ap:=Hi n1 n2 n3
  have dl:=E6 n2 n3
  have lps:=cR (c:=c) (d:=d) hf (k:=k) (by rw[hk2];decide)
  have en:((k.1:Nat):Int)+1=(((nx k).1:Nat):Int):=by rw[gX hf (by rw[hk2];decide)];rfl
  have hk:=k.2
  repeat'((fail_if_success (with_reducible refine ch 10 ?_));(first|(with_reducible first|apply AW.seq|apply AW.skip|apply ae|apply aD|apply y_e|refine ag ?_)|((with_reducible apply ak);first|refine t_v AS.v ?_|refine t_v (by exact ah (hP:=ap)) ?_|refine t_q (hP:=eC _ _) (k:=fun σx=>?_))|((with_reducible apply bt);refine t_m (hs:=fun hg=>AS.v) (k:=?_))|((with_reducible apply aX);refine t_s AS.s ?_)|((with_reducible refine av ?_);((refine aj (fun hc=>?_) (fun hc=>?_))))|((with_reducible refine bj ?_);(with_reducible refine aW ?_))|fail))
  ·have hb:9999<ky (tk k).text:=by simp at hc;omega
   rw[gm,h1]
   simp only[aa]
   rw[h]
   simp only[aa]
   rw[if_pos hk2,if_pos hb]
  ·have hb:¬ 9999<ky (tk k).text:=by simp at hc;omega
   simp only[en]
   have e:gm k0=ez ⟨#[59]⟩ (nx k)>>=fun y=>.ok (⟨x,(ky (tk k).text:Int),[]⟩,y.2):=by
    rw[gm,h1]
    simp only[aa]
    rw[h]
    simp only[aa]
    rw[if_pos hk2,if_neg hb]
   rw[e]
   repeat'(first|(with_reducible first|apply AW.seq|apply AW.ret|apply ae|apply aD|apply y_e|refine ag ?_)|((with_reducible apply ak);first|refine t_v AS.v ?_|refine bB (hP:=jd hf _) (k1:=fun x k h=>?_) (k2:=fun e h σx=>?_))|((with_reducible apply aX);refine t_s AS.s ?_)|((with_reducible refine bj ?_);first|(with_reducible refine aW ?_)|refine fG (k:=?_))|fail)
   all_goals(first|(refine⟨_,_,?_,(by rfl),(by exact aC rfl)⟩;simp_all[Mo.zero,aa,aq,adv,Lv.zero,Sp.zero,Rg.zero,Ct.zero];done)|(simp_all[Mo.zero,aa,aq,adv,Lv.zero,Sp.zero,Rg.zero,Ct.zero];done)|fail "end")
 ·(first|(simp_all[gm,aa,aq,adv,Lv.zero,Sp.zero,Rg.zero,Ct.zero];done)|fail "end")
 ·(first|(simp_all[gm,aa,aq,adv,Lv.zero,Sp.zero,Rg.zero,Ct.zero];done)|fail "end")
end
end Am
end Go.Proofs.YtkpodagbefnebaaGreatDoor
