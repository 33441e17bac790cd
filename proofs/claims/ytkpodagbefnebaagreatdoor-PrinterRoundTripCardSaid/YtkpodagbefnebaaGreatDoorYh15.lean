import Derived.Test.YtkpodagbefnebaaGreatDoorYh14
import Derived.Lib.AtoiErrMem
set_option linter.unusedSimpArgs false
set_option linter.unusedVariables false
set_option linter.unusedSectionVars false
namespace Go.Proofs.YtkpodagbefnebaaGreatDoor
namespace Am
open Tk Go.RowKit
set_option maxRecDepth 100000
set_option maxHeartbeats 1000000
theorem HR {e x:Ex} (h:x∈e.kids):SizeOf.sizeOf x<SizeOf.sizeOf e:=by
 obtain ⟨op,a,rel,b,names,set,kids⟩:=e
 have:=List.sizeOf_lt_of_mem h
 simp only[Ex.mk.sizeOf_spec]
 simp only at this
 omega
theorem mT {x:Ex}:∀ {l:List Ex},x∈l→cD x≤cW l
 |[],h=>by cases h
 |y :: l,h=>by
  rw[cW]
  rcases List.mem_cons.1 h with rfl|h
  ·omega
  ·have:=mT h;omega
theorem uO:∀ (n:Nat) (e:Ex),SizeOf.sizeOf e<n→cD e≤4294967296→Pure Tryz.prog 133 [.agg (exC e)] (.c (sI (cD e)))
 |0,_,h,_=>absurd h (Nat.not_lt_zero _)
 |n+1,e,h,hb=>by
  have ih:∀ x∈e.kids,Pure Tryz.prog 133 [.agg (exC x)] (.c (sI (cD x))):=fun x hx=>
   uO n x (by have:=HR hx;omega) (by have:=mT hx;have:=jw e;omega)
  have he:=jw e
  refine fn1 (fn:=Tryz.f133) Tryz.call133 Tryz.func133 rfl Tryz.ntmps133 Tryz.results133 rfl (by rfl) ?_
  repeat'(first|(with_reducible first|apply AW.seq|apply AW.block|apply AW.ret|apply AW.exit|apply ae|apply aJ|apply aW|apply y_e|refine ah ?_)|((with_reducible apply ak);first|refine t_v AS.v ?_|refine t_w AS.w ?_)|((with_reducible refine au ?_);((refine aj (fun hc=>?_) (fun hc=>?_);all_goals(try(exfalso;simp[*] at hc;done)))))|((with_reducible refine aA ?_);refine k_i ?_)|fail)
  simp only[List.length_map]
  refine AW.fact (t:=7) rfl (fun κ w x hr=>dq hr) fun hn=>?_
  refine AW.loop (fun m σ=>∃ j,m=e.kids.length - j∧j≤e.kids.length∧σ=mk [(3,.c (sI (cW (e.kids.take j)))),(7,.c (.lst none 10 (e.kids.map exC))),(8,.c (sI e.kids.length)),(9,.c (sI j))] []) e.kids.length ?_ ?_
  ·exact⟨_,wkA,0,rfl,Nat.zero_le _,rfl⟩
  rintro m σ ⟨j,rfl,hj,rfl⟩
  by_cases hlt:j<e.kids.length
  ·obtain ⟨x,hx⟩:∃ x,e.kids[j]? =some x:=⟨_,List.getElem?_eq_getElem hlt⟩
   have ihx:=ih x (List.mem_of_getElem? hx)
   have et:cW (e.kids.take (j+1))=max (cW (e.kids.take j)) (cD x):=by
    rw[List.take_add_one,hx];exact mS _ _
   have ei:(max ((cW (e.kids.take j):Nat):Int) (cD x:Nat))=((cW (e.kids.take (j+1)):Nat):Int):=by rw[et];omega
   repeat'(first|(with_reducible first|apply AW.seq|apply AW.block|apply AW.skip|apply ae|apply aw|apply y_e|refine ah ?_)|((with_reducible apply ak);first|refine t_v AS.v ?_|refine t_v (by exact ag (hP:=ihx)) ?_|refine t_w AS.w ?_)|((with_reducible apply aV);refine t_s AS.s ?_)|((with_reducible refine au ?_);((refine aj (fun hc=>?_) (fun hc=>?_);all_goals(try(exfalso;simp[*] at hc;done)))))|fail)
   exact⟨_,_,(show e.kids.length - (j+1)<e.kids.length - j by omega),by rw[ei];exact wkA,j+1,rfl,hlt,rfl⟩
  ·have e1:e.kids.take j=e.kids:=List.take_of_length_le (by omega)
   rw[e1]
   repeat'(first|(with_reducible first|apply AW.seq|apply AW.block|apply AW.ret|apply AW.exit|apply ae|apply aJ|apply aW|apply y_e|refine ah ?_)|((with_reducible apply ak);first|refine t_v AS.v ?_|refine t_w AS.w ?_)|((with_reducible refine au ?_);((refine aj (fun hc=>?_) (fun hc=>?_);all_goals(try(exfalso;simp[*] at hc;done)))))|((with_reducible refine aA ?_);refine k_i ?_)|fail)
   rw[he]
   omega
theorem Cw (e:Ex) (hb:cD e≤4294967296):Pure Tryz.prog 133 [.agg (exC e)] (.c (sI (cD e))):=uO _ e (Nat.lt_succ_self _) hb
theorem Jc {a r b op:Int} {ns:List ByteArray} {st:Se}:cD ⟨op,a,r,b,ns,st,[]⟩=1:=by rw[cD,cW]
theorem Lf {op:Int} (x:Ex):cD {Ex.zero with op:=op,kids:=[x]}=cD x+1:=by rw[jw];simp only[cW];omega
theorem Jd {op:Int} (x y:Ex):cD {Ex.zero with op:=op,kids:=[x,y]}=max (cD x) (cD y)+1:=by rw[jw];simp only[cW];omega
section
variable {l:List Tok} {k k':Ix l} {c d:Int}
theorem Fv {v:Bool} {x:Ex} (h:kL v k= .ok (x,k')):cD x=1:=by
 unfold kL at h
 obtain ⟨⟨a,k1⟩,h1,h2⟩:=aB.1 h;(try dsimp only at h2)
 split at h2
 ·split at h2
  ·obtain ⟨⟨t,k3⟩,h3,h4⟩:=aB.1 h2;(try dsimp only at h4)
   injection h4 with h4;injection h4 with h4 h5;subst h4;exact Jc
  ·obtain ⟨⟨t,k3⟩,h3,h4⟩:=aB.1 h2;(try dsimp only at h4)
   injection h4 with h4;injection h4 with h4 h5;subst h4;exact Jc
 ·obtain ⟨⟨r,k2⟩,h3,h4⟩:=aB.1 h2;(try dsimp only at h4)
  obtain ⟨⟨b,k3⟩,h5,h6⟩:=aB.1 h4;(try dsimp only at h6)
  injection h6 with h6;injection h6 with h6 h7;subst h6;exact Jc
theorem uk (hf:Fine l) (v:Bool):∀ n:Nat,(∀ {x:Ex} {k k':Ix l},dH v n k= .ok (x,k')→cD x+k.1≤k'.1)∧(∀ {x:Ex} {k k':Ix l},fi v n k= .ok (x,k')→cD x+k.1≤k'.1)∧(∀ {e x:Ex} {k k':Ix l},cL v n e k= .ok (x,k')→cD x+k.1≤cD e+k'.1)∧(∀ {x:Ex} {k k':Ix l},fj v n k= .ok (x,k')→cD x+k.1≤k'.1)∧(∀ {e x:Ex} {k k':Ix l},cM v n e k= .ok (x,k')→cD x+k.1≤cD e+k'.1)
 |0=>⟨fun h=>(by cases h),fun h=>(by cases h),fun h=>(by cases h),fun h=>(by cases h),fun h=>(by cases h)⟩
 |n+1=>by
  obtain ⟨i1,i2,i3,i4,i5⟩:=uk hf v n
  refine⟨fun {x k k'} h=>?_,fun {x k k'} h=>?_,fun {e x k k'} h=>?_,fun {x k k'} h=>?_,fun {e x k k'} h=>?_⟩
  ·rw[dH] at h
   split at h
   ·rename_i hb
    have e1:=bH hf hb
    obtain ⟨⟨t,k3⟩,h3,h4⟩:=aB.1 h
    injection h4 with h4
    injection h4 with h4 h5
    subst h4 h5
    have:=i1 h3
    rw[Lf]
    show _≤k3.1
    show cD t+1+k.1≤k3.1
    omega
   ·split at h
    ·rename_i hb
     have e1:=bH hf hb
     obtain ⟨⟨t,k3⟩,h3,h4⟩:=aB.1 h;(try dsimp only at h4)
     obtain ⟨⟨u,k4⟩,h6,h7⟩:=aB.1 h4;(try dsimp only at h7)
     injection h7 with h7
     injection h7 with h7 h5
     subst h7 h5
     have:=i4 h3
     have:=(eU hf h6).2
     omega
    ·have:=Fv h
     have:=yw hf h
     omega
  ·rw[fi] at h
   obtain ⟨⟨t,k3⟩,h3,h4⟩:=aB.1 h;(try dsimp only at h4)
   have:=i1 h3
   have:=i3 h4
   omega
  ·rw[cL] at h
   split at h
   ·rename_i hb
    have e1:=bH hf hb
    obtain ⟨⟨t,k3⟩,h3,h4⟩:=aB.1 h;(try dsimp only at h4)
    have:=i1 h3
    have h5:=i3 h4
    rw[Jd] at h5
    have:=uM e
    omega
   ·injection h with h
    injection h with h1 h2
    subst h1 h2
    exact Nat.le_refl _
  ·rw[fj] at h
   obtain ⟨⟨t,k3⟩,h3,h4⟩:=aB.1 h;(try dsimp only at h4)
   have:=i2 h3
   have:=i5 h4
   omega
  ·rw[cM] at h
   split at h
   ·rename_i hb
    have e1:=bH hf hb
    obtain ⟨⟨t,k3⟩,h3,h4⟩:=aB.1 h;(try dsimp only at h4)
    have:=i2 h3
    have h5:=i5 h4
    rw[Jd] at h5
    have:=uM e
    omega
   ·injection h with h
    injection h with h1 h2
    subst h1 h2
    exact Nat.le_refl _
theorem rX (hf:Fine l) (v:Bool):MX Tryz.prog 66 [(0,psO k c d)] [.c (.ptr 0 0),.c (sB v)] (dL v k) (fun e=>.agg (exC e)) (fun k'=>[(0,psO k' c d)]) pvS:=by
 have hl:=hf.le
 have hk:=k.2
 have i3:=(IU hf v (fuel l)).2.2 k c d (by unfold fuel;omega)
 have hlv:∀ {x:Ex} {k':Ix l},fj v (fuel l) k= .ok (x,k')→cD x≤4294967296:=fun {x k'} h=>by
  have:=(uk hf v (fuel l)).2.2.2.1 h
  have:=k'.2
  omega
 refine MXA (fn:=Tryz.f66) Tryz.call66 Tryz.func66 rfl Tryz.ntmps66 Tryz.results66 rfl rfl ?_
 repeat'((fail_if_success (with_reducible refine ct 3 ?_));(first|(with_reducible first|apply AW.seq|apply ae|apply aE|apply y_e|refine ah ?_)|((with_reducible apply ak);first|refine t_v AS.v ?_|refine t_v (by exact bn (hP:=cw)) ?_|refine t_w AS.w ?_|refine bG (hP:=i3) (k1:=fun x k h=>?_) (k2:=fun e h σx=>?_))|((with_reducible apply aV);refine t_s AS.s ?_)|((with_reducible refine bo ?_);(with_reducible refine aY ?_))|fail))
 ·have hx:=Cw x (hlv h)
  repeat'(first|(with_reducible first|apply AW.seq|apply AW.skip|apply AW.ret|apply ae|apply aE|apply y_e|refine ah ?_)|((with_reducible apply ak);first|refine t_v AS.v ?_|refine t_v (by exact ag (hP:=hx)) ?_|refine t_q (hP:=eH _ _) (k:=fun σx=>?_))|((with_reducible apply aV);refine t_s AS.s ?_)|((with_reducible refine au ?_);((refine aj (fun hc=>?_) (fun hc=>?_))))|((with_reducible refine bo ?_);first|(with_reducible refine aY ?_)|refine fN (k:=?_))|fail)
  ·rw[dL,h]
   simp only[aa]
   rw[if_pos (by have:=of_decide_eq_true hc;omega)]
  ·exact⟨_,_,by rw[dL,h];simp only[aa];rw[if_neg (by have:=of_decide_eq_false hc;omega)],cg _,aD rfl⟩
 ·(first|(simp_all[dL,aa,ar,adv,Lv.zero,Sp.zero,Rg.zero,Ct.zero];done)|fail "end")
theorem K2 (hf:Fine l):MX Tryz.prog 255 [(0,psO k c d)] [.c (.ptr 0 0)] (iJ k) (fun s=>.c (sS s)) (fun k'=>[(0,psO k' c d)]) pvS:=by
 have hl:=hf.le
 have a:=(xQ (k:=k) (c:=c) (d:=d) hf).ok _ _ rfl
 refine MXA (fn:=Tryz.f255) Tryz.call255 Tryz.func255 rfl Tryz.ntmps255 Tryz.results255 rfl rfl ?_
 repeat'(first|(with_reducible first|apply AW.seq|apply AW.block|apply AW.skip|apply AW.ret|apply ae|apply aE|apply aw|apply cf|apply y_e|refine ah ?_)|((with_reducible apply ak);first|refine t_v AS.v ?_|refine t_v (by exact bn (hP:=cw)) ?_|refine t_w AS.w ?_|refine t_w (by exact ch (hP:=a)) ?_|refine t_q (hP:=eH _ _) (k:=fun σx=>?_))|((with_reducible apply aV);refine t_s AS.s ?_)|((with_reducible refine au ?_);((refine aj (fun hc=>?_) (fun hc=>?_))))|((with_reducible refine bo ?_);first|(with_reducible refine aY ?_)|refine l_1 (k:=?_))|fail)
 all_goals(first|(refine⟨_,_,?_,(by rfl),(by exact aD rfl)⟩;simp_all[iJ,aa,ar,adv,Lv.zero,Sp.zero,Rg.zero,Ct.zero];done)|(simp_all[iJ,aa,ar,adv,Lv.zero,Sp.zero,Rg.zero,Ct.zero];done)|fail "end")
def xS:Except Fa (Ex×Nat)→V
 | .ok (e,n)=>.tup [.agg (exC e),.c (sI n),.agg (faC Fa.zero)]
 | .error f=>.tup [.agg (exC Ex.zero),.c (sI 0),.agg (faC f)]
theorem uo (hf:Fine l) {cnd:List Tok→Except Fa (Ex×Nat)} (hT:Pure Tryz.prog 78 [.c (.lst none 4 ((l.drop k.1).map tkC))] (xS (cnd (l.drop k.1)))) (hok:∀ e n,cnd (l.drop k.1)= .ok (e,n)→k.1+n<l.length) (hno:∀ f,cnd (l.drop k.1)= .error f→f.code≠0):MX Tryz.prog 247 [(0,psO k c d)] [.c (.ptr 0 0)] (ga cnd k) (fun e=>.agg (exC e)) (fun k'=>[(0,psO k' c d)]) pvS:=by
 have hl:=hf.le
 have hk:=k.2
 cases ht:cnd (l.drop k.1) with
 |ok p=>
  obtain ⟨e,n⟩:=p
  have hlt:=hok e n ht
  rw[ht] at hT
  have hT:Pure _ _ _ (.tup [.agg (exC e),.c (sI n),.agg (faC Fa.zero)]):=hT
  have e1:ga cnd k= .ok (e,⟨k.1+n,hlt⟩):=by rw[ga,ht];simp only[aa,uJ];rw[dif_pos hlt]
  rw[e1]
  refine MXA (fn:=Tryz.f247) Tryz.call247 Tryz.func247 rfl Tryz.ntmps247 Tryz.results247 rfl rfl ?_
  repeat'(first|(with_reducible first|apply AW.seq|apply AW.skip|apply AW.ret|apply ae|apply aE|apply y_e|refine ah ?_|refine bb ?_)|((with_reducible apply ak);first|refine t_v AS.v ?_|refine t_v (by exact ag (hP:=hT)) ?_|refine t_w AS.w ?_)|((with_reducible apply aV);first|refine t_s AS.s ?_|refine t_p (k:=fun σx=>?_))|((with_reducible refine au ?_);first|refine cj ?_|(refine aj (fun hc=>?_) (fun hc=>?_);all_goals(try(exfalso;simp[*] at hc;done))))|((with_reducible refine bo ?_);first|(with_reducible refine aY ?_)|refine fN (k:=?_))|(refine⟨by decide +kernel,?_⟩)|fail)
  exact⟨_,_,rfl,cg _,aD rfl⟩
 |error f=>
  have hc0:=hno f ht
  rw[ht] at hT
  have hT:Pure _ _ _ (.tup [.agg (exC Ex.zero),.c (sI 0),.agg (faC f)]):=hT
  have e1:ga cnd k= .error f:=by rw[ga,ht];rfl
  rw[e1]
  refine MXA (fn:=Tryz.f247) Tryz.call247 Tryz.func247 rfl Tryz.ntmps247 Tryz.results247 rfl rfl ?_
  repeat'(first|(with_reducible first|apply AW.seq|apply AW.skip|apply AW.ret|apply ae|apply aE|apply y_e|refine ah ?_|refine bb ?_)|((with_reducible apply ak);first|refine t_v AS.v ?_|refine t_v (by exact ag (hP:=hT)) ?_|refine t_w AS.w ?_)|((with_reducible apply aV);first|refine t_s AS.s ?_|refine t_p (k:=fun σx=>?_))|((with_reducible refine au ?_);first|refine cj ?_|(refine aj (fun hc=>?_) (fun hc=>?_);all_goals(try(exfalso;simp[*] at hc;done))))|((with_reducible refine bo ?_);first|(with_reducible refine aY ?_)|refine fN (k:=?_))|(refine⟨by decide +kernel,?_⟩)|fail)
  rfl
end
end Am
namespace Am
open Tk Go.RowKit
set_option maxRecDepth 100000
set_option maxHeartbeats 1000000
theorem s6 {b:UInt8} (h:dgB b=true):48≤b.toNat∧b.toNat≤57:=by
 unfold dgB gE bi at h
 have:=of_decide_eq_true h
 omega
theorem MB {l:List UInt8}:∀ {n:Nat},l.all dgB=true→Lib.decFrom n l=some (l.foldl (fun n c=>10*n+(c.toNat - 48)) n):=by
 induction l with
 |nil=>intro n _;rfl
 |cons b l ih=>
  intro n h
  rw[List.all_cons,Bool.and_eq_true] at h
  have hb:48≤b.toNat∧b.toNat≤57:=by
   exact s6 h.1
  rw[Lib.decFrom,Lib.digitVal,if_pos hb]
  show Lib.decFrom _ l=_
  rw[ih h.2,List.foldl_cons,Nat.mul_comm]
theorem decLe {l:List UInt8}:∀ {n:Nat},l.all dgB=true→l.foldl (fun n c=>10*n+(c.toNat - 48)) n<(n+1)*10 ^ l.length:=by
 induction l with
 |nil=>intro n _;simp
 |cons b l ih=>
  intro n h
  rw[List.all_cons,Bool.and_eq_true] at h
  have hb:48≤b.toNat∧b.toNat≤57:=by
   exact s6 h.1
  have:=ih (n:=10*n+(b.toNat - 48)) h.2
  rw[List.foldl_cons,List.length_cons,Nat.pow_succ]
  refine Nat.lt_of_lt_of_le this ?_
  have e:(n+1)*(10 ^ l.length*10)=((n+1)*10)*10 ^ l.length:=by rw[Nat.mul_comm (10 ^ l.length) 10,Nat.mul_assoc]
  rw[e]
  exact Nat.mul_le_mul_right _ (by omega)
theorem ID {s:ByteArray} (h0:0<s.data.toList.length) (h9:s.data.toList.length≤9) (hd:s.data.toList.all dgB=true):Pure Tryz.prog 106 [.c (sS s)] (.tup [.c (sI (lf s)),.c (.sc .nilIface)]):=by
 refine⟨Tryz.call106,fun w S us _ hS hu=>?_⟩
 have he:us= #[.string s]:=by
  apply Array.ext'
  match hl:us.toList,hu with
  |[x],hu=>
   have h1:x= .string s:=Cq.uniq .sc (hu.2 0 _ x rfl rfl)
   rw[h1]
  |[],hu=>exact absurd hu.1 (by simp)
  |_ :: _ :: _,hu=>exact absurd hu.1 (by simp)
 subst he
 have ha:Lib.atoi s.data.toList=some ((lf s:Nat):Int):=by
  unfold lf
  revert h0 hd
  cases s.data.toList with
  |nil=>intro h0;simp at h0
  |cons b r=>
   intro _ hd
   have hb:48≤b.toNat∧b.toNat≤57:=by
    rw[List.all_cons,Bool.and_eq_true] at hd
    exact s6 hd.1
   have n1:(b == 45)=false:=by
    cases h:(b == 45) with
    |false=>rfl
    |true=>have:=eq_of_beq h;subst this;exact absurd hb.1 (by decide)
   have n2:(b == 43)=false:=by
    cases h:(b == 43) with
    |false=>rfl
    |true=>have:=eq_of_beq h;subst this;exact absurd hb.1 (by decide)
   rw[Lib.atoi,n1,n2]
   simp only[Bool.false_eq_true,if_false]
   rw[Lib.decNat]
   simp only[List.isEmpty_cons,Bool.false_eq_true,if_false]
   rw[MB hd];rfl
 refine(Tryz.strconv_Atoi s _ (by rw[bZ];omega) ha w).mono ?_
 rintro e w' ⟨rfl,t,rfl⟩
 have hb:=Lib.bytesWorld_below w 5 t
 refine⟨_,rfl,Keep.of_below hb,.tup rfl fun j x v hx hv=>?_⟩
 match j,hx,hv with
 |0,hx,hv=>injection hx with hx;injection hv with hv;subst hx hv;exact .c (.sc rfl)
 |1,hx,hv=>injection hx with hx;injection hv with hv;subst hx hv;exact .c (.sc rfl)
theorem FB {s:ByteArray} (h9:s.data.toList.length≤9) (hd:s.data.toList.all dgB=true):lf s<10000000000:=by
 have h1:=decLe (n:=0) hd
 unfold lf
 refine Nat.lt_of_lt_of_le h1 ?_
 have:10 ^ s.data.toList.length≤10 ^ 9:=Nat.pow_le_pow_right (by decide) h9
 omega
section
variable {l:List Tok} {k k':Ix l} {c d:Int}
theorem CP (hf:Fine l):MX Tryz.prog 50 [(0,psO k c d)] [.c (.ptr 0 0)] (gx k) (fun m=>.agg (moC m)) (fun k'=>[(0,psO k' c d)]) pvS:=by
 have hl:=hf.le
 refine MXA (fn:=Tryz.f50) Tryz.call50 Tryz.func50 rfl Tryz.ntmps50 Tryz.results50 rfl rfl ?_
 repeat'((fail_if_success (with_reducible refine ct 6 ?_));(first|(with_reducible first|apply AW.seq|apply AW.skip|apply ae|apply aE|apply y_e|refine ah ?_)|((with_reducible apply ak);first|refine t_v AS.v ?_|refine t_v (by exact bn (hP:=cw)) ?_|refine t_w AS.w ?_|refine bG (hP:=py hf _) (k1:=fun x k h=>?_) (k2:=fun e h σx=>?_)|refine bG (hP:=eu hf) (k1:=fun x k h=>?_) (k2:=fun e h σx=>?_)|refine t_q (hP:=eH _ _) (k:=fun σx=>?_))|((with_reducible apply aV);refine t_s AS.s ?_)|((with_reducible refine au ?_);((refine aj (fun hc=>?_) (fun hc=>?_))))|((with_reducible refine bo ?_);(with_reducible refine aY ?_))|fail))
 ·(first|(simp_all[gx,aa,ar,adv,Lv.zero,Sp.zero,Rg.zero,Ct.zero];done)|fail "end")
 ·rename_i k0 _ k1 h1
  have hk2:(tk k).kind=2:=by simpa using hc
  obtain ⟨n1,n2,n3⟩:=hf.nm k hk2
  have ap:=ID n1 n2 n3
  have dl:=FB n2 n3
  have lps:=cV (c:=c) (d:=d) hf (k:=k) (by rw[hk2];decide)
  have en:((k.1:Nat):Int)+1=(((nx k).1:Nat):Int):=by rw[hC hf (by rw[hk2];decide)];rfl
  have hk:=k.2
  repeat'((fail_if_success (with_reducible refine ct 10 ?_));(first|(with_reducible first|apply AW.seq|apply AW.skip|apply ae|apply aE|apply y_e|refine ah ?_)|((with_reducible apply ak);first|refine t_v AS.v ?_|refine t_v (by exact ag (hP:=ap)) ?_|refine t_q (hP:=eH _ _) (k:=fun σx=>?_))|((with_reducible apply bc);refine t_m (hs:=fun hg=>AS.v) (k:=?_))|((with_reducible apply aV);refine t_s AS.s ?_)|((with_reducible refine au ?_);((refine aj (fun hc=>?_) (fun hc=>?_))))|((with_reducible refine bo ?_);(with_reducible refine aY ?_))|fail))
  ·have hb:9999<lf (tk k).text:=by simp at hc;omega
   rw[gx,h1]
   simp only[aa]
   rw[h]
   simp only[aa]
   rw[if_pos hk2,if_pos hb]
  ·have hb:¬ 9999<lf (tk k).text:=by simp at hc;omega
   simp only[en]
   have e:gx k0=eD ⟨#[59]⟩ (nx k)>>=fun y=>.ok (⟨x,(lf (tk k).text:Int),[]⟩,y.2):=by
    rw[gx,h1]
    simp only[aa]
    rw[h]
    simp only[aa]
    rw[if_pos hk2,if_neg hb]
   rw[e]
   repeat'(first|(with_reducible first|apply AW.seq|apply AW.ret|apply ae|apply aE|apply y_e|refine ah ?_)|((with_reducible apply ak);first|refine t_v AS.v ?_|refine bG (hP:=jA hf _) (k1:=fun x k h=>?_) (k2:=fun e h σx=>?_))|((with_reducible apply aV);refine t_s AS.s ?_)|((with_reducible refine bo ?_);first|(with_reducible refine aY ?_)|refine fN (k:=?_))|fail)
   all_goals(first|(refine⟨_,_,?_,(by rfl),(by exact aD rfl)⟩;simp_all[Mo.zero,aa,ar,adv,Lv.zero,Sp.zero,Rg.zero,Ct.zero];done)|(simp_all[Mo.zero,aa,ar,adv,Lv.zero,Sp.zero,Rg.zero,Ct.zero];done)|fail "end")
 ·(first|(simp_all[gx,aa,ar,adv,Lv.zero,Sp.zero,Rg.zero,Ct.zero];done)|fail "end")
 ·(first|(simp_all[gx,aa,ar,adv,Lv.zero,Sp.zero,Rg.zero,Ct.zero];done)|fail "end")
end
end Am
end Go.Proofs.YtkpodagbefnebaaGreatDoor
