import Derived.Test.YtkpodagbefnebaaGreatDoorYf31
set_option linter.unusedSimpArgs false
set_option linter.unusedVariables false
set_option linter.unusedSectionVars false
namespace Go.Proofs.YtkpodagbefnebaaGreatDoor
namespace Am
open Tk Go.RowKit
set_option maxRecDepth 100000
set_option maxHeartbeats 1000000
theorem Ff {s:ByteArray} {j:Nat} {c:UInt8} {b:Bool} (H:(j:Int)<s.size→s.data.toList[j]? =some c) (h:b=true) (hb:b=true→(j:Int)<s.size:=by intro h;first|(simpa using h;done)|(simp at h;omega)):s.data.toList[j]? =some c:=H (hb h)
section
variable {ρ:Operand→Option V} {H:Nat→Option HO} {d:Option Nat} {ty:TypeId} {pos:String} {af:Array Edge} {gu:Option (Nat×Bool)} {x i:Operand}
theorem kC {s:ByteArray} {kd:IntKind} {z:Int} {j:Nat} {c:UInt8} (hx:Ev ρ x (.c (.sc (.string s))):=by exact aC) (hi:Ev ρ i (.c (.sc (.int kd z))):=by exact aC) (hc:s.data.toList[j]? =some c:=by first|assumption|exact Ff (by assumption) (by assumption)) (hz:z=(j:Nat):=by omega):AS Tryz.prog ρ H ⟨d,.index 9 x i,ty,pos,af,gu⟩ ⟨.c (.sc (.int .u8 c.toNat)),[],[]⟩:=by
 subst hz;exact Cs hx hi hc
end
section
variable {P:Program} {σ:St} {t0 t1 t2 t3:Nat} {v0 v1 v2 v3 u0 u1 u2 u3:V}
theorem k_3 (e0:v0.un=u0) (e1:v1.un=u1) (e2:v2.un=u2) (h0:Ev (evA σ.sl) (.tmp t0) v0:=by exact .pl rfl) (h1:Ev (evA σ.sl) (.tmp t1) v1:=by exact .pl rfl) (h2:Ev (evA σ.sl) (.tmp t2) v2:=by exact .pl rfl):Ret P [.tmp t0,.tmp t1,.tmp t2] (.tup [u0,u1,u2]) .ret σ:=by
 subst e0 e1 e2
 exact⟨.inl rfl,[v0,v1,v2],.tmp h0 (.tmp h1 (.tmp h2 .nil)),rfl⟩
theorem k_4 (e0:v0.un=u0) (e1:v1.un=u1) (e2:v2.un=u2) (e3:v3.un=u3) (h0:Ev (evA σ.sl) (.tmp t0) v0:=by exact .pl rfl) (h1:Ev (evA σ.sl) (.tmp t1) v1:=by exact .pl rfl) (h2:Ev (evA σ.sl) (.tmp t2) v2:=by exact .pl rfl) (h3:Ev (evA σ.sl) (.tmp t3) v3:=by exact .pl rfl):Ret P [.tmp t0,.tmp t1,.tmp t2,.tmp t3] (.tup [u0,u1,u2,u3]) .ret σ:=by
 subst e0 e1 e2 e3
 exact⟨.inl rfl,[v0,v1,v2,v3],.tmp h0 (.tmp h1 (.tmp h2 (.tmp h3 .nil))),rfl⟩
end
theorem xc (s:ByteArray) (j:Nat):∃ c,(j:Int)<s.size→s.data.toList[j]? =some c:=by
 by_cases h:j<s.size
 ·obtain ⟨c,hc⟩:=get_at (src:=s) (k:=j) h
  exact⟨c,fun _=>hc⟩
 ·exact⟨0,fun h2=>absurd h2 (by omega)⟩
theorem fX (c:UInt8):Pure Tryz.prog 118 [.c (byC c)] (.c (sB (eA (bi c)))):=by
 refine fn1 (fn:=Tryz.f118) Tryz.call118 Tryz.func118 rfl Tryz.ntmps118 Tryz.results118 rfl (by rfl) ?_
 repeat'(first|(with_reducible first|apply AW.seq|apply AW.ret|apply aa|apply y_e|refine ae ?_)|((with_reducible apply ai);refine t_v AS.v ?_)|((with_reducible apply aK);refine t_m (hs:=fun hg=>AS.v) (k:=?_))|((with_reducible refine aM ?_);refine k_b ?_)|fail)
 unfold eA bi
 rw[Bool.decide_and,Bool.decide_and,Bool.or_comm (decide (97≤(c.toNat:Int))&&_)]
theorem j7 (c:UInt8):Pure Tryz.prog 120 [.c (byC c)] (.c (sB (dgB c))):=by
 refine fn1 (fn:=Tryz.f120) Tryz.call120 Tryz.func120 rfl Tryz.ntmps120 Tryz.results120 rfl (by rfl) ?_
 repeat'(first|(with_reducible first|apply AW.seq|apply AW.ret|apply aa|apply y_e|refine ae ?_)|((with_reducible apply ai);refine t_v AS.v ?_)|((with_reducible apply aK);refine t_m (hs:=fun hg=>AS.v) (k:=?_))|((with_reducible refine aM ?_);refine k_b ?_)|fail)
 unfold dgB eP bi
 ((rw[Bool.decide_and];done))
section
variable {src:ByteArray} {k:Nat}
theorem DX {L:List UInt8} {c:UInt8} (b:Bool) (h:L[k]? =some c):skipL b (L.drop k)=if(c.toNat:Int)=10 then skipL false (L.drop (k+1))+1 else if(c.toNat:Int)=35 then skipL true (L.drop (k+1))+1 else if b=true∨(c.toNat:Int)=32∨(c.toNat:Int)=9 then skipL b (L.drop (k+1))+1 else 0:=by
 obtain ⟨h1,h2⟩:=List.getElem?_eq_some_iff.1 h
 rw[List.drop_eq_getElem_cons h1,h2,skipL];rfl
theorem zK {L:List UInt8} (b:Bool) (h:L.length≤k):skipL b (L.drop k)=0:=by rw[List.drop_eq_nil_of_le h,skipL]
theorem tY (hs:src.size≤65536) (hk:k≤src.size):Pure Tryz.prog 59 [.c (sS src),.c (sI (k:Int))] (.c (sI ((k+skipL false (src.data.toList.drop k):Nat):Int))):=by
 refine fn2 (fn:=Tryz.f59) Tryz.call59 Tryz.func59 rfl Tryz.ntmps59 Tryz.results59 rfl (by rfl) ?_
 repeat'(first|(with_reducible first|apply AW.seq|apply AW.block|apply AW.skip|apply AW.ret|apply AW.exit|apply aa|apply ak|apply aE|apply aw|apply aL|apply aH|apply y_e|refine ae ?_)|((with_reducible apply ai);refine t_v AS.v ?_)|((with_reducible apply aK);refine t_m (hs:=fun hg=>AS.v) (k:=?_))|((with_reducible refine aq ?_);((refine ah (fun hc=>?_) (fun hc=>?_);all_goals(try(exfalso;simp[*] at hc;done)))))|((with_reducible refine aM ?_);refine k_i ?_)|fail)
 refine AW.loop (fun m σ=>∃ (j:Nat) (b:Bool),m=src.size - j∧k≤j∧j≤src.size∧k+skipL false (src.data.toList.drop k)=j+skipL b (src.data.toList.drop j)∧σ=mk [(0,.c (sS src)),(1,.c (sI (j:Int))),(5,.c (sB b))] []) (src.size - k) ?_ ?_
 ·exact⟨_,wkA,k,false,rfl,Nat.le_refl _,hk,rfl,rfl⟩
 rintro m σ ⟨j,b,rfl,hkj,hj,ht,rfl⟩
 generalize k+skipL false (src.data.toList.drop k)=z at ht ⊢
 have HT:=Lib.hid ht
 clear ht
 by_cases hlt:j<src.size
 ·obtain ⟨c,hc⟩:=get_at (src:=src) (k:=j) hlt
  have ha:=DX b hc
  have HA:=Lib.hid ha
  clear ha
  repeat'(first|(with_reducible first|apply AW.seq|apply AW.block|apply AW.skip|apply AW.ret|apply AW.exit|apply aa|apply ak|apply aE|apply aw|apply aL|apply aH|apply y_e|refine ae ?_)|((with_reducible apply ai);refine t_v AS.v ?_)|((with_reducible apply aK);refine t_m (hs:=fun hg=>AS.v) (k:=?_))|((with_reducible refine aq ?_);((refine ah (fun hc=>?_) (fun hc=>?_);all_goals(try(exfalso;simp[*] at hc;done)))))|((with_reducible refine aM ?_);refine k_i ?_)|fail)
  ·have ht:=HT.out
   rw[HA.out,if_pos (of_decide_eq_true hc)] at ht
   exact⟨_,_,(show src.size - (j+1)<src.size - j by omega),wkA,j+1,false,rfl,by omega,hlt,by omega,rfl⟩
  ·rename_i h1
   have ht:=HT.out
   rw[HA.out,if_neg (of_decide_eq_false h1),if_pos (of_decide_eq_true hc)] at ht
   exact⟨_,_,(show src.size - (j+1)<src.size - j by omega),wkA,j+1,true,rfl,by omega,hlt,by omega,rfl⟩
  ·rename_i h1 h2
   have ht:=HT.out
   rw[HA.out,if_neg (of_decide_eq_false h1),if_neg (of_decide_eq_false h2),if_neg (by simp only[Bool.and_eq_true,Bool.not_eq_true',decide_eq_false_iff_not] at hc;rintro (h|h|h) <;> simp_all)] at ht
   rw[ht];rfl
  ·rename_i h1 h2
   have ht:=HT.out
   rw[HA.out,if_neg (of_decide_eq_false h1),if_neg (of_decide_eq_false h2),if_pos (by revert hc;cases b <;> simp <;> omega)] at ht
   exact⟨_,_,(show src.size - (j+1)<src.size - j by omega),wkA,j+1,b,rfl,by omega,hlt,by omega,rfl⟩
 ·have e0:=zK (L:=src.data.toList) (k:=j) b (by rw[← bc];omega)
  repeat'(first|(with_reducible first|apply AW.seq|apply AW.block|apply AW.skip|apply AW.ret|apply AW.exit|apply aa|apply ak|apply aE|apply aw|apply aL|apply aH|apply y_e|refine ae ?_)|((with_reducible apply ai);refine t_v AS.v ?_)|((with_reducible apply aK);refine t_m (hs:=fun hg=>AS.v) (k:=?_))|((with_reducible refine aq ?_);((refine ah (fun hc=>?_) (fun hc=>?_);all_goals(try(exfalso;simp[*] at hc;done)))))|((with_reducible refine aM ?_);refine k_i ?_)|fail)
  have ht:=HT.out
  rw[ht,e0];rfl
theorem sA (hs:src.size≤65536) (hk:k≤src.size):Pure Tryz.prog 61 [.c (sS src),.c (sI (k:Int))] (.agg (poC (bG src.data.toList k))):=by
 refine fn2 (fn:=Tryz.f61) Tryz.call61 Tryz.func61 rfl Tryz.ntmps61 Tryz.results61 rfl (by rfl) ?_
 repeat'(first|(with_reducible first|apply AW.seq|apply AW.block|apply AW.skip|apply AW.ret|apply AW.exit|apply aa|apply aE|apply aw|apply aH|apply y_e|refine ae ?_)|((with_reducible apply ai);first|refine t_v AS.v ?_|refine t_w AS.w ?_)|((with_reducible apply aK);refine t_m (hs:=fun hg=>AS.v) (k:=?_))|((with_reducible apply ay);refine t_s AS.s ?_)|((with_reducible refine aq ?_);((refine ah (fun hc=>?_) (fun hc=>?_);all_goals(try(exfalso;simp[*] at hc;done));all_goals(try(exfalso;revert hc;simp;omega)))))|((with_reducible refine aM ?_);refine k_c ?_)|fail)
 refine AW.loop (fun m σ=>∃ j:Nat,m=k - j∧j≤k∧σ=mk [(0,.c (sS src)),(1,.c (sI (k:Int))),(6,.c (sI (j:Int))),(4,.c (.ptr 4 0)),(5,.c (.ptr 5 0))] [(5,.obj 28 (poC (bG src.data.toList j))),(4,.obj 28 (poC ⟨0,0⟩))]) k ?_ ?_
 ·exact⟨_,wkA,0,rfl,Nat.zero_le _,rfl⟩
 rintro m σ ⟨j,rfl,hj,rfl⟩
 by_cases hlt:j<k
 ·obtain ⟨c,hc⟩:=get_at (src:=src) (k:=j) (by omega)
  have hp:=u5 src.data.toList j
  have hl:=oF hc
  by_cases h10:(c.toNat:Int)=10
  ·have e:bG src.data.toList (j+1)=⟨(bG src.data.toList j).line+1,1⟩:=by rw[hl];unfold pM aft bi;rw[if_pos h10]
   clear hl
   repeat'(first|(with_reducible first|apply AW.seq|apply AW.block|apply AW.skip|apply AW.ret|apply AW.exit|apply aa|apply aE|apply aw|apply aH|apply y_e|refine ae ?_)|((with_reducible apply ai);first|refine t_v AS.v ?_|refine t_w AS.w ?_)|((with_reducible apply aK);refine t_m (hs:=fun hg=>AS.v) (k:=?_))|((with_reducible apply ay);refine t_s AS.s ?_)|((with_reducible refine aq ?_);((refine ah (fun hc=>?_) (fun hc=>?_);all_goals(try(exfalso;simp[*] at hc;done));all_goals(try(exfalso;revert hc;simp;omega)))))|((with_reducible refine aM ?_);refine k_c ?_)|fail)
   exact⟨_,mk [(0,.c (sS src)),(1,.c (sI (k:Int))),(6,.c (sI ((j+1:Nat):Int))),(4,.c (.ptr 4 0)),(5,.c (.ptr 5 0))] [(5,.obj 28 (poC ⟨(bG src.data.toList j).line+1,1⟩)),(4,.obj 28 (poC ⟨0,0⟩))],(show k - (j+1)<k - j by omega),wkA,j+1,rfl,hlt,by rw[e]⟩
  ·have e:bG src.data.toList (j+1)=⟨(bG src.data.toList j).line,(bG src.data.toList j).col+1⟩:=by rw[hl];unfold pM aft bi;rw[if_neg h10]
   clear hl
   repeat'(first|(with_reducible first|apply AW.seq|apply AW.block|apply AW.skip|apply AW.ret|apply AW.exit|apply aa|apply aE|apply aw|apply aH|apply y_e|refine ae ?_)|((with_reducible apply ai);first|refine t_v AS.v ?_|refine t_w AS.w ?_)|((with_reducible apply aK);refine t_m (hs:=fun hg=>AS.v) (k:=?_))|((with_reducible apply ay);refine t_s AS.s ?_)|((with_reducible refine aq ?_);((refine ah (fun hc=>?_) (fun hc=>?_);all_goals(try(exfalso;simp[*] at hc;done));all_goals(try(exfalso;revert hc;simp;omega)))))|((with_reducible refine aM ?_);refine k_c ?_)|fail)
   exact⟨_,mk [(0,.c (sS src)),(1,.c (sI (k:Int))),(6,.c (sI ((j+1:Nat):Int))),(4,.c (.ptr 4 0)),(5,.c (.ptr 5 0))] [(5,.obj 28 (poC ⟨(bG src.data.toList j).line,(bG src.data.toList j).col+1⟩)),(4,.obj 28 (poC ⟨0,0⟩))],(show k - (j+1)<k - j by omega),wkA,j+1,rfl,hlt,by rw[e]⟩
 ·obtain rfl:j=k:=by omega
  repeat'(first|(with_reducible first|apply AW.seq|apply AW.block|apply AW.skip|apply AW.ret|apply AW.exit|apply aa|apply aE|apply aw|apply aH|apply y_e|refine ae ?_)|((with_reducible apply ai);first|refine t_v AS.v ?_|refine t_w AS.w ?_)|((with_reducible apply aK);refine t_m (hs:=fun hg=>AS.v) (k:=?_))|((with_reducible apply ay);refine t_s AS.s ?_)|((with_reducible refine aq ?_);((refine ah (fun hc=>?_) (fun hc=>?_);all_goals(try(exfalso;simp[*] at hc;done));all_goals(try(exfalso;revert hc;simp;omega)))))|((with_reducible refine aM ?_);refine k_c ?_)|fail)
  simp[unA]
theorem xU (hs:src.size≤65536) {c:UInt8} (hc:src.data.toList[k]? =some c) {q:UInt8→Bool} (hq:(eA (bi c)=true∧q=nmB)∨(eA (bi c)=false∧q=dgB)):Pure Tryz.prog 119 [.c (sS src),.c (sI (k:Int))] (.c (sI ((k+tw q (src.data.toList.drop k):Nat):Int))):=by
 have hk:=iz hc
 obtain ⟨b,hb⟩:∃ b,eA (bi c)=b:=⟨_,rfl⟩
 have hq2:∀ d,q d=(dgB d || b&&eA (bi d)):=fun d=>by
  rcases hq with⟨h1,rfl⟩|⟨h1,rfl⟩
  ·rw[← hb,h1,Bool.true_and,Bool.or_comm];rfl
  ·rw[← hb,h1,Bool.false_and,Bool.or_false]
 have lp:=fX c
 rw[hb] at lp
 clear hq
 refine fn2 (fn:=Tryz.f119) Tryz.call119 Tryz.func119 rfl Tryz.ntmps119 Tryz.results119 rfl (by rfl) ?_
 repeat'(first|(with_reducible first|apply AW.seq|apply AW.block|apply aa|apply y_e|refine ae ?_)|((with_reducible apply ai);first|refine t_v AS.v ?_|refine t_v (by exact aj (hP:=lp)) ?_)|fail)
 refine AW.loop (fun m σ=>∃ j:Nat,m=src.size - j∧k≤j∧j≤src.size∧k+tw q (src.data.toList.drop k)=j+tw q (src.data.toList.drop j)∧σ=mk [(0,.c (sS src)),(1,.c (sI (j:Int))),(5,.c (sB b))] []) (src.size - k) ?_ ?_
 ·exact⟨_,wkA,k,rfl,Nat.le_refl _,Nat.le_of_lt hk,rfl,rfl⟩
 rintro m σ ⟨j,rfl,hkj,hj,ht,rfl⟩
 generalize k+tw q (src.data.toList.drop k)=z at ht ⊢
 have HT:=Lib.hid ht
 clear ht
 obtain ⟨d,hd⟩:=xc src j
 have p1:=j7 d
 have p2:=fX d
 have q2:=hq2 d
 generalize dgB d=x1 at p1 q2
 generalize eA (bi d)=x2 at p2 q2
 clear lp hb hq2 hc
 repeat'(first|(with_reducible first|apply AW.seq|apply AW.block|apply AW.skip|apply AW.ret|apply AW.exit|apply aa|apply aE|apply aw|apply aH|apply y_e|refine ae ?_)|((with_reducible apply ai);refine t_v AS.v ?_)|((with_reducible apply aK);first|refine t_m (hs:=fun hg=>AS.v) (k:=?_)|refine t_m (hs:=fun hg=>(by first|exact aj (hP:=p1)|exact aj (hP:=p2)|exact kC)) (k:=?_))|((with_reducible refine aq ?_);((refine ah (fun hc=>?_) (fun hc=>?_))))|((with_reducible refine aM ?_);refine k_i ?_)|fail)
 ·have ht:=HT.out
  have hc2:=(Bool.and_eq_true _ _).mp (by assumption)
  have hj2:=of_decide_eq_true hc2.1
  obtain ⟨h1,h2⟩:=List.getElem?_eq_some_iff.1 (hd hj2)
  rw[rQ q _ j h1 (by rw[h2,q2];exact hc2.2)] at ht
  exact⟨_,_,(show src.size - (j+1)<src.size - j by omega),wkA,j+1,rfl,by omega,by omega,by omega,rfl⟩
 ·have ht:=HT.out
  by_cases hlt:(j:Int)<src.size
  ·obtain ⟨h1,h2⟩:=List.getElem?_eq_some_iff.1 (hd hlt)
   rw[decide_eq_true hlt,Bool.true_and] at hc
   rw[xg q _ j h1 (by rw[h2,q2];exact hc)] at ht
   rw[ht];rfl
  ·rw[rH q src.data.toList j (by rw[← bc];omega)] at ht
   rw[ht];rfl
theorem uV (s:ByteArray) (hs:s.size≤65536):Pure Tryz.prog 121 [.c (sS s)] (.c (sB (vL s.data.toList))):=by
 have hl:=bc s
 have ev:vL s.data.toList=(decide (1≤s.size)&&decide (s.size≤9)&&(decide (s.size=1) || !decide (bi (s.data.toList.getD 0 0)=48))&&s.data.toList.all dgB):=by
  unfold vL
  rw[hl]
  cases s.data.toList with
  |nil=>rfl
  |cons a l=>cases l <;> simp
 rw[ev]
 clear ev
 refine fn1 (fn:=Tryz.f121) Tryz.call121 Tryz.func121 rfl Tryz.ntmps121 Tryz.results121 rfl (by rfl) ?_
 repeat'(first|(with_reducible first|apply AW.seq|apply AW.block|apply AW.ret|apply AW.exit|apply aa|apply aE|apply aH|apply y_e|refine ae ?_)|((with_reducible apply ai);refine t_v AS.v ?_)|((with_reducible apply aK);first|refine t_m (hs:=fun hg=>AS.v) (k:=?_)|refine t_m (hs:=fun hg=>(by exact kC)) (k:=?_))|((with_reducible refine aq ?_);((refine ah (fun hc=>?_) (fun hc=>?_);all_goals(try(exfalso;simp[*] at hc;done)))))|((with_reducible refine aM ?_);refine k_b ?_)|fail)
 refine AW.loop (fun m σ=>∃ j:Nat,m=s.size - j∧j≤s.size∧(s.data.toList.take j).all dgB=true∧σ=mk [(0,.c (sS s)),(3,.c (sI (j:Int)))] []) s.size ?_ ?_
 ·exact⟨_,wkA,0,rfl,Nat.zero_le _,rfl,rfl⟩
 rintro m σ ⟨j,rfl,hj,ha,rfl⟩
 by_cases hlt:j<s.size
 ·obtain ⟨d,hd⟩:=get_at (src:=s) (k:=j) hlt
  have p1:=j7 d
  obtain ⟨h1,h2⟩:=List.getElem?_eq_some_iff.1 hd
  clear hl
  repeat'(first|(with_reducible first|apply AW.seq|apply AW.block|apply AW.skip|apply AW.ret|apply aa|apply ak|apply aw|apply aL|apply y_e|refine ae ?_)|((with_reducible apply ai);first|refine t_v AS.v ?_|refine t_v (by exact aj (hP:=p1)) ?_)|((with_reducible refine aq ?_);((refine ah (fun hc=>?_) (fun hc=>?_);all_goals(try(exfalso;simp[*] at hc;done)))))|((with_reducible refine aM ?_);refine k_b ?_)|fail)
  ·have hn:s.data.toList.all dgB=false:=by
    rw[List.all_eq_false]
    exact⟨d,by rw[← h2];exact List.getElem_mem h1,by simpa using hc⟩
   rw[hn,Bool.and_false]
  ·exact⟨_,_,(show s.size - (j+1)<s.size - j by omega),wkA,j+1,rfl,hlt,by rw[List.take_succ_eq_append_getElem h1,List.all_append,ha,h2];simpa using hc,rfl⟩
 ·obtain rfl:j=s.size:=by omega
  have hall:s.data.toList.all dgB=true:=by rw[hl,List.take_length] at ha;exact ha
  rw[hall,Bool.and_true]
  obtain ⟨c,hd⟩:=xc s 0
  have hq:0<s.size→s.data.toList.getD 0 0=c:=fun h=>by
   rw[List.getD_eq_getElem?_getD,hd (by omega)];rfl
  clear hl ha hall
  repeat'(first|(with_reducible first|apply AW.seq|apply AW.block|apply AW.ret|apply AW.exit|apply aa|apply aE|apply aH|apply y_e|refine ae ?_)|((with_reducible apply ai);refine t_v AS.v ?_)|((with_reducible apply aK);first|refine t_m (hs:=fun hg=>AS.v) (k:=?_)|refine t_m (hs:=fun hg=>(by exact kC)) (k:=?_))|((with_reducible refine aq ?_);((refine ah (fun hc=>?_) (fun hc=>?_);all_goals(try(exfalso;simp[*] at hc;done)))))|((with_reducible refine aM ?_);refine k_b ?_)|fail)
  by_cases h0:0<s.size
  ·rw[hq h0]
   unfold bi
   congr 1
   ·congr 1
    ·rw[decide_eq_decide];omega
    ·rw[decide_eq_decide];omega
   ·congr 1
    rw[decide_eq_decide];omega
  ·have:s.size=0:=by omega
   rw[this];rfl
def rN (src:ByteArray) (k:Nat):V:=match textR (src.data.toList.drop k) with
 | .err c off=>.tup [.c (sI 0),.c (sI c),.c (sI ((k+off:Nat):Int))]
 | .ok _ n=>.tup [.c (sI ((k+n:Nat):Int)),.c (sI 0),.c (sI 0)]
theorem Dh (hk:k<src.size):rN src k=if src.size≤k+1+tw ptB (src.data.toList.drop (k+1)) then .tup [.c (sI 0),.c (sI 5),.c (sI (k:Int))]
 else if ¬ bi ((src.data.toList.drop (k+1)).getD (tw ptB (src.data.toList.drop (k+1))) 0)=34 then .tup [.c (sI 0),.c (sI 9),.c (sI ((k+1+tw ptB (src.data.toList.drop (k+1)):Nat):Int))]
 else if 256<tw ptB (src.data.toList.drop (k+1)) then .tup [.c (sI 0),.c (sI 4),.c (sI (k:Int))]
 else .tup [.c (sI ((k+1+tw ptB (src.data.toList.drop (k+1))+1:Nat):Int)),.c (sI 0),.c (sI 0)]:=by
 have hl:=bc src
 unfold rN textR
 rw[List.drop_drop]
 have h1:(src.data.toList.drop (k+1)).length≤tw ptB (src.data.toList.drop (k+1))↔src.size≤k+1+tw ptB (src.data.toList.drop (k+1)):=by
  rw[List.length_drop,←hl];omega
 by_cases a:src.size≤k+1+tw ptB (src.data.toList.drop (k+1))
 ·rw[if_pos a]
  show(match (if _ then Res.err 5 0 else _) with| .err c off=>_| .ok _ n=>_)=_
  rw[if_pos (h1.2 a)]
  rfl
 ·rw[if_neg a]
  show(match (if _ then Res.err 5 0 else _) with| .err c off=>_| .ok _ n=>_)=_
  rw[if_neg (fun h=>a (h1.1 h))]
  generalize tw ptB (src.data.toList.drop (k+1))=n
  split
  ·rename_i h;split at h
   ·injection h with h2 h3;subst h2 h3;rw[if_pos (by assumption),show k+(1+n)=k+1+n by omega]
   ·split at h
    ·injection h with h2 h3;subst h2 h3;rw[if_neg (by assumption),if_pos (by assumption)];rfl
    ·cases h
  ·rename_i h;split at h
   ·cases h
   ·split at h
    ·cases h
    ·injection h with h2 h3;subst h2 h3;rw[if_neg (by assumption),if_neg (by assumption),show k+(n+2)=k+1+n+1 by omega]
theorem AO (hs:src.size≤65536) (hk:k<src.size):Pure Tryz.prog 122 [.c (sS src),.c (sI (k:Int))] (rN src k):=by
 have hl:=bc src
 obtain ⟨n,hn⟩:∃ n,n=tw ptB (src.data.toList.drop (k+1)):=⟨_,rfl⟩
 have hR:V.ok noN (rN src k)=true:=by unfold rN;split <;> rfl
 have hr:=Dh hk
 rw[← hn] at hr
 generalize rN src k=r at hR hr
 have HR:=Lib.hid hr
 clear hr
 refine fn2 (fn:=Tryz.f122) Tryz.call122 Tryz.func122 rfl Tryz.ntmps122 Tryz.results122 rfl hR ?_
 repeat'(first|(with_reducible first|apply AW.seq|apply AW.block|apply AW.skip|apply AW.ret|apply AW.exit|apply aa|apply ak|apply aE|apply aw|apply aL|apply aH|apply y_e|refine ae ?_)|((with_reducible apply ai);first|refine t_v AS.v ?_|refine t_v (by exact kC) ?_)|((with_reducible apply aK);first|refine t_m (hs:=fun hg=>AS.v) (k:=?_)|refine t_m (hs:=fun hg=>(by exact kC)) (k:=?_))|((with_reducible refine aq ?_);((refine ah (fun hc=>?_) (fun hc=>?_))))|fail)
 refine AW.loop (fun m σ=>∃ j:Nat,m=src.size - j∧k+1≤j∧j≤src.size∧k+1+n=j+tw ptB (src.data.toList.drop j)∧σ=mk [(0,.c (sS src)),(1,.c (sI (k:Int))),(7,.c (sI (j:Int)))] []) (src.size - (k+1)) ?_ ?_
 ·exact⟨_,wkA,k+1,rfl,Nat.le_refl _,hk,by rw[hn],rfl⟩
 rintro m σ ⟨j,rfl,hkj,hj,ht,rfl⟩
 obtain ⟨d,hd⟩:=xc src j
 have HD:=Lib.hid (show(j:Int)<src.size→(ptB d=true→tw ptB (src.data.toList.drop j)=tw ptB (src.data.toList.drop (j+1))+1)∧(ptB d=false→tw ptB (src.data.toList.drop j)=0)∧(j=k+1+n→(src.data.toList.drop (k+1)).getD n 0=d) from fun h=>by
  obtain ⟨h1,h2⟩:=List.getElem?_eq_some_iff.1 (hd h)
  refine⟨fun hp=>rQ ptB _ j h1 (by rw[h2];exact hp),fun hp=>xg ptB _ j h1 (by rw[h2];exact hp),fun e=>?_⟩
  rw[List.getD_eq_getElem?_getD,List.getElem?_drop,←e,hd h];rfl)
 have HE:=Lib.hid (show ¬ (j:Int)<src.size→tw ptB (src.data.toList.drop j)=0 from fun h=>rH ptB _ j (by rw[← hl];omega))
 have HT:=Lib.hid ht
 have hP:ptB d=(decide (32≤(d.toNat:Int))&&decide ((d.toNat:Int)≤126)&& !decide ((d.toNat:Int)=34)):=by
  unfold ptB D4 bi
  rw[Bool.decide_and,Bool.decide_and,Bool.and_assoc]
  simp
 have HP:=Lib.hid hP
 clear ht hn hl hP
 repeat'(first|(with_reducible first|apply AW.seq|apply AW.block|apply AW.skip|apply AW.ret|apply AW.exit|apply aa|apply ak|apply aE|apply aw|apply aL|apply aH|apply y_e|refine ae ?_)|((with_reducible apply ai);first|refine t_v AS.v ?_|refine t_v (by exact kC) ?_)|((with_reducible apply aK);first|refine t_m (hs:=fun hg=>AS.v) (k:=?_)|refine t_m (hs:=fun hg=>(by exact kC)) (k:=?_))|((with_reducible refine aq ?_);((refine ah (fun hc=>?_) (fun hc=>?_))))|fail)
 ·have hc1:=(Bool.and_eq_true _ _).mp hc
  have hj2:=of_decide_eq_true hc1.1
  have h34:¬ (d.toNat:Int)=34:=by simpa using hc1.2
  have hdj:=hd hj2
  clear hc hc1 hd
  repeat'(first|(with_reducible first|apply AW.seq|apply AW.block|apply AW.skip|apply AW.ret|apply AW.exit|apply aa|apply ak|apply aE|apply aw|apply aL|apply aH|apply y_e|refine ae ?_)|((with_reducible apply ai);first|refine t_v AS.v ?_|refine t_v (by exact kC) ?_)|((with_reducible apply aK);first|refine t_m (hs:=fun hg=>AS.v) (k:=?_)|refine t_m (hs:=fun hg=>(by exact kC)) (k:=?_))|((with_reducible refine aq ?_);((refine ah (fun hc=>?_) (fun hc=>?_))))|fail)
  ·have hp:ptB d=false:=by rw[HP.out];simp at hc ⊢;omega
   have ht:=HT.out
   rw[(HD.out hj2).2.1 hp] at ht
   have hn:j=k+1+n:=by omega
   rw[HR.out,if_neg (by omega),if_pos (by rw[(HD.out hj2).2.2 hn];exact h34),←hn]
   exact k_3 rfl rfl rfl
  ·have hp:ptB d=true:=by rw[HP.out];simp at hc ⊢;omega
   have ht:=HT.out
   rw[(HD.out hj2).1 hp] at ht
   exact⟨_,_,(show src.size - (j+1)<src.size - j by omega),wkA,j+1,rfl,by omega,by omega,by omega,rfl⟩
 ·have ht:=HT.out
  have hj3:=of_decide_eq_true hc
  rw[HE.out (by omega)] at ht
  rw[HR.out,if_pos (by omega)]
  exact k_3 rfl rfl rfl
 ·rename_i hc1 hc2
  have hj2:(j:Int)<src.size:=by have:=of_decide_eq_false hc2;omega
  rw[decide_eq_true hj2,Bool.true_and] at hc1
  have h34:(d.toNat:Int)=34:=by simpa using hc1
  have hp:ptB d=false:=by rw[HP.out];simp[h34]
  have ht:=HT.out
  rw[(HD.out hj2).2.1 hp] at ht
  have hn:j=k+1+n:=by omega
  have h256:=of_decide_eq_true hc
  rw[HR.out,if_neg (by omega),if_neg (by rw[(HD.out hj2).2.2 hn];exact fun h=>h h34),if_pos (by omega)]
  exact k_3 rfl rfl rfl
 ·rename_i hc1 hc2
  have hj2:(j:Int)<src.size:=by have:=of_decide_eq_false hc2;omega
  rw[decide_eq_true hj2,Bool.true_and] at hc1
  have h34:(d.toNat:Int)=34:=by simpa using hc1
  have hp:ptB d=false:=by rw[HP.out];simp[h34]
  have ht:=HT.out
  rw[(HD.out hj2).2.1 hp] at ht
  have hn:j=k+1+n:=by omega
  have h256:=of_decide_eq_false hc
  rw[HR.out,if_neg (by omega),if_neg (by rw[(HD.out hj2).2.2 hn];exact fun h=>h h34),if_neg (by omega),←hn]
  exact k_3 rfl rfl rfl
end
end Am
end Go.Proofs.YtkpodagbefnebaaGreatDoor
