import Derived.Test.YtkpodagbefnebaaGreatDoorYf32
import Derived.Test.YtkpodagbefnebaaGreatDoorYf21
import Derived.Test.YtkpodagbefnebaaGreatDoorYf17
import Derived.Test.YtkpodagbefnebaaGreatDoorYf18
import Derived.WalkLawsBesides
set_option linter.unusedSimpArgs false
set_option linter.unusedVariables false
set_option linter.unusedSectionVars false
namespace Go.Proofs.YtkpodagbefnebaaGreatDoor
namespace Am
open Tk Go.RowKit
set_option maxRecDepth 100000
set_option maxHeartbeats 1000000
def mkL:List (List UInt8):=[[123],[125],[40],[41],[59],[58],[44],[46],[45],[126],[42],[33],[61,61],[33,61],[38,38],[124,124],[94]]
theorem Bm (a b:UInt8):mkL.contains [a,b]=marks2.contains [a,b]:=by simp[mkL,marks2]
theorem Ae (a:UInt8):mkL.contains [a]=marks1.contains a:=by simp[mkL,marks1]
theorem E2 (l ws:List UInt8) (h:words [] ws=mkL):gC l ws=mkL.contains l:=by
 unfold gC
 rw[h]
 cases l with
 |nil=>decide
 |cons=>simp
abbrev mkS:ByteArray:=⟨#[123,32,125,32,40,32,41,32,59,32,58,32,44,32,46,32,45,32,126,32,42,32,33,32,61,61,32,33,61,32,38,38,32,124,124,32,94,32]⟩
theorem q9 (s:ByteArray):Pure Tryz.prog 123 [.c (sS s),.c (sS mkS)] (.c (sB (mkL.contains s.data.toList))):=
 Pure.of_calls (vs:=[.string s,.string mkS]) Tryz.call123 (.sc rfl) fun hs w=>(nG s mkS (by decide) w).mono fun e w' h=>⟨by rw[h.1,E2 _ _ (by kernel_rfl)],h.2⟩
section
variable {src:ByteArray} {k:Nat}
theorem B7 {l:List UInt8} {c:UInt8} (h0:l.getD 0 0=c) (hd:dgB c=true) (h9:¬ 9<tw dgB l):vL (l.take (tw dgB l))= !(decide (1<tw dgB l)&&decide (bi c=48)):=by
 have ht:l.take (tw dgB l)=l.takeWhile dgB:=(List.prefix_iff_eq_take.1 (List.takeWhile_prefix dgB)).symm
 have ha:(l.takeWhile dgB).all dgB=true:=List.all_takeWhile
 cases l with
 |nil=>exfalso;have:c=0:=h0.symm;subst this;exact absurd hd (by decide)
 |cons b l=>
  have:b=c:=h0
  subst this
  rw[ht]
  have e:(b :: l).takeWhile dgB=b :: l.takeWhile dgB:=by rw[List.takeWhile_cons,if_pos hd]
  have hn:tw dgB (b :: l)=(l.takeWhile dgB).length+1:=by unfold tw;rw[e];rfl
  unfold vL
  rw[ha,e]
  rw[hn] at h9 ⊢
  simp only[List.isEmpty_cons,Bool.not_false,Bool.true_and,Bool.and_true,List.length_cons,List.getD_cons_zero]
  rw[decide_eq_true (show(l.takeWhile dgB).length+1≤9 by omega),Bool.true_and,Bool.not_and]
  congr 1
  rw[← decide_not,decide_eq_decide];omega
def nQ (src:ByteArray) (k:Nat) (x y:Int):V:=match dY (src.data.toList.drop k) with
 | .err c off=>.tup [.c (sI x),.c (sI y),.c (sI c),.c (sI ((k+off:Nat):Int))]
 | .ok kd n=>.tup [.c (sI kd),.c (sI ((k+n:Nat):Int)),.c (sI 0),.c (sI 0)]
theorem yF (hs:src.size≤65536) {c:UInt8} (hc:src.data.toList[k]? =some c) (hL:eA (bi c)=true):∃ x y,Pure Tryz.prog 60 [.c (sS src),.c (sI (k:Int))] (nQ src k x y):=by
 have p1:=fX c
 have e1:dY (src.data.toList.drop k)=iY (src.data.toList.drop k):=by unfold dY;rw[getD_at hc,if_pos hL]
 have en:=xU (q:=nmB) hs hc (.inl ⟨hL,rfl⟩)
 have hk:=iz hc
 have ht:=rb (k:=k) nmB (Nat.le_of_lt hk)
 rw[hL] at p1
 refine⟨0,0,?_⟩
 unfold nQ
 rw[e1]
 unfold iY
 clear e1
 generalize tw nmB (src.data.toList.drop k)=n at *
 have HC:=Lib.hid hc
 by_cases h32:32<n
 ·rw[if_pos h32]
  dsimp only
  refine fn2 (fn:=Tryz.f60) Tryz.call60 Tryz.func60 rfl Tryz.ntmps60 Tryz.results60 rfl (by rfl) ?_
  repeat'(first|(with_reducible first|apply AW.seq|apply AW.block|apply AW.skip|apply AW.ret|apply aa|apply ak|apply aL|apply y_e|refine ae ?_)|((with_reducible apply ai);first|refine t_v AS.v ?_|refine t_v (by first|exact aj (hP:=p1)|exact aj (hP:=en)) ?_)|((with_reducible refine aq ?_);first|refine aI ?_|(refine ah (fun hc=>?_) (fun hc=>?_);all_goals(try(exfalso;revert hc;simp;omega))))|((with_reducible refine aM ?_);(((refine k_4 ?_ ?_ ?_ ?_);all_goals(with_reducible (apply eB)))))|fail)
  all_goals rfl
 ·rw[if_neg h32]
  dsimp only
  refine fn2 (fn:=Tryz.f60) Tryz.call60 Tryz.func60 rfl Tryz.ntmps60 Tryz.results60 rfl (by rfl) ?_
  repeat'(first|(with_reducible first|apply AW.seq|apply AW.block|apply AW.skip|apply AW.ret|apply aa|apply ak|apply aL|apply y_e|refine ae ?_)|((with_reducible apply ai);first|refine t_v AS.v ?_|refine t_v (by first|exact aj (hP:=p1)|exact aj (hP:=en)) ?_)|((with_reducible refine aq ?_);first|refine aI ?_|(refine ah (fun hc=>?_) (fun hc=>?_);all_goals(try(exfalso;revert hc;simp;omega))))|((with_reducible refine aM ?_);(((refine k_4 ?_ ?_ ?_ ?_);all_goals(with_reducible (apply eB)))))|fail)
  all_goals rfl
theorem one_num (hs:src.size≤65536) {c:UInt8} (hc:src.data.toList[k]? =some c) (hL:eA (bi c)=false) (hD:dgB c=true):∃ x y,Pure Tryz.prog 60 [.c (sS src),.c (sI (k:Int))] (nQ src k x y):=by
 have p1:=fX c
 have p2:=j7 c
 have e1:dY (src.data.toList.drop k)=mx (src.data.toList.drop k):=by unfold dY;rw[getD_at hc,if_neg (by rw[hL];decide),if_pos (show eP (bi c)=true from hD)]
 have en:=xU (q:=dgB) hs hc (.inr ⟨hL,rfl⟩)
 have hk:=iz hc
 have ht:=rb (k:=k) dgB (Nat.le_of_lt hk)
 have nb:=fun h=>B7 (l:=src.data.toList.drop k) (getD_at hc) hD h
 have nu:=uV (src.extract k (k+tw dgB (src.data.toList.drop k))) (by rw[ByteArray.size_extract];omega)
 rw[bP _ _ _ ht,Nat.add_sub_cancel_left] at nu
 rw[hL] at p1
 rw[hD] at p2
 refine⟨0,0,?_⟩
 unfold nQ
 rw[e1]
 unfold mx
 rw[getD_at hc]
 clear e1
 generalize vL ((src.data.toList.drop k).take (tw dgB (src.data.toList.drop k)))=v at *
 generalize tw dgB (src.data.toList.drop k)=n at *
 by_cases h9:9<n
 ·rw[if_pos h9]
  dsimp only
  clear nb
  refine fn2 (fn:=Tryz.f60) Tryz.call60 Tryz.func60 rfl Tryz.ntmps60 Tryz.results60 rfl (by rfl) ?_
  repeat'(first|(with_reducible first|apply AW.seq|apply AW.block|apply AW.ret|apply aa|apply ak|apply aL|apply y_e|refine ae ?_)|((with_reducible apply ai);first|refine t_v AS.v ?_|refine t_v (by first|exact aj (hP:=p1)|exact aj (hP:=p2)|exact aj (hP:=en)) ?_)|((with_reducible refine aq ?_);first|refine aI ?_|refine aJ ?_|(refine ah (fun hc=>?_) (fun hc=>?_);all_goals(try(exfalso;revert hc;simp;omega))))|((with_reducible refine aM ?_);(((refine k_4 ?_ ?_ ?_ ?_);all_goals(with_reducible (apply eB)))))|fail)
  all_goals rfl
 ·rw[if_neg h9]
  have nb:=nb h9
  subst nb
  by_cases h1:1<n∧bi c=48
  ·rw[if_pos h1]
   rw[decide_eq_true h1.1,decide_eq_true h1.2] at nu
   dsimp only
   refine fn2 (fn:=Tryz.f60) Tryz.call60 Tryz.func60 rfl Tryz.ntmps60 Tryz.results60 rfl (by rfl) ?_
   repeat'(first|(with_reducible first|apply AW.seq|apply AW.block|apply AW.skip|apply AW.ret|apply aa|apply ak|apply aL|apply y_e|refine ae ?_)|((with_reducible apply ai);first|refine t_v AS.v ?_|refine t_v (by first|exact aj (hP:=p1)|exact aj (hP:=p2)|exact aj (hP:=en)|exact aj (hP:=nu)) ?_)|((with_reducible refine aq ?_);first|refine aI ?_|refine aJ ?_|(refine ah (fun hc=>?_) (fun hc=>?_);all_goals(try(exfalso;revert hc;simp;omega))))|((with_reducible refine aM ?_);(((refine k_4 ?_ ?_ ?_ ?_);all_goals(with_reducible (apply eB)))))|fail)
   all_goals rfl
  ·rw[if_neg h1]
   rw[← Bool.decide_and,decide_eq_false h1] at nu
   dsimp only
   refine fn2 (fn:=Tryz.f60) Tryz.call60 Tryz.func60 rfl Tryz.ntmps60 Tryz.results60 rfl (by rfl) ?_
   repeat'(first|(with_reducible first|apply AW.seq|apply AW.block|apply AW.skip|apply AW.ret|apply aa|apply ak|apply aL|apply y_e|refine ae ?_)|((with_reducible apply ai);first|refine t_v AS.v ?_|refine t_v (by first|exact aj (hP:=p1)|exact aj (hP:=p2)|exact aj (hP:=en)|exact aj (hP:=nu)) ?_)|((with_reducible refine aq ?_);first|refine aI ?_|refine aJ ?_|(refine ah (fun hc=>?_) (fun hc=>?_);all_goals(try(exfalso;revert hc;simp;omega))))|((with_reducible refine aM ?_);(((refine k_4 ?_ ?_ ?_ ?_);all_goals(with_reducible (apply eB)))))|fail)
   all_goals rfl
theorem xO (hs:src.size≤65536) {c:UInt8} (hc:src.data.toList[k]? =some c) (hL:eA (bi c)=false) (hD:dgB c=false) (hq:bi c=34):∃ x y,Pure Tryz.prog 60 [.c (sS src),.c (sI (k:Int))] (nQ src k x y):=by
 have p1:=fX c
 have p2:=j7 c
 have e1:dY (src.data.toList.drop k)=textR (src.data.toList.drop k):=by unfold dY;rw[getD_at hc,if_neg (by rw[hL];decide),if_neg (by show ¬ dgB c=true;rw[hD];decide),if_pos hq]
 have tx:=AO hs (iz hc)
 rw[hL] at p1
 rw[hD] at p2
 refine⟨3,0,?_⟩
 unfold nQ
 rw[e1]
 unfold rN at tx
 have hk3:∀ kd n,textR (src.data.toList.drop k)= .ok kd n→kd=3:=fun kd n h=>by
  unfold textR at h
  split at h
  ·cases h
  ·split at h
   ·cases h
   ·split at h
    ·cases h
    ·injection h with h _;exact h.symm
 have hq:(c.toNat:Int)=34:=hq
 cases hT:textR (src.data.toList.drop k) with
 |err e off=>
  rw[hT] at tx
  dsimp only at tx ⊢
  clear hT e1 hk3
  refine fn2 (fn:=Tryz.f60) Tryz.call60 Tryz.func60 rfl Tryz.ntmps60 Tryz.results60 rfl (by rfl) ?_
  repeat'(first|(with_reducible first|apply AW.seq|apply AW.block|apply AW.ret|apply aa|apply ak|apply aL|apply y_e|refine ae ?_)|((with_reducible apply ai);first|refine t_v AS.v ?_|refine t_v (by first|exact aj (hP:=p1)|exact aj (hP:=p2)|exact aj (hP:=tx)) ?_)|((with_reducible refine aq ?_);first|refine aJ ?_|(refine ah (fun hc=>?_) (fun hc=>?_);all_goals(try(exfalso;simp[*] at hc;done))))|((with_reducible refine aM ?_);(((refine k_4 ?_ ?_ ?_ ?_);all_goals(with_reducible (apply eB)))))|fail)
  all_goals first|rfl|omega
 |ok kd n=>
  rw[hT] at tx
  obtain rfl:=hk3 kd n hT
  dsimp only at tx ⊢
  clear hT e1 hk3
  refine fn2 (fn:=Tryz.f60) Tryz.call60 Tryz.func60 rfl Tryz.ntmps60 Tryz.results60 rfl (by rfl) ?_
  repeat'(first|(with_reducible first|apply AW.seq|apply AW.block|apply AW.ret|apply aa|apply ak|apply aL|apply y_e|refine ae ?_)|((with_reducible apply ai);first|refine t_v AS.v ?_|refine t_v (by first|exact aj (hP:=p1)|exact aj (hP:=p2)|exact aj (hP:=tx)) ?_)|((with_reducible refine aq ?_);first|refine aJ ?_|(refine ah (fun hc=>?_) (fun hc=>?_);all_goals(try(exfalso;simp[*] at hc;done))))|((with_reducible refine aM ?_);(((refine k_4 ?_ ?_ ?_ ?_);all_goals(with_reducible (apply eB)))))|fail)
  all_goals rfl
theorem xe (h:¬ k+2≤src.size):marks2.contains ((src.data.toList.drop k).take 2)=false:=by
 have hl:((src.data.toList.drop k).take 2).length≤1:=by rw[List.length_take,List.length_drop,←bc];omega
 generalize (src.data.toList.drop k).take 2=l at hl
 match l,hl with
 |[],_=>rfl
 |[a],_=>simp[marks2]
theorem xH (hs:src.size≤65536) {c:UInt8} (hc:src.data.toList[k]? =some c) (hL:eA (bi c)=false) (hD:dgB c=false) (hq:¬ bi c=34):∃ x y,Pure Tryz.prog 60 [.c (sS src),.c (sI (k:Int))] (nQ src k x y):=by
 have p1:=fX c
 have p2:=j7 c
 have hk:=iz hc
 have e1:dY (src.data.toList.drop k)=iW (src.data.toList.drop k):=by unfold dY;rw[getD_at hc,if_neg (by rw[hL];decide),if_neg (by show ¬ dgB c=true;rw[hD];decide),if_neg hq]
 obtain ⟨h1,h2⟩:=List.getElem?_eq_some_iff.1 hc
 have hdr:src.data.toList.drop k=c :: src.data.toList.drop (k+1):=by rw[List.drop_eq_getElem_cons h1,h2]
 have w1:=q9 (src.extract k (k+1))
 rw[bP _ _ _ (show k+1≤src.size from hk),Nat.add_sub_cancel_left,hdr,show(c :: src.data.toList.drop (k+1)).take 1=[c] from rfl,Ae] at w1
 have w2:k+2≤src.size→Pure Tryz.prog 123 [.c (sS (src.extract k (k+2))),.c (sS mkS)] (.c (sB (marks2.contains ((src.data.toList.drop k).take 2)))):=fun h=>by
  have w:=q9 (src.extract k (k+2))
  rw[bP _ _ _ h,Nat.add_sub_cancel_left] at w
  have hk1:k+1<src.data.toList.length:=by rw[← bc];omega
  rw[hdr,List.drop_eq_getElem_cons hk1] at w ⊢
  rw[show ∀ a b (l:List UInt8),(a :: b :: l).take 2=[a,b] from fun _ _ _=>rfl] at w ⊢
  rwa [Bm] at w
 have hm:dN (src.data.toList.drop k)=if marks2.contains ((src.data.toList.drop k).take 2)=true then 2 else if marks1.contains c=true then 1 else 0:=by unfold dN;rw[hdr]
 have sh:=xe (src:=src) (k:=k)
 rw[hL] at p1
 rw[hD] at p2
 refine⟨0,0,?_⟩
 unfold nQ
 rw[e1]
 unfold iW
 rw[hm]
 clear e1 hm hdr h1 h2
 generalize marks2.contains ((src.data.toList.drop k).take 2)=b2 at *
 generalize marks1.contains c=b1 at *
 have hq:¬ (c.toNat:Int)=34:=hq
 obtain ⟨r,hr⟩:∃ r:V,r=if b2=true then .tup [.c (sI 4),.c (sI ((k+2:Nat):Int)),.c (sI 0),.c (sI 0)] else if b1=true then .tup [.c (sI 4),.c (sI ((k+1:Nat):Int)),.c (sI 0),.c (sI 0)] else .tup [.c (sI 0),.c (sI 0),.c (sI 9),.c (sI (k:Int))]:=⟨_,rfl⟩
 have hR:V.ok noN r=true:=by rw[hr];split <;> (try split) <;> rfl
 have e:(match (if(if b2=true then 2 else if b1=true then 1 else 0)=0 then Res.err 9 0 else Res.ok 4 (if b2=true then 2 else if b1=true then 1 else 0)) with
  | .err c off=>(.tup [.c (sI 0),.c (sI 0),.c (sI c),.c (sI ((k+off:Nat):Int))]:V)
  | .ok kd n=>.tup [.c (sI kd),.c (sI ((k+n:Nat):Int)),.c (sI 0),.c (sI 0)])=r:=by
  rw[hr]
  cases b2 <;> cases b1 <;> rfl
 rw[e]
 clear e
 refine fn2 (fn:=Tryz.f60) Tryz.call60 Tryz.func60 rfl Tryz.ntmps60 Tryz.results60 rfl hR ?_
 repeat'(first|(with_reducible first|apply AW.seq|apply AW.block|apply AW.skip|apply aa|apply aw|apply y_e|refine ae ?_)|((with_reducible apply ai);first|refine t_v AS.v ?_|refine t_v (by first|exact aj (hP:=p1)|exact aj (hP:=p2)) ?_)|((with_reducible refine aq ?_);first|refine aJ ?_|(refine ah (fun hc=>?_) (fun hc=>?_);all_goals(try(exfalso;simp[*] at hc;done))))|fail)
 refine AW.loop (fun z σ=>∃ m:Nat,z=m∧m≤2∧(m<2→b2=false)∧(m<1→b1=false)∧σ=mk [(0,.c (sS src)),(1,.c (sI (k:Int))),(14,.c (sI (m:Int)))] []) 2 ?_ ?_
 ·exact⟨_,wkA,2,rfl,Nat.le_refl _,fun h=>absurd h (by decide),fun h=>absurd h (by decide),rfl⟩
 rintro z σ ⟨m,rfl,hm2,hb2,hb1,rfl⟩
 clear hc p1 p2
 rcases (by omega:z=0∨z=1∨z=2) with rfl|rfl|rfl
 ·have hb2:=hb2 (by decide)
  have hb1:=hb1 (by decide)
  subst hb2 hb1
  repeat'(first|(with_reducible first|apply AW.seq|apply AW.block|apply AW.skip|apply AW.ret|apply AW.exit|apply aa|apply aE|apply aw|apply aH|apply y_e|refine ae ?_)|((with_reducible apply ai);refine t_v AS.v ?_)|((with_reducible apply aK);refine t_f ?_)|((with_reducible refine aq ?_);first|refine aI ?_|refine aJ ?_)|fail)
  rw[hr,if_neg (by decide),if_neg (by decide)]
  exact k_4 rfl rfl rfl rfl
 ·have hb2:=hb2 (by decide)
  subst hb2
  clear w2
  repeat'(first|(with_reducible first|apply AW.seq|apply AW.block|apply AW.skip|apply AW.ret|apply aa|apply ak|apply aw|apply aL|apply y_e|refine ae ?_)|((with_reducible apply ai);refine t_v AS.v ?_)|((with_reducible apply aK);first|refine t_m (hs:=fun hg=>AS.v) (k:=?_)|refine t_m (hs:=fun hg=>(by exact aj (hP:=w1))) (k:=?_))|((with_reducible refine aq ?_);first|refine aI ?_|(refine ah (fun hc=>?_) (fun hc=>?_)))|fail)
  ·have h:=((Bool.and_eq_true _ _).mp hc).2
   rw[hr,if_neg (by decide),if_pos h]
   exact k_4 rfl rfl rfl rfl
  ·rw[decide_eq_true (show(k:Int)+((1:Nat):Int)≤src.size by omega),Bool.true_and] at hc
   exact⟨0,_,by decide,wkA,0,rfl,by decide,fun _=>rfl,fun _=>hc,rfl⟩
 ·by_cases h2:k+2≤src.size
  ·have w2:=w2 h2
   repeat'(first|(with_reducible first|apply AW.seq|apply AW.block|apply AW.skip|apply AW.ret|apply aa|apply ak|apply aw|apply aL|apply y_e|refine ae ?_)|((with_reducible apply ai);refine t_v AS.v ?_)|((with_reducible apply aK);first|refine t_m (hs:=fun hg=>AS.v) (k:=?_)|refine t_m (hs:=fun hg=>(by exact aj (hP:=w2))) (k:=?_))|((with_reducible refine aq ?_);first|refine aI ?_|(refine ah (fun hc=>?_) (fun hc=>?_)))|fail)
   ·have h:=((Bool.and_eq_true _ _).mp hc).2
    rw[hr,if_pos h]
    exact k_4 rfl rfl rfl rfl
   ·rw[decide_eq_true (show(k:Int)+((2:Nat):Int)≤src.size by omega),Bool.true_and] at hc
    exact⟨1,_,by decide,wkA,1,rfl,by decide,fun _=>hc,fun h=>absurd h (by decide),rfl⟩
  ·have hb:=sh h2
   subst hb
   have hI:¬ ((k:Int)+2≤src.size):=by omega
   repeat'(first|(with_reducible first|apply AW.seq|apply AW.block|apply AW.skip|apply AW.ret|apply AW.exit|apply aa|apply aE|apply aw|apply aH|apply y_e|refine ae ?_)|((with_reducible apply ai);refine t_v AS.v ?_)|((with_reducible apply aK);refine t_f ?_)|((with_reducible refine aq ?_);first|refine aI ?_|refine aJ ?_)|fail)
   exact⟨1,_,by decide,wkA,1,rfl,by decide,fun _=>rfl,fun h=>absurd h (by decide),rfl⟩
theorem CS (hs:src.size≤65536) (hk:k<src.size):∃ x y,Pure Tryz.prog 60 [.c (sS src),.c (sI (k:Int))] (nQ src k x y):=by
 obtain ⟨c,hc⟩:=get_at hk
 cases hL:eA (bi c) with
 |true=>exact yF hs hc hL
 |false=>
  cases hD:dgB c with
  |true=>exact one_num hs hc hL hD
  |false=>
   by_cases hq:bi c=34
   ·exact xO hs hc hL hD hq
   ·exact xH hs hc hL hD hq
end
end Am
namespace Am
open Tk Go.RowKit
set_option maxRecDepth 100000
set_option maxHeartbeats 2000000
section
variable {ρ:Operand→Option V} {H:Nat→Option HO} {d:Option Nat} {ty:TypeId} {pos:String} {af:Array Edge} {gu:Option (Nat×Bool)} {x lo hi:Operand}
theorem xq {s:ByteArray} {j n:Nat} (hx:Ev ρ x (.c (.sc (.string s))):=by exact .pl rfl) (hlo:Ev ρ lo (.c (.sc (.int .i64 ((j:Int)+1)))):=by exact .pl rfl) (hhi:Ev ρ hi (.c (.sc (.int .i64 (((j+n:Nat):Int) - 1)))):=by exact .pl rfl) (h2:2≤n:=by assumption) (hn:n≤s.size - j:=by assumption) (hs:s.size≤65536:=by assumption):AS Tryz.prog ρ H ⟨d,.slice 9 x (some lo) (some hi) none,ty,pos,af,gu⟩ ⟨.c (.sc (.string (s.extract (j+1) (j+n - 1)))),[],[]⟩:=
 qz (i:=j+1) (j:=j+n - 1) hx hlo hhi rfl (by omega) (by omega) (by omega) (by omega)
end
theorem uO {l:List UInt8} {c:Int} {off:Nat} (h:dY l= .err c off):off≤l.length:=by
 unfold dY at h
 split at h
 ·unfold iY at h;split at h
  ·injection h with _ h;omega
  ·cases h
 ·split at h
  ·unfold mx at h;split at h
   ·injection h with _ h;omega
   ·split at h
    ·injection h with _ h;omega
    ·cases h
  ·split at h
   ·unfold textR at h;split at h
    ·injection h with _ h;omega
    ·rename_i h1
     rw[List.length_drop] at h1
     split at h
     ·injection h with _ h;omega
     ·split at h
      ·injection h with _ h;omega
      ·cases h
   ·unfold iW at h;split at h
    ·injection h with _ h;omega
    ·cases h
theorem DC {l:List UInt8} {n:Nat} (h:dY l= .ok 3 n):2≤n:=by
 unfold dY at h
 split at h
 ·unfold iY at h;split at h
  ·cases h
  ·injection h with h _;exact absurd h (by decide)
 ·split at h
  ·unfold mx at h;split at h
   ·cases h
   ·split at h
    ·cases h
    ·injection h with h _;exact absurd h (by decide)
  ·split at h
   ·unfold textR at h;split at h
    ·cases h
    ·split at h
     ·cases h
     ·split at h
      ·cases h
      ·injection h with _ h;omega
   ·unfold iW at h;split at h
    ·cases h
    ·injection h with h _;exact absurd h (by decide)
theorem zU (src:ByteArray):Pure Tryz.prog 18 [.c (sS src)] (vb (dL src)):=by
 by_cases hs:65536<src.size
 ·have e:dL src= .error (fl0 4 ⟨0,0⟩):=if_pos hs
  rw[e]
  clear e
  show Pure _ _ _ (.tup [.c .nil,.agg (faC (fl0 4 ⟨0,0⟩))])
  refine fn1 (fn:=Tryz.f18) Tryz.call18 Tryz.func18 rfl Tryz.ntmps18 Tryz.results18 rfl (by rfl) ?_
  refine AW.fact (t:=0) rfl (fun κ w x hr=>jO hr) fun hn=>?_
  have hI:(65536:Int)<src.size:=by omega
  repeat'(first|(with_reducible first|apply AW.seq|apply AW.ret|apply aa|apply ak|apply y_e|refine ae ?_)|((with_reducible apply ai);first|refine t_v AS.v ?_|refine t_w AS.w ?_)|((with_reducible apply ay);refine t_s AS.s ?_)|((with_reducible refine aq ?_);((refine ah (fun hc=>?_) (fun hc=>?_);all_goals(try(exfalso;simp[*] at hc;done)))))|fail)
  exact nO rfl (eM _)
 ·have e:dL src=gw src (src.size+1) 0:=if_neg hs
  rw[e]
  clear e
  have hs:src.size≤65536:=by omega
  generalize hsp:gw src (src.size+1) 0=sp
  have hR:V.ok noN (vb sp)=true:=by cases sp <;> simp[vb,V.ok,okV,okA,C.ok]
  have HSP:=Lib.hid hsp
  clear hsp
  have sk0:=tY (k:=0) hs (Nat.zero_le _)
  refine fn1 (fn:=Tryz.f18) Tryz.call18 Tryz.func18 rfl Tryz.ntmps18 Tryz.results18 rfl hR ?_
  have hI:¬ (65536:Int)<src.size:=by omega
  repeat'(first|(with_reducible first|apply AW.seq|apply AW.block|apply AW.skip|apply aa|apply y_e|refine ae ?_)|((with_reducible apply ai);first|refine t_v AS.v ?_|refine t_v (by exact aj (hP:=sk0)) ?_|refine t_w AS.w ?_)|((with_reducible refine aq ?_);((refine ah (fun hc=>?_) (fun hc=>?_);all_goals(try(exfalso;simp[*] at hc;done)))))|fail)
  refine ks tkC 4 1002 99 4 rfl rfl ?_
  refine AW.loop (fun m σ=>∃ (k:Nat) (acc:List Tok),k≤src.size∧acc.length≤k∧src.size<k+m∧Hid ((gw src m k>>=fun ts=>.ok (acc++ts))=sp)∧σ=mk [(4,.c (.lst (some 1002) 4 (acc.map tkC))),(5,.c (sI ((k+skipL false (src.data.toList.drop k):Nat):Int))),(3,.c (.ptr 3 0)),(2,.c .nil),(0,.c (sS src))] [(1002,.row 99 4 acc.length),(3,.obj 30 (faC Fa.zero))]) (src.size+1) ?_ ?_
  ·exact⟨_,wkA,0,[],Nat.zero_le _,Nat.zero_le _,by omega,Lib.hid (by rw[HSP.out];cases sp <;> rfl),rfl⟩
  clear HSP sk0
  rintro m σ ⟨k,acc,hk,ha,hm,HS,rfl⟩
  have hSK:=Tk.skipL_le false (src.data.toList.drop k)
  rw[List.length_drop,←bc] at hSK
  obtain ⟨m,rfl⟩:∃ n,m=n+1:=⟨m - 1,by omega⟩
  have hsp:=HS.out
  clear HS
  rw[gw] at hsp
  generalize hj:k+skipL false (src.data.toList.drop k)=j at *
  have hj2:k≤j∧j≤src.size:=by omega
  clear hSK hj
  by_cases hlt:src.size≤j
  ·have ej:j=src.size:=by omega
   subst ej
   rw[if_pos (Nat.le_refl _),ag] at hsp
   subst hsp
   have lo:=sA (k:=src.size) hs (Nat.le_refl _)
   repeat'(first|(with_reducible first|apply AW.seq|apply AW.ret|apply AW.exit|apply aa|apply aE|apply aH|apply y_e|refine ae ?_)|((with_reducible apply ai);first|refine t_v AS.v ?_|refine t_v (by exact aj (hP:=lo)) ?_|refine t_w AS.w ?_)|((with_reducible apply ay);refine t_s AS.s ?_)|((with_reducible refine aq ?_);((refine ah (fun hc=>?_) (fun hc=>?_);all_goals(try(exfalso;simp[*] at hc;done)))))|fail)
   exact nO (C9 _ _) (eM _)
  ·rw[if_neg hlt] at hsp
   obtain ⟨x,y,one⟩:=CS (k:=j) hs (by omega)
   unfold nQ at one
   cases ho:dY (src.data.toList.drop j) with
   |err c off=>
    rw[ho] at hsp one
    have hsp:(.error (fl0 c (bG src.data.toList (j+off))):Except Fa (List Tok))=sp:=hsp
    subst hsp
    dsimp only at one
    have h0:=l8 ho
    have lo:=sA (k:=j+off) hs (by have:=uO ho;rw[List.length_drop,←bc] at this;omega)
    clear ho
    repeat'(first|(with_reducible first|apply AW.seq|apply AW.block|apply AW.skip|apply AW.ret|apply aa|apply ak|apply aL|apply y_e|refine ae ?_)|((with_reducible apply ai);first|refine t_v AS.v ?_|refine t_v (by first|exact aj (hP:=one)|exact aj (hP:=lo)) ?_)|((with_reducible apply ay);refine t_s AS.s ?_)|((with_reducible refine aq ?_);((refine ah (fun hc=>?_) (fun hc=>?_);all_goals(try(exfalso;simp[*] at hc;done)))))|fail)
    exact nO rfl (eM _)
   |ok kd n=>
    rw[ho] at hsp one
    simp only[yd] at hsp
    dsimp only at one
    obtain ⟨h1,h2⟩:=lL _ _ _ (by rw[List.length_drop,←bc];omega) ho
    rw[List.length_drop,←bc] at h2
    have lo:=sA (k:=j) hs (by omega)
    have sk:=tY (k:=j+n) hs (by omega)
    by_cases hk3:kd=3
    ·subst hk3
     have hq:=DC ho
     rw[show qT src j 3 n=src.extract (j+1) (j+n - 1) from if_pos rfl] at hsp
     have HS:=Lib.hid hsp
     clear ho hsp
     repeat'(first|(with_reducible first|apply AW.seq|apply AW.block|apply AW.skip|apply aa|apply aw|apply y_e|refine ae ?_|refine b7 ?_)|((with_reducible apply ai);first|refine t_v AS.v ?_|refine t_v (by first|exact aj (hP:=one)|exact aj (hP:=lo)|exact aj (hP:=sk)|exact xq) ?_|refine t_w AS.w ?_)|((with_reducible apply ay);refine t_s AS.s ?_)|((with_reducible refine aq ?_);first|refine aI ?_|refine aJ ?_|(refine ah (fun hc=>?_) (fun hc=>?_);all_goals(try(exfalso;simp[*] at hc;done))))|(refine⟨by decide +kernel,?_⟩)|fail)
     exact⟨m,_,Nat.lt_succ_self m,wkA,j+n,acc++[⟨3,src.extract (j+1) (j+n - 1),bG src.data.toList j⟩],by omega,by simp;omega,by omega,HS,rfl⟩
    ·rw[show qT src j kd n=src.extract j (j+n) from if_neg hk3] at hsp
     have HS:=Lib.hid hsp
     clear ho hsp
     repeat'(first|(with_reducible first|apply AW.seq|apply AW.block|apply AW.skip|apply aa|apply aw|apply y_e|refine ae ?_|refine b7 ?_)|((with_reducible apply ai);first|refine t_v AS.v ?_|refine t_v (by first|exact aj (hP:=one)|exact aj (hP:=lo)|exact aj (hP:=sk)|exact xq) ?_|refine t_w AS.w ?_)|((with_reducible apply ay);refine t_s AS.s ?_)|((with_reducible refine aq ?_);first|refine aI ?_|refine aJ ?_|(refine ah (fun hc=>?_) (fun hc=>?_);all_goals(try(exfalso;simp[*] at hc;done))))|(refine⟨by decide +kernel,?_⟩)|fail)
     exact⟨m,_,Nat.lt_succ_self m,wkA,j+n,acc++[⟨kd,src.extract j (j+n),bG src.data.toList j⟩],by omega,by simp;omega,by omega,HS,rfl⟩
end Am
namespace Am
open Tk Go.RowKit
set_option maxRecDepth 100000
set_option maxHeartbeats 4000000
section
variable {ρ:Operand→Option V} {H:Nat→Option HO} {d:Option Nat} {ty:TypeId} {pos:String} {af:Array Edge} {gu:Option (Nat×Bool)} {x:Operand}
theorem uc {T:TypeId} {u:Value} (hx:Ev ρ x (.c (.sc (.iface T u))):=by exact .pl rfl) (hy:Ev ρ (.const .nilIface) (.c (.sc .nilIface)):=by exact .pl rfl):AS Tryz.prog ρ H ⟨d,.binOp .neq 20 x (.const .nilIface) 20,ty,pos,af,gu⟩ ⟨.c (sB true),[],[]⟩:=by
 refine .still (x:=.bool true) (fun r hr w=>?_) fun _=>.sc rfl
 have h1:=hr x (by simp[Op.operands]) _ _ hx .sc
 have h2:=hr (.const .nilIface) (by simp[Op.operands]) (.c (.sc .nilIface)) _ hy .sc
 have hb:(binOp BinOp.neq 20 (.iface T u) Value.nilIface).run Tryz.prog w= .ok (.bool true) w:=by kernel_rfl
 unfold execOp
 simp[h1,h2,eqGuard,hb]
theorem Cp (hx:Ev ρ x (.c (.sc .nilIface)):=by exact .pl rfl) (hy:Ev ρ (.const .nilIface) (.c (.sc .nilIface)):=by exact .pl rfl):AS Tryz.prog ρ H ⟨d,.binOp .neq 20 x (.const .nilIface) 20,ty,pos,af,gu⟩ ⟨.c (sB false),[],[]⟩:=by
 refine .still (x:=.bool false) (fun r hr w=>?_) fun _=>.sc rfl
 have h1:=hr x (by simp[Op.operands]) _ _ hx .sc
 have h2:=hr (.const .nilIface) (by simp[Op.operands]) (.c (.sc .nilIface)) _ hy .sc
 have hb:(binOp BinOp.neq 20 .nilIface Value.nilIface).run Tryz.prog w= .ok (.bool false) w:=by kernel_rfl
 unfold execOp
 simp[h1,h2,eqGuard,hb]
theorem El {f:Fa} (hx:Ev ρ x (.c (.sc (pvF 158 f))):=by exact .pl rfl) (hs:(f.name.size≤9223372036854775807):=by assumption):AS Tryz.prog ρ H ⟨d,.typeAssert x 20 158 true,ty,pos,af,gu⟩ ⟨.tup [.agg (faC f),.c (sB true)],[],[]⟩:=
 qj (us:=[.int .i64 f.code,.int .i64 f.pos.line,.int .i64 f.pos.col,.string f.name]) hx (by simp[iV,hs]) (fun w=>by kernel_rfl)
end
abbrev tkB (x:Ex) (n:Int) (f:Fa):List (Nat×HO):=[(2002,.obj 49 (exC x)),(2003,.obj 3 [sI n]),(2004,.obj 30 (faC f))]
theorem qY (x:Ex) (n:Int) (f g:Fa) (hs:f.name.size≤9223372036854775807):MD Tryz.prog 147 [2002,2003,2004] (look (tkB x n g)) (.panicking [{v:=pvF 158 f,recovered:=false}]) (.panicking [{v:=pvF 158 f,recovered:=true}]) (look (tkB Ex.zero 0 f)):=by
 refine MD.of (fn:=Tryz.f147) (t:=6) (s:=3) (.inl ⟨rfl,rfl⟩) Tryz.func147 rfl Tryz.ntmps147 (fun _ _=>rfl) rfl rfl (fun _ _=>rfl) rfl rfl (by decide) (by decide) (by decide) rfl rfl (by simp[iV,hs]) ?_
 repeat'(first|(with_reducible first|apply AW.seq|apply AW.skip|apply aa|apply y_e|refine ae ?_|refine b7 ?_)|((with_reducible apply ai);first|refine t_v uc ?_|refine t_v El ?_|refine t_v AS.v ?_|refine t_w AS.w ?_)|((with_reducible apply ay);refine t_s AS.s ?_)|((with_reducible refine aq ?_);first|refine aI ?_|refine aJ ?_)|(refine⟨by decide +kernel,?_⟩)|fail)
 all_goals(refine⟨.inr rfl,fun n hn=>?_⟩;simp only[List.mem_cons,List.not_mem_nil,or_false] at hn;rcases hn with rfl|rfl|rfl <;> rfl)
theorem yi (x:Ex) (n:Int) (g:Fa):MD Tryz.prog 147 [2002,2003,2004] (look (tkB x n g)) .returning .returning (look (tkB x n g)):=by
 refine MD.of (fn:=Tryz.f147) (t:=6) (s:=3) (older:=[]) (.inr ⟨rfl,rfl,rfl⟩) Tryz.func147 rfl Tryz.ntmps147 (fun _ _=>rfl) rfl rfl (fun _ _=>rfl) rfl rfl (by decide) (by decide) (by decide) rfl rfl rfl ?_
 repeat'(first|(with_reducible first|apply AW.seq|apply AW.skip|apply aa|apply y_e|refine ae ?_)|((with_reducible apply ai);first|refine t_v Cp ?_|refine t_v AS.v ?_)|((with_reducible refine aq ?_);refine aJ ?_)|fail)
 all_goals(refine⟨.inr rfl,fun n hn=>?_⟩;simp only[List.mem_cons,List.not_mem_nil,or_false] at hn;rcases hn with rfl|rfl|rfl <;> rfl)
theorem pJ {x:Ex} {n:Int} {f:Fa} {h:List (Nat×HO)} (e:∀ m∈[2002,2003,2004],look h m=look (tkB x n f) m):∀ m∈[2002,2003,2004],∃ ob,look h m=some ob∧dU ob=true∧look (tkB x n f) m=some ob:=fun m hn=>by
 rw[e m hn]
 simp only[List.mem_cons,List.not_mem_nil,or_false] at hn
 rcases hn with rfl|rfl|rfl
 ·exact⟨_,rfl,by simp[dU,okA],rfl⟩
 ·exact⟨_,rfl,rfl,rfl⟩
 ·exact⟨_,rfl,by simp[dU,okA],rfl⟩
theorem sy {x:Ex} {n:Int} {f:Fa}:∀ m∈[2002,2003,2004],∃ ob,look (tkB x n f) m=some ob∧dU ob=true:=fun m hm=>by
 obtain ⟨ob,h1,h2,_⟩:=pJ (x:=x) (n:=n) (f:=f) (fun n hn=>rfl) m hm
 exact⟨ob,h1,h2⟩
theorem yz (ts:List Tok) (hl:ts.length≤4294967296):Pure Tryz.prog 78 [.c (.lst none 4 (ts.map tkC))] (rC (tksK ts)):=by
 have hb:=(xP hl (8*ts.length+16) (8*ts.length+16) (Nat.le_refl _)).bi 1 0 0 (by decide) (by decide) (Nat.zero_le _) (by decide) (by omega)
 have ht:tksK ts=cr ts (8*ts.length+16) 1 0 0>>=fun x=>if 12<br x.1 then .error (flK 4 ts 0) else .ok x:=rfl
 rw[ht]
 refine Pure.of_mn ?_ (by unfold rC;split <;> simp[V.ok,okV,okA,C.ok])
 refine MNL.ofD (fn:=Tryz.f78) (fc:=147) (Nc:=[2002,2003,2004]) (sl:=[(0,.c (.lst none 4 (ts.map tkC)))]) Tryz.call78 Tryz.call147 Tryz.func78 rfl Tryz.ntmps78 Tryz.results78 rfl rfl (by decide) ?_
 refine AWD.seq ?_
 repeat'(first|(with_reducible first|apply aa|apply y_e|refine ae ?_)|((with_reducible apply ai);first|refine t_w (gh 2002 (by rfl) (by exact aZ rfl)) ?_|refine t_w (gh 2003 (by rfl) (by exact aZ rfl)) ?_|refine t_w (gh 2004 (by rfl) (by exact aZ rfl)) ?_)|fail)
 refine AWD.defer (l:=[_]) (by decide) rfl (by decide) ?_
 repeat'(first|(with_reducible apply y_e)|((with_reducible apply ai);refine t_v AS.v ?_)|fail)
 refine⟨.pl rfl,?_⟩
 repeat'((fail_if_success (with_reducible refine bA 4 ?_));(first|(with_reducible first|apply AW.seq|apply aa|apply aF|apply y_e|refine ae ?_)|((with_reducible apply ai);first|refine t_v AS.v ?_|refine t_w AS.w ?_|refine Cv (hP:=hb) (k1:=fun x k h=>?_) (k2:=fun e h=>?_))|((with_reducible apply ay);refine t_s AS.s ?_)|fail))
 ·have hv:=(ue ts _).2.1 h
  have hx:=(gE ts _).2.1 h
  have fl:=mP (ts:=ts) (i:=0) (d:=0) hl (Nat.zero_le _) 4
  rw[h,ag]
  clear hb ht h
  repeat'(first|(with_reducible first|apply AW.seq|apply AW.skip|apply AW.ret|apply aa|apply aF|apply y_e|refine ae ?_|refine b7 ?_)|((with_reducible apply ai);first|refine t_v AS.v ?_|refine t_v (by exact aj (hP:=uS x (by omega))) ?_|refine Cv (hP:=fl) (k1:=fun x k h=>?_) (k2:=fun e h=>?_))|((with_reducible apply ay);refine t_s AS.s ?_)|((with_reducible refine aq ?_);((refine ah (fun hc=>?_) (fun hc=>?_))))|(refine⟨by decide +kernel,?_⟩)|fail)
  ·cases h
  ·injection h with h
   subst h
   have hc:12<br x:=by have:=of_decide_eq_true hc;omega
   dsimp only
   rw[if_pos hc]
   refine RetD.mk (bx:=tkB x 0 Fa.zero) (bx':=tkB Ex.zero 0 (flK 4 ts 0)) (.inr ⟨_,rfl,rfl⟩) rfl (qY _ _ _ _ (show(0:Nat)≤9223372036854775807 by decide)) rfl (pJ fun n hn=>?_) sy (yu ?_ fun n hn=>by cases hn)
   ·simp only[List.mem_cons,List.not_mem_nil,or_false] at hn
    rcases hn with rfl|rfl|rfl <;> rfl
   ·simp only[one,V.un,unV,unA,C.un,rC]
  ·have hc:¬ 12<br x:=by have:=of_decide_eq_false hc;omega
   dsimp only
   rw[if_neg hc]
   refine RetD.mk (bx:=tkB x k Fa.zero) (bx':=tkB x k Fa.zero) (.inl ⟨.inl rfl,rfl⟩) rfl (yi _ _ _) rfl (pJ fun n hn=>?_) sy (yu ?_ fun n hn=>by cases hn)
   ·simp only[List.mem_cons,List.not_mem_nil,or_false] at hn
    rcases hn with rfl|rfl|rfl <;> rfl
   ·simp only[one,V.un,unV,unA,C.un,rC]
 ·have hs:=(sE ts _).2.1 h
  rw[h]
  refine RetD.mk (bx:=tkB Ex.zero 0 Fa.zero) (bx':=tkB Ex.zero 0 e) (.inr ⟨_,rfl,rfl⟩) rfl (qY _ _ _ _ (by rw[hs];decide)) rfl (pJ fun n hn=>?_) sy (yu ?_ fun n hn=>by cases hn)
  ·simp only[List.mem_cons,List.not_mem_nil,or_false] at hn
   rcases hn with rfl|rfl|rfl <;> rfl
  ·rw[au];simp only[one,V.un,unV,unA,C.un,rC]
theorem CT {l:List Tok} (hf:Fine l):CndOk l tksK:=⟨fun k=>yz _ (by have:=hf.le;rw[List.length_drop];omega),fun k e n h=>nV hf k h,fun k f h=>mV h⟩
end Am
end Go.Proofs.YtkpodagbefnebaaGreatDoor
