import Derived.Test.YtkpodagbefnebaaGreatDoorYf17
import Derived.Test.YtkpodagbefnebaaGreatDoorYf18
import Derived.ScopeJumps
set_option linter.unusedSimpArgs false
set_option linter.unusedVariables false
set_option linter.unusedSectionVars false
namespace Go.Proofs.YtkpodagbefnebaaGreatDoor
namespace Am
open Tk Go.RowKit
set_option maxRecDepth 100000
set_option maxHeartbeats 1000000
def bG (L:List UInt8) (k:Nat):Po:=⟨(loc L k).1,(loc L k).2⟩
def fl0 (c:Int) (p:Po):Fa:=⟨c,p,⟨#[]⟩⟩
def qT (src:ByteArray) (k:Nat) (kd:Int) (n:Nat):ByteArray:=if kd=3 then src.extract (k+1) (k+n - 1) else src.extract k (k+n)
def gw (src:ByteArray):Nat→Nat→Except Fa (List Tok)
 |0,_=>.ok []
 |f+1,k=>
  if src.size≤k+skipL false (src.data.toList.drop k) then .ok [⟨0,⟨#[]⟩,bG src.data.toList src.size⟩]
  else match dY (src.data.toList.drop (k+skipL false (src.data.toList.drop k))) with
   | .err c off=>.error (fl0 c (bG src.data.toList (k+skipL false (src.data.toList.drop k)+off)))
   | .ok kd n=>gw src f (k+skipL false (src.data.toList.drop k)+n)>>=fun ts=>.ok ([⟨kd,qT src (k+skipL false (src.data.toList.drop k)) kd n,bG src.data.toList (k+skipL false (src.data.toList.drop k))⟩]++ts)
def dL (src:ByteArray):Except Fa (List Tok):=if 65536<src.size then .error (fl0 4 ⟨0,0⟩) else gw src (src.size+1) 0
abbrev skO (src:ByteArray) (k:Nat):HO:=.obj 154 (snR ⟨src,(k:Int),bG src.data.toList k⟩)
abbrev rnC (c:UInt8):C:=.sc (.int .i32 c.toNat)
abbrev byC (c:UInt8):C:=.sc (.int .u8 c.toNat)
def pM (p:Po) (c:UInt8):Po:=⟨(aft (p.line,p.col) c).1,(aft (p.line,p.col) c).2⟩
theorem oF {L:List UInt8} {k:Nat} {c:UInt8} (h:L[k]? =some c):bG L (k+1)=pM (bG L k) c:=by
 obtain ⟨h1,h2⟩:=List.getElem?_eq_some_iff.1 h
 unfold bG pM
 rw[q7 L k h1,h2]
section
variable {ρ:Operand→Option V} {H:Nat→Option HO} {d:Option Nat} {ty:TypeId} {pos:String} {af:Array Edge} {gu:Option (Nat×Bool)} {x i:Operand}
end
theorem mI (c:UInt8):Pure Tryz.prog 142 [.c (rnC c)] (.c (sB (dgB c))):=by
 refine fn1 (fn:=Tryz.f142) Tryz.call142 Tryz.func142 rfl Tryz.ntmps142 Tryz.results142 rfl (by rfl) ?_
 repeat'(first|(with_reducible first|apply AW.seq|apply AW.ret|apply aa|apply y_e|refine ae ?_)|((with_reducible apply ai);refine t_v AS.v ?_)|((with_reducible apply aK);refine t_m (hs:=fun hg=>AS.v) (k:=?_))|((with_reducible refine aM ?_);refine k_b ?_)|fail)
 unfold dgB eP bi;rw[Bool.decide_and]
theorem nU (c:UInt8):Pure Tryz.prog 143 [.c (rnC c)] (.c (sB (eA (bi c)))):=by
 refine fn1 (fn:=Tryz.f143) Tryz.call143 Tryz.func143 rfl Tryz.ntmps143 Tryz.results143 rfl (by rfl) ?_
 repeat'(first|(with_reducible first|apply AW.seq|apply AW.ret|apply aa|apply y_e|refine ae ?_)|((with_reducible apply ai);refine t_v AS.v ?_)|((with_reducible apply aK);refine t_m (hs:=fun hg=>AS.v) (k:=?_))|((with_reducible refine aM ?_);refine k_b ?_)|fail)
 unfold eA bi;rw[Bool.decide_and,Bool.decide_and]
theorem uW (c:UInt8):Pure Tryz.prog 280 [.c (rnC c)] (.c (sB (nmB c))):=by
 refine fn1 (fn:=Tryz.f280) Tryz.call280 Tryz.func280 rfl Tryz.ntmps280 Tryz.results280 rfl (by rfl) ?_
 repeat'(first|(with_reducible first|apply AW.seq|apply AW.ret|apply aa|apply y_e|refine ae ?_)|((with_reducible apply ai);first|refine t_v AS.v ?_|refine t_v (by exact aj (hP:=nU c)) ?_)|((with_reducible apply aK);first|refine t_m (hs:=fun hg=>AS.v) (k:=?_)|refine t_m (hs:=fun hg=>(by exact aj (hP:=mI c))) (k:=?_))|((with_reducible refine aM ?_);refine k_b ?_)|fail)
 simp[nmB,dgB]
theorem BF (p:Po) (c:UInt8) (hl:0≤p.line∧p.line≤1000000) (hc:0≤p.col∧p.col≤1000000):Pure Tryz.prog 278 [.agg (poC p),.c (byC c)] (.agg (poC (pM p c))):=by
 by_cases h:(c.toNat:Int)=10
 ·have e:pM p c=⟨p.line+1,1⟩:=by unfold pM aft bi;rw[if_pos h]
  rw[e]
  refine fn2 (fn:=Tryz.f278) Tryz.call278 Tryz.func278 rfl Tryz.ntmps278 Tryz.results278 rfl (by rfl) ?_
  repeat'(first|(with_reducible first|apply AW.seq|apply AW.skip|apply AW.ret|apply aa|apply ak|apply y_e|refine ae ?_)|((with_reducible apply ai);first|refine t_v AS.v ?_|refine t_w AS.w ?_)|((with_reducible apply ay);refine t_s AS.s ?_)|((with_reducible refine aq ?_);((refine ah (fun hc=>?_) (fun hc=>?_);all_goals(try(exfalso;simp[*] at hc;done)))))|((with_reducible refine aM ?_);refine k_c ?_)|fail)
  all_goals rfl
 ·have e:pM p c=⟨p.line,p.col+1⟩:=by unfold pM aft bi;rw[if_neg h]
  rw[e]
  refine fn2 (fn:=Tryz.f278) Tryz.call278 Tryz.func278 rfl Tryz.ntmps278 Tryz.results278 rfl (by rfl) ?_
  repeat'(first|(with_reducible first|apply AW.seq|apply AW.skip|apply AW.ret|apply aa|apply ak|apply y_e|refine ae ?_)|((with_reducible apply ai);first|refine t_v AS.v ?_|refine t_w AS.w ?_)|((with_reducible apply ay);refine t_s AS.s ?_)|((with_reducible refine aq ?_);((refine ah (fun hc=>?_) (fun hc=>?_);all_goals(try(exfalso;simp[*] at hc;done)))))|((with_reducible refine aM ?_);refine k_c ?_)|fail)
  all_goals rfl
theorem u5 (L:List UInt8) (k:Nat):0≤(bG L k).line∧(bG L k).line≤k+1∧0≤(bG L k).col∧(bG L k).col≤k+1:=by
 obtain ⟨h1,h2,h3,h4⟩:=wc L k
 unfold bG
 exact⟨by show(0:Int)≤(loc L k).1;omega,h2,by show(0:Int)≤(loc L k).2;omega,h4⟩
section
variable {src:ByteArray} {k:Nat}
theorem fD (hs:src.size≤65536):Pure Tryz.prog 145 [.c (.ep (snR ⟨src,(k:Int),bG src.data.toList k⟩))] (.c (sB (decide (src.size≤k)))):=by
 refine fn1 (fn:=Tryz.f145) Tryz.call145 Tryz.func145 rfl Tryz.ntmps145 Tryz.results145 rfl (by rfl) ?_
 repeat'(first|(with_reducible first|apply AW.seq|apply AW.ret|apply aa|apply y_e|refine ae ?_|refine b7 ?_)|((with_reducible apply ai);refine t_v AS.v ?_)|((with_reducible refine aM ?_);refine k_b ?_)|(refine⟨by decide +kernel,?_⟩)|fail)
 rw[decide_eq_decide];omega
theorem lZ (hs:src.size≤65536) {c:UInt8} (hc:src.data.toList[k]? =some c):Pure Tryz.prog 206 [.c (.ep (snR ⟨src,(k:Int),bG src.data.toList k⟩))] (.c (rnC c)):=by
 have hk:k<src.size:=by rw[bc];exact(List.getElem?_eq_some_iff.1 hc).1
 have e:=fD (k:=k) hs
 rw[decide_eq_false (by omega)] at e
 refine fn1 (fn:=Tryz.f206) Tryz.call206 Tryz.func206 rfl Tryz.ntmps206 Tryz.results206 rfl (by rfl) ?_
 repeat'(first|(with_reducible first|apply AW.seq|apply AW.skip|apply AW.ret|apply aa|apply y_e|refine ae ?_|refine b7 ?_)|((with_reducible apply ai);first|refine t_v AS.v ?_|refine t_v (by exact az (hP:=e)) ?_)|((with_reducible refine aq ?_);refine aJ ?_)|((with_reducible refine aM ?_);refine k_i ?_)|(refine⟨by decide +kernel,?_⟩)|fail)
 rfl
theorem ia (e:Int):Pure Tryz.prog 212 [.c (.ep (snR ⟨src,(k:Int),bG src.data.toList k⟩)),.c (sI e)] (.agg (faC ⟨e,bG src.data.toList k,⟨#[]⟩⟩)):=by
 refine fn2 (fn:=Tryz.f212) Tryz.call212 Tryz.func212 rfl Tryz.ntmps212 Tryz.results212 rfl (by rfl) ?_
 repeat'(first|(with_reducible first|apply AW.seq|apply AW.ret|apply aa|apply y_e|refine ae ?_)|((with_reducible apply ai);first|refine t_v AS.v ?_|refine t_w AS.w ?_)|((with_reducible apply ay);refine t_s AS.s ?_)|((with_reducible refine aM ?_);refine k_c ?_)|fail)
 rfl
theorem iz {c:UInt8} (hc:src.data.toList[k]? =some c):k<src.size:=by rw[bc];exact(List.getElem?_eq_some_iff.1 hc).1
theorem get_at (h:k<src.size):∃ c,src.data.toList[k]? =some c:=⟨_,List.getElem?_eq_getElem (by rw[← bc];exact h)⟩
theorem jt (hs:src.size≤65536) {n:Nat} (hn:k+n≤src.size):MX Tryz.prog 207 [(0,skO src k)] [.c (.ptr 0 0),.c (sI n)] (.ok ((),()):Except Fa (Unit×Unit)) (fun _=>.tup []) (fun _=>[(0,skO src (k+n))]) pvS:=by
 refine MXA (fn:=Tryz.f207) Tryz.call207 Tryz.func207 rfl Tryz.ntmps207 Tryz.results207 rfl rfl ?_
 repeat'(first|(with_reducible first|apply AW.seq|apply AW.block|apply AW.exit|apply aa|apply aE|apply aH|apply y_e|refine ae ?_)|((with_reducible apply ai);refine t_v AS.v ?_)|((with_reducible refine aq ?_);((refine ah (fun hc=>?_) (fun hc=>?_);all_goals(try(exfalso;simp[*] at hc;done)))))|((with_reducible refine aD ?_);refine l_0 (k:=?_))|fail)
 refine AW.loop (fun m σ=>∃ j:Nat,m=n - j∧j≤n∧σ=mk [(5,.c (sI (j:Int))),(4,.c (sI n)),(0,.c (.ptr 0 0))] [(0,skO src (k+j))]) n ?_ ?_
 ·exact⟨_,wkA,0,rfl,Nat.zero_le _,rfl⟩
 rintro m σ ⟨j,rfl,hj,rfl⟩
 by_cases hlt:j<n
 ·obtain ⟨c,hc⟩:=get_at (src:=src) (k:=k+j) (by omega)
  have hp:=u5 src.data.toList (k+j)
  have a:=BF (bG src.data.toList (k+j)) c (by omega) (by omega)
  rw[← oF hc] at a
  have hks:=iz hc
  have en:((k+j:Nat):Int)+1=((k+(j+1):Nat):Int):=by omega
  clear hp
  repeat'(first|(with_reducible first|apply AW.seq|apply AW.block|apply AW.skip|apply aa|apply aw|apply y_e|refine ae ?_|refine b7 ?_)|((with_reducible apply ai);first|refine t_v AS.v ?_|refine t_v (by exact aj (hP:=a)) ?_)|((with_reducible apply ay);refine t_s AS.s ?_)|((with_reducible refine aq ?_);((refine ah (fun hc=>?_) (fun hc=>?_);all_goals(try(exfalso;simp[*] at hc;done)))))|(refine⟨by decide +kernel,?_⟩)|fail)
  all_goals simp only[en]
  ·exact⟨_,_,(show n - (j+1)<n - j by omega),wkA,j+1,rfl,hlt,rfl⟩
 ·have e:j=n:=by omega
  subst e
  repeat'(first|(with_reducible first|apply AW.seq|apply AW.block|apply AW.exit|apply aa|apply aE|apply aH|apply y_e|refine ae ?_)|((with_reducible apply ai);refine t_v AS.v ?_)|((with_reducible refine aq ?_);((refine ah (fun hc=>?_) (fun hc=>?_);all_goals(try(exfalso;simp[*] at hc;done)))))|((with_reducible refine aD ?_);refine l_0 (k:=?_))|fail)
  exact⟨(),(),rfl,rfl,ar rfl⟩
theorem s8 (hs:src.size≤65536) (hk:k≤src.size) {f:Nat} {q:UInt8→Bool} (hq:∀ c,Pure Tryz.prog f [.c (rnC c)] (.c (sB (q c)))):Pure Tryz.prog 279 [.c (.ep (snR ⟨src,(k:Int),bG src.data.toList k⟩)),.c (.fn f [])] (.c (sI (tw q (src.data.toList.drop k):Nat))):=by
 refine fn2 (fn:=Tryz.f279) Tryz.call279 Tryz.func279 rfl Tryz.ntmps279 Tryz.results279 rfl (by rfl) ?_
 repeat'(first|(with_reducible first|apply AW.seq|apply AW.block|apply aa|apply y_e|refine ae ?_)|((with_reducible apply ai);refine t_v AS.v ?_)|fail)
 refine AW.loop (fun m σ=>∃ j:Nat,m=src.size - (k+j)∧k+j≤src.size∧tw q (src.data.toList.drop k)=j+tw q (src.data.toList.drop (k+j))∧σ=mk [(5,.c (sI (j:Int))),(4,.c (sI 0)),(0,.c (.ep (snR ⟨src,(k:Int),bG src.data.toList k⟩))),(1,.c (.fn f []))] []) (src.size - k) ?_ ?_
 ·exact⟨_,wkA,0,rfl,hk,(Nat.zero_add _).symm,rfl⟩
 rintro m σ ⟨j,rfl,hj,ht,rfl⟩
 generalize tw q (src.data.toList.drop k)=z at ht
 have HT:=Lib.hid ht
 clear ht
 by_cases hlt:k+j<src.size
 ·obtain ⟨c,hc⟩:=get_at (src:=src) (k:=k+j) hlt
  repeat'(first|(with_reducible first|apply AW.seq|apply AW.block|apply AW.skip|apply AW.ret|apply AW.exit|apply aa|apply aE|apply aw|apply aH|apply y_e|refine ae ?_|refine b7 ?_)|((with_reducible apply ai);refine t_v AS.v ?_)|((with_reducible apply aK);first|refine t_m (hs:=fun hg=>AS.v) (k:=?_)|refine t_m (hs:=fun hg=>(by exact aj (hP:=hq c))) (k:=?_))|((with_reducible refine aq ?_);((refine ah (fun hc=>?_) (fun hc=>?_))))|((with_reducible refine aM ?_);refine k_i ?_)|(refine⟨by decide +kernel,?_⟩)|fail)
  ·have hk1:(decide ((k:Int)+(j:Int)<src.size))=true:=decide_eq_true (by omega)
   rw[hk1,Bool.true_and] at hc
   have ht:=HT.out
   obtain ⟨h1,h2⟩:=List.getElem?_eq_some_iff.1 (by assumption)
   rw[rQ q src.data.toList (k+j) h1 (by rw[h2];exact hc)] at ht
   exact⟨_,_,(show src.size - (k+(j+1))<src.size - (k+j) by omega),wkA,j+1,rfl,by omega,by rw[← Nat.add_assoc k j 1];omega,rfl⟩
  ·have hk1:(decide ((k:Int)+(j:Int)<src.size))=true:=decide_eq_true (by omega)
   rw[hk1,Bool.true_and] at hc
   have ht:=HT.out
   obtain ⟨h1,h2⟩:=List.getElem?_eq_some_iff.1 (by assumption)
   rw[xg q src.data.toList (k+j) h1 (by rw[h2];exact hc)] at ht
   rw[ht];rfl
 ·have e0:=rH q src.data.toList (k+j) (by rw[← bc];omega)
  have hI:¬ ((k:Int)+(j:Int)<src.size):=by omega
  repeat'(first|(with_reducible first|apply AW.seq|apply AW.ret|apply AW.exit|apply aa|apply aE|apply aH|apply y_e|refine ae ?_|refine b7 ?_)|((with_reducible apply ai);refine t_v AS.v ?_)|((with_reducible apply aK);refine t_f ?_)|((with_reducible refine aq ?_);refine aJ ?_)|((with_reducible refine aM ?_);refine k_i ?_)|(refine⟨by decide +kernel,?_⟩)|fail)
  have ht:=HT.out
  rw[e0] at ht
  rw[ht];rfl
theorem lS (hs:src.size≤65536) {n:Nat} (hn:k+n≤src.size):MX Tryz.prog 213 [(0,skO src k)] [.c (.ptr 0 0),.c (sI n)] (.ok (src.extract k (k+n),()):Except Fa (ByteArray×Unit)) (fun s=>.c (sS s)) (fun _=>[(0,skO src (k+n))]) pvS:=by
 have a:=(jt (k:=k) hs hn).ok _ _ rfl
 refine MXA (fn:=Tryz.f213) Tryz.call213 Tryz.func213 rfl Tryz.ntmps213 Tryz.results213 rfl rfl ?_
 repeat'(first|(with_reducible first|apply AW.seq|apply AW.ret|apply aa|apply y_e|refine ae ?_|refine b7 ?_)|((with_reducible apply ai);first|refine t_v AS.v ?_|refine t_w (by exact av (hP:=a)) ?_)|((with_reducible refine aD ?_);refine l_1 (k:=?_))|(refine⟨by decide +kernel,?_⟩)|fail)
 exact⟨_,(),rfl,rfl,ar rfl⟩
theorem kv (s:ByteArray) (f:Fa):(V.tup [.c (sS s),.agg (faC f)]).un= .tup [.c (sS s),.agg (faC f)]:=by simp only[V.un,unV,C.un,unA]
def gx (src:ByteArray) (k:Nat):(ByteArray×Fa)×Nat:=if 32<tw nmB (src.data.toList.drop k) then((⟨#[]⟩,fl0 10 (bG src.data.toList k)),k) else((src.extract k (k+tw nmB (src.data.toList.drop k)),Fa.zero),k+tw nmB (src.data.toList.drop k))
theorem rb (p:UInt8→Bool) (h:k≤src.size):k+tw p (src.data.toList.drop k)≤src.size:=by
 have:=yH p (src.data.toList.drop k)
 rw[List.length_drop,←bc] at this
 omega
theorem BW (hs:src.size≤65536) (hk:k≤src.size):MX Tryz.prog 208 [(0,skO src k)] [.c (.ptr 0 0)] (.ok (gx src k):Except Fa ((ByteArray×Fa)×Nat)) (fun r=>.tup [.c (sS r.1),.agg (faC r.2)]) (fun j=>[(0,skO src j)]) pvS:=by
 have hn:=rb (k:=k) nmB hk
 have r:=s8 (k:=k) hs hk uW
 have w:=(lS (k:=k) hs hn).ok _ _ rfl
 by_cases h:32<tw nmB (src.data.toList.drop k)
 ·have e:gx src k=((⟨#[]⟩,fl0 10 (bG src.data.toList k)),k):=if_pos h
  rw[e]
  refine MXA (fn:=Tryz.f208) Tryz.call208 Tryz.func208 rfl Tryz.ntmps208 Tryz.results208 rfl rfl ?_
  repeat'(first|(with_reducible first|apply AW.seq|apply AW.skip|apply AW.ret|apply aa|apply ak|apply y_e|refine ae ?_)|((with_reducible apply ai);first|refine t_v AS.v ?_|refine t_v (by first|exact az (hP:=r)|exact az (hP:=ia _)) ?_|refine t_w AS.w ?_|refine t_w (by exact av (hP:=w)) ?_)|((with_reducible apply ay);refine t_s AS.s ?_)|((with_reducible refine aq ?_);((refine ah (fun hc=>?_) (fun hc=>?_);all_goals(try(exfalso;revert hc;simp;omega)))))|((with_reducible refine aD ?_);refine wx (k:=?_))|fail)
  exact⟨_,_,rfl,kv _ _,ar rfl⟩
 ·have e:gx src k=((src.extract k (k+tw nmB (src.data.toList.drop k)),Fa.zero),k+tw nmB (src.data.toList.drop k)):=if_neg h
  rw[e]
  refine MXA (fn:=Tryz.f208) Tryz.call208 Tryz.func208 rfl Tryz.ntmps208 Tryz.results208 rfl rfl ?_
  repeat'(first|(with_reducible first|apply AW.seq|apply AW.skip|apply AW.ret|apply aa|apply ak|apply y_e|refine ae ?_)|((with_reducible apply ai);first|refine t_v AS.v ?_|refine t_v (by first|exact az (hP:=r)|exact az (hP:=ia _)) ?_|refine t_w AS.w ?_|refine t_w (by exact av (hP:=w)) ?_)|((with_reducible apply ay);refine t_s AS.s ?_)|((with_reducible refine aq ?_);((refine ah (fun hc=>?_) (fun hc=>?_);all_goals(try(exfalso;revert hc;simp;omega)))))|((with_reducible refine aD ?_);refine wx (k:=?_))|fail)
  exact⟨_,_,rfl,kv _ _,ar rfl⟩
def ka (src:ByteArray) (k:Nat):(ByteArray×Fa)×Nat:=
 if 9<tw dgB (src.data.toList.drop k) then((⟨#[]⟩,fl0 3 (bG src.data.toList k)),k)
 else if 1<tw dgB (src.data.toList.drop k)∧bi ((src.data.toList.drop k).getD 0 0)=48 then((⟨#[]⟩,fl0 9 (bG src.data.toList k)),k)
 else((src.extract k (k+tw dgB (src.data.toList.drop k)),Fa.zero),k+tw dgB (src.data.toList.drop k))
theorem getD_at {L:List UInt8} {j:Nat} {c:UInt8} (hc:L[j]? =some c):(L.drop j).getD 0 0=c:=by
 obtain ⟨h1,h2⟩:=List.getElem?_eq_some_iff.1 hc
 rw[vS L j h1,h2]
theorem vk (hs:src.size≤65536) {c:UInt8} (hc:src.data.toList[k]? =some c):MX Tryz.prog 209 [(0,skO src k)] [.c (.ptr 0 0)] (.ok (ka src k):Except Fa ((ByteArray×Fa)×Nat)) (fun r=>.tup [.c (sS r.1),.agg (faC r.2)]) (fun j=>[(0,skO src j)]) pvS:=by
 have hk:=Nat.le_of_lt (iz hc)
 have hn:=rb (k:=k) dgB hk
 have r:=s8 (k:=k) hs hk mI
 have w:=(lS (k:=k) hs hn).ok _ _ rfl
 have nx:=lZ hs hc
 have ev:ka src k=if 9<tw dgB (src.data.toList.drop k) then((⟨#[]⟩,fl0 3 (bG src.data.toList k)),k) else if 1<tw dgB (src.data.toList.drop k)∧bi c=48 then((⟨#[]⟩,fl0 9 (bG src.data.toList k)),k) else((src.extract k (k+tw dgB (src.data.toList.drop k)),Fa.zero),k+tw dgB (src.data.toList.drop k)):=by unfold ka;rw[getD_at hc]
 rw[ev]
 clear ev hc
 generalize tw dgB (src.data.toList.drop k)=n at *
 refine MXA (fn:=Tryz.f209) Tryz.call209 Tryz.func209 rfl Tryz.ntmps209 Tryz.results209 rfl rfl ?_
 repeat'(first|(with_reducible first|apply AW.seq|apply AW.block|apply AW.skip|apply AW.ret|apply aa|apply ak|apply aw|apply aL|apply y_e|refine ae ?_)|((with_reducible apply ai);first|refine t_v AS.v ?_|refine t_v (by first|exact az (hP:=r)|exact az (hP:=ia _)) ?_|refine t_w AS.w ?_|refine t_w (by exact av (hP:=w)) ?_)|((with_reducible apply aK);first|refine t_m (hs:=fun hg=>AS.v) (k:=?_)|refine t_m (hs:=fun hg=>(by exact az (hP:=nx))) (k:=?_))|((with_reducible apply ay);refine t_s AS.s ?_)|((with_reducible refine aq ?_);((refine ah (fun hc=>?_) (fun hc=>?_))))|((with_reducible refine aD ?_);refine wx (k:=?_))|fail)
 ·have h:9<n:=by have:=of_decide_eq_true hc;omega
  exact⟨_,_,by rw[if_pos h],kv _ _,ar rfl⟩
 ·rename_i h9
  have h:¬ 9<n:=by have:=of_decide_eq_false h9;omega
  simp only[Bool.and_eq_true,decide_eq_true_eq] at hc
  exact⟨_,_,by rw[if_neg h,if_pos ⟨by omega,hc.2⟩],kv _ _,ar rfl⟩
 ·rename_i h9
  have h:¬ 9<n:=by have:=of_decide_eq_false h9;omega
  simp only[Bool.and_eq_false_iff,decide_eq_false_iff_not] at hc
  exact⟨_,_,by rw[if_neg h,if_neg fun hh=>hc.elim (fun hc=>hc (by omega)) fun hc=>hc hh.2],kv _ _,ar rfl⟩
theorem pf (c:UInt8):Pure Tryz.prog 281 [.c (rnC c)] (.c (sB (ptB c))):=by
 refine fn1 (fn:=Tryz.f281) Tryz.call281 Tryz.func281 rfl Tryz.ntmps281 Tryz.results281 rfl (by rfl) ?_
 repeat'(first|(with_reducible first|apply AW.seq|apply AW.ret|apply aa|apply y_e|refine ae ?_)|((with_reducible apply ai);refine t_v AS.v ?_)|((with_reducible apply aK);refine t_m (hs:=fun hg=>AS.v) (k:=?_))|((with_reducible refine aM ?_);refine k_b ?_)|fail)
 unfold ptB D4 bi
 rw[Bool.decide_and,Bool.decide_and]
 simp[Bool.and_assoc]
def gk (src:ByteArray) (k:Nat):(ByteArray×Fa)×Nat:=
 if src.size≤k+1+tw ptB (src.data.toList.drop (k+1)) then((⟨#[]⟩,fl0 5 (bG src.data.toList k)),k+1)
 else if ¬ bi ((src.data.toList.drop (k+1)).getD (tw ptB (src.data.toList.drop (k+1))) 0)=34 then((⟨#[]⟩,fl0 9 (bG src.data.toList (k+1+tw ptB (src.data.toList.drop (k+1))))),k+1+tw ptB (src.data.toList.drop (k+1)))
 else if 256<tw ptB (src.data.toList.drop (k+1)) then((⟨#[]⟩,fl0 4 (bG src.data.toList k)),k+1)
 else((src.extract (k+1) (k+1+tw ptB (src.data.toList.drop (k+1))),Fa.zero),k+1+tw ptB (src.data.toList.drop (k+1))+1)
theorem AF (hs:src.size≤65536) (hk:k<src.size):MX Tryz.prog 210 [(0,skO src k)] [.c (.ptr 0 0)] (.ok (gk src k):Except Fa ((ByteArray×Fa)×Nat)) (fun r=>.tup [.c (sS r.1),.agg (faC r.2)]) (fun j=>[(0,skO src j)]) pvS:=by
 have hn:=rb (k:=k+1) ptB hk
 have r:=s8 (k:=k+1) hs hk pf
 have s1:=(jt (k:=k) (n:=1) hs hk).ok _ _ rfl
 by_cases h5:src.size≤k+1+tw ptB (src.data.toList.drop (k+1))
 ·have e:gk src k=((⟨#[]⟩,fl0 5 (bG src.data.toList k)),k+1):=if_pos h5
  rw[e]
  clear e
  generalize tw ptB (src.data.toList.drop (k+1))=n at *
  refine MXA (fn:=Tryz.f210) Tryz.call210 Tryz.func210 rfl Tryz.ntmps210 Tryz.results210 rfl rfl ?_
  repeat'(first|(with_reducible first|apply AW.seq|apply AW.block|apply AW.ret|apply aa|apply ak|apply aL|apply y_e|refine ae ?_|refine b7 ?_)|((with_reducible apply ai);first|refine t_v AS.v ?_|refine t_v (by first|exact az (hP:=r)|exact az (hP:=ia _)) ?_|refine t_w AS.w ?_|refine t_w (by exact av (hP:=s1)) ?_)|((with_reducible apply ay);refine t_s AS.s ?_)|((with_reducible refine aq ?_);((refine ah (fun hc=>?_) (fun hc=>?_);all_goals(try(exfalso;revert hc;simp;omega)))))|((with_reducible refine aD ?_);refine wx (k:=?_))|(refine⟨by decide +kernel,?_⟩)|fail)
  exact⟨_,_,rfl,kv _ _,ar rfl⟩
 ·obtain ⟨c,hc⟩:=get_at (src:=src) (k:=k+1+tw ptB (src.data.toList.drop (k+1))) (by omega)
  have ev:gk src k=if ¬ bi c=34 then((⟨#[]⟩,fl0 9 (bG src.data.toList (k+1+tw ptB (src.data.toList.drop (k+1))))),k+1+tw ptB (src.data.toList.drop (k+1))) else if 256<tw ptB (src.data.toList.drop (k+1)) then((⟨#[]⟩,fl0 4 (bG src.data.toList k)),k+1) else((src.extract (k+1) (k+1+tw ptB (src.data.toList.drop (k+1))),Fa.zero),k+1+tw ptB (src.data.toList.drop (k+1))+1):=by
   unfold gk
   rw[if_neg h5]
   have:(src.data.toList.drop (k+1)).getD (tw ptB (src.data.toList.drop (k+1))) 0=c:=by
    rw[List.getD_eq_getElem?_getD,List.getElem?_drop,hc];rfl
   rw[this]
  rw[ev]
  clear ev
  have w:=(lS (k:=k+1) hs hn).ok _ _ rfl
  have s2:=(jt (k:=k+1) hs hn).ok _ _ rfl
  have s3:=(jt (k:=k+1+tw ptB (src.data.toList.drop (k+1))) (n:=1) hs (by omega)).ok _ _ rfl
  generalize tw ptB (src.data.toList.drop (k+1))=n at *
  refine MXA (fn:=Tryz.f210) Tryz.call210 Tryz.func210 rfl Tryz.ntmps210 Tryz.results210 rfl rfl ?_
  repeat'(first|(with_reducible first|apply AW.seq|apply AW.block|apply AW.skip|apply AW.ret|apply aa|apply ak|apply aw|apply aL|apply y_e|refine ae ?_|refine b7 ?_)|((with_reducible apply ai);first|refine t_v AS.v ?_|refine t_v (by first|exact az (hP:=r)|exact az (hP:=ia _)) ?_|refine t_w AS.w ?_|refine t_w (by first|exact av (hP:=s1)|exact av (hP:=w)|exact av (hP:=s2)|exact av (hP:=s3)) ?_)|((with_reducible apply ay);refine t_s AS.s ?_)|((with_reducible refine aq ?_);((refine ah (fun hc=>?_) (fun hc=>?_);all_goals(try(exfalso;revert hc;simp;omega)))))|((with_reducible refine aD ?_);refine wx (k:=?_))|(refine⟨by decide +kernel,?_⟩)|fail)
  ·have h:¬ bi c=34:=fun e=>by
    have e:(c.toNat:Int)=34:=e
    rw[e] at hc;simp at hc
   exact⟨_,_,by rw[if_pos h],kv _ _,ar rfl⟩
  ·rename_i hq
   have h:bi c=34:=by simpa [bi] using hq
   have h2:256<n:=by have:=of_decide_eq_true hc;omega
   exact⟨_,_,by rw[if_neg fun hh=>hh h,if_pos h2],kv _ _,ar rfl⟩
  ·rename_i hq
   have h:bi c=34:=by simpa [bi] using hq
   have h2:¬ 256<n:=by have:=of_decide_eq_false hc;omega
   exact⟨_,_,by rw[if_neg fun hh=>hh h,if_neg h2],kv _ _,ar rfl⟩
end
end Am
namespace Am
open Tk Go.RowKit
theorem wE (p:UInt8→Bool) (l:List UInt8) (h:0<l.length) (hp:p (l.getD 0 0)=true):0<tw p l:=by
 cases l with
 |nil=>simp at h
 |cons c l=>rw[lW];simp at hp;rw[if_pos hp];omega
theorem rh (l:List UInt8):dN l≤l.length:=by
 cases l with
 |nil=>decide
 |cons c l=>
  unfold dN
  split
  ·rename_i h
   simp[marks2] at h
   simp only[List.length_cons]
   rcases h with h|h|h|h <;> (have:=congrArg List.length h.2;simp at this;omega)
  ·simp only[List.length_cons];split <;> omega
theorem lL (l:List UInt8) (kd:Int) (n:Nat) (h:0<l.length) (hr:dY l= .ok kd n):0<n∧n≤l.length:=by
 unfold dY at hr
 cases hc:eA (bi (l.getD 0 0))
 ·rw[hc] at hr
  cases hd:eP (bi (l.getD 0 0))
  ·rw[hd] at hr
   simp only[Bool.false_eq_true,if_false] at hr
   by_cases hq:bi (l.getD 0 0)=34
   ·rw[if_pos hq] at hr
    unfold Tk.textR at hr
    split at hr
    ·cases hr
    ·split at hr
     ·cases hr
     ·split at hr
      ·cases hr
      ·injection hr with e1 e2
       subst e2
       rename_i h1 _ _
       rw[List.length_drop] at h1
       omega
   ·rw[if_neg hq] at hr
    unfold iW at hr
    split at hr
    ·cases hr
    ·injection hr with e1 e2
     subst e2
     have:=rh l
     omega
  ·rw[hd] at hr
   simp only[Bool.false_eq_true,if_false,if_true,mx] at hr
   split at hr
   ·cases hr
   ·split at hr
    ·cases hr
    ·injection hr with e1 e2
     subst e2
     exact⟨wE dgB l h hd,yH _ _⟩
 ·rw[hc] at hr
  simp only[if_true,iY] at hr
  split at hr
  ·cases hr
  ·injection hr with e1 e2
   subst e2
   exact⟨wE nmB l h (by unfold nmB;rw[hc];rfl),yH _ _⟩
theorem wY (l:List UInt8) (c:Int) (off:Nat) (h:dY l= .err c off):(c == 0)=false:=by
 unfold dY iY mx Tk.textR iW at h
 split at h
 ·split at h
  ·injection h with h1 h2;subst h1;rfl
  ·cases h
 ·split at h
  ·split at h
   ·injection h with h1 h2;subst h1;rfl
   ·split at h
    ·injection h with h1 h2;subst h1;rfl
    ·cases h
  ·split at h
   ·split at h
    ·injection h with h1 h2;subst h1;rfl
    ·split at h
     ·injection h with h1 h2;subst h1;rfl
     ·split at h
      ·injection h with h1 h2;subst h1;rfl
      ·cases h
   ·split at h
    ·injection h with h1 h2;subst h1;rfl
    ·cases h
theorem CZ {s:ByteArray} {l:List UInt8} (h:s.data.toList=l):s=⟨l.toArray⟩:=by
 obtain ⟨⟨m⟩⟩:=s
 simp only at h
 rw[h]
theorem DS (l:List UInt8) (kd:Int) (n:Nat) (h:dY l= .ok kd n) (h3:kd=3):2≤n:=by
 unfold dY iY mx Tk.textR iW at h
 split at h
 ·split at h
  ·cases h
  ·injection h with h1 h2;omega
 ·split at h
  ·split at h
   ·cases h
   ·split at h
    ·cases h
    ·injection h with h1 h2;omega
  ·split at h
   ·split at h
    ·cases h
    ·split at h
     ·cases h
     ·split at h
      ·cases h
      ·injection h with h1 h2;omega
   ·split at h
    ·cases h
    ·injection h with h1 h2;omega
structure LTok where
 kind:Int
 text:List UInt8
 off:Nat
inductive LR where
 |err (c:Int) (off:Nat)
 |ok (ts:List LTok)
def LR.app (us:List LTok):LR→LR
 | .err c o=>.err c o
 | .ok ts=>.ok (us++ts)
def jI (kd:Int) (n:Nat) (l:List UInt8):List UInt8:=if kd=3 then(l.drop 1).take (n - 2) else l.take n
def j8:Nat→Nat→List UInt8→LR
 |0,_,_=>.ok []
 |f+1,o,l=>
  if l.length≤skipL false l then .ok [⟨0,[],o+l.length⟩]
  else match dY (l.drop (skipL false l)) with
   | .err c x=>.err c (o+skipL false l+x)
   | .ok kd n=>LR.app [⟨kd,jI kd n (l.drop (skipL false l)),o+skipL false l⟩] (j8 f (o+skipL false l+n) (l.drop (skipL false l+n)))
def LTok.at (src:List UInt8) (t:LTok):Tok:=⟨t.kind,⟨t.text.toArray⟩,bG src t.off⟩
def vj (src:List UInt8):LR→Except Fa (List Tok)
 | .err c o=>.error (fl0 c (bG src o))
 | .ok ts=>.ok (ts.map (LTok.at src))
theorem wa (src:List UInt8) (us:List LTok) (r:LR):vj src (LR.app us r)=vj src r>>=fun ts=>.ok (us.map (LTok.at src)++ts):=by cases r <;> simp[LR.app,vj,ag,au]
theorem bP (s:ByteArray) (a b:Nat) (h:b≤s.size):(s.extract a b).data.toList=(s.data.toList.drop a).take (b - a):=by
 simp[ByteArray.data_extract,Array.toList_extract,List.extract,Nat.min_eq_left h]
theorem vf (s:ByteArray) (k:Nat) (kd:Int) (n:Nat) (h:k+n≤s.size) (h2:kd=3→2≤n):qT s k kd n=⟨(jI kd n (s.data.toList.drop k)).toArray⟩:=by
 apply CZ
 unfold qT jI
 split
 ·have:=h2 (by assumption)
  rw[bP _ _ _ (by omega),List.drop_drop]
  congr 1
  omega
 ·rw[bP _ _ _ (by omega)]
  congr 1
  omega
theorem tL (s:ByteArray):∀ (f k:Nat),k≤s.size→gw s f k=vj s.data.toList (j8 f k (s.data.toList.drop k))
 |0,k,_=>rfl
 |f+1,k,hk=>by
  have hlen:(s.data.toList.drop k).length=s.size - k:=by rw[List.length_drop,sz]
  have hle:=Tk.skipL_le false (s.data.toList.drop k)
  rw[gw,j8]
  by_cases h:s.size≤k+Tk.skipL false (s.data.toList.drop k)
  ·rw[if_pos h,if_pos (by omega),vj,hlen,show k+(s.size - k)=s.size by omega]
   rfl
  ·rw[if_neg h,if_neg (by omega),List.drop_drop]
   cases ho:dY (s.data.toList.drop (k+Tk.skipL false (s.data.toList.drop k))) with
   |err c x=>rfl
   |ok kd n=>
    have hlen2:(s.data.toList.drop (k+Tk.skipL false (s.data.toList.drop k))).length=s.size - (k+Tk.skipL false (s.data.toList.drop k)):=by rw[List.length_drop,sz]
    obtain ⟨h1,h2⟩:=lL _ _ _ (by omega) ho
    have h3:kd=3→2≤n:=DS _ _ _ ho
    simp only
    rw[wa,tL s f _ (by omega),vf _ _ _ _ (by omega) h3]
    simp only[List.drop_drop,Nat.add_assoc]
    rfl
def tZ (o:Nat) (l:List UInt8):LR:=j8 (l.length+1) o l
theorem AR (s:ByteArray) (h:s.size≤65536):dL s=vj s.data.toList (tZ 0 s.data.toList):=by
 unfold dL tZ
 rw[if_neg (by omega),tL s _ 0 (by omega),sz]
 rfl
theorem l8 {l:List UInt8} {c:Int} {x:Nat} (h:dY l= .err c x):¬ c=0:=by
 have:=wY _ _ _ h
 simpa using this
theorem tX (p:UInt8→Bool):∀ l:List UInt8,(l.take (tw p l)).all p=true
 |[]=>rfl
 |c :: l=>by
  rw[lW]
  split
  ·rw[List.take_succ_cons,List.all_cons,tX p l];simp[*]
  ·rfl
theorem uk {l:List UInt8} {kd:Int} {n:Nat} (h:dY l= .ok kd n):kd≠0∧(kd=2→n=tw dgB l∧n≤9):=by
 unfold dY iY mx Tk.textR iW at h
 split at h
 ·split at h
  ·cases h
  ·injection h with h1 h2;exact⟨by omega,fun e=>by omega⟩
 ·split at h
  ·split at h
   ·cases h
   ·split at h
    ·cases h
    ·injection h with h1 h2;exact⟨by omega,fun e=>⟨h2.symm,by omega⟩⟩
  ·split at h
   ·split at h
    ·cases h
    ·split at h
     ·cases h
     ·split at h
      ·cases h
      ·injection h with h1 h2;exact⟨by omega,fun e=>by omega⟩
   ·split at h
    ·cases h
    ·injection h with h1 h2;exact⟨by omega,fun e=>by omega⟩
def ya (u:LTok):Prop:=u.kind≠0∧(u.kind=2→0<u.text.length∧u.text.length≤9∧u.text.all dgB=true)
theorem mz:∀ (f o:Nat) (l:List UInt8) (ts:List LTok),l.length<f→j8 f o l= .ok ts→∃ us e,ts=us++[⟨0,[],e⟩]∧(∀ u∈us,ya u)∧us.length≤l.length
 |0,_,_,_,hf,_=>absurd hf (by omega)
 |f+1,o,l,ts,hf,h=>by
  rw[j8] at h
  have hle:=Tk.skipL_le false l
  split at h
  ·injection h with h
   exact⟨[],o+l.length,h.symm,fun u hu=>(by cases hu),Nat.zero_le _⟩
  ·rename_i hs
   cases ho:dY (l.drop (Tk.skipL false l)) with
   |err c x=>rw[ho] at h;cases h
   |ok kd n=>
    rw[ho] at h
    have hpos:0<(l.drop (Tk.skipL false l)).length:=by rw[List.length_drop];omega
    obtain ⟨h1,h2⟩:=lL _ _ _ hpos ho
    rw[List.length_drop] at h2
    obtain ⟨k1,k2⟩:=uk ho
    simp only at h
    cases hr:j8 f (o+Tk.skipL false l+n) (l.drop (Tk.skipL false l+n)) with
    |err c x=>rw[hr] at h;cases h
    |ok ts'=>
     rw[hr] at h
     injection h with h
     obtain ⟨us,e,e1,e2,e3⟩:=mz f _ _ ts' (by rw[List.length_drop];omega) hr
     rw[List.length_drop] at e3
     refine⟨_ :: us,e,by rw[← h,e1];rfl,fun u hu=>?_,by simp;omega⟩
     rcases List.mem_cons.1 hu with rfl|hu
     ·refine⟨k1,fun hk=>?_⟩
      have hk:kd=2:=hk
      subst hk
      obtain ⟨k3,k4⟩:=k2 rfl
      have ht:jI 2 n (l.drop (Tk.skipL false l))=(l.drop (Tk.skipL false l)).take n:=by unfold jI;rw[if_neg (by decide)]
      show 0<(jI 2 n _).length∧(jI 2 n _).length≤9∧(jI 2 n _).all dgB=true
      rw[ht,List.length_take,List.length_drop]
      exact⟨by omega,by omega,by rw[k3];exact tX _ _⟩
     ·exact e2 u hu
theorem pW:∀ (f o:Nat) (l:List UInt8) (ts:List LTok),j8 f o l= .ok ts→∀ u∈ts,u.text.length≤l.length
 |0,_,_,_,h,u,hu=>by
  rw[j8] at h
  injection h with h
  subst h
  cases hu
 |f+1,o,l,ts,h,u,hu=>by
  rw[j8] at h
  split at h
  ·injection h with h
   subst h
   rw[List.mem_singleton.1 hu]
   exact Nat.zero_le _
  ·cases ho:dY (l.drop (Tk.skipL false l)) with
   |err c x=>rw[ho] at h;cases h
   |ok kd n=>
    rw[ho] at h
    simp only at h
    cases hr:j8 f (o+Tk.skipL false l+n) (l.drop (Tk.skipL false l+n)) with
    |err c x=>rw[hr] at h;cases h
    |ok ts'=>
     rw[hr] at h
     injection h with h
     subst h
     rcases List.mem_cons.1 hu with rfl|hu
     ·show(jI _ _ _).length≤_
      unfold jI
      split
      ·rw[List.length_take,List.length_drop,List.length_drop];omega
      ·rw[List.length_take,List.length_drop];omega
     ·have:=pW f _ _ ts' hr u hu
      rw[List.length_drop] at this
      omega
theorem BV {src:List UInt8} {us:List LTok} {e:Nat} (h:∀ u∈us,ya u) (hl:us.length≤65536):Fine ((us++[(⟨0,[],e⟩:LTok)]).map (LTok.at src)):=by
 have key:∀ k:Ix ((us++[(⟨0,[],e⟩:LTok)]).map (LTok.at src)),(∃ hk:k.1<us.length,tk k=LTok.at src us[k.1])∨(k.1=us.length∧(tk k).kind=0):=fun k=>by
  have hk:k.1<us.length+1:=by have:=k.2;simpa using this
  by_cases hlt:k.1<us.length
  ·exact .inl ⟨hlt,by unfold tk;simp[List.getElem_append_left,hlt]⟩
  ·have he:k.1=us.length:=by omega
   refine .inr ⟨he,?_⟩
   unfold tk
   simp[he,LTok.at]
 refine⟨by simp,by simp;omega,fun k hk=>?_,fun k hk=>?_⟩
 ·rcases key k with⟨hlt,_⟩|⟨_,h0⟩
  ·simp;omega
  ·exact absurd h0 hk
 ·rcases key k with⟨hlt,ht⟩|⟨_,h0⟩
  ·rw[ht] at hk ⊢
   exact(h _ (List.getElem_mem hlt)).2 hk
  ·rw[h0] at hk;cases hk
theorem r4 {src:ByteArray} {l:List Tok} (h:dL src= .ok l):src.size≤65536∧∃ us e,tZ 0 src.data.toList= .ok (us++[⟨0,[],e⟩])∧l=(us++[(⟨0,[],e⟩:LTok)]).map (LTok.at src.data.toList)∧(∀ u∈us,ya u)∧us.length≤65536:=by
 by_cases hs:65536<src.size
 ·unfold dL at h;rw[if_pos hs] at h;cases h
 ·refine⟨by omega,?_⟩
  rw[AR src (by omega)] at h
  cases ha:tZ 0 src.data.toList with
  |err c x=>rw[ha] at h;cases h
  |ok ts=>
   rw[ha] at h
   injection h with h
   obtain ⟨us,e,e1,e2,e3⟩:=mz _ _ _ ts (Nat.lt_succ_self _) ha
   rw[sz] at e3
   exact⟨us,e,by rw[e1],by rw[← h,e1],e2,by omega⟩
theorem tm {src:ByteArray} {l:List Tok} (h:dL src= .ok l):∀ t∈l,t.text.size≤65536:=by
 obtain ⟨hs,us,e,ha,rfl,h2,h3⟩:=r4 h
 intro t ht
 obtain ⟨u,hu,rfl⟩:=List.mem_map.1 ht
 have:=pW _ _ _ _ ha u hu
 show(⟨u.text.toArray⟩:ByteArray).size≤_
 rw[bc]
 rw[sz] at this
 show u.text.length≤_
 omega
theorem fT {src:ByteArray} {l:List Tok} (h:dL src= .ok l):Fine l:=by
 obtain ⟨_,us,e,_,rfl,h2,h3⟩:=r4 h
 exact BV h2 h3
end Am
end Go.Proofs.YtkpodagbefnebaaGreatDoor
