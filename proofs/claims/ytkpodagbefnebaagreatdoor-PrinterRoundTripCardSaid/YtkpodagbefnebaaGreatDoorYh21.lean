import Derived.Test.YtkpodagbefnebaaGreatDoorYh19
import Derived.Test.YtkpodagbefnebaaGreatDoorYh20
import Derived.ScopeJumps
set_option linter.unusedSimpArgs false
set_option linter.unusedVariables false
set_option linter.unusedSectionVars false
namespace Go.Proofs.YtkpodagbefnebaaGreatDoor
namespace Am
open Tk Go.RowKit
set_option maxRecDepth 100000
set_option maxHeartbeats 1000000
def cO (L:List UInt8) (k:Nat):Po:=⟨(loc L k).1,(loc L k).2⟩
def fl0 (c:Int) (p:Po):Fa:=⟨c,p,⟨#[]⟩⟩
def AE (src:ByteArray) (k:Nat) (kd:Int) (n:Nat):ByteArray:=if kd=3 then src.extract (k+1) (k+n - 1) else src.extract k (k+n)
def kV (src:ByteArray):Nat→Nat→Except Fa (List Tok)
 |0,_=>.ok []
 |f+1,k=>
  if src.size≤k+skipL false (src.data.toList.drop k) then .ok [⟨0,⟨#[]⟩,cO src.data.toList src.size⟩]
  else match fT (src.data.toList.drop (k+skipL false (src.data.toList.drop k))) with
   | .err c off=>.error (fl0 c (cO src.data.toList (k+skipL false (src.data.toList.drop k)+off)))
   | .ok kd n=>kV src f (k+skipL false (src.data.toList.drop k)+n)>>=fun ts=>.ok ([⟨kd,AE src (k+skipL false (src.data.toList.drop k)) kd n,cO src.data.toList (k+skipL false (src.data.toList.drop k))⟩]++ts)
def gf (src:ByteArray):Except Fa (List Tok):=if 65536<src.size then .error (fl0 4 ⟨0,0⟩) else kV src (src.size+1) 0
abbrev skO (src:ByteArray) (k:Nat):HO:=.obj 154 (snR ⟨src,(k:Int),cO src.data.toList k⟩)
abbrev rnC (c:UInt8):C:=.sc (.int .i32 c.toNat)
abbrev byC (c:UInt8):C:=.sc (.int .u8 c.toNat)
def wg (p:Po) (c:UInt8):Po:=⟨(aft (p.line,p.col) c).1,(aft (p.line,p.col) c).2⟩
theorem A1 {L:List UInt8} {k:Nat} {c:UInt8} (h:L[k]? =some c):cO L (k+1)=wg (cO L k) c:=by
 obtain ⟨h1,h2⟩:=List.getElem?_eq_some_iff.1 h
 unfold cO wg
 rw[uW L k h1,h2]
section
variable {ρ:Operand→Option V} {H:Nat→Option HO} {d:Option Nat} {ty:TypeId} {pos:String} {af:Array Edge} {gu:Option (Nat×Bool)} {x i:Operand}
end
theorem qj (c:UInt8):Pure Tryz.prog 142 [.c (rnC c)] (.c (sB (dgB c))):=by
 refine fn1 (fn:=Tryz.f142) Tryz.call142 Tryz.func142 rfl Tryz.ntmps142 Tryz.results142 rfl (by rfl) ?_
 repeat'(first|(with_reducible first|apply AW.seq|apply AW.ret|apply ae|apply y_e|refine ah ?_)|((with_reducible apply ak);refine t_v AS.v ?_)|((with_reducible apply bc);refine t_m (hs:=fun hg=>AS.v) (k:=?_))|((with_reducible refine aA ?_);refine k_b ?_)|fail)
 unfold dgB gE bi;rw[Bool.decide_and]
theorem rF (c:UInt8):Pure Tryz.prog 143 [.c (rnC c)] (.c (sB (jv (bi c)))):=by
 refine fn1 (fn:=Tryz.f143) Tryz.call143 Tryz.func143 rfl Tryz.ntmps143 Tryz.results143 rfl (by rfl) ?_
 repeat'(first|(with_reducible first|apply AW.seq|apply AW.ret|apply ae|apply y_e|refine ah ?_)|((with_reducible apply ak);refine t_v AS.v ?_)|((with_reducible apply bc);refine t_m (hs:=fun hg=>AS.v) (k:=?_))|((with_reducible refine aA ?_);refine k_b ?_)|fail)
 unfold jv bi;rw[Bool.decide_and,Bool.decide_and]
theorem AC (c:UInt8):Pure Tryz.prog 280 [.c (rnC c)] (.c (sB (nmB c))):=by
 refine fn1 (fn:=Tryz.f280) Tryz.call280 Tryz.func280 rfl Tryz.ntmps280 Tryz.results280 rfl (by rfl) ?_
 repeat'(first|(with_reducible first|apply AW.seq|apply AW.ret|apply ae|apply y_e|refine ah ?_)|((with_reducible apply ak);first|refine t_v AS.v ?_|refine t_v (by exact ag (hP:=rF c)) ?_)|((with_reducible apply bc);first|refine t_m (hs:=fun hg=>AS.v) (k:=?_)|refine t_m (hs:=fun hg=>(by exact ag (hP:=qj c))) (k:=?_))|((with_reducible refine aA ?_);refine k_b ?_)|fail)
 simp[nmB,dgB]
theorem F9 (p:Po) (c:UInt8) (hl:0≤p.line∧p.line≤1000000) (hc:0≤p.col∧p.col≤1000000):Pure Tryz.prog 278 [.agg (poC p),.c (byC c)] (.agg (poC (wg p c))):=by
 by_cases h:(c.toNat:Int)=10
 ·have e:wg p c=⟨p.line+1,1⟩:=by unfold wg aft bi;rw[if_pos h]
  rw[e]
  refine fn2 (fn:=Tryz.f278) Tryz.call278 Tryz.func278 rfl Tryz.ntmps278 Tryz.results278 rfl (by rfl) ?_
  repeat'(first|(with_reducible first|apply AW.seq|apply AW.skip|apply AW.ret|apply ae|apply aq|apply y_e|refine ah ?_)|((with_reducible apply ak);first|refine t_v AS.v ?_|refine t_w AS.w ?_)|((with_reducible apply aV);refine t_s AS.s ?_)|((with_reducible refine au ?_);((refine aj (fun hc=>?_) (fun hc=>?_);all_goals(try(exfalso;simp[*] at hc;done)))))|((with_reducible refine aA ?_);refine k_c ?_)|fail)
  all_goals rfl
 ·have e:wg p c=⟨p.line,p.col+1⟩:=by unfold wg aft bi;rw[if_neg h]
  rw[e]
  refine fn2 (fn:=Tryz.f278) Tryz.call278 Tryz.func278 rfl Tryz.ntmps278 Tryz.results278 rfl (by rfl) ?_
  repeat'(first|(with_reducible first|apply AW.seq|apply AW.skip|apply AW.ret|apply ae|apply aq|apply y_e|refine ah ?_)|((with_reducible apply ak);first|refine t_v AS.v ?_|refine t_w AS.w ?_)|((with_reducible apply aV);refine t_s AS.s ?_)|((with_reducible refine au ?_);((refine aj (fun hc=>?_) (fun hc=>?_);all_goals(try(exfalso;simp[*] at hc;done)))))|((with_reducible refine aA ?_);refine k_c ?_)|fail)
  all_goals rfl
theorem Gb (L:List UInt8) (k:Nat):0≤(cO L k).line∧(cO L k).line≤k+1∧0≤(cO L k).col∧(cO L k).col≤k+1:=by
 obtain ⟨h1,h2,h3,h4⟩:=CH L k
 unfold cO
 exact⟨by show(0:Int)≤(loc L k).1;omega,h2,by show(0:Int)≤(loc L k).2;omega,h4⟩
section
variable {src:ByteArray} {k:Nat}
theorem gC (hs:src.size≤65536):Pure Tryz.prog 145 [.c (.ep (snR ⟨src,(k:Int),cO src.data.toList k⟩))] (.c (sB (decide (src.size≤k)))):=by
 refine fn1 (fn:=Tryz.f145) Tryz.call145 Tryz.func145 rfl Tryz.ntmps145 Tryz.results145 rfl (by rfl) ?_
 repeat'(first|(with_reducible first|apply AW.seq|apply AW.ret|apply ae|apply y_e|refine ah ?_|refine bb ?_)|((with_reducible apply ak);refine t_v AS.v ?_)|((with_reducible refine aA ?_);refine k_b ?_)|(refine⟨by decide +kernel,?_⟩)|fail)
 rw[decide_eq_decide];omega
theorem ow (hs:src.size≤65536) {c:UInt8} (hc:src.data.toList[k]? =some c):Pure Tryz.prog 206 [.c (.ep (snR ⟨src,(k:Int),cO src.data.toList k⟩))] (.c (rnC c)):=by
 have hk:k<src.size:=by rw[bZ];exact(List.getElem?_eq_some_iff.1 hc).1
 have e:=gC (k:=k) hs
 rw[decide_eq_false (by omega)] at e
 refine fn1 (fn:=Tryz.f206) Tryz.call206 Tryz.func206 rfl Tryz.ntmps206 Tryz.results206 rfl (by rfl) ?_
 repeat'(first|(with_reducible first|apply AW.seq|apply AW.skip|apply AW.ret|apply ae|apply y_e|refine ah ?_|refine bb ?_)|((with_reducible apply ak);first|refine t_v AS.v ?_|refine t_v (by exact bn (hP:=e)) ?_)|((with_reducible refine au ?_);refine cj ?_)|((with_reducible refine aA ?_);refine k_i ?_)|(refine⟨by decide +kernel,?_⟩)|fail)
 rfl
theorem jm (e:Int):Pure Tryz.prog 212 [.c (.ep (snR ⟨src,(k:Int),cO src.data.toList k⟩)),.c (sI e)] (.agg (faC ⟨e,cO src.data.toList k,⟨#[]⟩⟩)):=by
 refine fn2 (fn:=Tryz.f212) Tryz.call212 Tryz.func212 rfl Tryz.ntmps212 Tryz.results212 rfl (by rfl) ?_
 repeat'(first|(with_reducible first|apply AW.seq|apply AW.ret|apply ae|apply y_e|refine ah ?_)|((with_reducible apply ak);first|refine t_v AS.v ?_|refine t_w AS.w ?_)|((with_reducible apply aV);refine t_s AS.s ?_)|((with_reducible refine aA ?_);refine k_c ?_)|fail)
 rfl
theorem yg {c:UInt8} (hc:src.data.toList[k]? =some c):k<src.size:=by rw[bZ];exact(List.getElem?_eq_some_iff.1 hc).1
theorem get_at (h:k<src.size):∃ c,src.data.toList[k]? =some c:=⟨_,List.getElem?_eq_getElem (by rw[← bZ];exact h)⟩
theorem kG (hs:src.size≤65536) {n:Nat} (hn:k+n≤src.size):MX Tryz.prog 207 [(0,skO src k)] [.c (.ptr 0 0),.c (sI n)] (.ok ((),()):Except Fa (Unit×Unit)) (fun _=>.tup []) (fun _=>[(0,skO src (k+n))]) pvS:=by
 refine MXA (fn:=Tryz.f207) Tryz.call207 Tryz.func207 rfl Tryz.ntmps207 Tryz.results207 rfl rfl ?_
 repeat'(first|(with_reducible first|apply AW.seq|apply AW.block|apply AW.exit|apply ae|apply aJ|apply aW|apply y_e|refine ah ?_)|((with_reducible apply ak);refine t_v AS.v ?_)|((with_reducible refine au ?_);((refine aj (fun hc=>?_) (fun hc=>?_);all_goals(try(exfalso;simp[*] at hc;done)))))|((with_reducible refine bo ?_);refine l_0 (k:=?_))|fail)
 refine AW.loop (fun m σ=>∃ j:Nat,m=n - j∧j≤n∧σ=mk [(5,.c (sI (j:Int))),(4,.c (sI n)),(0,.c (.ptr 0 0))] [(0,skO src (k+j))]) n ?_ ?_
 ·exact⟨_,wkA,0,rfl,Nat.zero_le _,rfl⟩
 rintro m σ ⟨j,rfl,hj,rfl⟩
 by_cases hlt:j<n
 ·obtain ⟨c,hc⟩:=get_at (src:=src) (k:=k+j) (by omega)
  have hp:=Gb src.data.toList (k+j)
  have a:=F9 (cO src.data.toList (k+j)) c (by omega) (by omega)
  rw[← A1 hc] at a
  have hks:=yg hc
  have en:((k+j:Nat):Int)+1=((k+(j+1):Nat):Int):=by omega
  clear hp
  repeat'(first|(with_reducible first|apply AW.seq|apply AW.block|apply AW.skip|apply ae|apply aw|apply y_e|refine ah ?_|refine bb ?_)|((with_reducible apply ak);first|refine t_v AS.v ?_|refine t_v (by exact ag (hP:=a)) ?_)|((with_reducible apply aV);refine t_s AS.s ?_)|((with_reducible refine au ?_);((refine aj (fun hc=>?_) (fun hc=>?_);all_goals(try(exfalso;simp[*] at hc;done)))))|(refine⟨by decide +kernel,?_⟩)|fail)
  all_goals simp only[en]
  ·exact⟨_,_,(show n - (j+1)<n - j by omega),wkA,j+1,rfl,hlt,rfl⟩
 ·have e:j=n:=by omega
  subst e
  repeat'(first|(with_reducible first|apply AW.seq|apply AW.block|apply AW.exit|apply ae|apply aJ|apply aW|apply y_e|refine ah ?_)|((with_reducible apply ak);refine t_v AS.v ?_)|((with_reducible refine au ?_);((refine aj (fun hc=>?_) (fun hc=>?_);all_goals(try(exfalso;simp[*] at hc;done)))))|((with_reducible refine bo ?_);refine l_0 (k:=?_))|fail)
  exact⟨(),(),rfl,rfl,aD rfl⟩
theorem xN (hs:src.size≤65536) (hk:k≤src.size) {f:Nat} {q:UInt8→Bool} (hq:∀ c,Pure Tryz.prog f [.c (rnC c)] (.c (sB (q c)))):Pure Tryz.prog 279 [.c (.ep (snR ⟨src,(k:Int),cO src.data.toList k⟩)),.c (.fn f [])] (.c (sI (tw q (src.data.toList.drop k):Nat))):=by
 refine fn2 (fn:=Tryz.f279) Tryz.call279 Tryz.func279 rfl Tryz.ntmps279 Tryz.results279 rfl (by rfl) ?_
 repeat'(first|(with_reducible first|apply AW.seq|apply AW.block|apply ae|apply y_e|refine ah ?_)|((with_reducible apply ak);refine t_v AS.v ?_)|fail)
 refine AW.loop (fun m σ=>∃ j:Nat,m=src.size - (k+j)∧k+j≤src.size∧tw q (src.data.toList.drop k)=j+tw q (src.data.toList.drop (k+j))∧σ=mk [(5,.c (sI (j:Int))),(4,.c (sI 0)),(0,.c (.ep (snR ⟨src,(k:Int),cO src.data.toList k⟩))),(1,.c (.fn f []))] []) (src.size - k) ?_ ?_
 ·exact⟨_,wkA,0,rfl,hk,(Nat.zero_add _).symm,rfl⟩
 rintro m σ ⟨j,rfl,hj,ht,rfl⟩
 generalize tw q (src.data.toList.drop k)=z at ht
 have HT:=Lib.hid ht
 clear ht
 by_cases hlt:k+j<src.size
 ·obtain ⟨c,hc⟩:=get_at (src:=src) (k:=k+j) hlt
  repeat'(first|(with_reducible first|apply AW.seq|apply AW.block|apply AW.skip|apply AW.ret|apply AW.exit|apply ae|apply aJ|apply aw|apply aW|apply y_e|refine ah ?_|refine bb ?_)|((with_reducible apply ak);refine t_v AS.v ?_)|((with_reducible apply bc);first|refine t_m (hs:=fun hg=>AS.v) (k:=?_)|refine t_m (hs:=fun hg=>(by exact ag (hP:=hq c))) (k:=?_))|((with_reducible refine au ?_);((refine aj (fun hc=>?_) (fun hc=>?_))))|((with_reducible refine aA ?_);refine k_i ?_)|(refine⟨by decide +kernel,?_⟩)|fail)
  ·have hk1:(decide ((k:Int)+(j:Int)<src.size))=true:=decide_eq_true (by omega)
   rw[hk1,Bool.true_and] at hc
   have ht:=HT.out
   obtain ⟨h1,h2⟩:=List.getElem?_eq_some_iff.1 (by assumption)
   rw[K4 q src.data.toList (k+j) h1 (by rw[h2];exact hc)] at ht
   exact⟨_,_,(show src.size - (k+(j+1))<src.size - (k+j) by omega),wkA,j+1,rfl,by omega,by rw[← Nat.add_assoc k j 1];omega,rfl⟩
  ·have hk1:(decide ((k:Int)+(j:Int)<src.size))=true:=decide_eq_true (by omega)
   rw[hk1,Bool.true_and] at hc
   have ht:=HT.out
   obtain ⟨h1,h2⟩:=List.getElem?_eq_some_iff.1 (by assumption)
   rw[LF q src.data.toList (k+j) h1 (by rw[h2];exact hc)] at ht
   rw[ht];rfl
 ·have e0:=K3 q src.data.toList (k+j) (by rw[← bZ];omega)
  have hI:¬ ((k:Int)+(j:Int)<src.size):=by omega
  repeat'(first|(with_reducible first|apply AW.seq|apply AW.ret|apply AW.exit|apply ae|apply aJ|apply aW|apply y_e|refine ah ?_|refine bb ?_)|((with_reducible apply ak);refine t_v AS.v ?_)|((with_reducible apply bc);refine t_f ?_)|((with_reducible refine au ?_);refine cj ?_)|((with_reducible refine aA ?_);refine k_i ?_)|(refine⟨by decide +kernel,?_⟩)|fail)
  have ht:=HT.out
  rw[e0] at ht
  rw[ht];rfl
theorem oz (hs:src.size≤65536) {n:Nat} (hn:k+n≤src.size):MX Tryz.prog 213 [(0,skO src k)] [.c (.ptr 0 0),.c (sI n)] (.ok (src.extract k (k+n),()):Except Fa (ByteArray×Unit)) (fun s=>.c (sS s)) (fun _=>[(0,skO src (k+n))]) pvS:=by
 have a:=(kG (k:=k) hs hn).ok _ _ rfl
 refine MXA (fn:=Tryz.f213) Tryz.call213 Tryz.func213 rfl Tryz.ntmps213 Tryz.results213 rfl rfl ?_
 repeat'(first|(with_reducible first|apply AW.seq|apply AW.ret|apply ae|apply y_e|refine ah ?_|refine bb ?_)|((with_reducible apply ak);first|refine t_v AS.v ?_|refine t_w (by exact ch (hP:=a)) ?_)|((with_reducible refine bo ?_);refine l_1 (k:=?_))|(refine⟨by decide +kernel,?_⟩)|fail)
 exact⟨_,(),rfl,rfl,aD rfl⟩
theorem mD (s:ByteArray) (f:Fa):(V.tup [.c (sS s),.agg (faC f)]).un= .tup [.c (sS s),.agg (faC f)]:=by simp only[V.un,unV,C.un,unA]
def iC (src:ByteArray) (k:Nat):(ByteArray×Fa)×Nat:=if 32<tw nmB (src.data.toList.drop k) then((⟨#[]⟩,fl0 10 (cO src.data.toList k)),k) else((src.extract k (k+tw nmB (src.data.toList.drop k)),Fa.zero),k+tw nmB (src.data.toList.drop k))
theorem E3 (p:UInt8→Bool) (h:k≤src.size):k+tw p (src.data.toList.drop k)≤src.size:=by
 have:=E4 p (src.data.toList.drop k)
 rw[List.length_drop,←bZ] at this
 omega
theorem H5 (hs:src.size≤65536) (hk:k≤src.size):MX Tryz.prog 208 [(0,skO src k)] [.c (.ptr 0 0)] (.ok (iC src k):Except Fa ((ByteArray×Fa)×Nat)) (fun r=>.tup [.c (sS r.1),.agg (faC r.2)]) (fun j=>[(0,skO src j)]) pvS:=by
 have hn:=E3 (k:=k) nmB hk
 have r:=xN (k:=k) hs hk AC
 have w:=(oz (k:=k) hs hn).ok _ _ rfl
 by_cases h:32<tw nmB (src.data.toList.drop k)
 ·have e:iC src k=((⟨#[]⟩,fl0 10 (cO src.data.toList k)),k):=if_pos h
  rw[e]
  refine MXA (fn:=Tryz.f208) Tryz.call208 Tryz.func208 rfl Tryz.ntmps208 Tryz.results208 rfl rfl ?_
  repeat'(first|(with_reducible first|apply AW.seq|apply AW.skip|apply AW.ret|apply ae|apply aq|apply y_e|refine ah ?_)|((with_reducible apply ak);first|refine t_v AS.v ?_|refine t_v (by first|exact bn (hP:=r)|exact bn (hP:=jm _)) ?_|refine t_w AS.w ?_|refine t_w (by exact ch (hP:=w)) ?_)|((with_reducible apply aV);refine t_s AS.s ?_)|((with_reducible refine au ?_);((refine aj (fun hc=>?_) (fun hc=>?_);all_goals(try(exfalso;revert hc;simp;omega)))))|((with_reducible refine bo ?_);refine Cu (k:=?_))|fail)
  exact⟨_,_,rfl,mD _ _,aD rfl⟩
 ·have e:iC src k=((src.extract k (k+tw nmB (src.data.toList.drop k)),Fa.zero),k+tw nmB (src.data.toList.drop k)):=if_neg h
  rw[e]
  refine MXA (fn:=Tryz.f208) Tryz.call208 Tryz.func208 rfl Tryz.ntmps208 Tryz.results208 rfl rfl ?_
  repeat'(first|(with_reducible first|apply AW.seq|apply AW.skip|apply AW.ret|apply ae|apply aq|apply y_e|refine ah ?_)|((with_reducible apply ak);first|refine t_v AS.v ?_|refine t_v (by first|exact bn (hP:=r)|exact bn (hP:=jm _)) ?_|refine t_w AS.w ?_|refine t_w (by exact ch (hP:=w)) ?_)|((with_reducible apply aV);refine t_s AS.s ?_)|((with_reducible refine au ?_);((refine aj (fun hc=>?_) (fun hc=>?_);all_goals(try(exfalso;revert hc;simp;omega)))))|((with_reducible refine bo ?_);refine Cu (k:=?_))|fail)
  exact⟨_,_,rfl,mD _ _,aD rfl⟩
def mi (src:ByteArray) (k:Nat):(ByteArray×Fa)×Nat:=
 if 9<tw dgB (src.data.toList.drop k) then((⟨#[]⟩,fl0 3 (cO src.data.toList k)),k)
 else if 1<tw dgB (src.data.toList.drop k)∧bi ((src.data.toList.drop k).getD 0 0)=48 then((⟨#[]⟩,fl0 9 (cO src.data.toList k)),k)
 else((src.extract k (k+tw dgB (src.data.toList.drop k)),Fa.zero),k+tw dgB (src.data.toList.drop k))
theorem getD_at {L:List UInt8} {j:Nat} {c:UInt8} (hc:L[j]? =some c):(L.drop j).getD 0 0=c:=by
 obtain ⟨h1,h2⟩:=List.getElem?_eq_some_iff.1 hc
 rw[zS L j h1,h2]
theorem Av (hs:src.size≤65536) {c:UInt8} (hc:src.data.toList[k]? =some c):MX Tryz.prog 209 [(0,skO src k)] [.c (.ptr 0 0)] (.ok (mi src k):Except Fa ((ByteArray×Fa)×Nat)) (fun r=>.tup [.c (sS r.1),.agg (faC r.2)]) (fun j=>[(0,skO src j)]) pvS:=by
 have hk:=Nat.le_of_lt (yg hc)
 have hn:=E3 (k:=k) dgB hk
 have r:=xN (k:=k) hs hk qj
 have w:=(oz (k:=k) hs hn).ok _ _ rfl
 have nx:=ow hs hc
 have ev:mi src k=if 9<tw dgB (src.data.toList.drop k) then((⟨#[]⟩,fl0 3 (cO src.data.toList k)),k) else if 1<tw dgB (src.data.toList.drop k)∧bi c=48 then((⟨#[]⟩,fl0 9 (cO src.data.toList k)),k) else((src.extract k (k+tw dgB (src.data.toList.drop k)),Fa.zero),k+tw dgB (src.data.toList.drop k)):=by unfold mi;rw[getD_at hc]
 rw[ev]
 clear ev hc
 generalize tw dgB (src.data.toList.drop k)=n at *
 refine MXA (fn:=Tryz.f209) Tryz.call209 Tryz.func209 rfl Tryz.ntmps209 Tryz.results209 rfl rfl ?_
 repeat'(first|(with_reducible first|apply AW.seq|apply AW.block|apply AW.skip|apply AW.ret|apply ae|apply aq|apply aw|apply aG|apply y_e|refine ah ?_)|((with_reducible apply ak);first|refine t_v AS.v ?_|refine t_v (by first|exact bn (hP:=r)|exact bn (hP:=jm _)) ?_|refine t_w AS.w ?_|refine t_w (by exact ch (hP:=w)) ?_)|((with_reducible apply bc);first|refine t_m (hs:=fun hg=>AS.v) (k:=?_)|refine t_m (hs:=fun hg=>(by exact bn (hP:=nx))) (k:=?_))|((with_reducible apply aV);refine t_s AS.s ?_)|((with_reducible refine au ?_);((refine aj (fun hc=>?_) (fun hc=>?_))))|((with_reducible refine bo ?_);refine Cu (k:=?_))|fail)
 ·have h:9<n:=by have:=of_decide_eq_true hc;omega
  exact⟨_,_,by rw[if_pos h],mD _ _,aD rfl⟩
 ·rename_i h9
  have h:¬ 9<n:=by have:=of_decide_eq_false h9;omega
  simp only[Bool.and_eq_true,decide_eq_true_eq] at hc
  exact⟨_,_,by rw[if_neg h,if_pos ⟨by omega,hc.2⟩],mD _ _,aD rfl⟩
 ·rename_i h9
  have h:¬ 9<n:=by have:=of_decide_eq_false h9;omega
  simp only[Bool.and_eq_false_iff,decide_eq_false_iff_not] at hc
  exact⟨_,_,by rw[if_neg h,if_neg fun hh=>hc.elim (fun hc=>hc (by omega)) fun hc=>hc hh.2],mD _ _,aD rfl⟩
theorem tB (c:UInt8):Pure Tryz.prog 281 [.c (rnC c)] (.c (sB (ptB c))):=by
 refine fn1 (fn:=Tryz.f281) Tryz.call281 Tryz.func281 rfl Tryz.ntmps281 Tryz.results281 rfl (by rfl) ?_
 repeat'(first|(with_reducible first|apply AW.seq|apply AW.ret|apply ae|apply y_e|refine ah ?_)|((with_reducible apply ak);refine t_v AS.v ?_)|((with_reducible apply bc);refine t_m (hs:=fun hg=>AS.v) (k:=?_))|((with_reducible refine aA ?_);refine k_b ?_)|fail)
 unfold ptB Af bi
 rw[Bool.decide_and,Bool.decide_and]
 simp[Bool.and_assoc]
def iv (src:ByteArray) (k:Nat):(ByteArray×Fa)×Nat:=
 if src.size≤k+1+tw ptB (src.data.toList.drop (k+1)) then((⟨#[]⟩,fl0 5 (cO src.data.toList k)),k+1)
 else if ¬ bi ((src.data.toList.drop (k+1)).getD (tw ptB (src.data.toList.drop (k+1))) 0)=34 then((⟨#[]⟩,fl0 9 (cO src.data.toList (k+1+tw ptB (src.data.toList.drop (k+1))))),k+1+tw ptB (src.data.toList.drop (k+1)))
 else if 256<tw ptB (src.data.toList.drop (k+1)) then((⟨#[]⟩,fl0 4 (cO src.data.toList k)),k+1)
 else((src.extract (k+1) (k+1+tw ptB (src.data.toList.drop (k+1))),Fa.zero),k+1+tw ptB (src.data.toList.drop (k+1))+1)
theorem H7 (hs:src.size≤65536) (hk:k<src.size):MX Tryz.prog 210 [(0,skO src k)] [.c (.ptr 0 0)] (.ok (iv src k):Except Fa ((ByteArray×Fa)×Nat)) (fun r=>.tup [.c (sS r.1),.agg (faC r.2)]) (fun j=>[(0,skO src j)]) pvS:=by
 have hn:=E3 (k:=k+1) ptB hk
 have r:=xN (k:=k+1) hs hk tB
 have s1:=(kG (k:=k) (n:=1) hs hk).ok _ _ rfl
 by_cases h5:src.size≤k+1+tw ptB (src.data.toList.drop (k+1))
 ·have e:iv src k=((⟨#[]⟩,fl0 5 (cO src.data.toList k)),k+1):=if_pos h5
  rw[e]
  clear e
  generalize tw ptB (src.data.toList.drop (k+1))=n at *
  refine MXA (fn:=Tryz.f210) Tryz.call210 Tryz.func210 rfl Tryz.ntmps210 Tryz.results210 rfl rfl ?_
  repeat'(first|(with_reducible first|apply AW.seq|apply AW.block|apply AW.ret|apply ae|apply aq|apply aG|apply y_e|refine ah ?_|refine bb ?_)|((with_reducible apply ak);first|refine t_v AS.v ?_|refine t_v (by first|exact bn (hP:=r)|exact bn (hP:=jm _)) ?_|refine t_w AS.w ?_|refine t_w (by exact ch (hP:=s1)) ?_)|((with_reducible apply aV);refine t_s AS.s ?_)|((with_reducible refine au ?_);((refine aj (fun hc=>?_) (fun hc=>?_);all_goals(try(exfalso;revert hc;simp;omega)))))|((with_reducible refine bo ?_);refine Cu (k:=?_))|(refine⟨by decide +kernel,?_⟩)|fail)
  exact⟨_,_,rfl,mD _ _,aD rfl⟩
 ·obtain ⟨c,hc⟩:=get_at (src:=src) (k:=k+1+tw ptB (src.data.toList.drop (k+1))) (by omega)
  have ev:iv src k=if ¬ bi c=34 then((⟨#[]⟩,fl0 9 (cO src.data.toList (k+1+tw ptB (src.data.toList.drop (k+1))))),k+1+tw ptB (src.data.toList.drop (k+1))) else if 256<tw ptB (src.data.toList.drop (k+1)) then((⟨#[]⟩,fl0 4 (cO src.data.toList k)),k+1) else((src.extract (k+1) (k+1+tw ptB (src.data.toList.drop (k+1))),Fa.zero),k+1+tw ptB (src.data.toList.drop (k+1))+1):=by
   unfold iv
   rw[if_neg h5]
   have:(src.data.toList.drop (k+1)).getD (tw ptB (src.data.toList.drop (k+1))) 0=c:=by
    rw[List.getD_eq_getElem?_getD,List.getElem?_drop,hc];rfl
   rw[this]
  rw[ev]
  clear ev
  have w:=(oz (k:=k+1) hs hn).ok _ _ rfl
  have s2:=(kG (k:=k+1) hs hn).ok _ _ rfl
  have s3:=(kG (k:=k+1+tw ptB (src.data.toList.drop (k+1))) (n:=1) hs (by omega)).ok _ _ rfl
  generalize tw ptB (src.data.toList.drop (k+1))=n at *
  refine MXA (fn:=Tryz.f210) Tryz.call210 Tryz.func210 rfl Tryz.ntmps210 Tryz.results210 rfl rfl ?_
  repeat'(first|(with_reducible first|apply AW.seq|apply AW.block|apply AW.skip|apply AW.ret|apply ae|apply aq|apply aw|apply aG|apply y_e|refine ah ?_|refine bb ?_)|((with_reducible apply ak);first|refine t_v AS.v ?_|refine t_v (by first|exact bn (hP:=r)|exact bn (hP:=jm _)) ?_|refine t_w AS.w ?_|refine t_w (by first|exact ch (hP:=s1)|exact ch (hP:=w)|exact ch (hP:=s2)|exact ch (hP:=s3)) ?_)|((with_reducible apply aV);refine t_s AS.s ?_)|((with_reducible refine au ?_);((refine aj (fun hc=>?_) (fun hc=>?_);all_goals(try(exfalso;revert hc;simp;omega)))))|((with_reducible refine bo ?_);refine Cu (k:=?_))|(refine⟨by decide +kernel,?_⟩)|fail)
  ·have h:¬ bi c=34:=fun e=>by
    have e:(c.toNat:Int)=34:=e
    rw[e] at hc;simp at hc
   exact⟨_,_,by rw[if_pos h],mD _ _,aD rfl⟩
  ·rename_i hq
   have h:bi c=34:=by simpa [bi] using hq
   have h2:256<n:=by have:=of_decide_eq_true hc;omega
   exact⟨_,_,by rw[if_neg fun hh=>hh h,if_pos h2],mD _ _,aD rfl⟩
  ·rename_i hq
   have h:bi c=34:=by simpa [bi] using hq
   have h2:¬ 256<n:=by have:=of_decide_eq_false hc;omega
   exact⟨_,_,by rw[if_neg fun hh=>hh h,if_neg h2],mD _ _,aD rfl⟩
end
end Am
namespace Am
open Tk Go.RowKit
theorem E5 (p:UInt8→Bool) (l:List UInt8) (h:0<l.length) (hp:p (l.getD 0 0)=true):0<tw p l:=by
 cases l with
 |nil=>simp at h
 |cons c l=>rw[oA];simp at hp;rw[if_pos hp];omega
theorem uZ (l:List UInt8):eC l≤l.length:=by
 cases l with
 |nil=>decide
 |cons c l=>
  unfold eC
  split
  ·rename_i h
   simp[marks2] at h
   simp only[List.length_cons]
   rcases h with h|h|h|h <;> (have:=congrArg List.length h.2;simp at this;omega)
  ·simp only[List.length_cons];split <;> omega
theorem mo (l:List UInt8) (kd:Int) (n:Nat) (h:0<l.length) (hr:fT l= .ok kd n):0<n∧n≤l.length:=by
 unfold fT at hr
 cases hc:jv (bi (l.getD 0 0))
 ·rw[hc] at hr
  cases hd:gE (bi (l.getD 0 0))
  ·rw[hd] at hr
   simp only[Bool.false_eq_true,if_false] at hr
   by_cases hq:bi (l.getD 0 0)=34
   ·rw[if_pos hq] at hr
    unfold Tk.textR at hr
    split at hr
    ·cases hr
    ·split at hr
     ·cases hr
     ·split at hr
      ·cases hr
      ·injection hr with e1 e2
       subst e2
       rename_i h1 _ _
       rw[List.length_drop] at h1
       omega
   ·rw[if_neg hq] at hr
    unfold mf at hr
    split at hr
    ·cases hr
    ·injection hr with e1 e2
     subst e2
     have:=uZ l
     omega
  ·rw[hd] at hr
   simp only[Bool.false_eq_true,if_false,if_true,vf] at hr
   split at hr
   ·cases hr
   ·split at hr
    ·cases hr
    ·injection hr with e1 e2
     subst e2
     exact⟨E5 dgB l h hd,E4 _ _⟩
 ·rw[hc] at hr
  simp only[if_true,nG] at hr
  split at hr
  ·cases hr
  ·injection hr with e1 e2
   subst e2
   exact⟨E5 nmB l h (by unfold nmB;rw[hc];rfl),E4 _ _⟩
theorem Da (l:List UInt8) (c:Int) (off:Nat) (h:fT l= .err c off):(c == 0)=false:=by
 unfold fT nG vf Tk.textR mf at h
 split at h
 ·split at h
  ·injection h with h1 h2;subst h1;rfl
  ·cases h
 ·split at h
  ·split at h
   ·injection h with h1 h2;subst h1;rfl
   ·split at h
    ·injection h with h1 h2;subst h1;rfl
    ·cases h
  ·split at h
   ·split at h
    ·injection h with h1 h2;subst h1;rfl
    ·split at h
     ·injection h with h1 h2;subst h1;rfl
     ·split at h
      ·injection h with h1 h2;subst h1;rfl
      ·cases h
   ·split at h
    ·injection h with h1 h2;subst h1;rfl
    ·cases h
theorem IG {s:ByteArray} {l:List UInt8} (h:s.data.toList=l):s=⟨l.toArray⟩:=by
 obtain ⟨⟨m⟩⟩:=s
 simp only at h
 rw[h]
theorem Jt (l:List UInt8) (kd:Int) (n:Nat) (h:fT l= .ok kd n) (h3:kd=3):2≤n:=by
 unfold fT nG vf Tk.textR mf at h
 split at h
 ·split at h
  ·cases h
  ·injection h with h1 h2;omega
 ·split at h
  ·split at h
   ·cases h
   ·split at h
    ·cases h
    ·injection h with h1 h2;omega
  ·split at h
   ·split at h
    ·cases h
    ·split at h
     ·cases h
     ·split at h
      ·cases h
      ·injection h with h1 h2;omega
   ·split at h
    ·cases h
    ·injection h with h1 h2;omega
structure LTok where
 kind:Int
 text:List UInt8
 off:Nat
inductive LR where
 |err (c:Int) (off:Nat)
 |ok (ts:List LTok)
def LR.app (us:List LTok):LR→LR
 | .err c o=>.err c o
 | .ok ts=>.ok (us++ts)
theorem LR.app_app (a b:List LTok) (r:LR):LR.app a (LR.app b r)=LR.app (a++b) r:=by cases r <;> simp[LR.app]
def gh (kd:Int) (n:Nat) (l:List UInt8):List UInt8:=if kd=3 then(l.drop 1).take (n - 2) else l.take n
def gI:Nat→Nat→List UInt8→LR
 |0,_,_=>.ok []
 |f+1,o,l=>
  if l.length≤skipL false l then .ok [⟨0,[],o+l.length⟩]
  else match fT (l.drop (skipL false l)) with
   | .err c x=>.err c (o+skipL false l+x)
   | .ok kd n=>LR.app [⟨kd,gh kd n (l.drop (skipL false l)),o+skipL false l⟩] (gI f (o+skipL false l+n) (l.drop (skipL false l+n)))
def LTok.at (src:List UInt8) (t:LTok):Tok:=⟨t.kind,⟨t.text.toArray⟩,cO src t.off⟩
def AD (src:List UInt8):LR→Except Fa (List Tok)
 | .err c o=>.error (fl0 c (cO src o))
 | .ok ts=>.ok (ts.map (LTok.at src))
theorem E1 (src:List UInt8) (us:List LTok) (r:LR):AD src (LR.app us r)=AD src r>>=fun ts=>.ok (us.map (LTok.at src)++ts):=by cases r <;> simp[LR.app,AD,aa,ar]
theorem dx (s:ByteArray) (a b:Nat) (h:b≤s.size):(s.extract a b).data.toList=(s.data.toList.drop a).take (b - a):=by
 simp[ByteArray.data_extract,Array.toList_extract,List.extract,Nat.min_eq_left h]
theorem AF (s:ByteArray) (k:Nat) (kd:Int) (n:Nat) (h:k+n≤s.size) (h2:kd=3→2≤n):AE s k kd n=⟨(gh kd n (s.data.toList.drop k)).toArray⟩:=by
 apply IG
 unfold AE gh
 split
 ·have:=h2 (by assumption)
  rw[dx _ _ _ (by omega),List.drop_drop]
  congr 1
  omega
 ·rw[dx _ _ _ (by omega)]
  congr 1
  omega
theorem zh (s:ByteArray):∀ (f k:Nat),k≤s.size→kV s f k=AD s.data.toList (gI f k (s.data.toList.drop k))
 |0,k,_=>rfl
 |f+1,k,hk=>by
  have hlen:(s.data.toList.drop k).length=s.size - k:=by rw[List.length_drop,sz]
  have hle:=Tk.skipL_le false (s.data.toList.drop k)
  rw[kV,gI]
  by_cases h:s.size≤k+Tk.skipL false (s.data.toList.drop k)
  ·rw[if_pos h,if_pos (by omega),AD,hlen,show k+(s.size - k)=s.size by omega]
   rfl
  ·rw[if_neg h,if_neg (by omega),List.drop_drop]
   cases ho:fT (s.data.toList.drop (k+Tk.skipL false (s.data.toList.drop k))) with
   |err c x=>rfl
   |ok kd n=>
    have hlen2:(s.data.toList.drop (k+Tk.skipL false (s.data.toList.drop k))).length=s.size - (k+Tk.skipL false (s.data.toList.drop k)):=by rw[List.length_drop,sz]
    obtain ⟨h1,h2⟩:=mo _ _ _ (by omega) ho
    have h3:kd=3→2≤n:=Jt _ _ _ ho
    simp only
    rw[E1,zh s f _ (by omega),AF _ _ _ _ (by omega) h3]
    simp only[List.drop_drop,Nat.add_assoc]
    rfl
theorem qd:∀ (f g o:Nat) (l:List UInt8),l.length<f→l.length<g→gI f o l=gI g o l
 |0,_,_,_,h,_=>absurd h (by omega)
 |_,0,_,_,_,h=>absurd h (by omega)
 |f+1,g+1,o,l,h,h'=>by
  rw[gI,gI]
  by_cases hs:l.length≤Tk.skipL false l
  ·rw[if_pos hs,if_pos hs]
  ·rw[if_neg hs,if_neg hs]
   cases ho:fT (l.drop (Tk.skipL false l)) with
   |err c x=>rfl
   |ok kd n=>
    have h1:=(mo _ _ _ (by rw[List.length_drop];omega) ho).1
    simp only
    rw[qd f g _ _ (by rw[List.length_drop];omega) (by rw[List.length_drop];omega)]
def dS (o:Nat) (l:List UInt8):LR:=gI (l.length+1) o l
theorem my (o:Nat) (l:List UInt8):dS o l =
 if l.length≤Tk.skipL false l then .ok [⟨0,[],o+l.length⟩]
 else match fT (l.drop (Tk.skipL false l)) with
  | .err c x=>.err c (o+Tk.skipL false l+x)
  | .ok kd n=>LR.app [⟨kd,gh kd n (l.drop (Tk.skipL false l)),o+Tk.skipL false l⟩] (dS (o+Tk.skipL false l+n) (l.drop (Tk.skipL false l+n))):=by
 unfold dS
 rw[gI]
 by_cases hs:l.length≤Tk.skipL false l
 ·rw[if_pos hs,if_pos hs]
 ·rw[if_neg hs,if_neg hs]
  cases ho:fT (l.drop (Tk.skipL false l)) with
  |err c x=>rfl
  |ok kd n=>
   have h1:=(mo _ _ _ (by rw[List.length_drop];omega) ho).1
   simp only
   rw[qd l.length ((l.drop (Tk.skipL false l+n)).length+1) _ _ (by rw[List.length_drop];omega) (by omega)]
theorem zi (s:ByteArray) (h:s.size≤65536):gf s=AD s.data.toList (dS 0 s.data.toList):=by
 unfold gf dS
 rw[if_neg (by omega),zh s _ 0 (by omega),sz]
 rfl
theorem xU {p:UInt8→Bool} {l r:List UInt8} (h:l.all p=true) (hr:r=[]∨∃ c r',r=c :: r'∧p c=false):tw p (l++r)=l.length:=by
 unfold tw
 rw[List.all_eq_true] at h
 rw[List.takeWhile_append_of_pos h]
 rcases hr with rfl|⟨c,r',rfl,hc⟩
 ·simp
 ·rw[List.takeWhile_cons_of_neg (by simp[hc])];simp
theorem vF {c:UInt8} {l:List UInt8} (h1:¬ bi c=10) (h2:¬ bi c=35) (h3:¬ bi c=32) (h4:¬ bi c=9):Tk.skipL false (c :: l)=0:=by
 unfold Tk.skipL
 rw[if_neg h1,if_neg h2,if_neg (by simp[h3,h4])]
theorem qc {x:List UInt8} {j:Nat} (o:Nat) (hj:j≤x.length) (h:Tk.skipL false x=j+Tk.skipL false (x.drop j)):dS o x=dS (o+j) (x.drop j):=by
 rw[my o,my (o+j),h]
 by_cases hs:x.length≤j+Tk.skipL false (x.drop j)
 ·rw[if_pos hs,if_pos (by rw[List.length_drop];omega),List.length_drop,show o+j+(x.length - j)=o+x.length by omega]
 ·rw[if_neg hs,if_neg (by rw[List.length_drop];omega)]
  simp only[List.drop_drop,Nat.add_assoc]
theorem mz {tok r:List UInt8} {kd:Int} (o:Nat) (h1:fT (tok++r)= .ok kd tok.length) (h2:gh kd tok.length (tok++r)=tok) (h3:Tk.skipL false (tok++r)=0) (h4:0<tok.length) :
 dS o (tok++r)=LR.app [⟨kd,tok,o⟩] (dS (o+tok.length) r):=by
 rw[my,h3,if_neg (by rw[List.length_append];omega),List.drop_zero,h1]
 dsimp only
 rw[h2,Nat.add_zero,Nat.zero_add,List.drop_left]
theorem Ap {l r:List UInt8} (o:Nat) (hn:fk l=true) (hr:r=[]∨∃ c r',r=c :: r'∧nmB c=false):dS o (l++r)=LR.app [⟨1,l,o⟩] (dS (o+l.length) r):=by
 unfold fk at hn
 simp only[Bool.and_eq_true,Bool.not_eq_true',decide_eq_true_eq] at hn
 obtain ⟨⟨⟨n0,n1⟩,n2⟩,n3⟩:=hn
 cases l with
 |nil=>cases n0
 |cons c l=>
  have ht:tw nmB ((c :: l)++r)=(c :: l).length:=xU n3 hr
  have hcn:nmB c=true:=by simp at n3;exact n3.1
  have hcd:gE (bi c)=false:=by simpa [dgB] using n2
  have hcl:jv (bi c)=true:=by unfold nmB at hcn;rw[hcd] at hcn;simpa using hcn
  have hb:(97≤bi c∧bi c≤122)∨(65≤bi c∧bi c≤90)∨bi c=95:=by simpa [jv,or_assoc] using hcl
  refine mz o ?_ ?_ (vF (by omega) (by omega) (by omega) (by omega)) (by simp)
  ·unfold fT
   rw[show((c :: l)++r).getD 0 0=c from rfl,if_pos hcl]
   unfold nG
   rw[ht,if_neg (by omega)]
  ·unfold gh;rw[if_neg (by decide)];simp
theorem xE {c d:UInt8} {r:List UInt8} (o:Nat) (hc:[c,d]∈marks2):dS o (c :: d :: r)=LR.app [⟨4,[c,d],o⟩] (dS (o+2) r):=by
 have hm:eC (c :: d :: r)=2:=by
  unfold eC
  rw[if_pos (by simpa using hc)]
 have hl:jv (bi c)=false∧gE (bi c)=false∧¬ bi c=34∧¬ bi c=10∧¬ bi c=35∧¬ bi c=32∧¬ bi c=9:=by
  simp only[marks2,List.mem_cons,List.cons.injEq,and_true,List.not_mem_nil,or_false] at hc
  rcases hc with⟨rfl,-⟩|⟨rfl,-⟩|⟨rfl,-⟩|⟨rfl,-⟩ <;> decide
 obtain ⟨l1,l2,l3,l4,l5,l6,l7⟩:=hl
 refine mz (tok:=[c,d]) o ?_ ?_ (vF l4 l5 l6 l7) (by simp)
 ·unfold fT
  rw[show([c,d]++r).getD 0 0=c from rfl,l1,l2]
  simp only[Bool.false_eq_true,if_false]
  rw[if_neg l3]
  unfold mf
  rw[show[c,d]++r=c :: d :: r from rfl,hm];rfl
 ·unfold gh;rw[if_neg (by decide)];simp
theorem GW {r:List UInt8} (o:Nat):dS o (32 :: r)=dS (o+1) r:=
 qc (j:=1) o (by simp) (by simp[Tk.skipL,bi];omega)
theorem qf {c:UInt8} {r:List UInt8} (o:Nat) (hc:marks1.contains c=true) (hr:c=33→∃ d r',r=d :: r'∧¬ d=61):dS o (c :: r)=LR.app [⟨4,[c],o⟩] (dS (o+1) r):=by
 have hc':c=123∨c=125∨c=40∨c=41∨c=59∨c=58∨c=44∨c=46∨c=45∨c=126∨c=42∨c=33∨c=94:=by simpa [marks1] using hc
 have h2:marks2.contains ((c :: r).take 2)=false:=by
  cases r with
  |nil=>simp[marks2]
  |cons d r=>
   rcases hc' with rfl|rfl|rfl|rfl|rfl|rfl|rfl|rfl|rfl|rfl|rfl|rfl|rfl
   all_goals first|(simp[marks2];done)|skip
   obtain ⟨e,r',h,hd⟩:=hr rfl
   injection h with h _
   subst h
   simp[marks2,hd]
 have hm:eC (c :: r)=1:=by
  unfold eC
  rw[h2]
  simp only[Bool.false_eq_true,if_false,hc,if_true]
 have hl:jv (bi c)=false∧gE (bi c)=false∧¬ bi c=34∧¬ bi c=10∧¬ bi c=35∧¬ bi c=32∧¬ bi c=9:=by
  rcases hc' with rfl|rfl|rfl|rfl|rfl|rfl|rfl|rfl|rfl|rfl|rfl|rfl|rfl <;> decide
 obtain ⟨l1,l2,l3,l4,l5,l6,l7⟩:=hl
 refine mz (tok:=[c]) o ?_ ?_ (vF l4 l5 l6 l7) (by simp)
 ·unfold fT
  rw[show([c]++r).getD 0 0=c from rfl,l1,l2]
  simp only[Bool.false_eq_true,if_false]
  rw[if_neg l3]
  unfold mf
  rw[show[c]++r=c :: r from rfl,hm];rfl
 ·unfold gh;rw[if_neg (by decide)];simp
theorem DF {l r:List UInt8} (o:Nat) (hn:D0 l=true) (hr:r=[]∨∃ c r',r=c :: r'∧dgB c=false):dS o (l++r)=LR.app [⟨2,l,o⟩] (dS (o+l.length) r):=by
 unfold D0 at hn
 simp only[Bool.and_eq_true,Bool.not_eq_true',decide_eq_true_eq] at hn
 obtain ⟨⟨⟨n0,n1⟩,n2⟩,n3⟩:=hn
 cases l with
 |nil=>cases n0
 |cons c l=>
  have ht:tw dgB ((c :: l)++r)=(c :: l).length:=xU n3 hr
  have hcd:gE (bi c)=true:=by simp at n3;exact n3.1
  have hb:48≤bi c∧bi c≤57:=by simpa [gE] using hcd
  have hcl:jv (bi c)=false:=by simp[jv];omega
  refine mz o ?_ ?_ (vF (by omega) (by omega) (by omega) (by omega)) (by simp)
  ·unfold fT
   rw[show((c :: l)++r).getD 0 0=c from rfl,hcl,hcd]
   simp only[Bool.false_eq_true,if_false,if_true]
   unfold vf
   rw[ht,if_neg (by omega),show((c :: l)++r).getD 0 0=c from rfl]
   have:¬ (1<(c :: l).length∧bi c=48):=by
    rintro ⟨h1,h2⟩
    rw[show(c :: l).getD 0 0=c from rfl,h2] at n2
    simp at n2
    simp[n2] at h1
   rw[if_neg this]
  ·unfold gh;rw[if_neg (by decide)];simp
theorem ri {l:List UInt8} {c:Int} {x:Nat} (h:fT l= .err c x):¬ c=0:=by
 have:=Da _ _ _ h
 simpa using this
theorem zp (p:UInt8→Bool):∀ l:List UInt8,(l.take (tw p l)).all p=true
 |[]=>rfl
 |c :: l=>by
  rw[oA]
  split
  ·rw[List.take_succ_cons,List.all_cons,zp p l];simp[*]
  ·rfl
theorem Aa {l:List UInt8} {kd:Int} {n:Nat} (h:fT l= .ok kd n):kd≠0∧(kd=2→n=tw dgB l∧n≤9):=by
 unfold fT nG vf Tk.textR mf at h
 split at h
 ·split at h
  ·cases h
  ·injection h with h1 h2;exact⟨by omega,fun e=>by omega⟩
 ·split at h
  ·split at h
   ·cases h
   ·split at h
    ·cases h
    ·injection h with h1 h2;exact⟨by omega,fun e=>⟨h2.symm,by omega⟩⟩
  ·split at h
   ·split at h
    ·cases h
    ·split at h
     ·cases h
     ·split at h
      ·cases h
      ·injection h with h1 h2;exact⟨by omega,fun e=>by omega⟩
   ·split at h
    ·cases h
    ·injection h with h1 h2;exact⟨by omega,fun e=>by omega⟩
def AZ (u:LTok):Prop:=u.kind≠0∧(u.kind=2→0<u.text.length∧u.text.length≤9∧u.text.all dgB=true)
theorem qe:∀ (f o:Nat) (l:List UInt8) (ts:List LTok),l.length<f→gI f o l= .ok ts→∃ us e,ts=us++[⟨0,[],e⟩]∧(∀ u∈us,AZ u)∧us.length≤l.length
 |0,_,_,_,hf,_=>absurd hf (by omega)
 |f+1,o,l,ts,hf,h=>by
  rw[gI] at h
  have hle:=Tk.skipL_le false l
  split at h
  ·injection h with h
   exact⟨[],o+l.length,h.symm,fun u hu=>(by cases hu),Nat.zero_le _⟩
  ·rename_i hs
   cases ho:fT (l.drop (Tk.skipL false l)) with
   |err c x=>rw[ho] at h;cases h
   |ok kd n=>
    rw[ho] at h
    have Ck:0<(l.drop (Tk.skipL false l)).length:=by rw[List.length_drop];omega
    obtain ⟨h1,h2⟩:=mo _ _ _ Ck ho
    rw[List.length_drop] at h2
    obtain ⟨k1,k2⟩:=Aa ho
    simp only at h
    cases hr:gI f (o+Tk.skipL false l+n) (l.drop (Tk.skipL false l+n)) with
    |err c x=>rw[hr] at h;cases h
    |ok ts'=>
     rw[hr] at h
     injection h with h
     obtain ⟨us,e,e1,e2,e3⟩:=qe f _ _ ts' (by rw[List.length_drop];omega) hr
     rw[List.length_drop] at e3
     refine⟨_ :: us,e,by rw[← h,e1];rfl,fun u hu=>?_,by simp;omega⟩
     rcases List.mem_cons.1 hu with rfl|hu
     ·refine⟨k1,fun hk=>?_⟩
      have hk:kd=2:=hk
      subst hk
      obtain ⟨k3,k4⟩:=k2 rfl
      have ht:gh 2 n (l.drop (Tk.skipL false l))=(l.drop (Tk.skipL false l)).take n:=by unfold gh;rw[if_neg (by decide)]
      show 0<(gh 2 n _).length∧(gh 2 n _).length≤9∧(gh 2 n _).all dgB=true
      rw[ht,List.length_take,List.length_drop]
      exact⟨by omega,by omega,by rw[k3];exact zp _ _⟩
     ·exact e2 u hu
theorem vC:∀ (f o:Nat) (l:List UInt8) (ts:List LTok),gI f o l= .ok ts→∀ u∈ts,u.text.length≤l.length
 |0,_,_,_,h,u,hu=>by
  rw[gI] at h
  injection h with h
  subst h
  cases hu
 |f+1,o,l,ts,h,u,hu=>by
  rw[gI] at h
  split at h
  ·injection h with h
   subst h
   rw[List.mem_singleton.1 hu]
   exact Nat.zero_le _
  ·cases ho:fT (l.drop (Tk.skipL false l)) with
   |err c x=>rw[ho] at h;cases h
   |ok kd n=>
    rw[ho] at h
    simp only at h
    cases hr:gI f (o+Tk.skipL false l+n) (l.drop (Tk.skipL false l+n)) with
    |err c x=>rw[hr] at h;cases h
    |ok ts'=>
     rw[hr] at h
     injection h with h
     subst h
     rcases List.mem_cons.1 hu with rfl|hu
     ·show(gh _ _ _).length≤_
      unfold gh
      split
      ·rw[List.length_take,List.length_drop,List.length_drop];omega
      ·rw[List.length_take,List.length_drop];omega
     ·have:=vC f _ _ ts' hr u hu
      rw[List.length_drop] at this
      omega
theorem FL {src:List UInt8} {us:List LTok} {e:Nat} (h:∀ u∈us,AZ u) (hl:us.length≤65536):Fine ((us++[(⟨0,[],e⟩:LTok)]).map (LTok.at src)):=by
 have key:∀ k:Ix ((us++[(⟨0,[],e⟩:LTok)]).map (LTok.at src)),(∃ hk:k.1<us.length,tk k=LTok.at src us[k.1])∨(k.1=us.length∧(tk k).kind=0):=fun k=>by
  have hk:k.1<us.length+1:=by have:=k.2;simpa using this
  by_cases hlt:k.1<us.length
  ·exact .inl ⟨hlt,by unfold tk;simp[List.getElem_append_left,hlt]⟩
  ·have he:k.1=us.length:=by omega
   refine .inr ⟨he,?_⟩
   unfold tk
   simp[he,LTok.at]
 refine⟨by simp,by simp;omega,fun k hk=>?_,fun k hk=>?_⟩
 ·rcases key k with⟨hlt,_⟩|⟨_,h0⟩
  ·simp;omega
  ·exact absurd h0 hk
 ·rcases key k with⟨hlt,ht⟩|⟨_,h0⟩
  ·rw[ht] at hk ⊢
   exact(h _ (List.getElem_mem hlt)).2 hk
  ·rw[h0] at hk;cases hk
theorem vD {src:ByteArray} {l:List Tok} (h:gf src= .ok l):src.size≤65536∧∃ us e,dS 0 src.data.toList= .ok (us++[⟨0,[],e⟩])∧l=(us++[(⟨0,[],e⟩:LTok)]).map (LTok.at src.data.toList)∧(∀ u∈us,AZ u)∧us.length≤65536:=by
 by_cases hs:65536<src.size
 ·unfold gf at h;rw[if_pos hs] at h;cases h
 ·refine⟨by omega,?_⟩
  rw[zi src (by omega)] at h
  cases ha:dS 0 src.data.toList with
  |err c x=>rw[ha] at h;cases h
  |ok ts=>
   rw[ha] at h
   injection h with h
   obtain ⟨us,e,e1,e2,e3⟩:=qe _ _ _ ts (Nat.lt_succ_self _) ha
   rw[sz] at e3
   exact⟨us,e,by rw[e1],by rw[← h,e1],e2,by omega⟩
theorem zj {src:ByteArray} {l:List Tok} (h:gf src= .ok l):∀ t∈l,t.text.size≤65536:=by
 obtain ⟨hs,us,e,ha,rfl,h2,h3⟩:=vD h
 intro t ht
 obtain ⟨u,hu,rfl⟩:=List.mem_map.1 ht
 have:=vC _ _ _ _ ha u hu
 show(⟨u.text.toArray⟩:ByteArray).size≤_
 rw[bZ]
 rw[sz] at this
 show u.text.length≤_
 omega
theorem ji {src:ByteArray} {l:List Tok} (h:gf src= .ok l):Fine l:=by
 obtain ⟨_,us,e,_,rfl,h2,h3⟩:=vD h
 exact FL h2 h3
end Am
end Go.Proofs.YtkpodagbefnebaaGreatDoor
