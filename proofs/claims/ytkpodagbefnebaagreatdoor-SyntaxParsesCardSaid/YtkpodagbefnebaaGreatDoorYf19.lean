import Derived.Test.YtkpodagbefnebaaGreatDoorYf17
import Derived.Test.YtkpodagbefnebaaGreatDoorYf18
set_option linter.unusedSimpArgs false
set_option linter.unusedVariables false
set_option linter.unusedSectionVars false
namespace Go.Proofs.YtkpodagbefnebaaGreatDoor
namespace Am
open Tk Go.RowKit
set_option maxRecDepth 100000
set_option maxHeartbeats 4000000
abbrev qsO {l:List Tok} (k:Ix l) (f:Fa) (c:Int):HO:=.obj 139 (qsC ⟨l,((k.1:Nat):Int),f,c⟩)
section
variable {l:List Tok} {k:Ix l} {f:Fa} {c:Int}
def bZ (f:Fa) (e:Int) (t:Tok):Fa:=if f.code=0 then flt e t else f
theorem cM:Pure Tryz.prog 115 [.c (.ep (qsC ⟨l,((k.1:Nat):Int),f,c⟩))] (.c (sB (!decide (f.code=0)))):=by
 refine fn1 (fn:=Tryz.f115) Tryz.call115 Tryz.func115 rfl Tryz.ntmps115 Tryz.results115 rfl (by rfl) ?_
 repeat'(first|(with_reducible first|apply AW.seq|apply AW.ret|apply aa|apply y_e|refine ae ?_)|((with_reducible apply ai);refine t_v AS.v ?_)|((with_reducible refine aM ?_);refine k_b ?_)|fail)
 all_goals rfl
theorem cj:Pure Tryz.prog 112 [.c (.ep (qsC ⟨l,((k.1:Nat):Int),f,c⟩))] (.agg (tkC (tk k))):=by
 have hk:=tC k
 refine fn1 (fn:=Tryz.f112) Tryz.call112 Tryz.func112 rfl Tryz.ntmps112 Tryz.results112 rfl (by rfl) ?_
 repeat'(first|(with_reducible first|apply AW.seq|apply AW.ret|apply aa|apply y_e|refine ae ?_|refine b7 ?_)|((with_reducible apply ai);first|refine t_v AS.v ?_|refine t_w AS.w ?_)|((with_reducible apply ay);refine t_s AS.s ?_)|((with_reducible refine aM ?_);refine k_c ?_)|(refine⟨by decide +kernel,?_⟩)|fail)
 simp only[unA]
theorem kz (hf:Fine l):MX Tryz.prog 114 [(0,qsO k f c)] [.c (.ptr 0 0)] (.ok ((),nx k):Except Fa (Unit×Ix l)) (fun _=>.tup []) (fun k'=>[(0,qsO k' f c)]) pvS:=by
 have hl:=hf.le
 have hk:=k.2
 by_cases h:k.1+1<l.length
 ·have e:nx k=⟨k.1+1,h⟩:=by unfold nx;rw[dif_pos h]
  rw[e]
  refine MXA (fn:=Tryz.f114) Tryz.call114 Tryz.func114 rfl Tryz.ntmps114 Tryz.results114 rfl rfl ?_
  repeat'(first|(with_reducible first|apply AW.seq|apply AW.skip|apply aa|apply y_e|refine ae ?_|refine b7 ?_)|((with_reducible apply ai);refine t_v AS.v ?_)|((with_reducible apply ay);refine t_s AS.s ?_)|((with_reducible refine aq ?_);((refine ah (fun hc=>?_) (fun hc=>?_);all_goals(try(exfalso;revert hc;simp;omega)))))|((with_reducible refine aD ?_);refine l_0 (k:=?_))|(refine⟨by decide +kernel,?_⟩)|fail)
  exact⟨(),_,rfl,rfl,ar rfl⟩
 ·have e:nx k=k:=by unfold nx;rw[dif_neg h]
  rw[e]
  refine MXA (fn:=Tryz.f114) Tryz.call114 Tryz.func114 rfl Tryz.ntmps114 Tryz.results114 rfl rfl ?_
  repeat'(first|(with_reducible first|apply AW.seq|apply AW.skip|apply aa|apply y_e|refine ae ?_|refine b7 ?_)|((with_reducible apply ai);refine t_v AS.v ?_)|((with_reducible apply ay);refine t_s AS.s ?_)|((with_reducible refine aq ?_);((refine ah (fun hc=>?_) (fun hc=>?_);all_goals(try(exfalso;revert hc;simp;omega)))))|((with_reducible refine aD ?_);refine l_0 (k:=?_))|(refine⟨by decide +kernel,?_⟩)|fail)
  exact⟨(),_,rfl,rfl,ar rfl⟩
theorem ko (e:Int) (t:Tok):MX Tryz.prog 111 [(0,qsO k f c)] [.c (.ptr 0 0),.c (sI e),.agg (tkC t)] (.ok ((),bZ f e t):Except Fa (Unit×Fa)) (fun _=>.tup []) (fun g=>[(0,qsO k g c)]) pvS:=by
 have fl:=cM (l:=l) (k:=k) (f:=f) (c:=c)
 by_cases h:f.code=0
 ·have e:bZ f e t=flt e t:=if_pos h
  rw[e]
  refine MXA (fn:=Tryz.f111) Tryz.call111 Tryz.func111 rfl Tryz.ntmps111 Tryz.results111 rfl rfl ?_
  repeat'(first|(with_reducible first|apply AW.seq|apply AW.skip|apply aa|apply y_e|refine ae ?_)|((with_reducible apply ai);first|refine t_v AS.v ?_|refine t_v (by exact az (hP:=fl)) ?_|refine t_w AS.w ?_)|((with_reducible apply ay);refine t_s AS.s ?_)|((with_reducible refine aq ?_);((refine ah (fun hc=>?_) (fun hc=>?_);all_goals(try(exfalso;simp[*] at hc;done)))))|((with_reducible refine aD ?_);refine l_0 (k:=?_))|fail)
  exact⟨(),_,rfl,rfl,ar rfl⟩
 ·have e:bZ f e t=f:=if_neg h
  rw[e]
  refine MXA (fn:=Tryz.f111) Tryz.call111 Tryz.func111 rfl Tryz.ntmps111 Tryz.results111 rfl rfl ?_
  repeat'(first|(with_reducible first|apply AW.seq|apply AW.skip|apply aa|apply y_e|refine ae ?_)|((with_reducible apply ai);first|refine t_v AS.v ?_|refine t_v (by exact az (hP:=fl)) ?_|refine t_w AS.w ?_)|((with_reducible apply ay);refine t_s AS.s ?_)|((with_reducible refine aq ?_);((refine ah (fun hc=>?_) (fun hc=>?_);all_goals(try(exfalso;simp[*] at hc;done)))))|((with_reducible refine aD ?_);refine l_0 (k:=?_))|fail)
  exact⟨(),_,rfl,rfl,ar rfl⟩
theorem pL (kd:Int) (s:ByteArray):Pure Tryz.prog 154 [.c (.ep (qsC ⟨l,((k.1:Nat):Int),f,c⟩)),.c (sI kd),.c (sS s)] (.c (sB (decide (f.code=0)&&decide ((tk k).kind=kd)&&decide ((tk k).text=s)))):=by
 refine fn3 (fn:=Tryz.f154) Tryz.call154 Tryz.func154 rfl Tryz.ntmps154 Tryz.results154 rfl (by rfl) ?_
 repeat'(first|(with_reducible first|apply AW.seq|apply AW.ret|apply aa|apply y_e|refine ae ?_)|((with_reducible apply ai);first|refine t_v AS.v ?_|refine t_v (by exact aj (hP:=cM)) ?_)|((with_reducible apply aK);first|refine t_m (hs:=fun hg=>AS.v) (k:=?_)|refine t_m (hs:=fun hg=>(by exact aj (hP:=cj))) (k:=?_))|((with_reducible refine aM ?_);refine k_b ?_)|fail)
 all_goals simp
theorem nk (hf:Fine l) (s:ByteArray):MX Tryz.prog 116 [(0,qsO k f c)] [.c (.ptr 0 0),.c (sS s)] (.ok (decide (f.code=0)&&isM s k,adv (decide (f.code=0)&&isM s k) k):Except Fa (Bool×Ix l)) (fun b=>.c (sB b)) (fun k'=>[(0,qsO k' f c)]) pvS:=by
 have ip:=pL (l:=l) (k:=k) (f:=f) (c:=c) 4 s
 have sk:=(kz (k:=k) (f:=f) (c:=c) hf).ok _ _ rfl
 have e:(decide (f.code=0)&&isM s k)=(decide (f.code=0)&&decide ((tk k).kind=4)&&decide ((tk k).text=s)):=by unfold isM;rw[Bool.and_assoc]
 rw[e]
 clear e
 generalize (decide (f.code=0)&&decide ((tk k).kind=4)&&decide ((tk k).text=s))=b at *
 cases b with
 |true=>
  refine MXA (fn:=Tryz.f116) Tryz.call116 Tryz.func116 rfl Tryz.ntmps116 Tryz.results116 rfl rfl ?_
  repeat'(first|(with_reducible first|apply AW.seq|apply AW.ret|apply aa|apply ak|apply y_e|refine ae ?_)|((with_reducible apply ai);first|refine t_v AS.v ?_|refine t_v (by exact az (hP:=ip)) ?_|refine t_w (by exact av (hP:=sk)) ?_)|((with_reducible refine aq ?_);refine aI ?_)|((with_reducible refine aD ?_);refine l_1 (k:=?_))|fail)
  exact⟨_,_,rfl,rfl,ar rfl⟩
 |false=>
  refine MXA (fn:=Tryz.f116) Tryz.call116 Tryz.func116 rfl Tryz.ntmps116 Tryz.results116 rfl rfl ?_
  repeat'(first|(with_reducible first|apply AW.seq|apply AW.skip|apply AW.ret|apply aa|apply y_e|refine ae ?_)|((with_reducible apply ai);first|refine t_v AS.v ?_|refine t_v (by exact az (hP:=ip)) ?_)|((with_reducible refine aq ?_);refine aJ ?_)|((with_reducible refine aD ?_);refine l_1 (k:=?_))|fail)
  exact⟨_,_,rfl,rfl,ar rfl⟩
theorem qD (hf:Fine l) (s:ByteArray):MX Tryz.prog 110 [(0,qsO k f c)] [.c (.ptr 0 0),.c (sS s)] (.ok (decide (f.code=0)&&isW s k,adv (decide (f.code=0)&&isW s k) k):Except Fa (Bool×Ix l)) (fun b=>.c (sB b)) (fun k'=>[(0,qsO k' f c)]) pvS:=by
 have ip:=pL (l:=l) (k:=k) (f:=f) (c:=c) 1 s
 have sk:=(kz (k:=k) (f:=f) (c:=c) hf).ok _ _ rfl
 have e:(decide (f.code=0)&&isW s k)=(decide (f.code=0)&&decide ((tk k).kind=1)&&decide ((tk k).text=s)):=by unfold isW;rw[Bool.and_assoc]
 rw[e]
 clear e
 generalize (decide (f.code=0)&&decide ((tk k).kind=1)&&decide ((tk k).text=s))=b at *
 cases b with
 |true=>
  refine MXA (fn:=Tryz.f110) Tryz.call110 Tryz.func110 rfl Tryz.ntmps110 Tryz.results110 rfl rfl ?_
  repeat'(first|(with_reducible first|apply AW.seq|apply AW.ret|apply aa|apply ak|apply y_e|refine ae ?_)|((with_reducible apply ai);first|refine t_v AS.v ?_|refine t_v (by exact az (hP:=ip)) ?_|refine t_w (by exact av (hP:=sk)) ?_)|((with_reducible refine aq ?_);refine aI ?_)|((with_reducible refine aD ?_);refine l_1 (k:=?_))|fail)
  exact⟨_,_,rfl,rfl,ar rfl⟩
 |false=>
  refine MXA (fn:=Tryz.f110) Tryz.call110 Tryz.func110 rfl Tryz.ntmps110 Tryz.results110 rfl rfl ?_
  repeat'(first|(with_reducible first|apply AW.seq|apply AW.skip|apply AW.ret|apply aa|apply y_e|refine ae ?_)|((with_reducible apply ai);first|refine t_v AS.v ?_|refine t_v (by exact az (hP:=ip)) ?_)|((with_reducible refine aq ?_);refine aJ ?_)|((with_reducible refine aD ?_);refine l_1 (k:=?_))|fail)
  exact⟨_,_,rfl,rfl,ar rfl⟩
theorem xL (hf:Fine l) (s:ByteArray):MX Tryz.prog 56 [(0,qsO k f c)] [.c (.ptr 0 0),.c (sS s)] (.ok ((),(adv (decide (f.code=0)&&isM s k) k,if(decide (f.code=0)&&isM s k)=true then f else bZ f 9 (tk k))):Except Fa (Unit×(Ix l×Fa))) (fun _=>.tup []) (fun b=>[(0,qsO b.1 b.2 c)]) pvS:=by
 have m:=(nk (k:=k) (f:=f) (c:=c) hf s).ok _ _ rfl
 have nw:=cj (l:=l) (k:=k) (f:=f) (c:=c)
 have fl:=(ko (l:=l) (k:=k) (f:=f) (c:=c) 9 (tk k)).ok _ _ rfl
 generalize (decide (f.code=0)&&isM s k)=b at *
 cases b with
 |true=>
  clear fl nw
  refine MXA (fn:=Tryz.f56) Tryz.call56 Tryz.func56 rfl Tryz.ntmps56 Tryz.results56 rfl rfl ?_
  repeat'(first|(with_reducible first|apply AW.seq|apply AW.skip|apply aa|apply y_e|refine ae ?_)|((with_reducible apply ai);first|refine t_v AS.v ?_|refine t_w (by exact av (hP:=m)) ?_)|((with_reducible refine aq ?_);refine aJ ?_)|((with_reducible refine aD ?_);refine l_0 (k:=?_))|fail)
  exact⟨(),(_,_),rfl,rfl,ar rfl⟩
 |false=>
  have m:MNL _ _ _ _ _ [(0,qsO k f c)]:=m
  refine MXA (fn:=Tryz.f56) Tryz.call56 Tryz.func56 rfl Tryz.ntmps56 Tryz.results56 rfl rfl ?_
  repeat'(first|(with_reducible first|apply AW.seq|apply aa|apply y_e|refine ae ?_)|((with_reducible apply ai);first|refine t_v AS.v ?_|refine t_v (by exact az (hP:=nw)) ?_|refine t_w (by first|exact av (hP:=m)|exact av (hP:=fl)) ?_)|((with_reducible refine aq ?_);refine aI ?_)|((with_reducible refine aD ?_);refine l_0 (k:=?_))|fail)
  exact⟨(),(_,_),rfl,rfl,ar rfl⟩
theorem qO (hf:Fine l) (s:ByteArray):MX Tryz.prog 53 [(0,qsO k f c)] [.c (.ptr 0 0),.c (sS s)] (.ok ((),(adv (decide (f.code=0)&&isW s k) k,if(decide (f.code=0)&&isW s k)=true then f else bZ f 9 (tk k))):Except Fa (Unit×(Ix l×Fa))) (fun _=>.tup []) (fun b=>[(0,qsO b.1 b.2 c)]) pvS:=by
 have m:=(qD (k:=k) (f:=f) (c:=c) hf s).ok _ _ rfl
 have nw:=cj (l:=l) (k:=k) (f:=f) (c:=c)
 have fl:=(ko (l:=l) (k:=k) (f:=f) (c:=c) 9 (tk k)).ok _ _ rfl
 generalize (decide (f.code=0)&&isW s k)=b at *
 cases b with
 |true=>
  clear fl nw
  refine MXA (fn:=Tryz.f53) Tryz.call53 Tryz.func53 rfl Tryz.ntmps53 Tryz.results53 rfl rfl ?_
  repeat'(first|(with_reducible first|apply AW.seq|apply AW.skip|apply aa|apply y_e|refine ae ?_)|((with_reducible apply ai);first|refine t_v AS.v ?_|refine t_w (by exact av (hP:=m)) ?_)|((with_reducible refine aq ?_);refine aJ ?_)|((with_reducible refine aD ?_);refine l_0 (k:=?_))|fail)
  exact⟨(),(_,_),rfl,rfl,ar rfl⟩
 |false=>
  have m:MNL _ _ _ _ _ [(0,qsO k f c)]:=m
  refine MXA (fn:=Tryz.f53) Tryz.call53 Tryz.func53 rfl Tryz.ntmps53 Tryz.results53 rfl rfl ?_
  repeat'(first|(with_reducible first|apply AW.seq|apply aa|apply y_e|refine ae ?_)|((with_reducible apply ai);first|refine t_v AS.v ?_|refine t_v (by exact az (hP:=nw)) ?_|refine t_w (by first|exact av (hP:=m)|exact av (hP:=fl)) ?_)|((with_reducible refine aq ?_);refine aI ?_)|((with_reducible refine aD ?_);refine l_0 (k:=?_))|fail)
  exact⟨(),(_,_),rfl,rfl,ar rfl⟩
theorem vJ (s:ByteArray):Pure Tryz.prog 69 [.c (sS s)] (.c (sB (idB s))):=
 Pure.of_calls (vs:=[.string s]) Tryz.call69 (.sc rfl) fun hs w=>iO s (of_decide_eq_true (hs _ (.head _))) w
theorem nZ:Pure Tryz.prog 113 [.c (.ep (qsC ⟨l,((k.1:Nat):Int),f,c⟩))] (.c (sB (decide (f.code=0)&&cb k))):=by
 have id:=vJ (tk k).text
 refine fn1 (fn:=Tryz.f113) Tryz.call113 Tryz.func113 rfl Tryz.ntmps113 Tryz.results113 rfl (by rfl) ?_
 repeat'(first|(with_reducible first|apply AW.seq|apply AW.ret|apply aa|apply y_e|refine ae ?_)|((with_reducible apply ai);first|refine t_v AS.v ?_|refine t_v (by exact aj (hP:=cM)) ?_)|((with_reducible apply aK);first|refine t_m (hs:=fun hg=>AS.v) (k:=?_)|refine t_m (hs:=fun hg=>(by first|exact aj (hP:=cj)|exact aj (hP:=id))) (k:=?_))|((with_reducible refine aM ?_);refine k_b ?_)|fail)
 unfold cb
 simp[Bool.and_assoc]
def aB (k:Ix l) (f:Fa):ByteArray×(Ix l×Fa):=if(decide (f.code=0)&&cb k)=true then((tk k).text,(nx k,f)) else(⟨#[]⟩,(k,bZ f 9 (tk k)))
theorem qs (hf:Fine l):MX Tryz.prog 54 [(0,qsO k f c)] [.c (.ptr 0 0)] (.ok (aB k f):Except Fa (ByteArray×(Ix l×Fa))) (fun s=>.c (sS s)) (fun b=>[(0,qsO b.1 b.2 c)]) pvS:=by
 have nm:=nZ (l:=l) (k:=k) (f:=f) (c:=c)
 have nw:=cj (l:=l) (k:=k) (f:=f) (c:=c)
 have sk:=(kz (k:=k) (f:=f) (c:=c) hf).ok _ _ rfl
 have fl:=(ko (l:=l) (k:=k) (f:=f) (c:=c) 9 (tk k)).ok _ _ rfl
 unfold aB
 generalize (decide (f.code=0)&&cb k)=b at *
 cases b with
 |true=>
  rw[if_pos rfl]
  clear fl
  refine MXA (fn:=Tryz.f54) Tryz.call54 Tryz.func54 rfl Tryz.ntmps54 Tryz.results54 rfl rfl ?_
  repeat'(first|(with_reducible first|apply AW.seq|apply AW.skip|apply AW.ret|apply aa|apply y_e|refine ae ?_)|((with_reducible apply ai);first|refine t_v AS.v ?_|refine t_v (by first|exact az (hP:=nm)|exact az (hP:=nw)) ?_|refine t_w (by exact av (hP:=sk)) ?_)|((with_reducible refine aq ?_);refine aJ ?_)|((with_reducible refine aD ?_);refine l_1 (k:=?_))|fail)
  exact⟨_,(_,_),rfl,rfl,ar rfl⟩
 |false=>
  rw[if_neg (by decide)]
  clear sk
  refine MXA (fn:=Tryz.f54) Tryz.call54 Tryz.func54 rfl Tryz.ntmps54 Tryz.results54 rfl rfl ?_
  repeat'(first|(with_reducible first|apply AW.seq|apply AW.ret|apply aa|apply ak|apply y_e|refine ae ?_)|((with_reducible apply ai);first|refine t_v AS.v ?_|refine t_v (by first|exact az (hP:=nm)|exact az (hP:=nw)) ?_|refine t_w (by exact av (hP:=fl)) ?_)|((with_reducible refine aq ?_);refine aI ?_)|((with_reducible refine aD ?_);refine l_1 (k:=?_))|fail)
  exact⟨_,(_,_),rfl,rfl,ar rfl⟩
def fG:Nat→List ByteArray→Ix l→Fa→List ByteArray×(Ix l×Fa)
 |0,acc,k,f=>(acc,(k,f))
 |n+1,acc,k,f=>if(decide (f.code=0)&&isM ⟨#[44]⟩ k)=true then fG n (acc++[(aB (nx k) f).1]) (aB (nx k) f).2.1 (aB (nx k) f).2.2 else(acc,(k,f))
theorem wJ (hf:Fine l):MX Tryz.prog 260 [(0,qsO k f c)] [.c (.ptr 0 0)] (.ok (fG (fuel l) [] k f):Except Fa (List ByteArray×(Ix l×Fa))) (fun s=>.c (bC s)) (fun b=>[(0,qsO b.1 b.2 c)]) pvS:=by
 have hl:=hf.le
 refine MXA (fn:=Tryz.f260) Tryz.call260 Tryz.func260 rfl Tryz.ntmps260 Tryz.results260 rfl rfl ?_
 repeat'(first|(with_reducible first|apply AW.seq|apply AW.block|apply aa|apply y_e|refine ae ?_)|((with_reducible apply ai);refine t_v AS.v ?_)|fail)
 refine ks oneS 3 1002 9 1 rfl rfl ?_
 generalize hsp:fG (fuel l) [] k f=sp
 refine AW.loop (fun m σ=>∃ acc k' f',fG m acc k' f'=sp∧l.length<m+k'.1∧acc.length≤k'.1∧σ=mk [(3,.c (.lst (some 1002) 1 (acc.map oneS))),(0,.c (.ptr 0 0))] [(1002,.row 9 1 acc.length),(0,qsO k' f' c)]) (fuel l) ?_ ?_
 ·exact⟨_,wkA,[],k,f,hsp,by unfold fuel;omega,by simp,rfl⟩
 rintro m σ ⟨acc,k',f',hm,hm2,ha,rfl⟩
 subst hm
 have hk':=k'.2
 obtain ⟨m,rfl⟩:∃ n,m=n+1:=⟨m - 1,by omega⟩
 have a:=(nk (k:=k') (f:=f') (c:=c) hf ⟨#[44]⟩).ok _ _ rfl
 rw[fG]
 cases hb:(decide (f'.code=0)&&isM ⟨#[44]⟩ k') with
 |true=>
  rw[hb] at a
  have hx:=eG hf (k:=k') (by
   have:=((Bool.and_eq_true _ _).mp hb).2
   unfold isM at this
   have:=of_decide_eq_true ((Bool.and_eq_true _ _).mp this).1
   rw[this];decide)
  have a:MNL _ _ _ _ _ [(0,qsO (nx k') f' c)]:=a
  have nm:=(qs (k:=nx k') (f:=f') (c:=c) hf).ok (aB (nx k') f').1 (aB (nx k') f').2 rfl
  have hn:(nx k').1≤(aB (nx k') f').2.1.1:=by unfold aB;split <;> first|exact gv _|exact Nat.le_refl _
  rw[if_pos rfl]
  generalize aB (nx k') f'=q at *
  obtain ⟨x,k2,f2⟩:=q
  dsimp only at nm hn ⊢
  repeat'(first|(with_reducible first|apply AW.seq|apply AW.block|apply AW.skip|apply aa|apply aw|apply y_e|refine ae ?_)|((with_reducible apply ai);first|refine t_v AS.v ?_|refine t_w AS.w ?_|refine t_w (by first|exact av (hP:=a)|exact av (hP:=nm)) ?_)|((with_reducible refine aq ?_);refine aI ?_)|fail)
  exact⟨m,_,Nat.lt_succ_self m,wkA,acc++[x],k2,f2,rfl,by omega,by simp;omega,rfl⟩
 |false=>
  rw[hb] at a
  have a:MNL _ _ _ _ _ [(0,qsO k' f' c)]:=a
  rw[if_neg (by decide)]
  repeat'(first|(with_reducible first|apply AW.seq|apply AW.ret|apply AW.exit|apply aa|apply aE|apply aH|apply y_e|refine ae ?_)|((with_reducible apply ai);first|refine t_v AS.v ?_|refine t_w (by exact av (hP:=a)) ?_)|((with_reducible refine aq ?_);refine aJ ?_)|((with_reducible refine aD ?_);refine l_1 (k:=?_))|fail)
  exact⟨_,(_,_),rfl,ca _ _,ar rfl⟩
end
end Am
end Go.Proofs.YtkpodagbefnebaaGreatDoor
