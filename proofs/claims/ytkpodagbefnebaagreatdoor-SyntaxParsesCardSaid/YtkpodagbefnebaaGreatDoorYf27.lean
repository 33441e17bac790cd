import Derived.Test.YtkpodagbefnebaaGreatDoorYf26
import Derived.Test.YtkpodagbefnebaaGreatDoorYf21
import Derived.Test.YtkpodagbefnebaaGreatDoorYf18
set_option linter.unusedSimpArgs false
set_option linter.unusedVariables false
set_option linter.unusedSectionVars false
namespace Go.Proofs.YtkpodagbefnebaaGreatDoor
namespace Am
open Tk Go.RowKit
set_option maxRecDepth 100000
set_option maxHeartbeats 4000000
def qtV:Except Fa (Ex×Nat)→V
 | .ok (e,n)=>.tup [.agg (exC e),.c (sI n),.agg (faC Fa.zero)]
 | .error f=>.tup [.agg (exC Ex.zero),.c (sI 0),.agg (faC f)]
theorem ER (x:Except Fa (Ex×Nat)):V.ok noN (qtV x)=true:=by
 cases x with
 |ok p=>simp[qtV,V.ok,okV,okA,C.ok]
 |error g=>simp[qtV,V.ok,okV,okA,C.ok]
theorem c6 (s:ByteArray):Pure Tryz.prog 69 [.c (sS s)] (.c (sB (idB s))):=
 Pure.of_calls (vs:=[.string s]) Tryz.call69 (.sc rfl) fun hs w=>iO s (of_decide_eq_true (hs _ (.head _))) w
theorem jN {c:Int} {ts:List Tok} {i:Nat} {α:Type} {g:Fa} (hc:c≠0) (h:(Except.error (flK c ts i):Except Fa α)= .error g):g.code≠0:=by
 injection h with h;subst h;exact hc
theorem kR (ts:List Tok):∀ f:Nat,(∀ {i d:Nat} {g:Fa},bO ts f i d= .error g→g.code≠0)∧(∀ {n i d:Nat} {g:Fa},cr ts f n i d= .error g→g.code≠0)∧(∀ {n i d:Nat} {e:Ex} {g:Fa},dr ts f n e i d= .error g→g.code≠0)
 |0=>⟨fun h=>(by rw[bO] at h;exact jN (by decide) h),fun h=>(by rw[cr] at h;exact jN (by decide) h),fun h=>(by rw[dr] at h;exact jN (by decide) h)⟩
 |f+1=>by
  obtain ⟨i1,i2,i3⟩:=kR ts f
  refine⟨fun {i d g} h=>?_,fun {n i d g} h=>?_,fun {n i d e g} h=>?_⟩
  ·rw[bO] at h
   split at h
   ·split at h
    ·exact jN (by decide) h
    ·rcases bW h with h|⟨a,_,h⟩
     ·exact i1 h
     ·cases h
   ·split at h
    ·split at h
     ·exact jN (by decide) h
     ·rcases bW h with h|⟨a,_,h⟩
      ·exact i2 h
      ·try dsimp only at h
       split at h
       ·cases h
       ·exact jN (by decide) h
    ·split at h
     ·cases h
     ·exact jN (by decide) h
  ·rw[cr] at h
   split at h
   ·exact i1 h
   ·rcases bW h with h|⟨a,_,h⟩
    ·exact i2 h
    ·exact i3 h
  ·rw[dr] at h
   split at h
   ·cases h
   ·rcases bW h with h|⟨a,_,h⟩
    ·exact i2 h
    ·exact i3 h
theorem C1 {ts:List Tok} {i n:Nat}:0≤opK ts i n∧opK ts i n≤7:=by
 unfold opK
 (repeat' split) <;> decide
section
variable {ts:List Tok}
structure QX (ts:List Tok) (f:Nat):Prop where
 no:∀ i d:Nat,i≤ts.length→d≤12→8*(ts.length - i)+1≤f→Pure Tryz.prog 344 [.c (.lst none 4 (ts.map tkC)),.c (sI i),.c (sI d)] (qtV (bO ts f i d))
 bi:∀ n i d:Nat,1≤n→n≤5→i≤ts.length→d≤12→8*(ts.length - i)+7≤f+n→Pure Tryz.prog 314 [.c (.lst none 4 (ts.map tkC)),.c (sI i),.c (sI n),.c (sI d)] (qtV (cr ts f n i d))
theorem Bf (hl:ts.length≤4294967296) {f i d:Nat} (hi:i≤ts.length) (hd:d≤12) (hf:8*(ts.length - i)+1≤f+1) (ih:QX ts f):Pure Tryz.prog 344 [.c (.lst none 4 (ts.map tkC)),.c (sI i),.c (sI d)] (qtV (bO ts (f+1) i d)):=by
 have ip:=fun s=>yM hl hi s
 have fl:=fun c=>nc hl hi c
 by_cases hlt:i<ts.length
 ·obtain ⟨t,ht⟩:∃ t,ts[i]? =some t:=⟨_,List.getElem?_eq_getElem hlt⟩
  by_cases hh:t.kind=1∧idB t.text=true
  ·have k0:∀ m,isK ts i m=false:=fun m=>by unfold isK;rw[ht];simp[hh.1]
   have e:bO ts (f+1) i d= .ok ({Ex.zero with op:=1,names:=[t.text]},i+1):=by
    rw[bO,if_neg (by rw[k0];decide),if_neg (by rw[k0];decide),nmK,ht]
    simp only[if_pos hh]
   rw[e]
   simp only[qtV]
   clear e ih
   obtain ⟨hh1,hh2⟩:=hh
   refine fn3 (fn:=Tryz.f344) Tryz.call344 Tryz.func344 rfl Tryz.ntmps344 Tryz.results344 rfl (by first|rfl|simp[V.ok,okL,C.ok,okA,okV]) ?_
   repeat'(first|(with_reducible first|apply AW.seq|apply AW.skip|apply AW.ret|apply aa|apply ak|apply y_e|refine ae ?_)|((with_reducible apply ai);first|refine t_v AS.v ?_|refine t_v (by first|exact aj (hP:=ip _)|exact aj (hP:=fl _)) ?_|refine t_w AS.w ?_)|((with_reducible apply aK);first|refine t_f ?_|refine t_m (hs:=fun hg=>AS.v) (k:=?_)|refine t_m (hs:=fun hg=>(by first|exact aj (hP:=ip _)|exact aj (hP:=c6 _))) (k:=?_))|((with_reducible apply ay);refine t_s AS.s ?_)|((with_reducible refine aq ?_);first|refine aI ?_|refine aJ ?_|(refine ah (fun hc=>?_) (fun hc=>?_);all_goals(try(exfalso;simp[*] at hc;done))))|((with_reducible refine aM ?_);(((refine dT ?_ ?_ ?_);all_goals(with_reducible (first|apply eB|apply eO)))))|fail)
   all_goals rfl
  ·have hnm:nmK ts i=none:=by unfold nmK;rw[ht];simp only[if_neg hh]
   have hno:(decide (t.kind=1)&&idB t.text)=false:=by
    cases hb:(decide (t.kind=1)&&idB t.text) with
    |false=>rfl
    |true=>
     rw[Bool.and_eq_true] at hb
     exact absurd ⟨of_decide_eq_true hb.1,hb.2⟩ hh
   cases h1:isK ts i ⟨#[33]⟩ with
   |true=>
    have i1:=ip ⟨#[33]⟩
    rw[h1] at i1
    by_cases hd2:12≤d
    ·have e:bO ts (f+1) i d= .error (flK 4 ts i):=by rw[bO,if_pos h1,if_pos hd2]
     rw[e]
     simp only[qtV]
     clear e ih ip
     refine fn3 (fn:=Tryz.f344) Tryz.call344 Tryz.func344 rfl Tryz.ntmps344 Tryz.results344 rfl (by first|rfl|simp[V.ok,okL,C.ok,okA,okV]) ?_
     repeat'(first|(with_reducible first|apply AW.seq|apply AW.skip|apply AW.ret|apply aa|apply ak|apply y_e|refine ae ?_)|((with_reducible apply ai);first|refine t_v AS.v ?_|refine t_v (by first|exact aj (hP:=i1)|exact aj (hP:=fl _)) ?_|refine t_w AS.w ?_)|((with_reducible apply aK);first|refine t_f ?_|refine t_m (hs:=fun hg=>AS.v) (k:=?_)|refine t_m (hs:=fun hg=>(by exact aj (hP:=c6 _))) (k:=?_))|((with_reducible apply ay);refine t_s AS.s ?_)|((with_reducible refine aq ?_);first|refine aJ ?_|(refine ah (fun hc=>?_) (fun hc=>?_);all_goals(try(exfalso;simp[*] at hc;done));all_goals(try(exfalso;revert hc;simp;omega))))|((with_reducible refine aM ?_);(((refine dT ?_ ?_ ?_);all_goals(with_reducible (first|apply eB|apply eO)))))|fail)
     all_goals rfl
    ·have nx:=ih.no (i+1) (d+1) (by omega) (by omega) (by omega)
     cases hq:bO ts f (i+1) (d+1) with
     |error g=>
      have hz:=(kR ts f).1 hq
      have e:bO ts (f+1) i d= .error g:=by rw[bO,if_pos h1,if_neg hd2,hq];rfl
      rw[hq] at nx
      have nx:Pure _ _ _ (.tup [.agg (exC Ex.zero),.c (sI 0),.agg (faC g)]):=nx
      rw[e]
      simp only[qtV]
      clear e ih ip fl hq
      refine fn3 (fn:=Tryz.f344) Tryz.call344 Tryz.func344 rfl Tryz.ntmps344 Tryz.results344 rfl (by first|rfl|simp[V.ok,okL,C.ok,okA,okV]) ?_
      repeat'(first|(with_reducible first|apply AW.seq|apply AW.skip|apply AW.ret|apply aa|apply ak|apply y_e|refine ae ?_|refine b7 ?_)|((with_reducible apply ai);first|refine t_v AS.v ?_|refine t_v (by first|exact aj (hP:=i1)|exact aj (hP:=nx)) ?_|refine t_w AS.w ?_)|((with_reducible apply aK);first|refine t_f ?_|refine t_m (hs:=fun hg=>AS.v) (k:=?_)|refine t_m (hs:=fun hg=>(by exact aj (hP:=c6 _))) (k:=?_))|((with_reducible apply ay);refine t_s AS.s ?_)|((with_reducible refine aq ?_);first|refine aI ?_|refine aJ ?_|(refine ah (fun hc=>?_) (fun hc=>?_);all_goals(try(exfalso;simp[*] at hc;done));all_goals(try(exfalso;revert hc;simp;omega))))|((with_reducible refine aM ?_);(((refine dT ?_ ?_ ?_);all_goals(with_reducible (first|apply eB|apply eO)))))|(refine⟨by decide +kernel,?_⟩)|fail)
      all_goals first|rfl|exact aU _|exact eM _|(simp only[unA];done)|(exfalso;simp[hlt] at hc;exact hh hc)|trace_state
     |ok p=>
      obtain ⟨x,j⟩:=p
      have e:bO ts (f+1) i d= .ok ({Ex.zero with op:=2,kids:=[x]},j):=by rw[bO,if_pos h1,if_neg hd2,hq];rfl
      rw[hq] at nx
      have nx:Pure _ _ _ (.tup [.agg (exC x),.c (sI j),.agg (faC Fa.zero)]):=nx
      rw[e]
      simp only[qtV]
      clear e ih ip fl hq
      refine fn3 (fn:=Tryz.f344) Tryz.call344 Tryz.func344 rfl Tryz.ntmps344 Tryz.results344 rfl (by first|rfl|simp[V.ok,okL,C.ok,okA,okV]) ?_
      repeat'(first|(with_reducible first|apply AW.seq|apply AW.skip|apply AW.ret|apply aa|apply ak|apply y_e|refine ae ?_|refine b7 ?_)|((with_reducible apply ai);first|refine t_v AS.v ?_|refine t_v (by first|exact aj (hP:=i1)|exact aj (hP:=nx)) ?_|refine t_w AS.w ?_)|((with_reducible apply aK);first|refine t_f ?_|refine t_m (hs:=fun hg=>AS.v) (k:=?_)|refine t_m (hs:=fun hg=>(by exact aj (hP:=c6 _))) (k:=?_))|((with_reducible apply ay);refine t_s AS.s ?_)|((with_reducible refine aq ?_);first|refine aI ?_|refine aJ ?_|(refine ah (fun hc=>?_) (fun hc=>?_);all_goals(try(exfalso;simp[*] at hc;done));all_goals(try(exfalso;revert hc;simp;omega))))|((with_reducible refine aM ?_);(((refine dT ?_ ?_ ?_);all_goals(with_reducible (first|apply eB|apply eO)))))|(refine⟨by decide +kernel,?_⟩)|fail)
      all_goals first|rfl|exact aU {Ex.zero with op:=2,kids:=[x]}|exact eM _|(simp only[unA];done)|(exfalso;simp[hlt] at hc;exact hh hc)|trace_state
   |false=>
    have n1:¬ isK ts i ⟨#[33]⟩=true:=by rw[h1];decide
    have i1:=ip ⟨#[33]⟩
    rw[h1] at i1
    cases h2:isK ts i ⟨#[40]⟩ with
    |false=>
     have n2:¬ isK ts i ⟨#[40]⟩=true:=by rw[h2];decide
     have i2:=ip ⟨#[40]⟩
     rw[h2] at i2
     have e:bO ts (f+1) i d= .error (flK 9 ts i):=by rw[bO,if_neg n1,if_neg n2,hnm]
     rw[e]
     simp only[qtV]
     clear e ih ip
     refine fn3 (fn:=Tryz.f344) Tryz.call344 Tryz.func344 rfl Tryz.ntmps344 Tryz.results344 rfl (by first|rfl|simp[V.ok,okL,C.ok,okA,okV]) ?_
     repeat'(first|(with_reducible first|apply AW.seq|apply AW.skip|apply AW.ret|apply aa|apply ak|apply y_e|refine ae ?_)|((with_reducible apply ai);first|refine t_v AS.v ?_|refine t_v (by first|exact aj (hP:=i1)|exact aj (hP:=fl _)) ?_|refine t_w AS.w ?_)|((with_reducible apply aK);first|refine t_m (hs:=fun hg=>AS.v) (k:=?_)|refine t_m (hs:=fun hg=>(by first|exact aj (hP:=i2)|exact aj (hP:=c6 _))) (k:=?_))|((with_reducible apply ay);refine t_s AS.s ?_)|((with_reducible refine aq ?_);first|refine aI ?_|refine aJ ?_|(refine ah (fun hc=>?_) (fun hc=>?_);all_goals(try(exfalso;simp[*] at hc;done));all_goals(try(exfalso;revert hc;simp;omega))))|((with_reducible refine aM ?_);(((refine dT ?_ ?_ ?_);all_goals(with_reducible (first|apply eB|apply eO)))))|fail)
     all_goals first|rfl|exact aU _|exact eM _|(simp only[unA];done)|(exfalso;simp[hlt] at hc;exact hh hc)|trace_state
    |true=>
     have i2:=ip ⟨#[40]⟩
     rw[h2] at i2
     by_cases hd2:12≤d
     ·have e:bO ts (f+1) i d= .error (flK 4 ts i):=by rw[bO,if_neg n1,if_pos h2,if_pos hd2]
      rw[e]
      simp only[qtV]
      clear e ih ip
      refine fn3 (fn:=Tryz.f344) Tryz.call344 Tryz.func344 rfl Tryz.ntmps344 Tryz.results344 rfl (by first|rfl|simp[V.ok,okL,C.ok,okA,okV]) ?_
      repeat'(first|(with_reducible first|apply AW.seq|apply AW.skip|apply AW.ret|apply aa|apply ak|apply y_e|refine ae ?_)|((with_reducible apply ai);first|refine t_v AS.v ?_|refine t_v (by first|exact aj (hP:=i1)|exact aj (hP:=fl _)) ?_|refine t_w AS.w ?_)|((with_reducible apply aK);first|refine t_m (hs:=fun hg=>AS.v) (k:=?_)|refine t_m (hs:=fun hg=>(by first|exact aj (hP:=i2)|exact aj (hP:=c6 _))) (k:=?_))|((with_reducible apply ay);refine t_s AS.s ?_)|((with_reducible refine aq ?_);first|refine aI ?_|refine aJ ?_|(refine ah (fun hc=>?_) (fun hc=>?_);all_goals(try(exfalso;simp[*] at hc;done));all_goals(try(exfalso;revert hc;simp;omega))))|((with_reducible refine aM ?_);(((refine dT ?_ ?_ ?_);all_goals(with_reducible (first|apply eB|apply eO)))))|fail)
      all_goals rfl
     ·have nx:=ih.bi 1 (i+1) (d+1) (by omega) (by omega) (by omega) (by omega) (by omega)
      have e0:bO ts (f+1) i d=cr ts f 1 (i+1) (d+1)>>=fun x=>if isK ts x.2 ⟨#[41]⟩=true then .ok (x.1,x.2+1) else .error (flK 9 ts x.2):=by rw[bO,if_neg n1,if_pos h2,if_neg hd2]
      rw[e0]
      clear e0
      cases hq:cr ts f 1 (i+1) (d+1) with
      |error g=>
       have hz:=(kR ts f).2.1 hq
       rw[hq] at nx
       have nx:Pure _ _ _ (.tup [.agg (exC Ex.zero),.c (sI 0),.agg (faC g)]):=nx
       show Pure _ _ _ (.tup [.agg (exC Ex.zero),.c (sI 0),.agg (faC g)])
       clear ih ip fl hq
       refine fn3 (fn:=Tryz.f344) Tryz.call344 Tryz.func344 rfl Tryz.ntmps344 Tryz.results344 rfl (by first|rfl|simp[V.ok,okL,C.ok,okA,okV]) ?_
       repeat'(first|(with_reducible first|apply AW.seq|apply AW.skip|apply AW.ret|apply aa|apply ak|apply y_e|refine ae ?_|refine b7 ?_)|((with_reducible apply ai);first|refine t_v AS.v ?_|refine t_v (by first|exact aj (hP:=i1)|exact aj (hP:=nx)) ?_|refine t_w AS.w ?_)|((with_reducible apply aK);first|refine t_m (hs:=fun hg=>AS.v) (k:=?_)|refine t_m (hs:=fun hg=>(by first|exact aj (hP:=i2)|exact aj (hP:=c6 _))) (k:=?_))|((with_reducible apply ay);refine t_s AS.s ?_)|((with_reducible refine aq ?_);first|refine aJ ?_|(refine ah (fun hc=>?_) (fun hc=>?_);all_goals(try(exfalso;simp[*] at hc;done));all_goals(try(exfalso;revert hc;simp;omega))))|((with_reducible refine aM ?_);(((refine dT ?_ ?_ ?_);all_goals(with_reducible (first|apply eB|apply eO)))))|(refine⟨by decide +kernel,?_⟩)|fail)
       all_goals first|rfl|exact aU _|exact eM _|(simp only[unA];done)|(exfalso;simp[hlt] at hc;exact hh hc)|trace_state
      |ok p=>
       obtain ⟨x,j⟩:=p
       have hj:=(gE ts f).2.1 hq
       rw[hq] at nx
       have nx:Pure _ _ _ (.tup [.agg (exC x),.c (sI j),.agg (faC Fa.zero)]):=nx
       have i3:=yM hl hj.2 ⟨#[41]⟩
       have f3:=nc hl hj.2 9
       rw[ag]
       dsimp only
       cases h3:isK ts j ⟨#[41]⟩ with
       |true=>
        rw[h3] at i3
        rw[if_pos rfl]
        show Pure _ _ _ (.tup [.agg (exC x),.c (sI ((j+1:Nat):Int)),.agg (faC Fa.zero)])
        clear ih ip fl hq
        refine fn3 (fn:=Tryz.f344) Tryz.call344 Tryz.func344 rfl Tryz.ntmps344 Tryz.results344 rfl (by first|rfl|simp[V.ok,okL,C.ok,okA,okV]) ?_
        repeat'(first|(with_reducible first|apply AW.seq|apply AW.skip|apply AW.ret|apply aa|apply y_e|refine ae ?_)|((with_reducible apply ai);first|refine t_v AS.v ?_|refine t_v (by first|exact aj (hP:=i1)|exact aj (hP:=nx)|exact aj (hP:=i3)) ?_|refine t_w AS.w ?_)|((with_reducible apply aK);first|refine t_m (hs:=fun hg=>AS.v) (k:=?_)|refine t_m (hs:=fun hg=>(by first|exact aj (hP:=i2)|exact aj (hP:=c6 _))) (k:=?_))|((with_reducible apply ay);refine t_s AS.s ?_)|((with_reducible refine aq ?_);first|refine aJ ?_|(refine ah (fun hc=>?_) (fun hc=>?_);all_goals(try(exfalso;simp[*] at hc;done));all_goals(try(exfalso;revert hc;simp;omega))))|((with_reducible refine aM ?_);(((refine dT ?_ ?_ ?_);all_goals(with_reducible (first|apply eB|apply eO)))))|fail)
        all_goals first|rfl|exact aU _|exact eM _|(simp only[unA];done)|(exfalso;simp[hlt] at hc;exact hh hc)|trace_state
       |false=>
        rw[h3] at i3
        rw[if_neg (by decide)]
        show Pure _ _ _ (.tup [.agg (exC Ex.zero),.c (sI 0),.agg (faC (flK 9 ts j))])
        clear ih ip fl hq
        refine fn3 (fn:=Tryz.f344) Tryz.call344 Tryz.func344 rfl Tryz.ntmps344 Tryz.results344 rfl (by first|rfl|simp[V.ok,okL,C.ok,okA,okV]) ?_
        repeat'(first|(with_reducible first|apply AW.seq|apply AW.skip|apply AW.ret|apply aa|apply ak|apply y_e|refine ae ?_)|((with_reducible apply ai);first|refine t_v AS.v ?_|refine t_v (by first|exact aj (hP:=i1)|exact aj (hP:=nx)|exact aj (hP:=i3)|exact aj (hP:=f3)) ?_|refine t_w AS.w ?_)|((with_reducible apply aK);first|refine t_m (hs:=fun hg=>AS.v) (k:=?_)|refine t_m (hs:=fun hg=>(by first|exact aj (hP:=i2)|exact aj (hP:=c6 _))) (k:=?_))|((with_reducible apply ay);refine t_s AS.s ?_)|((with_reducible refine aq ?_);first|refine aI ?_|refine aJ ?_|(refine ah (fun hc=>?_) (fun hc=>?_);all_goals(try(exfalso;simp[*] at hc;done));all_goals(try(exfalso;revert hc;simp;omega))))|((with_reducible refine aM ?_);(((refine dT ?_ ?_ ?_);all_goals(with_reducible (first|apply eB|apply eO)))))|fail)
        all_goals rfl
 ·have hi2:i=ts.length:=by omega
  subst hi2
  have k0:∀ m,isK ts ts.length m=false:=fun m=>by simp[isK]
  have e:bO ts (f+1) ts.length d= .error (flK 9 ts ts.length):=by
   rw[bO,if_neg (by rw[k0];decide),if_neg (by rw[k0];decide),nmK,List.getElem?_eq_none (Nat.le_refl _)]
  rw[e]
  simp only[k0] at ip
  simp only[qtV]
  clear e hlt hi hf k0
  refine fn3 (fn:=Tryz.f344) Tryz.call344 Tryz.func344 rfl Tryz.ntmps344 Tryz.results344 rfl (by first|rfl|simp[V.ok,okL,C.ok,okA,okV]) ?_
  repeat'(first|(with_reducible first|apply AW.seq|apply AW.skip|apply AW.ret|apply aa|apply ak|apply y_e|refine ae ?_)|((with_reducible apply ai);first|refine t_v AS.v ?_|refine t_v (by first|exact aj (hP:=ip _)|exact aj (hP:=fl _)) ?_|refine t_w AS.w ?_)|((with_reducible apply aK);first|refine t_f ?_|refine t_m (hs:=fun hg=>AS.v) (k:=?_)|refine t_m (hs:=fun hg=>(by first|exact aj (hP:=ip _)|exact aj (hP:=c6 _))) (k:=?_))|((with_reducible apply ay);refine t_s AS.s ?_)|((with_reducible refine aq ?_);first|refine aI ?_|refine aJ ?_|(refine ah (fun hc=>?_) (fun hc=>?_);all_goals(try(exfalso;simp[*] at hc;done))))|((with_reducible refine aM ?_);(((refine dT ?_ ?_ ?_);all_goals(with_reducible (first|apply eB|apply eO)))))|fail)
  all_goals rfl
theorem BP (hl:ts.length≤4294967296) {f n i d:Nat} (h1n:1≤n) (hn:n≤5) (hi:i≤ts.length) (hd:d≤12) (hf:8*(ts.length - i)+7≤f+1+n) (ih:∀ m,m≤f→QX ts m):Pure Tryz.prog 314 [.c (.lst none 4 (ts.map tkC)),.c (sI i),.c (sI n),.c (sI d)] (qtV (cr ts (f+1) n i d)):=by
 by_cases h4:4<n
 ·have e:cr ts (f+1) n i d=bO ts f i d:=by rw[cr,if_pos h4]
  have hn5:n=5:=by omega
  subst hn5
  rw[e]
  have nx:=(ih f (Nat.le_refl _)).no i d hi hd (by omega)
  clear e ih
  cases hq:bO ts f i d with
  |error g=>
   rw[hq] at nx
   have nx:Pure _ _ _ (.tup [.agg (exC Ex.zero),.c (sI 0),.agg (faC g)]):=nx
   simp only[qtV]
   clear hq
   refine fn4 (fn:=Tryz.f314) Tryz.call314 Tryz.func314 rfl Tryz.ntmps314 Tryz.results314 rfl (by first|rfl|simp[V.ok,okL,C.ok,okA,okV]) ?_
   repeat'(first|(with_reducible first|apply AW.seq|apply AW.block|apply AW.skip|apply AW.ret|apply aa|apply ak|apply y_e|refine ae ?_)|((with_reducible apply ai);first|refine t_v AS.v ?_|refine t_v (by exact aj (hP:=nx)) ?_|refine t_w AS.w ?_)|((with_reducible apply ay);refine t_s AS.s ?_)|((with_reducible refine aq ?_);first|refine aI ?_|(refine ah (fun hc=>?_) (fun hc=>?_);all_goals(try(exfalso;simp[*] at hc;done))))|((with_reducible refine aM ?_);(((refine dT ?_ ?_ ?_);all_goals(with_reducible (first|apply eB|apply eO)))))|fail)
   all_goals first|rfl|exact aU _|exact eM _|(simp only[unA];done)|(exfalso;simp at hc;done)|trace_state
  |ok p=>
   obtain ⟨x,j⟩:=p
   rw[hq] at nx
   have nx:Pure _ _ _ (.tup [.agg (exC x),.c (sI j),.agg (faC Fa.zero)]):=nx
   simp only[qtV]
   clear hq
   refine fn4 (fn:=Tryz.f314) Tryz.call314 Tryz.func314 rfl Tryz.ntmps314 Tryz.results314 rfl (by first|rfl|simp[V.ok,okL,C.ok,okA,okV]) ?_
   repeat'(first|(with_reducible first|apply AW.seq|apply AW.block|apply AW.skip|apply AW.ret|apply aa|apply ak|apply y_e|refine ae ?_)|((with_reducible apply ai);first|refine t_v AS.v ?_|refine t_v (by exact aj (hP:=nx)) ?_|refine t_w AS.w ?_)|((with_reducible apply ay);refine t_s AS.s ?_)|((with_reducible refine aq ?_);first|refine aI ?_|(refine ah (fun hc=>?_) (fun hc=>?_);all_goals(try(exfalso;simp[*] at hc;done))))|((with_reducible refine aM ?_);(((refine dT ?_ ?_ ?_);all_goals(with_reducible (first|apply eB|apply eO)))))|fail)
   all_goals first|rfl|(simp only[unA];done)
 ·have e:cr ts (f+1) n i d=cr ts f (n+1) i d>>=fun x=>dr ts f n x.1 x.2 d:=by rw[cr,if_neg h4]
  rw[e]
  clear e
  have nx:=(ih f (Nat.le_refl _)).bi (n+1) i d (by omega) (by omega) hi hd (by omega)
  have hn5:¬ ((n:Int)=5):=by omega
  cases hq:cr ts f (n+1) i d with
  |error g=>
   have hz:=(kR ts f).2.1 hq
   rw[hq] at nx
   have nx:Pure _ _ _ (.tup [.agg (exC Ex.zero),.c (sI 0),.agg (faC g)]):=nx
   show Pure _ _ _ (.tup [.agg (exC Ex.zero),.c (sI 0),.agg (faC g)])
   clear hq ih
   refine fn4 (fn:=Tryz.f314) Tryz.call314 Tryz.func314 rfl Tryz.ntmps314 Tryz.results314 rfl (by first|rfl|simp[V.ok,okL,C.ok,okA,okV]) ?_
   repeat'(first|(with_reducible first|apply AW.seq|apply AW.block|apply AW.skip|apply AW.ret|apply aa|apply ak|apply y_e|refine ae ?_)|((with_reducible apply ai);first|refine t_v AS.v ?_|refine t_v (by exact aj (hP:=nx)) ?_|refine t_w AS.w ?_)|((with_reducible apply ay);refine t_s AS.s ?_)|((with_reducible refine aq ?_);first|refine aI ?_|(refine ah (fun hc=>?_) (fun hc=>?_);all_goals(try(exfalso;simp[*] at hc;done))))|((with_reducible refine aM ?_);(((refine dT ?_ ?_ ?_);all_goals(with_reducible (first|apply eB|apply eO)))))|fail)
   refine AW.loop (fun m σ=>σ=mk [(0,.c (.lst none 4 (ts.map tkC))),(2,.c (sI n)),(3,.c (sI d)),(12,.c (sI 0)),(8,.c (.ptr 8 0)),(10,.c (.ptr 10 0)),(11,.c (.ptr 11 0)),(13,.c (.ptr 13 0))] [(13,.obj 30 (faC g)),(11,.obj 49 (exC Ex.zero)),(8,.obj 49 (exC Ex.zero)),(10,.obj 30 (faC Fa.zero))]) 0 ?_ ?_
   ·exact⟨_,wkA,rfl⟩
   rintro m σ rfl
   repeat'(first|(with_reducible first|apply AW.seq|apply AW.ret|apply AW.exit|apply aa|apply ak|apply aE|apply aH|apply y_e|refine ae ?_|refine b7 ?_)|((with_reducible apply ai);refine t_v AS.v ?_)|((with_reducible apply aK);refine t_f ?_)|((with_reducible apply ay);refine t_s AS.s ?_)|((with_reducible refine aq ?_);first|refine aJ ?_|(refine ah (fun hc=>?_) (fun hc=>?_);all_goals(try(exfalso;simp[*] at hc;done))))|((with_reducible refine aM ?_);(((refine dT ?_ ?_ ?_);all_goals(with_reducible (first|apply eB|apply eO)))))|(refine⟨by decide +kernel,?_⟩)|fail)
   all_goals first|rfl|exact aU _|exact eM _|(simp only[unA];done)|(exfalso;simp at hc;done)|trace_state
  |ok p=>
   obtain ⟨x,k⟩:=p
   have hk:=(gE ts f).2.1 hq
   rw[hq] at nx
   have nx:Pure _ _ _ (.tup [.agg (exC x),.c (sI k),.agg (faC Fa.zero)]):=nx
   rw[ag]
   dsimp only
   refine fn4 (fn:=Tryz.f314) Tryz.call314 Tryz.func314 rfl Tryz.ntmps314 Tryz.results314 rfl (ER _) ?_
   generalize hsp:dr ts f n x k d=sp
   repeat'(first|(with_reducible first|apply AW.seq|apply AW.block|apply AW.skip|apply AW.ret|apply aa|apply ak|apply y_e|refine ae ?_)|((with_reducible apply ai);first|refine t_v AS.v ?_|refine t_v (by exact aj (hP:=nx)) ?_|refine t_w AS.w ?_)|((with_reducible apply ay);refine t_s AS.s ?_)|((with_reducible refine aq ?_);first|refine aI ?_|(refine ah (fun hc=>?_) (fun hc=>?_);all_goals(try(exfalso;simp[*] at hc;done))))|((with_reducible refine aM ?_);(((refine dT ?_ ?_ ?_);all_goals(with_reducible (first|apply eB|apply eO)))))|fail)
   refine AW.loop (fun m σ=>∃ (e:Ex) (j:Nat) (g:Fa),(g.code=0→g=Fa.zero∧dr ts m n e j d=sp∧m≤f∧8*(ts.length - j)+2≤m∧j≤ts.length)∧(g.code≠0→sp= .error g)∧σ=mk [(0,.c (.lst none 4 (ts.map tkC))),(2,.c (sI n)),(3,.c (sI d)),(12,.c (sI j)),(8,.c (.ptr 8 0)),(10,.c (.ptr 10 0)),(11,.c (.ptr 11 0)),(13,.c (.ptr 13 0))] [(13,.obj 30 (faC g)),(11,.obj 49 (exC e)),(8,.obj 49 (exC Ex.zero)),(10,.obj 30 (faC Fa.zero))]) f ?_ ?_
   ·exact⟨_,wkA,x,k,Fa.zero,fun _=>⟨rfl,hsp,Nat.le_refl _,by omega,hk.2⟩,fun h=>absurd rfl h,rfl⟩
   clear hsp hq hk nx
   rintro m σ ⟨e,j,g,hg0,hg1,rfl⟩
   by_cases hz:g.code=0
   ·obtain ⟨rfl,hm,hm1,hm2,hj⟩:=hg0 hz
    clear hg0 hg1 hz
    subst hm
    obtain ⟨m,rfl⟩:∃ n,m=n+1:=⟨m - 1,by omega⟩
    have so:=qM (ts:=ts) (i:=j) hl hj (n:=n) (by omega)
    have hop:=C1 (ts:=ts) (i:=j) (n:=n)
    by_cases ho:opK ts j n=0
    ·have eb:dr ts (m+1) n e j d= .ok (e,j):=by rw[dr,if_pos ho]
     rw[eb]
     rw[ho] at so
     simp only[qtV]
     clear eb ih hop ho
     repeat'(first|(with_reducible first|apply AW.seq|apply AW.skip|apply AW.ret|apply AW.exit|apply aa|apply aE|apply aH|apply y_e|refine ae ?_)|((with_reducible apply ai);refine t_v AS.v ?_)|((with_reducible apply aK);first|refine t_m (hs:=fun hg=>AS.v) (k:=?_)|refine t_m (hs:=fun hg=>(by exact aj (hP:=so))) (k:=?_))|((with_reducible apply ay);refine t_s AS.s ?_)|((with_reducible refine aq ?_);refine aJ ?_)|((with_reducible refine aM ?_);(((refine dT ?_ ?_ ?_);all_goals(with_reducible (first|apply eB|apply eO)))))|fail)
     all_goals first|rfl|(simp only[unA];done)
    ·have eb:dr ts (m+1) n e j d=cr ts m (n+1) (j+1) d>>=fun x=>dr ts m n {Ex.zero with op:=opK ts j n,kids:=[e,x.1]} x.2 d:=by rw[dr,if_neg ho]
     rw[eb]
     clear eb
     have hjl:=xT ho
     have nx:=(ih m (by omega)).bi (n+1) (j+1) d (by omega) (by omega) (by omega) hd (by omega)
     have hop2:0<opK ts j n:=by omega
     clear ih
     cases hq:cr ts m (n+1) (j+1) d with
     |error g=>
      have hz:=(kR ts m).2.1 hq
      rw[hq] at nx
      have nx:Pure _ _ _ (.tup [.agg (exC Ex.zero),.c (sI 0),.agg (faC g)]):=nx
      clear hq
      repeat'(first|(with_reducible first|apply AW.seq|apply AW.block|apply AW.skip|apply AW.ret|apply AW.exit|apply aa|apply aE|apply aw|apply aH|apply y_e|refine ae ?_)|((with_reducible apply ai);first|refine t_v AS.v ?_|refine t_v (by first|exact aj (hP:=so)|exact aj (hP:=nx)) ?_|refine t_w AS.w ?_)|((with_reducible apply aK);first|refine t_m (hs:=fun hg=>AS.v) (k:=?_)|refine t_m (hs:=fun hg=>(by exact aj (hP:=so))) (k:=?_))|((with_reducible apply ay);refine t_s AS.s ?_)|((with_reducible refine aq ?_);first|refine aJ ?_|(refine ah (fun hc=>?_) (fun hc=>?_)))|((with_reducible refine aM ?_);(((refine dT ?_ ?_ ?_);all_goals(with_reducible (first|apply eB|apply eO)))))|fail)
      all_goals first|exact⟨m,_,Nat.lt_succ_self m,wkA,{Ex.zero with op:=opK ts j n,kids:=[e,Ex.zero]},0,g,fun h=>absurd h hz,fun _=>rfl,rfl⟩|(exfalso;simp[hop2,show Fa.zero.code=0 from rfl] at hc;done)|(exfalso;simp at hc;omega)|trace_state
     |ok p=>
      obtain ⟨y,k⟩:=p
      have hk:=(gE ts m).2.1 hq
      rw[hq] at nx
      have nx:Pure _ _ _ (.tup [.agg (exC y),.c (sI k),.agg (faC Fa.zero)]):=nx
      clear hq
      rw[ag]
      dsimp only
      repeat'(first|(with_reducible first|apply AW.seq|apply AW.block|apply AW.skip|apply AW.ret|apply AW.exit|apply aa|apply aE|apply aw|apply aH|apply y_e|refine ae ?_)|((with_reducible apply ai);first|refine t_v AS.v ?_|refine t_v (by first|exact aj (hP:=so)|exact aj (hP:=nx)) ?_|refine t_w AS.w ?_)|((with_reducible apply aK);first|refine t_m (hs:=fun hg=>AS.v) (k:=?_)|refine t_m (hs:=fun hg=>(by exact aj (hP:=so))) (k:=?_))|((with_reducible apply ay);refine t_s AS.s ?_)|((with_reducible refine aq ?_);first|refine aJ ?_|(refine ah (fun hc=>?_) (fun hc=>?_)))|((with_reducible refine aM ?_);(((refine dT ?_ ?_ ?_);all_goals(with_reducible (first|apply eB|apply eO)))))|fail)
      all_goals first|exact⟨m,_,Nat.lt_succ_self m,wkA,{Ex.zero with op:=opK ts j n,kids:=[e,y]},k,Fa.zero,fun _=>⟨rfl,rfl,by omega,by omega,hk.2⟩,fun h=>absurd rfl h,rfl⟩|(exfalso;simp[hop2,show Fa.zero.code=0 from rfl] at hc;done)
   ·have hs:=hg1 hz
    clear hg0 hg1 ih
    subst hs
    simp only[qtV]
    repeat'(first|(with_reducible first|apply AW.seq|apply AW.ret|apply AW.exit|apply aa|apply ak|apply aE|apply aH|apply y_e|refine ae ?_|refine b7 ?_)|((with_reducible apply ai);refine t_v AS.v ?_)|((with_reducible apply aK);refine t_f ?_)|((with_reducible apply ay);refine t_s AS.s ?_)|((with_reducible refine aq ?_);first|refine aJ ?_|(refine ah (fun hc=>?_) (fun hc=>?_);all_goals(try(exfalso;simp[*] at hc;done))))|((with_reducible refine aM ?_);(((refine dT ?_ ?_ ?_);all_goals(with_reducible (first|apply eB|apply eO)))))|(refine⟨by decide +kernel,?_⟩)|fail)
    all_goals first|rfl|(simp only[unA];done)
theorem y4 (hl:ts.length≤4294967296):∀ f m:Nat,m≤f→QX ts m
 |_,0,_=>⟨fun _ _ _ _ h=>absurd h (by omega),fun n _ _ h1 h2 _ _ h=>absurd h (by omega)⟩
 |0,_+1,h=>absurd h (by omega)
 |f+1,m+1,h=>by
  have ih:=y4 hl f
  exact⟨fun i d hi hd hf=>Bf hl hi hd hf (ih m (by omega)),fun n i d h1 h2 hi hd hf=>BP hl h1 h2 hi hd hf fun j hj=>ih j (by omega)⟩
end
end Am
end Go.Proofs.YtkpodagbefnebaaGreatDoor
