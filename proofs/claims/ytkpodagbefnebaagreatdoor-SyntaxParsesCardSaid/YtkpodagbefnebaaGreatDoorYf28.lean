import Derived.Test.YtkpodagbefnebaaGreatDoorYf26
import Derived.Test.YtkpodagbefnebaaGreatDoorYf27
import Derived.Test.YtkpodagbefnebaaGreatDoorYf23
import Derived.Test.YtkpodagbefnebaaGreatDoorYf24
import Derived.Test.YtkpodagbefnebaaGreatDoorYf25
set_option linter.unusedSimpArgs false
set_option linter.unusedVariables false
set_option linter.unusedSectionVars false
namespace Go.Proofs.YtkpodagbefnebaaGreatDoor
namespace Am
open Tk Go.RowKit
set_option maxRecDepth 100000
set_option maxHeartbeats 4000000
theorem fS (op:Int):Pure Tryz.prog 268 [.c (sI op)] (.c (sI (nP op))):=by
 refine fn1 (fn:=Tryz.f268) Tryz.call268 Tryz.func268 rfl Tryz.ntmps268 Tryz.results268 rfl (by rfl) ?_
 repeat'(first|(with_reducible first|apply AW.seq|apply AW.skip|apply AW.ret|apply aa|apply ak|apply y_e|refine ae ?_)|((with_reducible apply ai);refine t_v AS.v ?_)|((with_reducible apply aK);refine t_m (hs:=fun hg=>AS.v) (k:=?_))|((with_reducible refine aq ?_);((refine ah (fun hc=>?_) (fun hc=>?_))))|((with_reducible refine aM ?_);refine k_i ?_)|fail)
 all_goals((unfold nP;grind))
theorem kY:∀ (n:Nat) (e:Ex) (level:Int),SizeOf.sizeOf e<n→-100≤level→level≤100→Pure Tryz.prog 201 [.agg (exC e),.c (sI level)] (.c (sI (fq level e)))
 |0,_,_,h,_,_=>absurd h (Nat.not_lt_zero _)
 |n+1,e,level,h,h0,h1=>by
  have hl:bX e level=0→level≤12:=by
   intro hb;unfold bX at hb;split at hb <;> omega
  rw[kl]
  by_cases hn1:e.names.length=1
  ·obtain ⟨s,hg,hgd⟩:∃ s,e.names[0]? =some s∧e.names.getD 0 ⟨#[]⟩=s:=by
    match hn:e.names,hn1 with
    |[x],_=>exact⟨x,rfl,rfl⟩
   by_cases hb:bX e level=0
   ·rw[if_pos hb]
    have hv:=hl hb
    have HB:=Lib.hid hb
    have HV:=Lib.hid hv
    clear hb hv hl
    refine fn2 (fn:=Tryz.f201) Tryz.call201 Tryz.func201 rfl Tryz.ntmps201 Tryz.results201 rfl (by rfl) ?_
    refine AW.fact (t:=0) rfl (fun κ w x hr=>sd hr (l:=e.kids) (t:=none) (k:=10) (f:=exC) (by rw[exC,eF];simp)) fun hnk=>?_
    repeat'(first|(with_reducible first|apply AW.seq|apply AW.block|apply AW.skip|apply AW.ret|apply aa|apply ak|apply y_e|refine ae ?_)|((with_reducible apply ai);first|refine t_v AS.v ?_|refine t_v (by exact aj (hP:=fS _)) ?_|refine t_w AS.w ?_)|((with_reducible apply aK);first|refine t_f ?_|refine t_m (hs:=fun hg=>AS.v) (k:=?_)|refine t_m (hs:=fun hg=>(by exact aj (hP:=c6 _))) (k:=?_))|((with_reducible refine aq ?_);first|refine aJ ?_|(refine ah (fun hc=>?_) (fun hc=>?_)))|((with_reducible refine aM ?_);refine k_i ?_)|fail)
    all_goals have hb:=HB.out
    all_goals have hv:=HV.out
    all_goals first|(exfalso;(try simp only[List.length_map] at *);unfold bX at hb;grind)|skip
    refine AW.loop (fun n σ=>∃ j,n=e.kids.length - j∧j≤e.kids.length∧(∀ y∈e.kids.take j,fq (level+1) y=0)∧σ=mk [(1,.c (sI level)),(2,.c (.ptr 2 0)),(6,.c (sI (j:Int)))] [(2,.obj 49 (exC e))]) e.kids.length ?_ ?_
    ·exact⟨_,wkA,0,rfl,Nat.zero_le _,by simp,rfl⟩
    rintro n σ ⟨j,rfl,hj,ha,rfl⟩
    by_cases hlt:j<e.kids.length
    ·obtain ⟨x,hx⟩:∃ x,e.kids[j]? =some x:=⟨_,List.getElem?_eq_getElem hlt⟩
     have hp:=kY n x (level+1) (by have:=r6 (List.mem_of_getElem? hx);omega) (by omega) (by omega)
     repeat'(first|(with_reducible first|apply AW.seq|apply AW.block|apply AW.skip|apply AW.ret|apply aa|apply ak|apply aw|apply aL|apply y_e|refine ae ?_)|((with_reducible apply ai);first|refine t_v AS.v ?_|refine t_v (by exact aj (hP:=hp)) ?_)|((with_reducible refine aq ?_);((refine ah (fun hc=>?_) (fun hc=>?_);all_goals(try(exfalso;simp[*] at hc;done)))))|((with_reducible refine aM ?_);refine k_i ?_)|fail)
     ·rw[nn hx ha (by simpa using hc)]
     ·exact⟨_,_,(show e.kids.length - (j+1)<e.kids.length - j by omega),wkA,j+1,rfl,hlt,ot hx ha (by simpa using hc),rfl⟩
    ·repeat'(first|(with_reducible first|apply AW.seq|apply AW.ret|apply AW.exit|apply aa|apply aE|apply aH|apply y_e|refine ae ?_)|((with_reducible apply ai);refine t_v AS.v ?_)|((with_reducible refine aq ?_);((refine ah (fun hc=>?_) (fun hc=>?_);all_goals(try(exfalso;simp[*] at hc;done)))))|((with_reducible refine aM ?_);refine k_i ?_)|fail)
     rw[kH ha (by omega)]
   ·rw[if_neg hb]
    refine fn2 (fn:=Tryz.f201) Tryz.call201 Tryz.func201 rfl Tryz.ntmps201 Tryz.results201 rfl (by rfl) ?_
    repeat'(first|(with_reducible first|apply AW.seq|apply AW.block|apply AW.skip|apply AW.ret|apply aa|apply ak|apply y_e|refine ae ?_)|((with_reducible apply ai);first|refine t_v AS.v ?_|refine t_v (by exact aj (hP:=fS _)) ?_|refine t_w AS.w ?_)|((with_reducible apply aK);first|refine t_f ?_|refine t_m (hs:=fun hg=>AS.v) (k:=?_)|refine t_m (hs:=fun hg=>(by exact aj (hP:=c6 _))) (k:=?_))|((with_reducible refine aq ?_);first|refine aJ ?_|(refine ah (fun hc=>?_) (fun hc=>?_)))|((with_reducible refine aM ?_);refine k_i ?_)|fail)
    all_goals first|((try simp only[List.length_map] at *);unfold bX;grind)|(exfalso;apply hb;(try simp only[List.length_map] at *);unfold bX;grind)
  ·by_cases hb:bX e level=0
   ·rw[if_pos hb]
    have hv:=hl hb
    have hop:¬ nP e.op=0:=by
     intro h
     unfold bX at hb
     grind
    have HB:=Lib.hid hb
    have HV:=Lib.hid hv
    clear hb hv hl
    refine fn2 (fn:=Tryz.f201) Tryz.call201 Tryz.func201 rfl Tryz.ntmps201 Tryz.results201 rfl (by rfl) ?_
    refine AW.fact (t:=0) rfl (fun κ w x hr=>sd hr (l:=e.kids) (t:=none) (k:=10) (f:=exC) (by rw[exC,eF];simp)) fun hnk=>?_
    repeat'(first|(with_reducible first|apply AW.seq|apply AW.block|apply AW.skip|apply AW.ret|apply aa|apply ak|apply y_e|refine ae ?_)|((with_reducible apply ai);first|refine t_v AS.v ?_|refine t_v (by exact aj (hP:=fS _)) ?_|refine t_w AS.w ?_)|((with_reducible apply aK);first|refine t_f ?_|refine t_m (hs:=fun hg=>AS.v) (k:=?_)|refine t_m (hs:=fun hg=>(by exact aj (hP:=c6 _))) (k:=?_))|((with_reducible refine aq ?_);first|refine aJ ?_|(refine ah (fun hc=>?_) (fun hc=>?_)))|((with_reducible refine aM ?_);refine k_i ?_)|fail)
    all_goals have hb:=HB.out
    all_goals have hv:=HV.out
    all_goals first|(exfalso;(try simp only[List.length_map] at *);unfold bX at hb;grind)|skip
    refine AW.loop (fun n σ=>∃ j,n=e.kids.length - j∧j≤e.kids.length∧(∀ y∈e.kids.take j,fq (level+1) y=0)∧σ=mk [(1,.c (sI level)),(2,.c (.ptr 2 0)),(6,.c (sI (j:Int)))] [(2,.obj 49 (exC e))]) e.kids.length ?_ ?_
    ·exact⟨_,wkA,0,rfl,Nat.zero_le _,by simp,rfl⟩
    rintro n σ ⟨j,rfl,hj,ha,rfl⟩
    by_cases hlt:j<e.kids.length
    ·obtain ⟨x,hx⟩:∃ x,e.kids[j]? =some x:=⟨_,List.getElem?_eq_getElem hlt⟩
     have hp:=kY n x (level+1) (by have:=r6 (List.mem_of_getElem? hx);omega) (by omega) (by omega)
     repeat'(first|(with_reducible first|apply AW.seq|apply AW.block|apply AW.skip|apply AW.ret|apply aa|apply ak|apply aw|apply aL|apply y_e|refine ae ?_)|((with_reducible apply ai);first|refine t_v AS.v ?_|refine t_v (by exact aj (hP:=hp)) ?_)|((with_reducible refine aq ?_);((refine ah (fun hc=>?_) (fun hc=>?_);all_goals(try(exfalso;simp[*] at hc;done)))))|((with_reducible refine aM ?_);refine k_i ?_)|fail)
     ·rw[nn hx ha (by simpa using hc)]
     ·exact⟨_,_,(show e.kids.length - (j+1)<e.kids.length - j by omega),wkA,j+1,rfl,hlt,ot hx ha (by simpa using hc),rfl⟩
    ·repeat'(first|(with_reducible first|apply AW.seq|apply AW.ret|apply AW.exit|apply aa|apply aE|apply aH|apply y_e|refine ae ?_)|((with_reducible apply ai);refine t_v AS.v ?_)|((with_reducible refine aq ?_);((refine ah (fun hc=>?_) (fun hc=>?_);all_goals(try(exfalso;simp[*] at hc;done)))))|((with_reducible refine aM ?_);refine k_i ?_)|fail)
     rw[kH ha (by omega)]
   ·rw[if_neg hb]
    refine fn2 (fn:=Tryz.f201) Tryz.call201 Tryz.func201 rfl Tryz.ntmps201 Tryz.results201 rfl (by rfl) ?_
    repeat'(first|(with_reducible first|apply AW.seq|apply AW.block|apply AW.skip|apply AW.ret|apply aa|apply ak|apply y_e|refine ae ?_)|((with_reducible apply ai);first|refine t_v AS.v ?_|refine t_v (by exact aj (hP:=fS _)) ?_|refine t_w AS.w ?_)|((with_reducible apply aK);first|refine t_f ?_|refine t_m (hs:=fun hg=>AS.v) (k:=?_)|refine t_m (hs:=fun hg=>(by exact aj (hP:=c6 _))) (k:=?_))|((with_reducible refine aq ?_);first|refine aJ ?_|(refine ah (fun hc=>?_) (fun hc=>?_)))|((with_reducible refine aM ?_);refine k_i ?_)|fail)
    all_goals first|((try simp only[List.length_map] at *);unfold bX;grind)|(exfalso;apply hb;(try simp only[List.length_map] at *);unfold bX;grind)
theorem vA (e:Ex):Pure Tryz.prog 139 [.agg (exC e)] (.c (sI (fq 1 e))):=by
 refine fn1 (fn:=Tryz.f139) Tryz.call139 Tryz.func139 rfl Tryz.ntmps139 Tryz.results139 rfl (by rfl) ?_
 repeat'(first|(with_reducible first|apply AW.seq|apply AW.ret|apply aa|apply y_e|refine ae ?_)|((with_reducible apply ai);first|refine t_v AS.v ?_|refine t_v (by exact aj (hP:=kY _ e 1 (Nat.lt_succ_self _) (by omega) (by omega))) ?_|refine t_w AS.w ?_)|((with_reducible refine aM ?_);refine k_i ?_)|fail)
 rfl
inductive WfE:Ex→Prop
 |nm {s:ByteArray}:idB s=true→WfE {Ex.zero with op:=1,names:=[s]}
 |nt {x:Ex}:WfE x→WfE {Ex.zero with op:=2,kids:=[x]}
 |bi {op:Int} {x y:Ex}:op=3∨op=4∨op=5∨op=6∨op=7→WfE x→WfE y→WfE {Ex.zero with op:=op,kids:=[x,y]}
theorem Dy {ts:List Tok} {i n:Nat} (h:opK ts i n≠0):opK ts i n=3∨opK ts i n=4∨opK ts i n=5∨opK ts i n=6∨opK ts i n=7:=by
 unfold opK at h ⊢
 (repeat' split) <;> simp_all
theorem yT (ts:List Tok):∀ f:Nat,(∀ {i d j:Nat} {x:Ex},bO ts f i d= .ok (x,j)→WfE x)∧(∀ {n i d j:Nat} {x:Ex},cr ts f n i d= .ok (x,j)→WfE x)∧(∀ {n i d j:Nat} {e x:Ex},WfE e→dr ts f n e i d= .ok (x,j)→WfE x)
 |0=>⟨fun h=>(by rw[bO] at h;cases h),fun h=>(by rw[cr] at h;cases h),fun _ h=>(by rw[dr] at h;cases h)⟩
 |f+1=>by
  obtain ⟨i1,i2,i3⟩:=yT ts f
  refine⟨fun {i d j x} h=>?_,fun {n i d j x} h=>?_,fun {n i d j e x} hi h=>?_⟩
  ·rw[bO] at h
   split at h
   ·split at h
    ·cases h
    ·obtain ⟨⟨y,k⟩,h1,h⟩:=aA.1 h
     injection h with h;injection h with h _
     exact h▸.nt (i1 h1)
   ·split at h
    ·split at h
     ·cases h
     ·obtain ⟨⟨y,k⟩,h1,h⟩:=aA.1 h
      try dsimp only at h
      split at h
      ·injection h with h;injection h with h _
       exact h▸i2 h1
      ·cases h
    ·split at h
     ·rename_i s hs
      injection h with h;injection h with h _
      refine h▸.nm ?_
      unfold nmK at hs
      split at hs
      ·split at hs
       ·rename_i hh;injection hs with hs;exact hs▸hh.2
       ·cases hs
      ·cases hs
     ·cases h
  ·rw[cr] at h
   split at h
   ·exact i1 h
   ·obtain ⟨⟨y,k⟩,h1,h⟩:=aA.1 h
    exact i3 (i2 h1) h
  ·rw[dr] at h
   split at h
   ·injection h with h;injection h with h _;exact h▸hi
   ·rename_i ho
    obtain ⟨⟨y,k⟩,h1,h⟩:=aA.1 h
    exact i3 (.bi (Dy ho) hi (i2 h1)) h
theorem Dk {x:Ex} (h:WfE x):∀ level:Int,fq level x=if 12<level+(br x:Int) - 1 then 4 else 0:=by
 induction h with
 |nm hs=>
  intro level
  rename_i s
  have e0:br {Ex.zero with op:=1,names:=[s]}=1:=r5
  rw[kl,e0]
  by_cases hl:12<level
  ·have e:bX {Ex.zero with op:=1,names:=[s]} level=4:=by unfold bX;rw[if_pos hl]
   rw[e,if_neg (by decide),if_pos (by omega)]
  ·have e:bX {Ex.zero with op:=1,names:=[s]} level=0:=by unfold bX;rw[if_neg hl];simp[nP,Ex.zero,Se.eqB,Se.zero,hs]
   rw[e,if_pos rfl,if_neg (by omega)];rfl
 |nt hx ih=>
  intro level
  rename_i x
  rw[kl,Bz]
  have hp:=ik x
  by_cases hl:12<level
  ·have e:bX {Ex.zero with op:=2,kids:=[x]} level=4:=by unfold bX;rw[if_pos hl]
   rw[e,if_neg (by decide),if_pos (by omega)]
  ·have e:bX {Ex.zero with op:=2,kids:=[x]} level=0:=by unfold bX;rw[if_neg hl];simp[nP,Ex.zero,Se.eqB,Se.zero]
   rw[e,if_pos rfl]
   show(if fq (level+1) x=0 then 0 else fq (level+1) x)=_
   rw[ih]
   split <;> split <;> omega
 |bi ho hx hy ihx ihy=>
  intro level
  rename_i op x y
  rw[kl,vz]
  have hp:=ik x
  by_cases hl:12<level
  ·have e:bX {Ex.zero with op:=op,kids:=[x,y]} level=4:=by unfold bX;rw[if_pos hl]
   rw[e,if_neg (by decide),if_pos (by omega)]
  ·have ho2:nP op=2:=by rcases ho with rfl|rfl|rfl|rfl|rfl <;> rfl
   have e:bX {Ex.zero with op:=op,kids:=[x,y]} level=0:=by unfold bX;rw[if_neg hl];simp[ho2,Ex.zero,Se.eqB,Se.zero]
   rw[e,if_pos rfl]
   show(if fq (level+1) x=0 then(if fq (level+1) y=0 then 0 else fq (level+1) y) else fq (level+1) x)=_
   rw[ihx,ihy]
   (repeat' split) <;> omega
theorem rZ (ts:List Tok) (hl:ts.length≤4294967296):Pure Tryz.prog 257 [.c (.lst none 4 (ts.map tkC))] (qtV (tksK ts)):=by
 have bx:=(y4 hl (8*ts.length+16) (8*ts.length+16) (Nat.le_refl _)).bi 1 0 0 (by decide) (by decide) (Nat.zero_le _) (by decide) (by omega)
 have fl:=nc (ts:=ts) (i:=0) hl (Nat.zero_le _) 4
 unfold tksK
 cases hq:cr ts (8*ts.length+16) 1 0 0 with
 |error g=>
  have hz:=(kR ts _).2.1 hq
  rw[hq] at bx
  have bx:Pure _ _ _ (.tup [.agg (exC Ex.zero),.c (sI 0),.agg (faC g)]):=bx
  show Pure _ _ _ (.tup [.agg (exC Ex.zero),.c (sI 0),.agg (faC g)])
  clear hq
  refine fn1 (fn:=Tryz.f257) Tryz.call257 Tryz.func257 rfl Tryz.ntmps257 Tryz.results257 rfl (by first|rfl|simp[V.ok,okL,C.ok,okA,okV]) ?_
  repeat'(first|(with_reducible first|apply AW.seq|apply AW.ret|apply aa|apply ak|apply y_e|refine ae ?_|refine b7 ?_)|((with_reducible apply ai);first|refine t_v AS.v ?_|refine t_v (by exact aj (hP:=bx)) ?_|refine t_w AS.w ?_)|((with_reducible apply ay);refine t_s AS.s ?_)|((with_reducible refine aq ?_);((refine ah (fun hc=>?_) (fun hc=>?_);all_goals(try(exfalso;simp[*] at hc;done)))))|((with_reducible refine aM ?_);(((refine dT ?_ ?_ ?_);all_goals(with_reducible (first|apply eB|apply eO)))))|(refine⟨by decide +kernel,?_⟩)|fail)
  all_goals first|rfl|exact aU _|exact eM _|(simp only[unA];done)|(exfalso;simp at hc;done)|trace_state
 |ok p=>
  obtain ⟨x,j⟩:=p
  have hw:=Dk ((yT ts _).2.1 hq) 1
  have ck:=vA x
  rw[hq] at bx
  have bx:Pure _ _ _ (.tup [.agg (exC x),.c (sI j),.agg (faC Fa.zero)]):=bx
  rw[ag]
  dsimp only
  clear hq
  by_cases h12:12<br x
  ·rw[if_pos (by omega)] at hw
   rw[hw] at ck
   rw[if_pos h12]
   show Pure _ _ _ (.tup [.agg (exC Ex.zero),.c (sI 0),.agg (faC (flK 4 ts 0))])
   refine fn1 (fn:=Tryz.f257) Tryz.call257 Tryz.func257 rfl Tryz.ntmps257 Tryz.results257 rfl (by first|rfl|simp[V.ok,okL,C.ok,okA,okV]) ?_
   repeat'(first|(with_reducible first|apply AW.seq|apply AW.skip|apply AW.ret|apply aa|apply ak|apply y_e|refine ae ?_)|((with_reducible apply ai);first|refine t_v AS.v ?_|refine t_v (by first|exact aj (hP:=bx)|exact aj (hP:=ck)|exact aj (hP:=fl)) ?_|refine t_w AS.w ?_)|((with_reducible apply ay);refine t_s AS.s ?_)|((with_reducible refine aq ?_);first|refine aI ?_|refine aJ ?_)|((with_reducible refine aM ?_);(((refine dT ?_ ?_ ?_);all_goals(with_reducible (first|apply eB|apply eO)))))|fail)
   all_goals first|rfl|(simp only[unA];done)
  ·rw[if_neg (by omega)] at hw
   rw[hw] at ck
   rw[if_neg h12]
   show Pure _ _ _ (.tup [.agg (exC x),.c (sI j),.agg (faC Fa.zero)])
   refine fn1 (fn:=Tryz.f257) Tryz.call257 Tryz.func257 rfl Tryz.ntmps257 Tryz.results257 rfl (by first|rfl|simp[V.ok,okL,C.ok,okA,okV]) ?_
   repeat'(first|(with_reducible first|apply AW.seq|apply AW.skip|apply AW.ret|apply aa|apply ak|apply y_e|refine ae ?_)|((with_reducible apply ai);first|refine t_v AS.v ?_|refine t_v (by first|exact aj (hP:=bx)|exact aj (hP:=ck)|exact aj (hP:=fl)) ?_|refine t_w AS.w ?_)|((with_reducible apply ay);refine t_s AS.s ?_)|((with_reducible refine aq ?_);first|refine aI ?_|refine aJ ?_)|((with_reducible refine aM ?_);(((refine dT ?_ ?_ ?_);all_goals(with_reducible (first|apply eB|apply eO)))))|fail)
   all_goals first|rfl|(simp only[unA];done)
end Am
namespace Am
open Tk
def wordsQ:List ByteArray:=[⟨#[99,108,97,115,115]⟩,⟨#[116,121,112,101]⟩,⟨#[97,116,116,114,105,98,117,116,101]⟩,⟨#[116,121,112,101,97,116,116,114,105,98,117,116,101]⟩,⟨#[114,111,108,101]⟩,⟨#[114,111,108,101,97,108,108,111,119]⟩,⟨#[114,111,108,101,95,116,114,97,110,115,105,116,105,111,110]⟩,⟨#[117,115,101,114]⟩,⟨#[98,111,111,108]⟩,⟨#[115,101,110,115,105,116,105,118,105,116,121]⟩,⟨#[99,97,116,101,103,111,114,121]⟩,⟨#[]⟩,⟨#[]⟩,⟨#[114,97,110,103,101,95,116,114,97,110,115,105,116,105,111,110]⟩,⟨#[99,111,110,115,116,114,97,105,110]⟩,⟨#[118,97,108,105,100,97,116,101,116,114,97,110,115]⟩,⟨#[105,102]⟩,⟨#[111,112,116,105,111,110,97,108]⟩,⟨#[114,101,113,117,105,114,101]⟩,⟨#[115,105,100]⟩,⟨#[102,105,108,101,99,111,110]⟩,⟨#[112,101,114,109,105,115,115,105,118,101]⟩,⟨#[97,115,115,101,114,116]⟩,⟨#[97,108,108,111,119]⟩,⟨#[97,117,100,105,116,97,108,108,111,119]⟩,⟨#[100,111,110,116,97,117,100,105,116]⟩,⟨#[110,101,118,101,114,97,108,108,111,119]⟩,⟨#[116,121,112,101,95,116,114,97,110,115,105,116,105,111,110]⟩,⟨#[116,121,112,101,95,99,104,97,110,103,101]⟩,⟨#[116,121,112,101,95,109,101,109,98,101,114]⟩]
def kwL (p:ByteArray→Bool):List ByteArray→Int→Int→Int
 |[],_,n=>n
 |w :: t,i,n=>kwL p t (i+1) (if(decide (w≠⟨#[]⟩)&&p w)=true then i+1 else n)
def kwN (s:ByteArray):Int:=kwL (fun w=>decide (s=w)) wordsQ 0 0
def fY (n:Int):Int:=if 23<n then(if n≤27 then 12 else 13) else n
def zH (n:Int):Int:=if 23<n then(if n≤27 then n - 23 else n - 23 - 4) else 0
section
variable {l:List Tok}
def kwQ (k:Ix l) (f:Fa):Int:=kwL (fun w=>okW f w k) wordsQ 0 0
def gB (k:Ix l) (f:Fa):Fa:=if kwQ k f=0 then bZ f 9 (tk k) else f
def eQ (d:Nat) (k:Ix l) (f:Fa) (c:Int):Fa:=if 1024<c∨((kwQ k f=17∨kwQ k f=18)∧12≤d) then bZ (gB k f) 4 (tk k) else gB k f
def gN (k:Ix l) (f:Fa):Stm:={Stm.zero with kind:=fY (kwQ k f),op:=zH (kwQ k f),pos:=(tk k).pos}
def eg (c:Int):Int:=IntKind.i64.wrap (c+1)
def eI (k:Ix l) (f:Fa):Ex×(Ix l×Fa):=if f.code=0 then(match tksK (l.drop k.1) with| .ok x=>(x.1,(uQ k (k.1+x.2),f))| .error g=>(Ex.zero,(k,g))) else(Ex.zero,(k,f))
theorem oT {p:ByteArray→Bool}:∀ (ws:List ByteArray) (i n:Int),(∀ w∈ws,(decide (w≠⟨#[]⟩)&&p w)=false)→kwL p ws i n=n
 |[],_,_,_=>rfl
 |w :: t,i,n,h=>by
  rw[kwL,h w (.head _),if_neg ff]
  exact oT t _ _ fun w' hw=>h w' (.tail _ hw)
theorem nR {p q:ByteArray→Bool} (h:∀ w,p w=q w):∀ (ws:List ByteArray) (i n:Int),kwL p ws i n=kwL q ws i n
 |[],_,_=>rfl
 |w :: t,i,n=>by rw[kwL,kwL,h w];exact nR h t _ _
theorem BU {k:Ix l} {f:Fa} (h:f.code≠0):kwQ k f=0:=oT _ _ _ fun w _=>by rw[kD h,Bool.and_false]
theorem kZ {k:Ix l} {f:Fa} (h:(tk k).kind≠1):kwQ k f=0:=oT _ _ _ fun w _=>by
 have:okW f w k=false:=by simp[okW,isW,h]
 rw[this,Bool.and_false]
theorem kh {k:Ix l} {f:Fa} (h:f.code=0) (h1:(tk k).kind=1):kwQ k f=kwN (tk k).text:=nR (fun w=>by rw[oI h];simp[isW,h1]) _ _ _
theorem xZ {s:ByteArray} (h:iS s=false):kwN s=0:=oT _ _ _ fun w hw=>by
 simp only[Bool.and_eq_false_iff,decide_eq_false_iff_not,ne_eq,Classical.not_not]
 by_cases e:w=⟨#[]⟩
 ·exact .inl e
 ·refine .inr fun hs=>?_
  have hw2:w∈beginW:=by
   simp only[wordsQ,List.mem_cons,List.not_mem_nil,or_false] at hw
   simp only[beginW,List.mem_cons,List.not_mem_nil,or_false]
   rcases hw with h|h|h|h|h|h|h|h|h|h|h|h|h|h|h|h|h|h|h|h|h|h|h|h|h|h|h|h|h|h <;> first|(exact absurd h e)|(simp[h])
  have:iS s=true:=by
   unfold iS
   rw[List.any_eq_true]
   exact⟨w,hw2,by simp[hs]⟩
  rw[h] at this;cases this
theorem tB (k:Ix l) (f:Fa):RQ f (ig tksK k) (eI k f):=by
 unfold ig eI
 by_cases hf:f.code=0
 ·rw[if_pos hf]
  cases tksK (l.drop k.1) with
  |ok x=>exact .ok _ _
  |error g=>exact⟨fun h=>absurd hf h,fun _=>rfl⟩
 ·rw[if_neg hf]
  exact⟨fun _=>rfl,fun h=>absurd h hf⟩
end
end Am
namespace Am
open Tk Go.RowKit
set_option maxRecDepth 100000
set_option maxHeartbeats 4000000
theorem Er {sl:Nat→Option V} {H:Nat→Option HO} {d:Option Nat} {ty:TypeId} {pos:String} {af:Array Edge} {gu:Option (Nat×Bool)}:AS Tryz.prog (evA sl) H ⟨d,.buildSlice 43 30 #[(0,.const (.string ⟨#[99,108,97,115,115]⟩)),(1,.const (.string ⟨#[116,121,112,101]⟩)),(2,.const (.string ⟨#[97,116,116,114,105,98,117,116,101]⟩)),(3,.const (.string ⟨#[116,121,112,101,97,116,116,114,105,98,117,116,101]⟩)),(4,.const (.string ⟨#[114,111,108,101]⟩)),(5,.const (.string ⟨#[114,111,108,101,97,108,108,111,119]⟩)),(6,.const (.string ⟨#[114,111,108,101,95,116,114,97,110,115,105,116,105,111,110]⟩)),(7,.const (.string ⟨#[117,115,101,114]⟩)),(8,.const (.string ⟨#[98,111,111,108]⟩)),(9,.const (.string ⟨#[115,101,110,115,105,116,105,118,105,116,121]⟩)),(10,.const (.string ⟨#[99,97,116,101,103,111,114,121]⟩)),(11,.const (.string ⟨#[]⟩)),(12,.const (.string ⟨#[]⟩)),(13,.const (.string ⟨#[114,97,110,103,101,95,116,114,97,110,115,105,116,105,111,110]⟩)),(14,.const (.string ⟨#[99,111,110,115,116,114,97,105,110]⟩)),(15,.const (.string ⟨#[118,97,108,105,100,97,116,101,116,114,97,110,115]⟩)),(16,.const (.string ⟨#[105,102]⟩)),(17,.const (.string ⟨#[111,112,116,105,111,110,97,108]⟩)),(18,.const (.string ⟨#[114,101,113,117,105,114,101]⟩)),(19,.const (.string ⟨#[115,105,100]⟩)),(20,.const (.string ⟨#[102,105,108,101,99,111,110]⟩)),(21,.const (.string ⟨#[112,101,114,109,105,115,115,105,118,101]⟩)),(22,.const (.string ⟨#[97,115,115,101,114,116]⟩)),(23,.const (.string ⟨#[97,108,108,111,119]⟩)),(24,.const (.string ⟨#[97,117,100,105,116,97,108,108,111,119]⟩)),(25,.const (.string ⟨#[100,111,110,116,97,117,100,105,116]⟩)),(26,.const (.string ⟨#[110,101,118,101,114,97,108,108,111,119]⟩)),(27,.const (.string ⟨#[116,121,112,101,95,116,114,97,110,115,105,116,105,111,110]⟩)),(28,.const (.string ⟨#[116,121,112,101,95,99,104,97,110,103,101]⟩)),(29,.const (.string ⟨#[116,121,112,101,95,109,101,109,98,101,114]⟩))],ty,pos,af,gu⟩ ⟨.c (bC wordsQ),[],[]⟩:=
 dF (zs:=[sS ⟨#[]⟩]) (cs:=[sS ⟨#[99,108,97,115,115]⟩,sS ⟨#[116,121,112,101]⟩,sS ⟨#[97,116,116,114,105,98,117,116,101]⟩,sS ⟨#[116,121,112,101,97,116,116,114,105,98,117,116,101]⟩,sS ⟨#[114,111,108,101]⟩,sS ⟨#[114,111,108,101,97,108,108,111,119]⟩,sS ⟨#[114,111,108,101,95,116,114,97,110,115,105,116,105,111,110]⟩,sS ⟨#[117,115,101,114]⟩,sS ⟨#[98,111,111,108]⟩,sS ⟨#[115,101,110,115,105,116,105,118,105,116,121]⟩,sS ⟨#[99,97,116,101,103,111,114,121]⟩,sS ⟨#[]⟩,sS ⟨#[]⟩,sS ⟨#[114,97,110,103,101,95,116,114,97,110,115,105,116,105,111,110]⟩,sS ⟨#[99,111,110,115,116,114,97,105,110]⟩,sS ⟨#[118,97,108,105,100,97,116,101,116,114,97,110,115]⟩,sS ⟨#[105,102]⟩,sS ⟨#[111,112,116,105,111,110,97,108]⟩,sS ⟨#[114,101,113,117,105,114,101]⟩,sS ⟨#[115,105,100]⟩,sS ⟨#[102,105,108,101,99,111,110]⟩,sS ⟨#[112,101,114,109,105,115,115,105,118,101]⟩,sS ⟨#[97,115,115,101,114,116]⟩,sS ⟨#[97,108,108,111,119]⟩,sS ⟨#[97,117,100,105,116,97,108,108,111,119]⟩,sS ⟨#[100,111,110,116,97,117,100,105,116]⟩,sS ⟨#[110,101,118,101,114,97,108,108,111,119]⟩,sS ⟨#[116,121,112,101,95,116,114,97,110,115,105,116,105,111,110]⟩,sS ⟨#[116,121,112,101,95,99,104,97,110,103,101]⟩,sS ⟨#[116,121,112,101,95,109,101,109,98,101,114]⟩]) (ps:=[(0,[sS ⟨#[99,108,97,115,115]⟩]),(1,[sS ⟨#[116,121,112,101]⟩]),(2,[sS ⟨#[97,116,116,114,105,98,117,116,101]⟩]),(3,[sS ⟨#[116,121,112,101,97,116,116,114,105,98,117,116,101]⟩]),(4,[sS ⟨#[114,111,108,101]⟩]),(5,[sS ⟨#[114,111,108,101,97,108,108,111,119]⟩]),(6,[sS ⟨#[114,111,108,101,95,116,114,97,110,115,105,116,105,111,110]⟩]),(7,[sS ⟨#[117,115,101,114]⟩]),(8,[sS ⟨#[98,111,111,108]⟩]),(9,[sS ⟨#[115,101,110,115,105,116,105,118,105,116,121]⟩]),(10,[sS ⟨#[99,97,116,101,103,111,114,121]⟩]),(11,[sS ⟨#[]⟩]),(12,[sS ⟨#[]⟩]),(13,[sS ⟨#[114,97,110,103,101,95,116,114,97,110,115,105,116,105,111,110]⟩]),(14,[sS ⟨#[99,111,110,115,116,114,97,105,110]⟩]),(15,[sS ⟨#[118,97,108,105,100,97,116,101,116,114,97,110,115]⟩]),(16,[sS ⟨#[105,102]⟩]),(17,[sS ⟨#[111,112,116,105,111,110,97,108]⟩]),(18,[sS ⟨#[114,101,113,117,105,114,101]⟩]),(19,[sS ⟨#[115,105,100]⟩]),(20,[sS ⟨#[102,105,108,101,99,111,110]⟩]),(21,[sS ⟨#[112,101,114,109,105,115,115,105,118,101]⟩]),(22,[sS ⟨#[97,115,115,101,114,116]⟩]),(23,[sS ⟨#[97,108,108,111,119]⟩]),(24,[sS ⟨#[97,117,100,105,116,97,108,108,111,119]⟩]),(25,[sS ⟨#[100,111,110,116,97,117,100,105,116]⟩]),(26,[sS ⟨#[110,101,118,101,114,97,108,108,111,119]⟩]),(27,[sS ⟨#[116,121,112,101,95,116,114,97,110,115,105,116,105,111,110]⟩]),(28,[sS ⟨#[116,121,112,101,95,99,104,97,110,103,101]⟩]),(29,[sS ⟨#[116,121,112,101,95,109,101,109,98,101,114]⟩])]) (bM rfl) (aZ rfl) rfl (by decide) (by decide) (.cons (.pl rfl) rfl (.cons (.pl rfl) rfl (.cons (.pl rfl) rfl (.cons (.pl rfl) rfl (.cons (.pl rfl) rfl (.cons (.pl rfl) rfl (.cons (.pl rfl) rfl (.cons (.pl rfl) rfl (.cons (.pl rfl) rfl (.cons (.pl rfl) rfl (.cons (.pl rfl) rfl (.cons (.pl rfl) rfl (.cons (.pl rfl) rfl (.cons (.pl rfl) rfl (.cons (.pl rfl) rfl (.cons (.pl rfl) rfl (.cons (.pl rfl) rfl (.cons (.pl rfl) rfl (.cons (.pl rfl) rfl (.cons (.pl rfl) rfl (.cons (.pl rfl) rfl (.cons (.pl rfl) rfl (.cons (.pl rfl) rfl (.cons (.pl rfl) rfl (.cons (.pl rfl) rfl (.cons (.pl rfl) rfl (.cons (.pl rfl) rfl (.cons (.pl rfl) rfl (.cons (.pl rfl) rfl (.cons (.pl rfl) rfl (.nil))))))))))))))))))))))))))))))) (by kernel_rfl) (by kernel_rfl)
theorem vP:Pure Tryz.prog 256 [] (.c (bC wordsQ)):=by
 refine fn0 (fn:=Tryz.f256) Tryz.call256 Tryz.func256 rfl Tryz.ntmps256 Tryz.results256 rfl (by rfl) ?_
 repeat'(first|(with_reducible first|apply AW.seq|apply AW.ret|apply aa|apply y_e|refine ae ?_)|((with_reducible apply ai);first|refine t_v AS.v ?_|refine t_v (by exact Er) ?_)|((with_reducible refine aM ?_);refine k_v ?_)|fail)
 all_goals rfl
end Am
namespace Am
open Tk Go.RowKit
set_option maxRecDepth 100000
set_option maxHeartbeats 4000000
theorem rD {p:ByteArray→Bool}:∀ (ws:List ByteArray) (i n:Int),0≤n→0≤i→0≤kwL p ws i n∧kwL p ws i n≤max n (i+ws.length)
 |[],i,n,h,h2=>by rw[kwL];simp only[List.length_nil];omega
 |w :: t,i,n,h,h2=>by
  rw[kwL]
  split
  ·have:=rD (p:=p) t (i+1) (i+1) (by omega) (by omega)
   simp only[List.length_cons];omega
  ·have:=rD (p:=p) t (i+1) n h (by omega)
   simp only[List.length_cons];omega
section
variable {l:List Tok} {c:Int}
theorem Dl (k:Ix l) (f:Fa):0≤kwQ k f∧kwQ k f≤30:=rD wordsQ 0 0 (Int.le_refl _) (Int.le_refl _)
theorem vt (hf:Fine l) (d:Nat) (hd:d≤100) (k:Ix l) (f:Fa):MX Tryz.prog 185 [(0,qsO k f c)] [.c (.ptr 0 0),.c (sI d)] (.ok (gN k f,(nx k,(eQ d k f (eg c),eg c))):Except Fa (Stm×(Ix l×(Fa×Int)))) (fun s=>.agg (stC s)) (fun b=>[(0,qsO b.1 b.2.1 b.2.2)]) pvS:=by
 have hl:=hf.le
 have nw:=cj (l:=l) (k:=k) (f:=f) (c:=c)
 have wd:=vP
 refine MXA (fn:=Tryz.f185) Tryz.call185 Tryz.func185 rfl Tryz.ntmps185 Tryz.results185 rfl rfl ?_
 repeat'(first|(with_reducible first|apply AW.seq|apply AW.block|apply aa|apply y_e|refine ae ?_)|((with_reducible apply ai);first|refine t_v AS.v ?_|refine t_v (by first|exact aj (hP:=wd)|exact az (hP:=nw)) ?_|refine t_w AS.w ?_)|((with_reducible apply ay);refine t_s AS.s ?_)|fail)
 generalize hN:kwQ k f=N
 refine AW.loop (fun m σ=>∃ (j:Nat) (n:Int),m=30 - j∧j≤30∧kwL (fun w=>okW f w k) (wordsQ.drop j) j n=N∧σ=mk [(0,.c (.ptr 0 0)),(1,.c (sI d)),(4,.c (.ptr 4 0)),(5,.c (.ptr 5 0)),(6,.c (.ptr 6 0)),(7,.c (bC wordsQ)),(8,.c (sI n)),(9,.c (sI (j:Int)))] [(6,.obj 69 (stC {Stm.zero with pos:=(tk k).pos})),(5,.obj 99 (tkC (tk k))),(0,qsO k f c),(4,.obj 69 (stC Stm.zero))]) 30 ?_ ?_
 ·exact⟨_,wkA,0,0,rfl,Nat.zero_le _,hN,rfl⟩
 rintro m σ ⟨j,n,rfl,hj,hk,rfl⟩
 have hlen:wordsQ.length=30:=rfl
 by_cases hlt:j<30
 ·obtain ⟨w,hw⟩:∃ w,wordsQ[j]? =some w:=⟨_,List.getElem?_eq_getElem (by omega)⟩
  have hdr:wordsQ.drop j=w :: wordsQ.drop (j+1):=by
   obtain ⟨h1,h2⟩:=List.getElem?_eq_some_iff.1 hw
   rw[← h2];exact List.drop_eq_getElem_cons h1
  rw[hdr,kwL] at hk
  clear hdr wd
  have is:=Ak (c:=c) k f w
  generalize okW f w k=b at *
  by_cases he:w=⟨#[]⟩
  ·have e:(decide (w≠⟨#[]⟩)&&b)=false:=by simp[he]
   rw[e,if_neg ff] at hk
   clear e is
   repeat'(first|(with_reducible first|apply AW.seq|apply AW.block|apply AW.skip|apply aa|apply aw|apply y_e|refine ae ?_)|((with_reducible apply ai);refine t_v AS.v ?_)|((with_reducible apply aK);refine t_f ?_)|((with_reducible refine aq ?_);first|refine aJ ?_|(refine ah (fun hc=>?_) (fun hc=>?_);all_goals(try(exfalso;revert hc;simp;omega))))|fail)
   all_goals(exact⟨_,_,(show 30 - (j+1)<30 - j by omega),wkA,j+1,n,rfl,hlt,hk,rfl⟩)
  ·have e:(decide (w≠⟨#[]⟩)&&b)=b:=by simp[he]
   rw[e] at hk
   clear e
   cases b with
   |true=>
    rw[if_pos rfl] at hk
    repeat'(first|(with_reducible first|apply AW.seq|apply AW.block|apply AW.skip|apply aa|apply aw|apply y_e|refine ae ?_)|((with_reducible apply ai);refine t_v AS.v ?_)|((with_reducible apply aK);first|refine t_m (hs:=fun hg=>AS.v) (k:=?_)|refine t_m (hs:=fun hg=>(by exact az (hP:=is))) (k:=?_))|((with_reducible refine aq ?_);((refine ah (fun hc=>?_) (fun hc=>?_);all_goals(try(exfalso;simp[*] at hc;done));all_goals(try(exfalso;revert hc;simp;omega)))))|fail)
    all_goals first|exact⟨_,_,(show 30 - (j+1)<30 - j by omega),wkA,j+1,(j:Int)+1,rfl,hlt,hk,rfl⟩|(exfalso;simp[he] at hc;done)|trace_state
   |false=>
    rw[if_neg ff] at hk
    repeat'(first|(with_reducible first|apply AW.seq|apply AW.block|apply AW.skip|apply aa|apply aw|apply y_e|refine ae ?_)|((with_reducible apply ai);refine t_v AS.v ?_)|((with_reducible apply aK);first|refine t_m (hs:=fun hg=>AS.v) (k:=?_)|refine t_m (hs:=fun hg=>(by exact az (hP:=is))) (k:=?_))|((with_reducible refine aq ?_);((refine ah (fun hc=>?_) (fun hc=>?_);all_goals(try(exfalso;simp[*] at hc;done));all_goals(try(exfalso;revert hc;simp;omega)))))|fail)
    all_goals(exact⟨_,_,(show 30 - (j+1)<30 - j by omega),wkA,j+1,n,rfl,hlt,hk,rfl⟩)
 ·have e30:wordsQ.drop j=[]:=List.drop_eq_nil_of_le (by omega)
  rw[e30,kwL] at hk
  clear e30 wd
  subst hk
  have hbd:=Dl k f
  rw[hN] at hbd
  have f1:=cw (c:=c) k f 9 (tk k)
  have f2:=cw (c:=IntKind.i64.wrap (c+1)) k f 4 (tk k)
  have f3:=cw (c:=IntKind.i64.wrap (c+1)) k (bZ f 9 (tk k)) 4 (tk k)
  have s1:=fu (c:=IntKind.i64.wrap (c+1)) hf k f
  have s2:=fu (c:=IntKind.i64.wrap (c+1)) hf k (bZ f 9 (tk k))
  have s3:=fu (c:=IntKind.i64.wrap (c+1)) hf k (bZ f 4 (tk k))
  have s4:=fu (c:=IntKind.i64.wrap (c+1)) hf k (bZ (bZ f 9 (tk k)) 4 (tk k))
  repeat'(first|(with_reducible first|apply AW.seq|apply AW.skip|apply AW.ret|apply AW.exit|apply aa|apply aE|apply aH|apply y_e|refine ae ?_)|((with_reducible apply ai);first|refine t_v AS.v ?_|refine t_w (by first|exact av (hP:=f1)|exact av (hP:=f2)|exact av (hP:=f3)|exact av (hP:=s1)|exact av (hP:=s2)|exact av (hP:=s3)|exact av (hP:=s4)) ?_)|((with_reducible apply aK);refine t_m (hs:=fun hg=>AS.v) (k:=?_))|((with_reducible apply ay);refine t_s AS.s ?_)|((with_reducible refine aq ?_);((refine ah (fun hc=>?_) (fun hc=>?_);all_goals(try(exfalso;revert hc;simp;omega)))))|((with_reducible refine aD ?_);refine b8 (k:=?_))|fail)
  all_goals clear f1 f2 f3 s1 s2 s3 s4 nw
  all_goals simp only[Bool.and_eq_true,Bool.or_eq_true,Bool.and_eq_false_iff,Bool.or_eq_false_iff,decide_eq_true_eq,decide_eq_false_iff_not] at *
  all_goals refine⟨gN k f,(nx k,(eQ d k f (eg c),eg c)),rfl,?_,?_⟩
  all_goals first|(exfalso;omega)|skip
  all_goals first
   |(refine ar ?_;show qsO (nx k) _ (IntKind.i64.wrap (c+1))=qsO (nx k) (eQ d k f (eg c)) (eg c);unfold eQ gB eg;rw[hN];(repeat' split) <;> first|rfl|(exfalso;omega))
   |(refine(aY _).trans (congrArg (fun x=>V.agg (stC x)) ?_);unfold gN fY zH;rw[hN];(repeat' split) <;> first|rfl|(exfalso;omega))
   |trace_state
end
end Am
namespace Am
open Tk Go.RowKit
set_option maxRecDepth 100000
set_option maxHeartbeats 4000000
section
variable {l:List Tok} {c:Int}
theorem yZ (hf:Fine l) (k:Ix l) (f:Fa):MX Tryz.prog 186 [(0,qsO k f c)] [.c (.ptr 0 0)] (.ok (eI k f):Except Fa (Ex×(Ix l×Fa))) (fun e=>.agg (exC e)) (fun b=>[(0,qsO b.1 b.2 c)]) pvS:=by
 have hl:=hf.le
 have hk:=k.2
 unfold eI
 by_cases h0:f.code=0
 ·have fa:=ee (l:=l) (c:=c) k h0
  rw[if_pos h0]
  have hT:=rZ (l.drop k.1) (by rw[List.length_drop];omega)
  cases ht:tksK (l.drop k.1) with
  |ok p=>
   obtain ⟨e,n⟩:=p
   have hlt:=nV hf k ht
   rw[ht] at hT
   have hT:Pure _ _ _ (.tup [.agg (exC e),.c (sI n),.agg (faC Fa.zero)]):=hT
   have e1:uQ k (k.1+n)=⟨k.1+n,hlt⟩:=by unfold uQ;rw[dif_pos hlt]
   dsimp only
   rw[e1]
   clear ht e1
   refine MXA (fn:=Tryz.f186) Tryz.call186 Tryz.func186 rfl Tryz.ntmps186 Tryz.results186 rfl rfl ?_
   repeat'(first|(with_reducible first|apply AW.seq|apply AW.skip|apply AW.ret|apply aa|apply ak|apply y_e|refine ae ?_|refine b7 ?_)|((with_reducible apply ai);first|refine t_v AS.v ?_|refine t_v (by first|exact aj (hP:=hT)|exact az (hP:=fa)) ?_|refine t_w AS.w ?_)|((with_reducible apply ay);refine t_s AS.s ?_)|((with_reducible refine aq ?_);first|refine aJ ?_|(refine ah (fun hc=>?_) (fun hc=>?_);all_goals(try(exfalso;simp[*] at hc;done))))|((with_reducible refine aD ?_);refine b8 (k:=?_))|(refine⟨by decide +kernel,?_⟩)|fail)
   all_goals first|exact⟨e,(_,_),rfl,aU _,ar rfl⟩|trace_state
  |error g=>
   have hg:=mV ht
   rw[ht] at hT
   have hT:Pure _ _ _ (.tup [.agg (exC Ex.zero),.c (sI 0),.agg (faC g)]):=hT
   dsimp only
   clear ht
   refine MXA (fn:=Tryz.f186) Tryz.call186 Tryz.func186 rfl Tryz.ntmps186 Tryz.results186 rfl rfl ?_
   repeat'(first|(with_reducible first|apply AW.seq|apply AW.skip|apply AW.ret|apply aa|apply ak|apply y_e|refine ae ?_|refine b7 ?_)|((with_reducible apply ai);first|refine t_v AS.v ?_|refine t_v (by first|exact aj (hP:=hT)|exact az (hP:=fa)) ?_|refine t_w AS.w ?_)|((with_reducible apply ay);refine t_s AS.s ?_)|((with_reducible refine aq ?_);first|refine aJ ?_|(refine ah (fun hc=>?_) (fun hc=>?_);all_goals(try(exfalso;simp[*] at hc;done))))|((with_reducible refine aD ?_);refine b8 (k:=?_))|(refine⟨by decide +kernel,?_⟩)|fail)
   all_goals exact⟨Ex.zero,(_,_),rfl,aU _,ar rfl⟩
 ·have fa:=fJ (l:=l) (c:=c) k h0
  rw[if_neg h0]
  refine MXA (fn:=Tryz.f186) Tryz.call186 Tryz.func186 rfl Tryz.ntmps186 Tryz.results186 rfl rfl ?_
  repeat'(first|(with_reducible first|apply AW.seq|apply AW.ret|apply aa|apply ak|apply y_e|refine ae ?_)|((with_reducible apply ai);first|refine t_v AS.v ?_|refine t_v (by exact az (hP:=fa)) ?_|refine t_w AS.w ?_)|((with_reducible apply ay);refine t_s AS.s ?_)|((with_reducible refine aq ?_);refine aI ?_)|((with_reducible refine aD ?_);refine b8 (k:=?_))|fail)
  all_goals exact⟨Ex.zero,(_,_),rfl,aU _,ar rfl⟩
theorem xC (hf:Fine l) (k:Ix l) (f:Fa):MNL Tryz.prog 186 [(0,qsO k f c)] [.c (.ptr 0 0)] (.agg (exC (eI k f).1)) [(0,qsO (eI k f).2.1 (eI k f).2.2 c)]:=(yZ hf k f).ok (eI k f).1 (eI k f).2 rfl
end
end Am
namespace Am
open Tk
section
variable {l:List Tok}
def kn (s:Stm) (k:Ix l) (f:Fa):Stm×(Ix l×Fa):=
 if s.kind=1∨s.kind=2∨s.kind=3∨s.kind=4∨s.kind=5∨s.kind=8∨s.kind=9∨s.kind=10∨s.kind=11 then cm s k f
 else if s.kind=6∨s.kind=7∨s.kind=12∨s.kind=13∨s.kind=14 then bL s k f
 else bB s k f
def bK (s:Stm) (k:Ix l) (f:Fa):Stm×(Ix l×Fa):=((kn s k f).1,aO ⟨#[59]⟩ (kn s k f).2.1 (kn s k f).2.2)
variable {f:Fa} {k:Ix l}
theorem exb {ε α β γ:Type} (x:Except ε α) (g:α→Except ε β) (h:β→Except ε γ):((x>>=g)>>=h)=x>>=fun a=>g a>>=h:=by cases x <;> rfl
theorem ba {sp:Except Fa (Stm×Ix l)} {t:Stm×(Ix l×Fa)} (h:RQ f sp t) (hz:NZ l sp):RQ f (sp>>=fun y=>aT ⟨#[59]⟩ y.2>>=fun z=>.ok (y.1,z.2)) (t.1,aO ⟨#[59]⟩ t.2.1 t.2.2):=by
 refine RQ.bind (t:=t) (u:=fun y k f=>(y,aO ⟨#[59]⟩ k f)) h hz fun y k f=>?_
 refine RQ.bind (t:=((),aO ⟨#[59]⟩ k f)) (u:=fun _ k f=>(y,(k,f))) (fm _ k f) (bo _ k) fun _ k f=>?_
 exact .ok _ _
theorem iF (s:Stm) {g:ByteArray×Ix l→Except Fa (Stm×Ix l)} (hg:∀ (x:ByteArray) (k:Ix l) (f:Fa),RQ f (g (x,k)) (jH {s with name:=x} k f)) (k:Ix l) (f:Fa):RQ f (aQ k>>=g) (cm s k f):=by
 unfold cm
 refine RQ.bind (t:=aB k f) (u:=fun x k f=>jH {s with name:=x} k f) (bT k f) (aP k) fun x k f=>?_
 exact hg x k f
theorem qa (hl:Fine l) (p:Po) (k:Ix l) (f:Fa):RQ f (aG ⟨#[99,108,97,115,115]⟩ {Stm.zero with pos:=p} k) (bK {Stm.zero with kind:=1,pos:=p} k f):=by
 have e:aG ⟨#[99,108,97,115,115]⟩ {Stm.zero with pos:=p} k=(aQ k>>=fun x=>bq x.2>>=fun y=>.ok ({Stm.zero with kind:=1,pos:=p,name:=x.1,list:=y.1},y.2))>>=fun y=>aT ⟨#[59]⟩ y.2>>=fun z=>.ok (y.1,z.2):=by
  unfold aG bJ
  rw[if_pos rfl]
  simp only[exb,ag,if_true]
 rw[e]
 refine ba ?_ (NZ.bind (aP k) fun x=>NZ.bind (dz _) fun y=>NZ.ok _)
 show RQ f _ (cm {Stm.zero with kind:=1,pos:=p} k f)
 refine iF {Stm.zero with kind:=1,pos:=p} (fun x k f=>?_) k f
 exact wV hl {Stm.zero with kind:=1,pos:=p,name:=x} k f
end
end Am
end Go.Proofs.YtkpodagbefnebaaGreatDoor
