import Derived.Test.YtkpodagbefnebaaGreatDoorYh18
set_option linter.unusedSimpArgs false
set_option linter.unusedVariables false
set_option linter.unusedSectionVars false
namespace Go.Proofs.YtkpodagbefnebaaGreatDoor
namespace Am
open Tk Go.RowKit
set_option maxRecDepth 100000
set_option maxHeartbeats 4000000
abbrev bsO (ts:List Tok) (i d:Int):HO:=.obj 162 (bsC ⟨ts,i,d⟩)
abbrev pvB (f:Fa):Value:=pvF 158 f
section
variable {ts:List Tok} {i:Nat} {d:Int}
theorem Ja (hl:ts.length≤4294967296) (hi:i≤ts.length) (s:ByteArray):Pure Tryz.prog 284 [.c (.ep (bsC ⟨ts,(i:Int),d⟩)),.c (sS s)] (.c (sB (isK ts i s))):=by
 by_cases hlt:i<ts.length
 ·obtain ⟨t,ht⟩:∃ t,ts[i]? =some t:=⟨_,List.getElem?_eq_getElem hlt⟩
  refine fn2 (fn:=Tryz.f284) Tryz.call284 Tryz.func284 rfl Tryz.ntmps284 Tryz.results284 rfl (by rfl) ?_
  repeat'(first|(with_reducible first|apply AW.seq|apply AW.ret|apply ae|apply y_e|refine ah ?_|refine bb ?_)|((with_reducible apply ak);refine t_v AS.v ?_)|((with_reducible apply bc);first|refine t_f ?_|refine t_m (hs:=fun hg=>AS.v) (k:=?_))|((with_reducible refine aA ?_);refine k_b ?_)|(refine⟨by decide +kernel,?_⟩)|fail)
  have e:isK ts i s=(decide (t.kind=4)&&decide (t.text=s)):=by unfold isK;rw[ht]
  rw[e]
  clear ht e
  simp[hlt]
 ·have hi2:i=ts.length:=by omega
  subst hi2
  clear hlt hi
  refine fn2 (fn:=Tryz.f284) Tryz.call284 Tryz.func284 rfl Tryz.ntmps284 Tryz.results284 rfl (by rfl) ?_
  repeat'(first|(with_reducible first|apply AW.seq|apply AW.ret|apply ae|apply y_e|refine ah ?_|refine bb ?_)|((with_reducible apply ak);refine t_v AS.v ?_)|((with_reducible apply bc);first|refine t_f ?_|refine t_m (hs:=fun hg=>AS.v) (k:=?_))|((with_reducible refine aA ?_);refine k_b ?_)|(refine⟨by decide +kernel,?_⟩)|fail)
  simp[isK]
theorem p0 (hl:ts.length≤4294967296) (hi:i≤ts.length) (e:Int):MX Tryz.prog 150 [(0,bsO ts i d)] [.c (.ptr 0 0),.c (sI e)] (.error (flK e ts i):Except Fa (Unit×Unit)) (fun _=>.tup []) (fun _=>[(0,bsO ts i d)]) pvB:=by
 by_cases hlt:i<ts.length
 ·obtain ⟨t,ht⟩:∃ t,ts[i]? =some t:=⟨_,List.getElem?_eq_getElem hlt⟩
  refine MXA (fn:=Tryz.f150) Tryz.call150 Tryz.func150 rfl Tryz.ntmps150 Tryz.results150 rfl rfl ?_
  repeat'(first|(with_reducible first|apply AW.seq|apply AW.skip|apply ae|apply y_e|refine ah ?_|refine bb ?_)|((with_reducible apply ak);first|refine t_v AS.v ?_|refine t_w AS.w ?_)|((with_reducible apply aV);first|refine t_s AS.s ?_|refine t_p (k:=fun σx=>?_))|((with_reducible refine au ?_);((refine aj (fun hc=>?_) (fun hc=>?_);all_goals(try(exfalso;simp[*] at hc;done)))))|((with_reducible refine bo ?_);(with_reducible refine aY ?_))|(refine⟨by decide +kernel,?_⟩)|fail)
  unfold flK;rw[ht];rfl
 ·have hi2:i=ts.length:=by omega
  subst hi2
  clear hlt hi
  refine MXA (fn:=Tryz.f150) Tryz.call150 Tryz.func150 rfl Tryz.ntmps150 Tryz.results150 rfl rfl ?_
  repeat'(first|(with_reducible first|apply AW.seq|apply AW.skip|apply ae|apply y_e|refine ah ?_|refine bb ?_)|((with_reducible apply ak);first|refine t_v AS.v ?_|refine t_w AS.w ?_)|((with_reducible apply aV);first|refine t_s AS.s ?_|refine t_p (k:=fun σx=>?_))|((with_reducible refine au ?_);((refine aj (fun hc=>?_) (fun hc=>?_);all_goals(try(exfalso;simp[*] at hc;done)))))|((with_reducible refine bo ?_);(with_reducible refine aY ?_))|(refine⟨by decide +kernel,?_⟩)|fail)
  unfold flK;rw[List.getElem?_eq_none (Nat.le_refl _)];rfl
theorem yF (hl:ts.length≤4294967296) (hi:i<ts.length) {d:Nat} (hd:d≤12):MX Tryz.prog 285 [(0,bsO ts i d)] [.c (.ptr 0 0)] (if 12≤d then .error (flK 4 ts i) else .ok ((),(i+1,d+1)):Except Fa (Unit×(Nat×Nat))) (fun _=>.tup []) (fun b=>[(0,bsO ts b.1 b.2)]) pvB:=by
 refine MXA (fn:=Tryz.f285) Tryz.call285 Tryz.func285 rfl Tryz.ntmps285 Tryz.results285 rfl rfl ?_
 repeat'(first|(with_reducible first|apply AW.seq|apply AW.skip|apply ae|apply aE|apply y_e|refine ah ?_)|((with_reducible apply ak);first|refine t_v AS.v ?_|refine bG (hP:=p0 hl (Nat.le_of_lt hi) _) (k1:=fun x k h=>?_) (k2:=fun e h σx=>?_))|((with_reducible apply aV);refine t_s AS.s ?_)|((with_reducible refine au ?_);((refine aj (fun hc=>?_) (fun hc=>?_))))|((with_reducible refine bo ?_);first|(with_reducible refine aY ?_)|refine l_0 (k:=?_))|fail)
 ·cases h
 ·have hc:12≤d:=by have:=of_decide_eq_true hc;omega
  rw[if_pos hc];injection h with h;rw[h]
 ·have hc:¬ 12≤d:=by have:=of_decide_eq_false hc;omega
  exact⟨(),(i+1,d+1),if_neg hc,rfl,aD rfl⟩
def sgM (op:Int):ByteArray:=if op=6 then⟨#[61,61]⟩ else if op=7 then⟨#[33,61]⟩ else if op=3 then⟨#[38,38]⟩ else if op=5 then⟨#[94]⟩ else⟨#[124,124]⟩
def sgN (op:Int):Int:=if op=6 then 4 else if op=7 then 4 else if op=3 then 3 else if op=5 then 2 else 1
theorem I3 (op:Int):Pure Tryz.prog 286 [.c (sI op)] (.tup [.c (sS (sgM op)),.c (sI (sgN op))]):=by
 refine fn1 (fn:=Tryz.f286) Tryz.call286 Tryz.func286 rfl Tryz.ntmps286 Tryz.results286 rfl (by rfl) ?_
 repeat'(first|(with_reducible first|apply AW.seq|apply AW.block|apply AW.skip|apply AW.ret|apply ae|apply aq|apply aw|apply aG|apply y_e|refine ah ?_)|((with_reducible apply ak);refine t_v AS.v ?_)|((with_reducible refine au ?_);((refine aj (fun hc=>?_) (fun hc=>?_))))|((with_reducible refine aA ?_);(((refine k_2 ?_ ?_);all_goals(with_reducible (first|apply qG|apply qH)))))|fail)
 all_goals(simp only[decide_eq_true_eq,decide_eq_false_iff_not] at *;simp[sgM,sgN, *])
theorem Ho {ρ:Operand→Option V} {H:Nat→Option HO} {d:Option Nat} {ty:TypeId} {pos:String} {af:Array Edge} {gu:Option (Nat×Bool)} {x0 x1 x2 x3 x4:Operand} {a0 a1 a2 a3 a4:Int} (h0:Ev ρ x0 (.c (sI a0)):=by exact .pl rfl) (h1:Ev ρ x1 (.c (sI a1)):=by exact .pl rfl) (h2:Ev ρ x2 (.c (sI a2)):=by exact .pl rfl) (h3:Ev ρ x3 (.c (sI a3)):=by exact .pl rfl) (h4:Ev ρ x4 (.c (sI a4)):=by exact .pl rfl):AS Tryz.prog ρ H ⟨d,.buildSlice 234 5 #[(0,x0),(1,x1),(2,x2),(3,x3),(4,x4)],ty,pos,af,gu⟩ ⟨.c (.lst none 1 [[sI a0],[sI a1],[sI a2],[sI a3],[sI a4]]),[],[]⟩:=
 fb (zs:=[sI 0]) (cC rfl) (ba rfl) rfl (by decide) (by decide) (show EvP ρ _ _ from .cons h0 rfl (.cons h1 rfl (.cons h2 rfl (.cons h3 rfl (.cons h4 rfl (.nil)))))) rfl rfl
def qg (ts:List Tok) (i:Nat) (n:Int):List Int→Int
 |[]=>0
 |o :: l=>if sgN o=n∧isK ts i (sgM o)=true then o else qg ts i n l
theorem DM {n:Nat} (hn:n≤4):qg ts i n [6,7,3,5,4]=opK ts i n:=by
 match n,hn with
 |0,_=>simp[qg,opK,sgN]
 |1,_=>simp[qg,opK,sgN,sgM]
 |2,_=>simp[qg,opK,sgN,sgM]
 |3,_=>simp[qg,opK,sgN,sgM]
 |4,_=>simp[qg,opK,sgN,sgM]
theorem DN (hl:ts.length≤4294967296) (hi:i≤ts.length) {n:Nat} (hn:n≤4):Pure Tryz.prog 215 [.c (.ep (bsC ⟨ts,(i:Int),d⟩)),.c (sI n)] (.c (sI (opK ts i n))):=by
 refine fn2 (fn:=Tryz.f215) Tryz.call215 Tryz.func215 rfl Tryz.ntmps215 Tryz.results215 rfl (by rfl) ?_
 repeat'(first|(with_reducible first|apply AW.seq|apply AW.block|apply ae|apply y_e|refine ah ?_)|((with_reducible apply ak);first|refine t_v Ho ?_|refine t_v AS.v ?_)|fail)
 rw[← DM (i:=i) (ts:=ts) hn]
 refine AW.loop (fun m σ=>∃ j:Nat,j≤5∧m=5 - j∧qg ts i n ([6,7,3,5,4].drop j)=qg ts i n [6,7,3,5,4]∧σ=mk [(11,.c (sI (j:Int))),(10,.c (sI 5)),(9,.c (.lst none 1 [[sI 6],[sI 7],[sI 3],[sI 5],[sI 4]])),(4,.c (sI 0)),(0,.c (.ep (bsC ⟨ts,(i:Int),d⟩))),(1,.c (sI n))] []) 5 ?_ ?_
 ·exact⟨_,wkA,0,by omega,rfl,rfl,rfl⟩
 rintro m σ ⟨j,hj,rfl,hs,rfl⟩
 generalize he:qg ts i n [6,7,3,5,4]=x at hs
 have ip:=fun s=>Ja (d:=d) hl hi s
 by_cases hj5:j<5
 ·obtain ⟨o,ho⟩:∃ o,([6,7,3,5,4]:List Int)[j]? =some o:=⟨_,List.getElem?_eq_getElem (by simpa using hj5)⟩
  have hg:([[sI 6],[sI 7],[sI 3],[sI 5],[sI 4]]:List (List C))[j]? =some [sI o]:=by
   show(([6,7,3,5,4]:List Int).map fun o=>[sI o])[j]? =_
   rw[List.getElem?_map,ho];rfl
  have hd:([6,7,3,5,4]:List Int).drop j=o :: ([6,7,3,5,4]:List Int).drop (j+1):=by
   obtain ⟨h1,h2⟩:=List.getElem?_eq_some_iff.1 ho
   rw[List.drop_eq_getElem_cons h1,h2]
  rw[hd,qg] at hs
  clear hd ho
  repeat'(first|(with_reducible first|apply AW.seq|apply AW.block|apply AW.skip|apply AW.ret|apply AW.exit|apply ae|apply aq|apply aJ|apply aw|apply aG|apply aW|apply y_e|refine ah ?_)|((with_reducible apply ak);first|refine t_v AS.v ?_|refine t_v (by exact ag (hP:=I3 _)) ?_)|((with_reducible apply bc);first|refine t_m (hs:=fun hg=>AS.v) (k:=?_)|refine t_m (hs:=fun hg=>(by exact bn (hP:=ip _))) (k:=?_))|((with_reducible refine au ?_);first|refine cj ?_|(refine aj (fun hc=>?_) (fun hc=>?_);all_goals(try(exfalso;revert hc;simp;omega))))|((with_reducible refine aA ?_);refine k_i ?_)|fail)
  ·rw[← hs,if_pos (by simpa using hc)]
  ·have hno:¬ (sgN o=n∧isK ts i (sgM o)=true):=by rintro ⟨h1,h2⟩;simp[h1,h2] at hc
   exact⟨_,_,by show 5 - (j+1)<5 - j;omega,wkA,j+1,by omega,rfl,by rw[← hs,if_neg hno],rfl⟩
 ·have hj:j=5:=by omega
  subst hj
  have hs:0=x:=hs
  repeat'(first|(with_reducible first|apply AW.seq|apply AW.block|apply AW.skip|apply AW.ret|apply AW.exit|apply ae|apply aq|apply aJ|apply aw|apply aG|apply aW|apply y_e|refine ah ?_)|((with_reducible apply ak);first|refine t_v AS.v ?_|refine t_v (by exact ag (hP:=I3 _)) ?_)|((with_reducible apply bc);first|refine t_m (hs:=fun hg=>AS.v) (k:=?_)|refine t_m (hs:=fun hg=>(by exact bn (hP:=ip _))) (k:=?_))|((with_reducible refine au ?_);first|refine cj ?_|(refine aj (fun hc=>?_) (fun hc=>?_);all_goals(try(exfalso;revert hc;simp;omega))))|((with_reducible refine aA ?_);refine k_i ?_)|fail)
  rw[hs]
structure BX (ts:List Tok) (f:Nat):Prop where
 no:∀ i d:Nat,i≤ts.length→d≤12→8*(ts.length - i)+1≤f→MX Tryz.prog 214 [(0,bsO ts i d)] [.c (.ptr 0 0)] (dy ts f i d) (fun e=>.agg (exC e)) (fun j=>[(0,bsO ts j d)]) pvB
 bi:∀ n i d:Nat,1≤n→n≤5→i≤ts.length→d≤12→8*(ts.length - i)+7≤f+n→MX Tryz.prog 148 [(0,bsO ts i d)] [.c (.ptr 0 0),.c (sI n)] (ek ts f n i d) (fun e=>.agg (exC e)) (fun j=>[(0,bsO ts j d)]) pvB
theorem Jk (hl:ts.length≤4294967296) {f i d:Nat} (hi:i≤ts.length) (hd:d≤12) (hf:8*(ts.length - i)+1≤f+1) (ih:BX ts f):MX Tryz.prog 214 [(0,bsO ts i d)] [.c (.ptr 0 0)] (dy ts (f+1) i d) (fun e=>.agg (exC e)) (fun j=>[(0,bsO ts j d)]) pvB:=by
 have ip:=fun s=>Ja (d:=d) hl hi s
 have fx:=fun d e=>p0 (d:=d) hl hi e
 cases h1:isK ts i ⟨#[33]⟩ with
 |true=>
  have hlt:=sd h1
  have en:=yF hl hlt hd
  have i1:=ip ⟨#[33]⟩
  rw[h1] at i1
  by_cases hd2:12≤d
  ·have e:dy ts (f+1) i d= .error (flK 4 ts i):=by rw[dy,if_pos h1,if_pos hd2]
   rw[if_pos hd2] at en
   rw[e]
   clear e
   refine MXA (fn:=Tryz.f214) Tryz.call214 Tryz.func214 rfl Tryz.ntmps214 Tryz.results214 rfl rfl ?_
   repeat'((fail_if_success (with_reducible refine ct 3 ?_));(first|(with_reducible first|apply AW.seq|apply AW.block|apply ae|apply aE|apply cf|apply y_e|refine ah ?_)|((with_reducible apply ak);first|refine t_v AS.v ?_|refine t_v (by exact bn (hP:=i1)) ?_|refine t_w AS.w ?_|refine bG (hP:=en) (k1:=fun x k h=>?_) (k2:=fun e h σx=>?_))|((with_reducible refine au ?_);refine cF ?_)|((with_reducible refine bo ?_);(with_reducible refine aY ?_))|fail))
   ·cases h
   ·injection h with h;rw[h]
  ·have e:dy ts (f+1) i d=dy ts f (i+1) (d+1)>>=fun x=>.ok ({Ex.zero with op:=2,kids:=[x.1]},x.2):=by rw[dy,if_pos h1,if_neg hd2]
   have en:=en.ok () (i+1,d+1) (if_neg hd2)
   rw[e]
   clear e
   have nx:=ih.no (i+1) (d+1) (by omega) (by omega) (by omega)
   have ed:((d+1:Nat):Int) - 1=(d:Int):=by omega
   refine MXA (fn:=Tryz.f214) Tryz.call214 Tryz.func214 rfl Tryz.ntmps214 Tryz.results214 rfl rfl ?_
   repeat'(first|(with_reducible first|apply AW.seq|apply AW.block|apply AW.ret|apply ae|apply aq|apply aE|apply aG|apply cf|apply y_e|refine ah ?_)|((with_reducible apply ak);first|refine t_v AS.v ?_|refine t_v (by exact bn (hP:=i1)) ?_|refine t_w AS.w ?_|refine t_w (by exact ch (hP:=en)) ?_|refine bG (hP:=nx) (k1:=fun x k h=>?_) (k2:=fun e h σx=>?_))|((with_reducible apply aV);refine t_s AS.s ?_)|((with_reducible refine au ?_);refine cF ?_)|((with_reducible refine bo ?_);first|(with_reducible refine aY ?_)|refine fN (k:=?_))|fail)
   ·exact⟨_,_,by rw[h];rfl,cg {Ex.zero with op:=2,kids:=[x]},aD (by unfold bsO;rw[ed])⟩
   ·rw[h];rfl
 |false=>
  have n1:¬ isK ts i ⟨#[33]⟩=true:=by rw[h1];decide
  have i1:=ip ⟨#[33]⟩
  rw[h1] at i1
  cases h2:isK ts i ⟨#[40]⟩ with
  |true=>
   have hlt:=sd h2
   have en:=yF hl hlt hd
   have i2:=ip ⟨#[40]⟩
   rw[h2] at i2
   by_cases hd2:12≤d
   ·have e:dy ts (f+1) i d= .error (flK 4 ts i):=by rw[dy,if_neg n1,if_pos h2,if_pos hd2]
    rw[if_pos hd2] at en
    rw[e]
    clear e
    refine MXA (fn:=Tryz.f214) Tryz.call214 Tryz.func214 rfl Tryz.ntmps214 Tryz.results214 rfl rfl ?_
    repeat'((fail_if_success (with_reducible refine ct 8 ?_));(first|(with_reducible first|apply AW.seq|apply AW.block|apply ae|apply aE|apply cf|apply y_e|refine ah ?_)|((with_reducible apply ak);first|refine t_v AS.v ?_|refine t_v (by first|exact bn (hP:=i1)|exact bn (hP:=i2)) ?_|refine t_w AS.w ?_|refine bG (hP:=en) (k1:=fun x k h=>?_) (k2:=fun e h σx=>?_))|((with_reducible refine au ?_);first|refine cF ?_|refine cj ?_)|((with_reducible refine bo ?_);(with_reducible refine aY ?_))|fail))
    ·cases h
    ·injection h with h;rw[h]
   ·have e:dy ts (f+1) i d=ek ts f 1 (i+1) (d+1)>>=fun x=>if isK ts x.2 ⟨#[41]⟩=true then .ok (x.1,x.2+1) else .error (flK 9 ts x.2):=by rw[dy,if_neg n1,if_pos h2,if_neg hd2]
    have en:=en.ok () (i+1,d+1) (if_neg hd2)
    rw[e]
    clear e
    have nx:=ih.bi 1 (i+1) (d+1) (by omega) (by omega) (by omega) (by omega) (by omega)
    have ed:((d+1:Nat):Int) - 1=(d:Int):=by omega
    refine MXA (fn:=Tryz.f214) Tryz.call214 Tryz.func214 rfl Tryz.ntmps214 Tryz.results214 rfl rfl ?_
    repeat'((fail_if_success (with_reducible refine ct 9 ?_));(first|(with_reducible first|apply AW.seq|apply AW.block|apply ae|apply aE|apply cf|apply y_e|refine ah ?_)|((with_reducible apply ak);first|refine t_v AS.v ?_|refine t_v (by first|exact bn (hP:=i1)|exact bn (hP:=i2)) ?_|refine t_w AS.w ?_|refine t_w (by exact ch (hP:=en)) ?_|refine bG (hP:=nx) (k1:=fun x k h=>?_) (k2:=fun e h σx=>?_))|((with_reducible apply aV);refine t_s AS.s ?_)|((with_reducible refine au ?_);first|refine cF ?_|refine cj ?_)|((with_reducible refine bo ?_);(with_reducible refine aY ?_))|fail))
    ·have hj:=(lM ts f).2.1 h
     have hq:=Ja (ts:=ts) (i:=k) (d:=((d+1:Nat):Int)) hl hj.2 ⟨#[41]⟩
     have fl:=p0 (ts:=ts) (i:=k) (d:=((d+1:Nat):Int)) hl hj.2 9
     rw[h]
     cases h3:isK ts k ⟨#[41]⟩ with
     |true=>
      rw[h3] at hq
      repeat'(first|(with_reducible first|apply AW.seq|apply AW.skip|apply AW.ret|apply ae|apply aq|apply aG|apply y_e|refine ah ?_)|((with_reducible apply ak);first|refine t_v AS.v ?_|refine t_v (by exact bn (hP:=hq)) ?_)|((with_reducible apply aV);refine t_s AS.s ?_)|((with_reducible refine au ?_);refine cj ?_)|((with_reducible refine bo ?_);refine fN (k:=?_))|fail)
      exact⟨x,k+1,by rw[aa];exact if_pos h3,cg _,aD (by unfold bsO;rw[ed];rfl)⟩
     |false=>
      have e:((Except.ok (x,k):Except Fa (Ex×Nat))>>=fun x=>if isK ts x.2 ⟨#[41]⟩=true then .ok (x.1,x.2+1) else .error (flK 9 ts x.2))=(.error (flK 9 ts k):Except Fa (Ex×Nat)):=by rw[aa];exact if_neg (by rw[h3];decide)
      rw[e]
      rw[h3] at hq
      repeat'((fail_if_success (with_reducible refine ct 11 ?_));(first|(with_reducible first|apply AW.seq|apply ae|apply aE|apply cf|apply y_e|refine ah ?_)|((with_reducible apply ak);first|refine t_v AS.v ?_|refine t_v (by exact bn (hP:=hq)) ?_|refine bG (hP:=fl) (k1:=fun x k h=>?_) (k2:=fun e h σx=>?_))|((with_reducible refine au ?_);refine cF ?_)|((with_reducible refine bo ?_);(with_reducible refine aY ?_))|fail))
      ·cases h
      ·injection h with h;rw[h]
    ·rw[h];rfl
  |false=>
   have n2:¬ isK ts i ⟨#[40]⟩=true:=by rw[h2];decide
   have i2:=ip ⟨#[40]⟩
   rw[h2] at i2
   have fl:=p0 (d:=(d:Int)) hl hi 9
   by_cases hlt:i<ts.length
   ·obtain ⟨t,ht⟩:∃ t,ts[i]? =some t:=⟨_,List.getElem?_eq_getElem hlt⟩
    have ei:((i:Nat):Int)+1 - 1=(i:Int):=by omega
    have e:dy ts (f+1) i d=if t.kind=1∧idB t.text=true then .ok ({Ex.zero with op:=1,names:=[t.text]},i+1) else .error (flK 9 ts i):=by
     rw[dy,if_neg n1,if_neg n2,nmK,ht]
     by_cases hh:t.kind=1∧idB t.text=true
     ·simp only[if_pos hh]
     ·simp only[if_neg hh]
    rw[e]
    clear e
    refine MXA (fn:=Tryz.f214) Tryz.call214 Tryz.func214 rfl Tryz.ntmps214 Tryz.results214 rfl rfl ?_
    repeat'(first|(with_reducible first|apply AW.seq|apply AW.block|apply AW.skip|apply AW.ret|apply ae|apply aq|apply aE|apply aw|apply aG|apply y_e|refine ah ?_|refine bb ?_)|((with_reducible apply ak);first|refine t_v AS.v ?_|refine t_v (by first|exact bn (hP:=i1)|exact bn (hP:=i2)) ?_|refine t_w AS.w ?_|refine bG (hP:=fl) (k1:=fun x k h=>?_) (k2:=fun e h σx=>?_))|((with_reducible apply bc);first|refine t_f ?_|refine t_m (hs:=fun hg=>AS.v) (k:=?_)|refine t_m (hs:=fun hg=>(by exact ag (hP:=dM _))) (k:=?_))|((with_reducible apply aV);refine t_s AS.s ?_)|((with_reducible refine au ?_);first|refine cj ?_|(refine aj (fun hc=>?_) (fun hc=>?_)))|((with_reducible refine bo ?_);first|(with_reducible refine aY ?_)|refine fN (k:=?_))|(refine⟨by decide +kernel,?_⟩)|fail)
    ·have hh:t.kind=1∧idB t.text=true:=by simp[hlt] at hc;exact hc
     exact⟨{ Ex.zero with op:=1,names:=[t.text]},i+1,if_pos hh,cg _,aD rfl⟩
    ·cases h
    ·have hh:¬ (t.kind=1∧idB t.text=true):=by rintro ⟨h3,h4⟩;simp[hlt,h3,h4] at hc
     injection h with h;rw[if_neg hh,h]
   ·have hi2:i=ts.length:=by omega
    subst hi2
    have e:dy ts (f+1) ts.length d= .error (flK 9 ts ts.length):=by
     rw[dy,if_neg n1,if_neg n2,nmK,List.getElem?_eq_none (Nat.le_refl _)]
    rw[e]
    clear e hlt hi hf
    refine MXA (fn:=Tryz.f214) Tryz.call214 Tryz.func214 rfl Tryz.ntmps214 Tryz.results214 rfl rfl ?_
    repeat'(first|(with_reducible first|apply AW.seq|apply AW.block|apply AW.skip|apply AW.ret|apply ae|apply aq|apply aE|apply aw|apply aG|apply y_e|refine ah ?_|refine bb ?_)|((with_reducible apply ak);first|refine t_v AS.v ?_|refine t_v (by first|exact bn (hP:=i1)|exact bn (hP:=i2)) ?_|refine t_w AS.w ?_|refine bG (hP:=fl) (k1:=fun x k h=>?_) (k2:=fun e h σx=>?_))|((with_reducible apply bc);first|refine t_f ?_|refine t_m (hs:=fun hg=>AS.v) (k:=?_)|refine t_m (hs:=fun hg=>(by exact ag (hP:=dM _))) (k:=?_))|((with_reducible apply aV);refine t_s AS.s ?_)|((with_reducible refine au ?_);first|refine cj ?_|(refine aj (fun hc=>?_) (fun hc=>?_)))|((with_reducible refine bo ?_);first|(with_reducible refine aY ?_)|refine fN (k:=?_))|(refine⟨by decide +kernel,?_⟩)|fail)
    ·cases h
    ·injection h with h;rw[h]
theorem II (hl:ts.length≤4294967296) {f n i d:Nat} (h1n:1≤n) (hn:n≤5) (hi:i≤ts.length) (hd:d≤12) (hf:8*(ts.length - i)+7≤f+1+n) (ih:∀ m,m≤f→BX ts m):MX Tryz.prog 148 [(0,bsO ts i d)] [.c (.ptr 0 0),.c (sI n)] (ek ts (f+1) n i d) (fun e=>.agg (exC e)) (fun j=>[(0,bsO ts j d)]) pvB:=by
 by_cases h4:4<n
 ·have e:ek ts (f+1) n i d=dy ts f i d:=by rw[ek,if_pos h4]
  have hn5:n=5:=by omega
  subst hn5
  rw[e]
  have nx:=(ih f (Nat.le_refl _)).no i d hi hd (by omega)
  refine MXA (fn:=Tryz.f148) Tryz.call148 Tryz.func148 rfl Tryz.ntmps148 Tryz.results148 rfl rfl ?_
  repeat'(first|(with_reducible first|apply AW.seq|apply AW.ret|apply ae|apply aq|apply aE|apply aw|apply cf|apply y_e|refine ah ?_|refine bb ?_)|((with_reducible apply ak);first|refine t_v AS.v ?_|refine t_w AS.w ?_|refine bG (hP:=nx) (k1:=fun x k h=>?_) (k2:=fun e h σx=>?_))|((with_reducible apply aV);refine t_s AS.s ?_)|((with_reducible refine au ?_);refine cF ?_)|((with_reducible refine bo ?_);first|(with_reducible refine aY ?_)|refine fN (k:=?_))|(refine⟨by decide +kernel,fun(σx:St)=>?_⟩)|(refine⟨by decide +kernel,?_⟩)|fail)
  ·exact⟨x,k,h,cg _,aD rfl⟩
  ·exact h
 ·have e:ek ts (f+1) n i d=ek ts f (n+1) i d>>=fun x=>eP ts f n x.1 x.2 d:=by rw[ek,if_neg h4]
  rw[e]
  have nx:=(ih f (Nat.le_refl _)).bi (n+1) i d (by omega) (by omega) hi hd (by omega)
  have en:((n:Nat):Int)+1=((n+1:Nat):Int):=rfl
  refine MXA (fn:=Tryz.f148) Tryz.call148 Tryz.func148 rfl Tryz.ntmps148 Tryz.results148 rfl rfl ?_
  repeat'((fail_if_success (with_reducible fail));(first|(with_reducible first|apply AW.seq|apply AW.block|apply AW.skip|apply ae|apply aE|apply y_e|refine ah ?_)|((with_reducible apply ak);first|refine t_v AS.v ?_|refine t_w AS.w ?_|refine bG (hP:=nx) (k1:=fun x k h=>?_) (k2:=fun e h σx=>?_))|((with_reducible apply aV);refine t_s AS.s ?_)|((with_reducible refine au ?_);((refine aj (fun hc=>?_) (fun hc=>?_);all_goals(try(exfalso;revert hc;simp;omega)))))|((with_reducible refine bo ?_);(with_reducible refine aY ?_))|fail))
  ·have hk:=(lM ts f).2.1 h
   rw[h,aa]
   generalize hsp:eP ts f n x k d=sp
   clear e nx en
   refine AW.loop (fun m σ=>∃ (e:Ex) (j:Nat),eP ts m n e j d=sp∧m≤f∧8*(ts.length - j)+2≤m∧j≤ts.length∧σ=mk [(0,.c (.ptr 0 0)),(1,.c (sI n)),(4,.c (.ptr 4 0)),(5,.c (.ptr 5 0))] [(5,.obj 49 (exC e)),(0,bsO ts j d),(4,.obj 49 (exC Ex.zero))]) f ?_ ?_
   ·exact⟨_,wkA,x,k,hsp,Nat.le_refl _,by omega,hk.2,rfl⟩
   clear hsp h hk hc
   rintro m σ ⟨e,j,hm,hm1,hm2,hj,rfl⟩
   subst hm
   obtain ⟨m,rfl⟩:∃ n,m=n+1:=⟨m - 1,by omega⟩
   have so:=DN (ts:=ts) (i:=j) (d:=(d:Int)) (n:=n) hl hj (by omega)
   by_cases ho:opK ts j n=0
   ·have eb:eP ts (m+1) n e j d= .ok (e,j):=by rw[eP,if_pos ho]
    rw[eb]
    clear eb
    rw[ho] at so
    repeat'(first|(with_reducible first|apply AW.seq|apply AW.block|apply AW.ret|apply ae|apply aq|apply aG|apply y_e|refine ah ?_)|((with_reducible apply ak);first|refine t_v AS.v ?_|refine t_v (by exact bn (hP:=so)) ?_)|((with_reducible apply aV);refine t_s AS.s ?_)|((with_reducible refine au ?_);refine cF ?_)|((with_reducible refine bo ?_);refine fN (k:=?_))|fail)
    exact⟨e,j,rfl,cg _,aD rfl⟩
   ·have eb:eP ts (m+1) n e j d=ek ts m (n+1) (j+1) d>>=fun x=>eP ts m n {Ex.zero with op:=opK ts j n,kids:=[e,x.1]} x.2 d:=by rw[eP,if_neg ho]
    rw[eb]
    clear eb
    have hjl:=Jv ho
    have nx:=(ih m (by omega)).bi (n+1) (j+1) d (by omega) (by omega) (by omega) hd (by omega)
    have ej:((j:Nat):Int)+1=((j+1:Nat):Int):=rfl
    repeat'((fail_if_success (with_reducible refine xw 8 ?_));(first|(with_reducible first|apply AW.seq|apply AW.block|apply AW.skip|apply ae|apply y_e|refine ah ?_)|((with_reducible apply ak);first|refine t_v AS.v ?_|refine t_v (by exact bn (hP:=so)) ?_)|((with_reducible apply aV);refine t_s AS.s ?_)|((with_reducible refine au ?_);((refine aj (fun hc=>?_) (fun hc=>?_);all_goals(try(exfalso;simp[*] at hc;done)))))|fail))
    ·simp only[ej]
     clear ej
     repeat'(first|(with_reducible first|apply AW.seq|apply AW.ret|apply ae|apply aq|apply aE|apply aw|apply cf|apply y_e|refine ah ?_|refine bb ?_)|((with_reducible apply ak);first|refine t_v AS.v ?_|refine t_w AS.w ?_|refine bG (hP:=nx) (k1:=fun x k h=>?_) (k2:=fun e h σx=>?_))|((with_reducible apply aV);refine t_s AS.s ?_)|((with_reducible refine au ?_);refine cF ?_)|((with_reducible refine bo ?_);first|(with_reducible refine aY ?_)|refine fN (k:=?_))|(refine⟨by decide +kernel,fun(σx:St)=>?_⟩)|(refine⟨by decide +kernel,?_⟩)|fail)
     ·have hx:=(lM ts m).2.1 h
      exact⟨m,_,Nat.lt_succ_self m,wkA,_,k,by rw[h];rfl,by omega,by omega,hx.2,rfl⟩
     ·rw[h];rfl
  ·rw[h];rfl
theorem BP (hl:ts.length≤4294967296):∀ f m:Nat,m≤f→BX ts m
 |_,0,_=>⟨fun _ _ _ _ h=>absurd h (by omega),fun n _ _ h1 h2 _ _ h=>absurd h (by omega)⟩
 |0,_+1,h=>absurd h (by omega)
 |f+1,m+1,h=>by
  have ih:=BP hl f
  exact⟨fun i d hi hd hf=>Jk hl hi hd hf (ih m (by omega)),fun n i d h1 h2 hi hd hf=>II hl h1 h2 hi hd hf fun j hj=>ih j (by omega)⟩
end
end Am
namespace Am
open Tk
def Lst (ts:List Tok) (j:Nat):Prop:=∃ i t,j=i+1∧ts[i]? =some t∧t.kind≠0
theorem G2 {ts:List Tok} {i:Nat} {m:ByteArray} (h:isK ts i m=true):Lst ts (i+1):=by
 unfold isK at h
 split at h
 ·rename_i t e
  simp only[Bool.and_eq_true,decide_eq_true_eq] at h
  exact⟨i,t,rfl,e,by rw[h.1];decide⟩
 ·cases h
theorem Gi {ts:List Tok} {i:Nat} {s:ByteArray} (h:nmK ts i=some s):Lst ts (i+1):=by
 unfold nmK at h
 split at h
 ·rename_i t e
  split at h
  ·rename_i hh;exact⟨i,t,rfl,e,by rw[hh.1];decide⟩
  ·cases h
 ·cases h
theorem yl (ts:List Tok):∀ f:Nat,(∀ {i d j:Nat} {x:Ex},dy ts f i d= .ok (x,j)→Lst ts j)∧(∀ {n i d j:Nat} {x:Ex},ek ts f n i d= .ok (x,j)→Lst ts j)∧(∀ {n i d j:Nat} {e x:Ex},Lst ts i→eP ts f n e i d= .ok (x,j)→Lst ts j)
 |0=>⟨fun h=>(by rw[dy] at h;cases h),fun h=>(by rw[ek] at h;cases h),fun _ h=>(by rw[eP] at h;cases h)⟩
 |f+1=>by
  obtain ⟨i1,i2,i3⟩:=yl ts f
  refine⟨fun {i d j x} h=>?_,fun {n i d j x} h=>?_,fun {n i d j e x} hi h=>?_⟩
  ·rw[dy] at h
   split at h
   ·split at h
    ·cases h
    ·obtain ⟨⟨y,k⟩,h1,h⟩:=aB.1 h
     injection h with h;injection h with _ h
     exact h▸i1 h1
   ·split at h
    ·split at h
     ·cases h
     ·obtain ⟨⟨y,k⟩,h1,h⟩:=aB.1 h
      try dsimp only at h
      split at h
      ·rename_i hq
       injection h with h;injection h with _ h
       exact h▸G2 hq
      ·cases h
    ·split at h
     ·rename_i s hs
      injection h with h;injection h with _ h
      exact h▸Gi hs
     ·cases h
  ·rw[ek] at h
   split at h
   ·exact i1 h
   ·obtain ⟨⟨y,k⟩,h1,h⟩:=aB.1 h
    exact i3 (i2 h1) h
  ·rw[eP] at h
   split at h
   ·injection h with h;injection h with _ h;exact h▸hi
   ·obtain ⟨⟨y,k⟩,h1,h⟩:=aB.1 h
    exact i3 (i2 h1) h
theorem dw {ε α β:Type} {x:Except ε α} {g:α→Except ε β} {e:ε} (h:(x>>=g)= .error e):x= .error e∨∃ a,x= .ok a∧g a= .error e:=by
 cases x with
 |error e'=>exact .inl (by injection h with h;rw[h])
 |ok a=>exact .inr ⟨a,rfl,h⟩
theorem kb {c:Int} {ts:List Tok} {i:Nat} {α:Type} {g:Fa} (hc:c≠0) (h:(Except.error (flK c ts i):Except Fa α)= .error g):g.code≠0:=by
 injection h with h;subst h;exact hc
theorem yj (ts:List Tok):∀ f:Nat,(∀ {i d:Nat} {g:Fa},dy ts f i d= .error g→g.code≠0)∧(∀ {n i d:Nat} {g:Fa},ek ts f n i d= .error g→g.code≠0)∧(∀ {n i d:Nat} {e:Ex} {g:Fa},eP ts f n e i d= .error g→g.code≠0)
 |0=>⟨fun h=>(by rw[dy] at h;exact kb (by decide) h),fun h=>(by rw[ek] at h;exact kb (by decide) h),fun h=>(by rw[eP] at h;exact kb (by decide) h)⟩
 |f+1=>by
  obtain ⟨i1,i2,i3⟩:=yj ts f
  refine⟨fun {i d g} h=>?_,fun {n i d g} h=>?_,fun {n i d e g} h=>?_⟩
  ·rw[dy] at h
   split at h
   ·split at h
    ·exact kb (by decide) h
    ·rcases dw h with h|⟨a,_,h⟩
     ·exact i1 h
     ·cases h
   ·split at h
    ·split at h
     ·exact kb (by decide) h
     ·rcases dw h with h|⟨a,_,h⟩
      ·exact i2 h
      ·try dsimp only at h
       split at h
       ·cases h
       ·exact kb (by decide) h
    ·split at h
     ·cases h
     ·exact kb (by decide) h
  ·rw[ek] at h
   split at h
   ·exact i1 h
   ·rcases dw h with h|⟨a,_,h⟩
    ·exact i2 h
    ·exact i3 h
  ·rw[eP] at h
   split at h
   ·cases h
   ·rcases dw h with h|⟨a,_,h⟩
    ·exact i2 h
    ·exact i3 h
theorem vO {ts:List Tok} {g:Fa} (h:tksK ts= .error g):g.code≠0:=by
 unfold tksK at h
 rcases dw h with h|⟨a,_,h⟩
 ·exact(yj ts _).2.1 h
 ·try dsimp only at h
  split at h
  ·exact kb (by decide) h
  ·cases h
theorem DZ {ts:List Tok} {x:Ex} {j:Nat} (h:tksK ts= .ok (x,j)):Lst ts j:=by
 unfold tksK at h
 obtain ⟨⟨y,k⟩,h1,h⟩:=aB.1 h
 try dsimp only at h
 split at h
 ·cases h
 ·injection h with h;injection h with _ h
  exact h▸(yl ts _).2.1 h1
theorem AB {l:List Tok} (hf:Fine l) (k:Ix l) {x:Ex} {n:Nat} (h:tksK (l.drop k.1)= .ok (x,n)):k.1+n<l.length:=by
 obtain ⟨i,t,rfl,ht,h0⟩:=DZ h
 rw[List.getElem?_drop] at ht
 obtain ⟨hlt,he⟩:=List.getElem?_eq_some_iff.1 ht
 have:=hf.en ⟨k.1+i,hlt⟩ (by show(l[k.1+i]).kind≠0;rw[he];exact h0)
 have:k.1+i+1<l.length:=this
 omega
end Am
namespace Am
open Tk Go.RowKit
set_option maxRecDepth 100000
set_option maxHeartbeats 4000000
theorem qO:∀ (n:Nat) (e:Ex),SizeOf.sizeOf e<n→cD e≤4294967296→Pure Tryz.prog 149 [.agg (exC e)] (.c (sI (cD e)))
 |0,_,h,_=>absurd h (Nat.not_lt_zero _)
 |n+1,e,h,hb=>by
  have ih:∀ x∈e.kids,Pure Tryz.prog 149 [.agg (exC x)] (.c (sI (cD x))):=fun x hx=>
   qO n x (by have:=HR hx;omega) (by have:=mT hx;have:=jw e;omega)
  have he:=jw e
  refine fn1 (fn:=Tryz.f149) Tryz.call149 Tryz.func149 rfl Tryz.ntmps149 Tryz.results149 rfl (by rfl) ?_
  repeat'(first|(with_reducible first|apply AW.seq|apply AW.block|apply AW.ret|apply AW.exit|apply ae|apply aJ|apply aW|apply y_e|refine ah ?_)|((with_reducible apply ak);first|refine t_v AS.v ?_|refine t_w AS.w ?_)|((with_reducible refine au ?_);((refine aj (fun hc=>?_) (fun hc=>?_);all_goals(try(exfalso;simp[*] at hc;done)))))|((with_reducible refine aA ?_);refine k_i ?_)|fail)
  simp only[List.length_map]
  refine AW.fact (t:=7) rfl (fun κ w x hr=>dq hr) fun hn=>?_
  refine AW.loop (fun m σ=>∃ j,m=e.kids.length - j∧j≤e.kids.length∧σ=mk [(3,.c (sI (cW (e.kids.take j)))),(7,.c (.lst none 10 (e.kids.map exC))),(8,.c (sI e.kids.length)),(9,.c (sI j))] []) e.kids.length ?_ ?_
  ·exact⟨_,wkA,0,rfl,Nat.zero_le _,rfl⟩
  rintro m σ ⟨j,rfl,hj,rfl⟩
  by_cases hlt:j<e.kids.length
  ·obtain ⟨x,hx⟩:∃ x,e.kids[j]? =some x:=⟨_,List.getElem?_eq_getElem hlt⟩
   have ihx:=ih x (List.mem_of_getElem? hx)
   have et:cW (e.kids.take (j+1))=max (cW (e.kids.take j)) (cD x):=by
    rw[List.take_add_one,hx];exact mS _ _
   have ei:(max ((cW (e.kids.take j):Nat):Int) (cD x:Nat))=((cW (e.kids.take (j+1)):Nat):Int):=by rw[et];omega
   repeat'(first|(with_reducible first|apply AW.seq|apply AW.block|apply AW.skip|apply ae|apply aw|apply y_e|refine ah ?_)|((with_reducible apply ak);first|refine t_v AS.v ?_|refine t_v (by exact ag (hP:=ihx)) ?_|refine t_w AS.w ?_)|((with_reducible apply aV);refine t_s AS.s ?_)|((with_reducible refine au ?_);((refine aj (fun hc=>?_) (fun hc=>?_);all_goals(try(exfalso;simp[*] at hc;done)))))|fail)
   exact⟨_,_,(show e.kids.length - (j+1)<e.kids.length - j by omega),by rw[ei];exact wkA,j+1,rfl,hlt,rfl⟩
  ·have e1:e.kids.take j=e.kids:=List.take_of_length_le (by omega)
   rw[e1]
   repeat'(first|(with_reducible first|apply AW.seq|apply AW.block|apply AW.ret|apply AW.exit|apply ae|apply aJ|apply aW|apply y_e|refine ah ?_)|((with_reducible apply ak);first|refine t_v AS.v ?_|refine t_w AS.w ?_)|((with_reducible refine au ?_);((refine aj (fun hc=>?_) (fun hc=>?_);all_goals(try(exfalso;simp[*] at hc;done)))))|((with_reducible refine aA ?_);refine k_i ?_)|fail)
   rw[he]
   omega
theorem zI (e:Ex) (hb:cD e≤4294967296):Pure Tryz.prog 149 [.agg (exC e)] (.c (sI (cD e))):=qO _ e (Nat.lt_succ_self _) hb
theorem yk (ts:List Tok):∀ f:Nat,(∀ {i d j:Nat} {x:Ex},dy ts f i d= .ok (x,j)→cD x+i≤j)∧(∀ {n i d j:Nat} {x:Ex},ek ts f n i d= .ok (x,j)→cD x+i≤j)∧(∀ {n i d j q:Nat} {e x:Ex},cD e+q≤i→eP ts f n e i d= .ok (x,j)→cD x+q≤j)
 |0=>⟨fun h=>(by rw[dy] at h;cases h),fun h=>(by rw[ek] at h;cases h),fun _ h=>(by rw[eP] at h;cases h)⟩
 |f+1=>by
  obtain ⟨i1,i2,i3⟩:=yk ts f
  refine⟨fun {i d j x} h=>?_,fun {n i d j x} h=>?_,fun {n i d j q e x} hi h=>?_⟩
  ·rw[dy] at h
   split at h
   ·split at h
    ·cases h
    ·obtain ⟨⟨y,k⟩,h1,h⟩:=aB.1 h
     have:=i1 h1
     injection h with h;injection h with h0 hkj
     subst h0
     rw[Lf]
     have hkj:k=j:=hkj
     show cD y+1+i≤j
     omega
   ·split at h
    ·split at h
     ·cases h
     ·obtain ⟨⟨y,k⟩,h1,h⟩:=aB.1 h
      have:=i2 h1
      try dsimp only at h
      split at h
      ·injection h with h;injection h with h0 hkj
       subst h0
       omega
      ·cases h
    ·split at h
     ·injection h with h;injection h with h0 hkj
      subst h0
      have e:∀ s,cD {Ex.zero with op:=1,names:=[s]}=1:=fun s=>by rw[jw];rfl
      rename_i sx hs
      have e:=e sx
      try dsimp only at h
      omega
     ·cases h
  ·rw[ek] at h
   split at h
   ·exact i1 h
   ·obtain ⟨⟨y,k⟩,h1,h⟩:=aB.1 h
    have:=i2 h1
    exact i3 this h
  ·rw[eP] at h
   split at h
   ·injection h with h;injection h with h0 hkj;subst h0;omega
   ·obtain ⟨⟨y,k⟩,h1,h⟩:=aB.1 h
    have:=i2 h1
    refine i3 ?_ h
    rw[Jd]
    show max (cD e) (cD y)+1+q≤k
    omega
end Am
end Go.Proofs.YtkpodagbefnebaaGreatDoor
