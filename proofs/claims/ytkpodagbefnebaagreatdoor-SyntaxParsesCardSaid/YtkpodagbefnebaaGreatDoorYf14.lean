import Derived.Test.YtkpodagbefnebaaGreatDoorYf13
set_option linter.unusedSimpArgs false
set_option linter.unusedVariables false
set_option linter.unusedSectionVars false
namespace Go.Proofs.YtkpodagbefnebaaGreatDoor
namespace Am
open Tk Go.RowKit
set_option maxRecDepth 100000
set_option maxHeartbeats 4000000
abbrev stO (s:Stm):HO:=.obj 69 (stC s)
section
variable {l:List Tok} {k k':Ix l} {c d:Int}
theorem q8 (s:ByteArray) (ws:List ByteArray) (hw:ws.length≤100):Pure Tryz.prog 252 [.c (sS s),.c (bC ws)] (.c (sI (cc s ws))):=by
 refine fn2 (fn:=Tryz.f252) Tryz.call252 Tryz.func252 rfl Tryz.ntmps252 Tryz.results252 rfl (by rfl) ?_
 repeat'(first|(with_reducible first|apply AW.seq|apply AW.block|apply AW.skip|apply AW.ret|apply aa|apply ak|apply aw|apply aL|apply y_e|refine ae ?_)|((with_reducible apply ai);refine t_v AS.v ?_)|((with_reducible refine aq ?_);((refine ah (fun hc=>?_) (fun hc=>?_);all_goals(try(exfalso;simp[*] at hc;done)))))|((with_reducible refine aM ?_);refine k_i ?_)|fail)
 simp only[List.length_map]
 refine AW.loop (fun m σ=>∃ j,m=ws.length - j∧j≤ws.length∧(∀ x∈ws.take j,decide (x=s)=false)∧σ=mk [(0,.c (sS s)),(7,.c (bC ws)),(8,.c (sI ws.length)),(9,.c (sI j))] []) ws.length ?_ ?_
 ·exact⟨_,wkA,0,rfl,Nat.zero_le _,by simp,rfl⟩
 rintro m σ ⟨j,rfl,hj,ha,rfl⟩
 by_cases hlt:j<ws.length
 ·obtain ⟨w,hw⟩:∃ w,ws[j]? =some w:=⟨_,List.getElem?_eq_getElem hlt⟩
  repeat'(first|(with_reducible first|apply AW.seq|apply AW.block|apply AW.skip|apply AW.ret|apply aa|apply ak|apply aw|apply aL|apply y_e|refine ae ?_)|((with_reducible apply ai);refine t_v AS.v ?_)|((with_reducible refine aq ?_);((refine ah (fun hc=>?_) (fun hc=>?_);all_goals(try(exfalso;simp[*] at hc;done)))))|((with_reducible refine aM ?_);refine k_i ?_)|fail)
  ·rw[cc,ma hw ha (by simpa using hc)]
  ·exact⟨_,_,(show ws.length - (j+1)<ws.length - j by omega),wkA,j+1,rfl,hlt,jz hw ha (by simpa using hc),rfl⟩
 ·repeat'(first|(with_reducible first|apply AW.seq|apply AW.ret|apply AW.exit|apply aa|apply aE|apply aH|apply y_e|refine ae ?_)|((with_reducible apply ai);refine t_v AS.v ?_)|((with_reducible refine aq ?_);((refine ah (fun hc=>?_) (fun hc=>?_);all_goals(try(exfalso;simp[*] at hc;done)))))|((with_reducible refine aM ?_);refine k_i ?_)|fail)
  rw[cc,lR (by omega) ha]
theorem rm (hf:Fine l) (s:Stm) (self:Bool):MX Tryz.prog 253 [(0,psO k c d),(1001,stO s)] [.c (.ptr 0 0),.c (.ptr 1001 0),.c (sB self)] (cJ self s k) (fun _=>.tup []) (fun b=>[(0,psO b.2 c d),(1001,stO b.1)]) pvS:=by
 refine MXA (fn:=Tryz.f253) Tryz.call253 Tryz.func253 rfl Tryz.ntmps253 Tryz.results253 rfl rfl ?_
 repeat'(first|(with_reducible first|apply AW.seq|apply aa|apply aF|apply y_e|refine ae ?_)|((with_reducible apply ai);first|refine t_v AS.v ?_|refine bm (hP:=mZ hf _) (k1:=fun x k h=>?_) (k2:=fun e h σx=>?_)|refine bm (hP:=iC hf _) (k1:=fun x k h=>?_) (k2:=fun e h σx=>?_))|((with_reducible apply ay);refine t_s AS.s ?_)|((with_reducible refine aD ?_);first|(with_reducible refine aS ?_)|refine ny (k:=?_))|fail)
 all_goals(first|(refine⟨(),(_,_),?_,(by rfl),(by exact ar rfl),(by exact ar rfl)⟩;simp_all[cJ,ag,au,adv,Lv.zero,Sp.zero,Rg.zero,Ct.zero];done)|(simp_all[cJ,ag,au,adv,Lv.zero,Sp.zero,Rg.zero,Ct.zero];done)|fail "end")
theorem nL (hf:Fine l) (s:Stm) (w:ByteArray) (hw:w≠⟨#[116,121,112,101]⟩):MX Tryz.prog 182 [(0,psO k c d),(1001,stO s)] [.c (.ptr 0 0),.c (.ptr 1001 0),.c (sS w)] (bJ w s k) (fun b=>.c (sB b)) (fun b=>[(0,psO b.2 c d),(1001,stO b.1)]) pvS:=by
 have a1:=fun k=>(cK (k:=k) (c:=c) (d:=d) hf ⟨#[116,121,112,101,115]⟩).ok _ _ rfl
 refine MXA (fn:=Tryz.f182) Tryz.call182 Tryz.func182 rfl Tryz.ntmps182 Tryz.results182 rfl rfl ?_
 repeat'(first|(with_reducible first|apply AW.seq|apply AW.block|apply AW.skip|apply AW.ret|apply aa|apply ak|apply aF|apply aw|apply aL|apply bI|apply y_e|refine ae ?_)|((with_reducible apply ai);first|refine t_v AS.v ?_|refine t_w (by exact av (hP:=a1 _)) ?_|refine bm (hP:=dq hf) (k1:=fun x k h=>?_) (k2:=fun e h σx=>?_)|refine bm (hP:=k9 hf) (k1:=fun x k h=>?_) (k2:=fun e h σx=>?_)|refine bm (hP:=pX hf) (k1:=fun x k h=>?_) (k2:=fun e h σx=>?_)|refine bm (hP:=mZ hf _) (k1:=fun x k h=>?_) (k2:=fun e h σx=>?_)|refine bm (hP:=mK hf _) (k1:=fun x k h=>?_) (k2:=fun e h σx=>?_)|refine bm (hP:=u6 hf) (k1:=fun x k h=>?_) (k2:=fun e h σx=>?_)|refine bm (hP:=rP hf) (k1:=fun x k h=>?_) (k2:=fun e h σx=>?_)|refine bm (hP:=mU hf _ (by decide)) (k1:=fun x k h=>?_) (k2:=fun e h σx=>?_))|((with_reducible apply ay);refine t_s AS.s ?_)|((with_reducible refine aq ?_);((refine ah (fun hc=>?_) (fun hc=>?_);all_goals(try(exfalso;simp[*] at hc;done)))))|((with_reducible refine aD ?_);first|(with_reducible refine aS ?_)|refine l_d (k:=?_))|fail)
 all_goals first|(first|(refine⟨_,(_,_),?_,(by rfl),(by exact ar rfl),(by exact ar rfl)⟩;simp_all[bJ,ag,au,adv,Lv.zero,Sp.zero,Rg.zero,Ct.zero];done)|(simp_all[bJ,ag,au,adv,Lv.zero,Sp.zero,Rg.zero,Ct.zero];done)|fail "end")|(refine⟨true,({s with kind:=5,name:=x},k),?_,rfl,(by rw[hc];exact ar rfl),ar rfl⟩;simp_all[bJ,ag,au];done)
theorem tF (s:ByteArray) (ws:List ByteArray):0≤cc s ws∧cc s ws≤ws.length:=by
 unfold cc
 split
 ·rename_i i h
  have:=(List.findIdx?_eq_some_iff_getElem.1 h).1
  omega
 ·omega
theorem yf (hf:Fine l) (s:Stm) (w:ByteArray):MX Tryz.prog 183 [(0,psO k c d),(1001,stO s)] [.c (.ptr 0 0),.c (.ptr 1001 0),.c (sS w)] (dE w s k) (fun b=>.c (sB b)) (fun b=>[(0,psO b.2 c d),(1001,stO b.1)]) pvS:=by
 have n1:=q8 w ruleW (by decide)
 have n2:=q8 w transW (by decide)
 have a:=fun k=>(se (k:=k) (c:=c) (d:=d) hf).ok _ _ rfl
 have g1:=(tF w ruleW).1
 have g2:=(tF w transW).1
 unfold dE
 generalize cc w ruleW=r at *
 generalize cc w transW=t at *
 unfold ruleW at n1
 unfold transW at n2
 by_cases hr:r=0
 ·subst hr
  by_cases ht:t=0
  ·subst ht
   simp only[Int.lt_irrefl,if_false]
   refine MXA (fn:=Tryz.f183) Tryz.call183 Tryz.func183 rfl Tryz.ntmps183 Tryz.results183 rfl rfl ?_
   repeat'(first|(with_reducible first|apply AW.seq|apply AW.block|apply AW.skip|apply AW.ret|apply aa|apply ak|apply aF|apply aw|apply aL|apply bI|apply y_e|refine ae ?_)|((with_reducible apply ai);first|refine t_v AS.v ?_|refine t_v (by first|exact aj (hP:=n1)|exact aj (hP:=n2)) ?_|refine bm (hP:=dq hf) (k1:=fun x k h=>?_) (k2:=fun e h σx=>?_)|refine bm (hP:=mZ hf _) (k1:=fun x k h=>?_) (k2:=fun e h σx=>?_)|refine bm (hP:=rP hf) (k1:=fun x k h=>?_) (k2:=fun e h σx=>?_)|refine bm (hP:=pF hf _) (k1:=fun x k h=>?_) (k2:=fun e h σx=>?_)|refine qL (hP:=rm hf _ _) (k1:=fun x k h=>?_) (k2:=fun e h σx=>?_))|((with_reducible apply ay);refine t_s AS.s ?_)|((with_reducible refine aq ?_);first|refine aJ ?_|(refine ah (fun hc=>?_) (fun hc=>?_)))|((with_reducible refine aD ?_);first|(with_reducible refine aS ?_)|refine l_d (k:=?_))|fail)
   all_goals(first|(refine⟨_,(_,_),?_,(by rfl),(by exact ar rfl),(by exact ar rfl)⟩;simp_all[ag,au,adv,Lv.zero,Sp.zero,Rg.zero,Ct.zero];done)|(simp_all[ag,au,adv,Lv.zero,Sp.zero,Rg.zero,Ct.zero];done)|fail "end")
  ·have ht:0<t:=by omega
   simp only[Int.lt_irrefl,if_false,ht,if_true]
   refine MXA (fn:=Tryz.f183) Tryz.call183 Tryz.func183 rfl Tryz.ntmps183 Tryz.results183 rfl rfl ?_
   repeat'(first|(with_reducible first|apply AW.seq|apply AW.skip|apply AW.ret|apply aa|apply ak|apply aF|apply y_e|refine ae ?_)|((with_reducible apply ai);first|refine t_v AS.v ?_|refine t_v (by first|exact aj (hP:=n1)|exact aj (hP:=n2)|exact aj (hP:=sF _)|exact az (hP:=bQ)) ?_|refine t_w AS.w ?_|refine t_w (by exact av (hP:=a _)) ?_|refine bm (hP:=dq hf) (k1:=fun x k h=>?_) (k2:=fun e h σx=>?_)|refine qL (hP:=rm hf _ _) (k1:=fun x k h=>?_) (k2:=fun e h σx=>?_)|refine t_q (hP:=dD _ _) (k:=fun σx=>?_))|((with_reducible apply aK);refine t_m (hs:=fun hg=>AS.v) (k:=?_))|((with_reducible apply ay);refine t_s AS.s ?_)|((with_reducible refine aq ?_);first|refine aJ ?_|(refine ah (fun hc=>?_) (fun hc=>?_);all_goals(try(exfalso;simp[*] at hc;done))))|((with_reducible refine aD ?_);first|(with_reducible refine aS ?_)|refine l_d (k:=?_))|fail)
   case refine_1.refine_1.refine_1.refine_1.refine_2=>
    have hk3:(tk k).kind=3:=by simp_all
    have ht1:t=1:=by simp_all
    have ea:adv (decide ((tk k).kind≠0)) k=nx k:=by rw[hk3];rfl
    rw[ea]
    refine⟨_,(_,nx k),?_,rfl,ar rfl,ar rfl⟩
    clear ea
    simp_all[ag]
   all_goals(first|(refine⟨_,(_,_),?_,(by rfl),(by exact ar rfl),(by exact ar rfl)⟩;simp_all[ag,au,adv,Lv.zero,Sp.zero,Rg.zero,Ct.zero];done)|(simp_all[ag,au,adv,Lv.zero,Sp.zero,Rg.zero,Ct.zero];done)|fail "end")
 ·have hr:0<r:=by omega
  simp only[hr,if_true]
  refine MXA (fn:=Tryz.f183) Tryz.call183 Tryz.func183 rfl Tryz.ntmps183 Tryz.results183 rfl rfl ?_
  repeat'(first|(with_reducible first|apply AW.seq|apply AW.ret|apply aa|apply ak|apply aF|apply y_e|refine ae ?_)|((with_reducible apply ai);first|refine t_v AS.v ?_|refine t_v (by exact aj (hP:=n1)) ?_|refine bm (hP:=mZ hf _) (k1:=fun x k h=>?_) (k2:=fun e h σx=>?_)|refine qL (hP:=rm hf _ _) (k1:=fun x k h=>?_) (k2:=fun e h σx=>?_))|((with_reducible apply ay);refine t_s AS.s ?_)|((with_reducible refine aq ?_);((refine ah (fun hc=>?_) (fun hc=>?_);all_goals(try(exfalso;simp[*] at hc;done)))))|((with_reducible refine aD ?_);first|(with_reducible refine aS ?_)|refine l_d (k:=?_))|fail)
  all_goals(first|(refine⟨_,(_,_),?_,(by rfl),(by exact ar rfl),(by exact ar rfl)⟩;simp_all[ag,au,adv,Lv.zero,Sp.zero,Rg.zero,Ct.zero];done)|(simp_all[ag,au,adv,Lv.zero,Sp.zero,Rg.zero,Ct.zero];done)|fail "end")
theorem ui (hf:Fine l) (s:Stm) (w:ByteArray):MX Tryz.prog 184 [(0,psO k c d),(1001,stO s)] [.c (.ptr 0 0),.c (.ptr 1001 0),.c (sS w)] (dw w s k) (fun _=>.tup []) (fun b=>[(0,psO b.2 c d),(1001,stO b.1)]) pvS:=by
 refine MXA (fn:=Tryz.f184) Tryz.call184 Tryz.func184 rfl Tryz.ntmps184 Tryz.results184 rfl rfl ?_
 repeat'((fail_if_success (with_reducible refine bA 4 ?_));(fail_if_success (with_reducible refine bA 19 ?_));(first|(with_reducible first|apply AW.seq|apply AW.block|apply AW.skip|apply aa|apply aF|apply aw|apply bI|apply y_e|refine ae ?_)|((with_reducible apply ai);first|refine t_v AS.v ?_|refine bm (hP:=mU hf _ (by decide)) (k1:=fun x k h=>?_) (k2:=fun e h σx=>?_)|refine bm (hP:=dq hf) (k1:=fun x k h=>?_) (k2:=fun e h σx=>?_)|refine bm (hP:=mZ hf _) (k1:=fun x k h=>?_) (k2:=fun e h σx=>?_)|refine bm (hP:=vp hf) (k1:=fun x k h=>?_) (k2:=fun e h σx=>?_)|refine bm (hP:=CH hf) (k1:=fun x k h=>?_) (k2:=fun e h σx=>?_))|((with_reducible apply ay);refine t_s AS.s ?_)|((with_reducible refine aq ?_);((refine ah (fun hc=>?_) (fun hc=>?_))))|((with_reducible refine aD ?_);first|(with_reducible refine aS ?_)|refine ny (k:=?_))|fail))
 case refine_1.refine_1=>
  have hb:=iv hf h
  have hb1:=hb.1
  have hb2:x<8:=hb.2.1
  rw[wrap64 (by omega) (by omega)]
  clear hb
  by_cases hx:x=0
  ·subst hx
   repeat'(first|(with_reducible first|apply AW.seq|apply aa|apply aw|apply bI|apply y_e|refine ae ?_)|((with_reducible apply ai);first|refine t_v AS.v ?_|refine bm (hP:=dq hf) (k1:=fun x k h=>?_) (k2:=fun e h σx=>?_)|refine bm (hP:=k9 hf) (k1:=fun x k h=>?_) (k2:=fun e h σx=>?_))|((with_reducible apply ay);refine t_s AS.s ?_)|((with_reducible refine aq ?_);refine aI ?_)|((with_reducible refine aD ?_);first|(with_reducible refine aS ?_)|refine ny (k:=?_))|fail)
   all_goals(first|(refine⟨(),(_,_),?_,(by rfl),(by exact ar rfl),(by exact ar rfl)⟩;simp_all[dw,gX,ag,au,adv,Lv.zero,Sp.zero,Rg.zero,Ct.zero];done)|(simp_all[dw,gX,ag,au,adv,Lv.zero,Sp.zero,Rg.zero,Ct.zero];done)|fail "end")
  ·repeat'(first|(with_reducible first|apply AW.seq|apply aa|apply aw|apply bI|apply y_e|refine ae ?_)|((with_reducible apply ai);first|refine t_v AS.v ?_|refine bm (hP:=pX hf) (k1:=fun x k h=>?_) (k2:=fun e h σx=>?_))|((with_reducible apply ay);refine t_s AS.s ?_)|((with_reducible refine aq ?_);((refine ah (fun hc=>?_) (fun hc=>?_);all_goals(try(exfalso;revert hc;simp;omega)))))|((with_reducible refine aD ?_);first|(with_reducible refine aS ?_)|refine ny (k:=?_))|fail)
   all_goals(first|(refine⟨(),(_,_),?_,(by rfl),(by exact ar rfl),(by exact ar rfl)⟩;simp_all[dw,gX,ag,au,adv,Lv.zero,Sp.zero,Rg.zero,Ct.zero];done)|(simp_all[dw,gX,ag,au,adv,Lv.zero,Sp.zero,Rg.zero,Ct.zero];done)|fail "end")
 case refine_2.refine_2.refine_2.refine_2.refine_1.refine_1.refine_1=>
  have hb:=iv hf h
  have hb1:=hb.1
  have hb2:x<3:=hb.2.1
  rw[wrap64 (by omega) (by omega)]
  clear hb
  repeat'(first|(with_reducible first|apply AW.seq|apply aa|apply aF|apply aw|apply bI|apply y_e|refine ae ?_)|((with_reducible apply ai);first|refine t_v AS.v ?_|refine bm (hP:=mZ hf _) (k1:=fun x k h=>?_) (k2:=fun e h σx=>?_))|((with_reducible apply ay);refine t_s AS.s ?_)|((with_reducible refine aD ?_);first|(with_reducible refine aS ?_)|refine ny (k:=?_))|fail)
  all_goals(first|(refine⟨(),(_,_),?_,(by rfl),(by exact ar rfl),(by exact ar rfl)⟩;simp_all[dw,iK,ag,au,adv,Lv.zero,Sp.zero,Rg.zero,Ct.zero];done)|(simp_all[dw,iK,ag,au,adv,Lv.zero,Sp.zero,Rg.zero,Ct.zero];done)|fail "end")
 all_goals(first|(refine⟨(),(_,_),?_,(by rfl),(by exact ar rfl),(by exact ar rfl)⟩;simp_all[dw,gX,eU,iK,ag,au,adv,Lv.zero,Sp.zero,Rg.zero,Ct.zero];done)|(simp_all[dw,gX,eU,iK,ag,au,adv,Lv.zero,Sp.zero,Rg.zero,Ct.zero];done)|fail "end")
end
end Am
end Go.Proofs.YtkpodagbefnebaaGreatDoor
