import Derived.Test.YtkpodagbefnebaaGreatDoorYg14
set_option linter.unusedSimpArgs false
set_option linter.unusedVariables false
set_option linter.unusedSectionVars false
namespace Go.Proofs.YtkpodagbefnebaaGreatDoor
namespace Am
open Tk Go.RowKit
set_option maxRecDepth 100000
set_option maxHeartbeats 4000000
abbrev stO (s:Stm):HO:=.obj 69 (stC s)
section
variable {l:List Tok} {k k':Ix l} {c d:Int}
theorem ue (s:ByteArray) (ws:List ByteArray) (hw:ws.length≤100):Pure Tryz.prog 252 [.c (sS s),.c (bW ws)] (.c (sI (jH s ws))):=by
 refine fn2 (fn:=Tryz.f252) Tryz.call252 Tryz.func252 rfl Tryz.ntmps252 Tryz.results252 rfl (by rfl) ?_
 repeat'(first|(with_reducible first|apply AW.seq|apply AW.block|apply AW.skip|apply AW.ret|apply ae|apply ar|apply ay|apply aJ|apply y_e|refine ag ?_)|((with_reducible apply ak);refine t_v AS.v ?_)|((with_reducible refine av ?_);((refine aj (fun hc=>?_) (fun hc=>?_);all_goals(try(exfalso;simp[*] at hc;done)))))|((with_reducible refine aF ?_);refine k_i ?_)|fail)
 simp only[List.length_map]
 refine AW.loop (fun m σ=>∃ j,m=ws.length - j∧j≤ws.length∧(∀ x∈ws.take j,decide (x=s)=false)∧σ=mk [(0,.c (sS s)),(7,.c (bW ws)),(8,.c (sI ws.length)),(9,.c (sI j))] []) ws.length ?_ ?_
 ·exact⟨_,wkA,0,rfl,Nat.zero_le _,by simp,rfl⟩
 rintro m σ ⟨j,rfl,hj,ha,rfl⟩
 by_cases hlt:j<ws.length
 ·obtain ⟨w,hw⟩:∃ w,ws[j]? =some w:=⟨_,List.getElem?_eq_getElem hlt⟩
  repeat'(first|(with_reducible first|apply AW.seq|apply AW.block|apply AW.skip|apply AW.ret|apply ae|apply ar|apply ay|apply aJ|apply y_e|refine ag ?_)|((with_reducible apply ak);refine t_v AS.v ?_)|((with_reducible refine av ?_);((refine aj (fun hc=>?_) (fun hc=>?_);all_goals(try(exfalso;simp[*] at hc;done)))))|((with_reducible refine aF ?_);refine k_i ?_)|fail)
  ·rw[jH,xE hw ha (by simpa using hc)]
  ·exact⟨_,_,(show ws.length - (j+1)<ws.length - j by omega),wkA,j+1,rfl,hlt,qK hw ha (by simpa using hc),rfl⟩
 ·repeat'(first|(with_reducible first|apply AW.seq|apply AW.ret|apply AW.exit|apply ae|apply aG|apply aT|apply y_e|refine ag ?_)|((with_reducible apply ak);refine t_v AS.v ?_)|((with_reducible refine av ?_);((refine aj (fun hc=>?_) (fun hc=>?_);all_goals(try(exfalso;simp[*] at hc;done)))))|((with_reducible refine aF ?_);refine k_i ?_)|fail)
  rw[jH,xF (by omega) ha]
theorem w9 (hf:Fine l) (s:Stm) (self:Bool):MX Tryz.prog 253 [(0,psO k c d),(1001,stO s)] [.c (.ptr 0 0),.c (.ptr 1001 0),.c (sB self)] (gr self s k) (fun _=>.tup []) (fun b=>[(0,psO b.2 c d),(1001,stO b.1)]) pvS:=by
 refine MXA (fn:=Tryz.f253) Tryz.call253 Tryz.func253 rfl Tryz.ntmps253 Tryz.results253 rfl rfl ?_
 repeat'(first|(with_reducible first|apply AW.seq|apply ae|apply aD|apply y_e|refine ag ?_)|((with_reducible apply ak);first|refine t_v AS.v ?_|refine bB (hP:=pB hf _) (k1:=fun x k h=>?_) (k2:=fun e h σx=>?_)|refine bB (hP:=jd hf _) (k1:=fun x k h=>?_) (k2:=fun e h σx=>?_))|((with_reducible apply aX);refine t_s AS.s ?_)|((with_reducible refine bj ?_);first|(with_reducible refine aW ?_)|refine oz (k:=?_))|fail)
 all_goals(first|(refine⟨(),(_,_),?_,(by rfl),(by exact aC rfl),(by exact aC rfl)⟩;simp_all[gr,aa,aq,adv,Lv.zero,Sp.zero,Rg.zero,Ct.zero];done)|(simp_all[gr,aa,aq,adv,Lv.zero,Sp.zero,Rg.zero,Ct.zero];done)|fail "end")
theorem pN (hf:Fine l) (s:Stm) (w:ByteArray) (hw:w≠⟨#[116,121,112,101]⟩):MX Tryz.prog 182 [(0,psO k c d),(1001,stO s)] [.c (.ptr 0 0),.c (.ptr 1001 0),.c (sS w)] (bM w s k) (fun b=>.c (sB b)) (fun b=>[(0,psO b.2 c d),(1001,stO b.1)]) pvS:=by
 have a1:=fun k=>(dq (k:=k) (c:=c) (d:=d) hf ⟨#[116,121,112,101,115]⟩).ok _ _ rfl
 refine MXA (fn:=Tryz.f182) Tryz.call182 Tryz.func182 rfl Tryz.ntmps182 Tryz.results182 rfl rfl ?_
 repeat'(first|(with_reducible first|apply AW.seq|apply AW.block|apply AW.skip|apply AW.ret|apply ae|apply ar|apply aD|apply ay|apply aJ|apply ca|apply y_e|refine ag ?_)|((with_reducible apply ak);first|refine t_v AS.v ?_|refine t_w (by exact cf (hP:=a1 _)) ?_|refine bB (hP:=dZ hf) (k1:=fun x k h=>?_) (k2:=fun e h σx=>?_)|refine bB (hP:=l8 hf) (k1:=fun x k h=>?_) (k2:=fun e h σx=>?_)|refine bB (hP:=tM hf) (k1:=fun x k h=>?_) (k2:=fun e h σx=>?_)|refine bB (hP:=pB hf _) (k1:=fun x k h=>?_) (k2:=fun e h σx=>?_)|refine bB (hP:=oI hf _) (k1:=fun x k h=>?_) (k2:=fun e h σx=>?_)|refine bB (hP:=xM hf) (k1:=fun x k h=>?_) (k2:=fun e h σx=>?_)|refine bB (hP:=wy hf) (k1:=fun x k h=>?_) (k2:=fun e h σx=>?_)|refine bB (hP:=oc hf _ (by decide)) (k1:=fun x k h=>?_) (k2:=fun e h σx=>?_))|((with_reducible apply aX);refine t_s AS.s ?_)|((with_reducible refine av ?_);((refine aj (fun hc=>?_) (fun hc=>?_);all_goals(try(exfalso;simp[*] at hc;done)))))|((with_reducible refine bj ?_);first|(with_reducible refine aW ?_)|refine l_d (k:=?_))|fail)
 all_goals first|(first|(refine⟨_,(_,_),?_,(by rfl),(by exact aC rfl),(by exact aC rfl)⟩;simp_all[bM,aa,aq,adv,Lv.zero,Sp.zero,Rg.zero,Ct.zero];done)|(simp_all[bM,aa,aq,adv,Lv.zero,Sp.zero,Rg.zero,Ct.zero];done)|fail "end")|(refine⟨true,({s with kind:=5,name:=x},k),?_,rfl,(by rw[hc];exact aC rfl),aC rfl⟩;simp_all[bM,aa,aq];done)
theorem xW (s:ByteArray) (ws:List ByteArray):0≤jH s ws∧jH s ws≤ws.length:=by
 unfold jH
 split
 ·rename_i i h
  have:=(List.findIdx?_eq_some_iff_getElem.1 h).1
  omega
 ·omega
theorem Cc (hf:Fine l) (s:Stm) (w:ByteArray):MX Tryz.prog 183 [(0,psO k c d),(1001,stO s)] [.c (.ptr 0 0),.c (.ptr 1001 0),.c (sS w)] (dh w s k) (fun b=>.c (sB b)) (fun b=>[(0,psO b.2 c d),(1001,stO b.1)]) pvS:=by
 have n1:=ue w mV (by decide)
 have n2:=ue w jl (by decide)
 have a:=fun k=>(wF (k:=k) (c:=c) (d:=d) hf).ok _ _ rfl
 have g1:=(xW w mV).1
 have g2:=(xW w jl).1
 unfold dh
 generalize jH w mV=r at *
 generalize jH w jl=t at *
 unfold mV at n1
 unfold jl at n2
 by_cases hr:r=0
 ·subst hr
  by_cases ht:t=0
  ·subst ht
   simp only[Int.lt_irrefl,if_false]
   refine MXA (fn:=Tryz.f183) Tryz.call183 Tryz.func183 rfl Tryz.ntmps183 Tryz.results183 rfl rfl ?_
   repeat'(first|(with_reducible first|apply AW.seq|apply AW.block|apply AW.skip|apply AW.ret|apply ae|apply ar|apply aD|apply ay|apply aJ|apply ca|apply y_e|refine ag ?_)|((with_reducible apply ak);first|refine t_v AS.v ?_|refine t_v (by first|exact ah (hP:=n1)|exact ah (hP:=n2)) ?_|refine bB (hP:=dZ hf) (k1:=fun x k h=>?_) (k2:=fun e h σx=>?_)|refine bB (hP:=pB hf _) (k1:=fun x k h=>?_) (k2:=fun e h σx=>?_)|refine bB (hP:=wy hf) (k1:=fun x k h=>?_) (k2:=fun e h σx=>?_)|refine bB (hP:=r4 hf _) (k1:=fun x k h=>?_) (k2:=fun e h σx=>?_)|refine uZ (hP:=w9 hf _ _) (k1:=fun x k h=>?_) (k2:=fun e h σx=>?_))|((with_reducible apply aX);refine t_s AS.s ?_)|((with_reducible refine av ?_);first|refine cg ?_|(refine aj (fun hc=>?_) (fun hc=>?_)))|((with_reducible refine bj ?_);first|(with_reducible refine aW ?_)|refine l_d (k:=?_))|fail)
   all_goals(first|(refine⟨_,(_,_),?_,(by rfl),(by exact aC rfl),(by exact aC rfl)⟩;simp_all[aa,aq,adv,Lv.zero,Sp.zero,Rg.zero,Ct.zero];done)|(simp_all[aa,aq,adv,Lv.zero,Sp.zero,Rg.zero,Ct.zero];done)|fail "end")
  ·have ht:0<t:=by omega
   simp only[Int.lt_irrefl,if_false,ht,if_true]
   refine MXA (fn:=Tryz.f183) Tryz.call183 Tryz.func183 rfl Tryz.ntmps183 Tryz.results183 rfl rfl ?_
   repeat'(first|(with_reducible first|apply AW.seq|apply AW.skip|apply AW.ret|apply ae|apply ar|apply aD|apply y_e|refine ag ?_)|((with_reducible apply ak);first|refine t_v AS.v ?_|refine t_v (by first|exact ah (hP:=n1)|exact ah (hP:=n2)|exact ah (hP:=wu _)|exact bm (hP:=cr)) ?_|refine t_w AS.w ?_|refine t_w (by exact cf (hP:=a _)) ?_|refine bB (hP:=dZ hf) (k1:=fun x k h=>?_) (k2:=fun e h σx=>?_)|refine uZ (hP:=w9 hf _ _) (k1:=fun x k h=>?_) (k2:=fun e h σx=>?_)|refine t_q (hP:=eC _ _) (k:=fun σx=>?_))|((with_reducible apply bt);refine t_m (hs:=fun hg=>AS.v) (k:=?_))|((with_reducible apply aX);refine t_s AS.s ?_)|((with_reducible refine av ?_);first|refine cg ?_|(refine aj (fun hc=>?_) (fun hc=>?_);all_goals(try(exfalso;simp[*] at hc;done))))|((with_reducible refine bj ?_);first|(with_reducible refine aW ?_)|refine l_d (k:=?_))|fail)
   case refine_1.refine_1.refine_1.refine_1.refine_2=>
    have hk3:(tk k).kind=3:=by simp_all
    have ht1:t=1:=by simp_all
    have ea:adv (decide ((tk k).kind≠0)) k=nx k:=by rw[hk3];rfl
    rw[ea]
    refine⟨_,(_,nx k),?_,rfl,aC rfl,aC rfl⟩
    clear ea
    simp_all[aa]
   all_goals(first|(refine⟨_,(_,_),?_,(by rfl),(by exact aC rfl),(by exact aC rfl)⟩;simp_all[aa,aq,adv,Lv.zero,Sp.zero,Rg.zero,Ct.zero];done)|(simp_all[aa,aq,adv,Lv.zero,Sp.zero,Rg.zero,Ct.zero];done)|fail "end")
 ·have hr:0<r:=by omega
  simp only[hr,if_true]
  refine MXA (fn:=Tryz.f183) Tryz.call183 Tryz.func183 rfl Tryz.ntmps183 Tryz.results183 rfl rfl ?_
  repeat'(first|(with_reducible first|apply AW.seq|apply AW.ret|apply ae|apply ar|apply aD|apply y_e|refine ag ?_)|((with_reducible apply ak);first|refine t_v AS.v ?_|refine t_v (by exact ah (hP:=n1)) ?_|refine bB (hP:=pB hf _) (k1:=fun x k h=>?_) (k2:=fun e h σx=>?_)|refine uZ (hP:=w9 hf _ _) (k1:=fun x k h=>?_) (k2:=fun e h σx=>?_))|((with_reducible apply aX);refine t_s AS.s ?_)|((with_reducible refine av ?_);((refine aj (fun hc=>?_) (fun hc=>?_);all_goals(try(exfalso;simp[*] at hc;done)))))|((with_reducible refine bj ?_);first|(with_reducible refine aW ?_)|refine l_d (k:=?_))|fail)
  all_goals(first|(refine⟨_,(_,_),?_,(by rfl),(by exact aC rfl),(by exact aC rfl)⟩;simp_all[aa,aq,adv,Lv.zero,Sp.zero,Rg.zero,Ct.zero];done)|(simp_all[aa,aq,adv,Lv.zero,Sp.zero,Rg.zero,Ct.zero];done)|fail "end")
theorem y4 (hf:Fine l) (s:Stm) (w:ByteArray):MX Tryz.prog 184 [(0,psO k c d),(1001,stO s)] [.c (.ptr 0 0),.c (.ptr 1001 0),.c (sS w)] (cW w s k) (fun _=>.tup []) (fun b=>[(0,psO b.2 c d),(1001,stO b.1)]) pvS:=by
 refine MXA (fn:=Tryz.f184) Tryz.call184 Tryz.func184 rfl Tryz.ntmps184 Tryz.results184 rfl rfl ?_
 repeat'((fail_if_success (with_reducible refine ch 4 ?_));(fail_if_success (with_reducible refine ch 19 ?_));(first|(with_reducible first|apply AW.seq|apply AW.block|apply AW.skip|apply ae|apply aD|apply ay|apply ca|apply y_e|refine ag ?_)|((with_reducible apply ak);first|refine t_v AS.v ?_|refine bB (hP:=oc hf _ (by decide)) (k1:=fun x k h=>?_) (k2:=fun e h σx=>?_)|refine bB (hP:=dZ hf) (k1:=fun x k h=>?_) (k2:=fun e h σx=>?_)|refine bB (hP:=pB hf _) (k1:=fun x k h=>?_) (k2:=fun e h σx=>?_)|refine bB (hP:=yD hf) (k1:=fun x k h=>?_) (k2:=fun e h σx=>?_)|refine bB (hP:=IH hf) (k1:=fun x k h=>?_) (k2:=fun e h σx=>?_))|((with_reducible apply aX);refine t_s AS.s ?_)|((with_reducible refine av ?_);((refine aj (fun hc=>?_) (fun hc=>?_))))|((with_reducible refine bj ?_);first|(with_reducible refine aW ?_)|refine oz (k:=?_))|fail))
 case refine_1.refine_1=>
  have hb:=iU hf h
  have hb1:=hb.1
  have hb2:x<8:=hb.2.1
  rw[wrap64 (by omega) (by omega)]
  clear hb
  by_cases hx:x=0
  ·subst hx
   repeat'(first|(with_reducible first|apply AW.seq|apply ae|apply ay|apply ca|apply y_e|refine ag ?_)|((with_reducible apply ak);first|refine t_v AS.v ?_|refine bB (hP:=dZ hf) (k1:=fun x k h=>?_) (k2:=fun e h σx=>?_)|refine bB (hP:=l8 hf) (k1:=fun x k h=>?_) (k2:=fun e h σx=>?_))|((with_reducible apply aX);refine t_s AS.s ?_)|((with_reducible refine av ?_);refine cO ?_)|((with_reducible refine bj ?_);first|(with_reducible refine aW ?_)|refine oz (k:=?_))|fail)
   all_goals(first|(refine⟨(),(_,_),?_,(by rfl),(by exact aC rfl),(by exact aC rfl)⟩;simp_all[cW,symW,aa,aq,adv,Lv.zero,Sp.zero,Rg.zero,Ct.zero];done)|(simp_all[cW,symW,aa,aq,adv,Lv.zero,Sp.zero,Rg.zero,Ct.zero];done)|fail "end")
  ·repeat'(first|(with_reducible first|apply AW.seq|apply ae|apply ay|apply ca|apply y_e|refine ag ?_)|((with_reducible apply ak);first|refine t_v AS.v ?_|refine bB (hP:=tM hf) (k1:=fun x k h=>?_) (k2:=fun e h σx=>?_))|((with_reducible apply aX);refine t_s AS.s ?_)|((with_reducible refine av ?_);((refine aj (fun hc=>?_) (fun hc=>?_);all_goals(try(exfalso;revert hc;simp;omega)))))|((with_reducible refine bj ?_);first|(with_reducible refine aW ?_)|refine oz (k:=?_))|fail)
   all_goals(first|(refine⟨(),(_,_),?_,(by rfl),(by exact aC rfl),(by exact aC rfl)⟩;simp_all[cW,symW,aa,aq,adv,Lv.zero,Sp.zero,Rg.zero,Ct.zero];done)|(simp_all[cW,symW,aa,aq,adv,Lv.zero,Sp.zero,Rg.zero,Ct.zero];done)|fail "end")
 case refine_2.refine_2.refine_2.refine_2.refine_1.refine_1.refine_1=>
  have hb:=iU hf h
  have hb1:=hb.1
  have hb2:x<3:=hb.2.1
  rw[wrap64 (by omega) (by omega)]
  clear hb
  repeat'(first|(with_reducible first|apply AW.seq|apply ae|apply aD|apply ay|apply ca|apply y_e|refine ag ?_)|((with_reducible apply ak);first|refine t_v AS.v ?_|refine bB (hP:=pB hf _) (k1:=fun x k h=>?_) (k2:=fun e h σx=>?_))|((with_reducible apply aX);refine t_s AS.s ?_)|((with_reducible refine bj ?_);first|(with_reducible refine aW ?_)|refine oz (k:=?_))|fail)
  all_goals(first|(refine⟨(),(_,_),?_,(by rfl),(by exact aC rfl),(by exact aC rfl)⟩;simp_all[cW,asrW,aa,aq,adv,Lv.zero,Sp.zero,Rg.zero,Ct.zero];done)|(simp_all[cW,asrW,aa,aq,adv,Lv.zero,Sp.zero,Rg.zero,Ct.zero];done)|fail "end")
 all_goals(first|(refine⟨(),(_,_),?_,(by rfl),(by exact aC rfl),(by exact aC rfl)⟩;simp_all[cW,symW,fileW,asrW,aa,aq,adv,Lv.zero,Sp.zero,Rg.zero,Ct.zero];done)|(simp_all[cW,symW,fileW,asrW,aa,aq,adv,Lv.zero,Sp.zero,Rg.zero,Ct.zero];done)|fail "end")
end
end Am
end Go.Proofs.YtkpodagbefnebaaGreatDoor
