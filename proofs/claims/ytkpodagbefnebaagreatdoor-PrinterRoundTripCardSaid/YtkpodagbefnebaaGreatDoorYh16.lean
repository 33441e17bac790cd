import Derived.Test.YtkpodagbefnebaaGreatDoorYh15
set_option linter.unusedSimpArgs false
set_option linter.unusedVariables false
set_option linter.unusedSectionVars false
namespace Go.Proofs.YtkpodagbefnebaaGreatDoor
namespace Am
open Tk Go.RowKit
set_option maxRecDepth 100000
set_option maxHeartbeats 4000000
abbrev stO (s:Stm):HO:=.obj 69 (stC s)
section
variable {l:List Tok} {k k':Ix l} {c d:Int}
theorem vg (s:ByteArray) (ws:List ByteArray) (hw:ws.length≤100):Pure Tryz.prog 252 [.c (sS s),.c (bA ws)] (.c (sI (kg s ws))):=by
 refine fn2 (fn:=Tryz.f252) Tryz.call252 Tryz.func252 rfl Tryz.ntmps252 Tryz.results252 rfl (by rfl) ?_
 repeat'(first|(with_reducible first|apply AW.seq|apply AW.block|apply AW.skip|apply AW.ret|apply ae|apply aq|apply aw|apply aG|apply y_e|refine ah ?_)|((with_reducible apply ak);refine t_v AS.v ?_)|((with_reducible refine au ?_);((refine aj (fun hc=>?_) (fun hc=>?_);all_goals(try(exfalso;simp[*] at hc;done)))))|((with_reducible refine aA ?_);refine k_i ?_)|fail)
 simp only[List.length_map]
 refine AW.loop (fun m σ=>∃ j,m=ws.length - j∧j≤ws.length∧(∀ x∈ws.take j,decide (x=s)=false)∧σ=mk [(0,.c (sS s)),(7,.c (bA ws)),(8,.c (sI ws.length)),(9,.c (sI j))] []) ws.length ?_ ?_
 ·exact⟨_,wkA,0,rfl,Nat.zero_le _,by simp,rfl⟩
 rintro m σ ⟨j,rfl,hj,ha,rfl⟩
 by_cases hlt:j<ws.length
 ·obtain ⟨w,hw⟩:∃ w,ws[j]? =some w:=⟨_,List.getElem?_eq_getElem hlt⟩
  repeat'(first|(with_reducible first|apply AW.seq|apply AW.block|apply AW.skip|apply AW.ret|apply ae|apply aq|apply aw|apply aG|apply y_e|refine ah ?_)|((with_reducible apply ak);refine t_v AS.v ?_)|((with_reducible refine au ?_);((refine aj (fun hc=>?_) (fun hc=>?_);all_goals(try(exfalso;simp[*] at hc;done)))))|((with_reducible refine aA ?_);refine k_i ?_)|fail)
  ·rw[kg,yJ hw ha (by simpa using hc)]
  ·exact⟨_,_,(show ws.length - (j+1)<ws.length - j by omega),wkA,j+1,rfl,hlt,rE hw ha (by simpa using hc),rfl⟩
 ·repeat'(first|(with_reducible first|apply AW.seq|apply AW.ret|apply AW.exit|apply ae|apply aJ|apply aW|apply y_e|refine ah ?_)|((with_reducible apply ak);refine t_v AS.v ?_)|((with_reducible refine au ?_);((refine aj (fun hc=>?_) (fun hc=>?_);all_goals(try(exfalso;simp[*] at hc;done)))))|((with_reducible refine aA ?_);refine k_i ?_)|fail)
  rw[kg,yK (by omega) ha]
theorem xo (hf:Fine l) (s:Stm) (self:Bool):MX Tryz.prog 253 [(0,psO k c d),(1001,stO s)] [.c (.ptr 0 0),.c (.ptr 1001 0),.c (sB self)] (gB self s k) (fun _=>.tup []) (fun b=>[(0,psO b.2 c d),(1001,stO b.1)]) pvS:=by
 refine MXA (fn:=Tryz.f253) Tryz.call253 Tryz.func253 rfl Tryz.ntmps253 Tryz.results253 rfl rfl ?_
 repeat'(first|(with_reducible first|apply AW.seq|apply ae|apply aE|apply y_e|refine ah ?_)|((with_reducible apply ak);first|refine t_v AS.v ?_|refine bG (hP:=rC hf _) (k1:=fun x k h=>?_) (k2:=fun e h σx=>?_)|refine bG (hP:=jA hf _) (k1:=fun x k h=>?_) (k2:=fun e h σx=>?_))|((with_reducible apply aV);refine t_s AS.s ?_)|((with_reducible refine bo ?_);first|(with_reducible refine aY ?_)|refine qx (k:=?_))|fail)
 all_goals(first|(refine⟨(),(_,_),?_,(by rfl),(by exact aD rfl),(by exact aD rfl)⟩;simp_all[gB,aa,ar,adv,Lv.zero,Sp.zero,Rg.zero,Ct.zero];done)|(simp_all[gB,aa,ar,adv,Lv.zero,Sp.zero,Rg.zero,Ct.zero];done)|fail "end")
theorem qv (hf:Fine l) (s:Stm) (w:ByteArray) (hw:w≠⟨#[116,121,112,101]⟩):MX Tryz.prog 182 [(0,psO k c d),(1001,stO s)] [.c (.ptr 0 0),.c (.ptr 1001 0),.c (sS w)] (bR w s k) (fun b=>.c (sB b)) (fun b=>[(0,psO b.2 c d),(1001,stO b.1)]) pvS:=by
 have a1:=fun k=>(du (k:=k) (c:=c) (d:=d) hf ⟨#[116,121,112,101,115]⟩).ok _ _ rfl
 refine MXA (fn:=Tryz.f182) Tryz.call182 Tryz.func182 rfl Tryz.ntmps182 Tryz.results182 rfl rfl ?_
 repeat'(first|(with_reducible first|apply AW.seq|apply AW.block|apply AW.skip|apply AW.ret|apply ae|apply aq|apply aE|apply aw|apply aG|apply cf|apply y_e|refine ah ?_)|((with_reducible apply ak);first|refine t_v AS.v ?_|refine t_w (by exact ch (hP:=a1 _)) ?_|refine bG (hP:=eu hf) (k1:=fun x k h=>?_) (k2:=fun e h σx=>?_)|refine bG (hP:=lS hf) (k1:=fun x k h=>?_) (k2:=fun e h σx=>?_)|refine bG (hP:=uQ hf) (k1:=fun x k h=>?_) (k2:=fun e h σx=>?_)|refine bG (hP:=rC hf _) (k1:=fun x k h=>?_) (k2:=fun e h σx=>?_)|refine bG (hP:=py hf _) (k1:=fun x k h=>?_) (k2:=fun e h σx=>?_)|refine bG (hP:=yR hf) (k1:=fun x k h=>?_) (k2:=fun e h σx=>?_)|refine bG (hP:=xM hf) (k1:=fun x k h=>?_) (k2:=fun e h σx=>?_)|refine bG (hP:=oT hf _ (by decide)) (k1:=fun x k h=>?_) (k2:=fun e h σx=>?_))|((with_reducible apply aV);refine t_s AS.s ?_)|((with_reducible refine au ?_);((refine aj (fun hc=>?_) (fun hc=>?_);all_goals(try(exfalso;simp[*] at hc;done)))))|((with_reducible refine bo ?_);first|(with_reducible refine aY ?_)|refine l_d (k:=?_))|fail)
 all_goals first|(first|(refine⟨_,(_,_),?_,(by rfl),(by exact aD rfl),(by exact aD rfl)⟩;simp_all[bR,aa,ar,adv,Lv.zero,Sp.zero,Rg.zero,Ct.zero];done)|(simp_all[bR,aa,ar,adv,Lv.zero,Sp.zero,Rg.zero,Ct.zero];done)|fail "end")|(refine⟨true,({s with kind:=5,name:=x},k),?_,rfl,(by rw[hc];exact aD rfl),aD rfl⟩;simp_all[bR,aa,ar];done)
theorem yY (s:ByteArray) (ws:List ByteArray):0≤kg s ws∧kg s ws≤ws.length:=by
 unfold kg
 split
 ·rename_i i h
  have:=(List.findIdx?_eq_some_iff_getElem.1 h).1
  omega
 ·omega
theorem Dx (hf:Fine l) (s:Stm) (w:ByteArray):MX Tryz.prog 183 [(0,psO k c d),(1001,stO s)] [.c (.ptr 0 0),.c (.ptr 1001 0),.c (sS w)] (dj w s k) (fun b=>.c (sB b)) (fun b=>[(0,psO b.2 c d),(1001,stO b.1)]) pvS:=by
 have n1:=vg w nL (by decide)
 have n2:=vg w jH (by decide)
 have a:=fun k=>(xQ (k:=k) (c:=c) (d:=d) hf).ok _ _ rfl
 have g1:=(yY w nL).1
 have g2:=(yY w jH).1
 unfold dj
 generalize kg w nL=r at *
 generalize kg w jH=t at *
 unfold nL at n1
 unfold jH at n2
 by_cases hr:r=0
 ·subst hr
  by_cases ht:t=0
  ·subst ht
   simp only[Int.lt_irrefl,if_false]
   refine MXA (fn:=Tryz.f183) Tryz.call183 Tryz.func183 rfl Tryz.ntmps183 Tryz.results183 rfl rfl ?_
   repeat'(first|(with_reducible first|apply AW.seq|apply AW.block|apply AW.skip|apply AW.ret|apply ae|apply aq|apply aE|apply aw|apply aG|apply cf|apply y_e|refine ah ?_)|((with_reducible apply ak);first|refine t_v AS.v ?_|refine t_v (by first|exact ag (hP:=n1)|exact ag (hP:=n2)) ?_|refine bG (hP:=eu hf) (k1:=fun x k h=>?_) (k2:=fun e h σx=>?_)|refine bG (hP:=rC hf _) (k1:=fun x k h=>?_) (k2:=fun e h σx=>?_)|refine bG (hP:=xM hf) (k1:=fun x k h=>?_) (k2:=fun e h σx=>?_)|refine bG (hP:=rX hf _) (k1:=fun x k h=>?_) (k2:=fun e h σx=>?_)|refine vM (hP:=xo hf _ _) (k1:=fun x k h=>?_) (k2:=fun e h σx=>?_))|((with_reducible apply aV);refine t_s AS.s ?_)|((with_reducible refine au ?_);first|refine cj ?_|(refine aj (fun hc=>?_) (fun hc=>?_)))|((with_reducible refine bo ?_);first|(with_reducible refine aY ?_)|refine l_d (k:=?_))|fail)
   all_goals(first|(refine⟨_,(_,_),?_,(by rfl),(by exact aD rfl),(by exact aD rfl)⟩;simp_all[aa,ar,adv,Lv.zero,Sp.zero,Rg.zero,Ct.zero];done)|(simp_all[aa,ar,adv,Lv.zero,Sp.zero,Rg.zero,Ct.zero];done)|fail "end")
  ·have ht:0<t:=by omega
   simp only[Int.lt_irrefl,if_false,ht,if_true]
   refine MXA (fn:=Tryz.f183) Tryz.call183 Tryz.func183 rfl Tryz.ntmps183 Tryz.results183 rfl rfl ?_
   repeat'(first|(with_reducible first|apply AW.seq|apply AW.skip|apply AW.ret|apply ae|apply aq|apply aE|apply y_e|refine ah ?_)|((with_reducible apply ak);first|refine t_v AS.v ?_|refine t_v (by first|exact ag (hP:=n1)|exact ag (hP:=n2)|exact ag (hP:=xI _)|exact bn (hP:=cw)) ?_|refine t_w AS.w ?_|refine t_w (by exact ch (hP:=a _)) ?_|refine bG (hP:=eu hf) (k1:=fun x k h=>?_) (k2:=fun e h σx=>?_)|refine vM (hP:=xo hf _ _) (k1:=fun x k h=>?_) (k2:=fun e h σx=>?_)|refine t_q (hP:=eH _ _) (k:=fun σx=>?_))|((with_reducible apply bc);refine t_m (hs:=fun hg=>AS.v) (k:=?_))|((with_reducible apply aV);refine t_s AS.s ?_)|((with_reducible refine au ?_);first|refine cj ?_|(refine aj (fun hc=>?_) (fun hc=>?_);all_goals(try(exfalso;simp[*] at hc;done))))|((with_reducible refine bo ?_);first|(with_reducible refine aY ?_)|refine l_d (k:=?_))|fail)
   case refine_1.refine_1.refine_1.refine_1.refine_2=>
    have hk3:(tk k).kind=3:=by simp_all
    have ht1:t=1:=by simp_all
    have ea:adv (decide ((tk k).kind≠0)) k=nx k:=by rw[hk3];rfl
    rw[ea]
    refine⟨_,(_,nx k),?_,rfl,aD rfl,aD rfl⟩
    clear ea
    simp_all[aa]
   all_goals(first|(refine⟨_,(_,_),?_,(by rfl),(by exact aD rfl),(by exact aD rfl)⟩;simp_all[aa,ar,adv,Lv.zero,Sp.zero,Rg.zero,Ct.zero];done)|(simp_all[aa,ar,adv,Lv.zero,Sp.zero,Rg.zero,Ct.zero];done)|fail "end")
 ·have hr:0<r:=by omega
  simp only[hr,if_true]
  refine MXA (fn:=Tryz.f183) Tryz.call183 Tryz.func183 rfl Tryz.ntmps183 Tryz.results183 rfl rfl ?_
  repeat'(first|(with_reducible first|apply AW.seq|apply AW.ret|apply ae|apply aq|apply aE|apply y_e|refine ah ?_)|((with_reducible apply ak);first|refine t_v AS.v ?_|refine t_v (by exact ag (hP:=n1)) ?_|refine bG (hP:=rC hf _) (k1:=fun x k h=>?_) (k2:=fun e h σx=>?_)|refine vM (hP:=xo hf _ _) (k1:=fun x k h=>?_) (k2:=fun e h σx=>?_))|((with_reducible apply aV);refine t_s AS.s ?_)|((with_reducible refine au ?_);((refine aj (fun hc=>?_) (fun hc=>?_);all_goals(try(exfalso;simp[*] at hc;done)))))|((with_reducible refine bo ?_);first|(with_reducible refine aY ?_)|refine l_d (k:=?_))|fail)
  all_goals(first|(refine⟨_,(_,_),?_,(by rfl),(by exact aD rfl),(by exact aD rfl)⟩;simp_all[aa,ar,adv,Lv.zero,Sp.zero,Rg.zero,Ct.zero];done)|(simp_all[aa,ar,adv,Lv.zero,Sp.zero,Rg.zero,Ct.zero];done)|fail "end")
theorem z8 (hf:Fine l) (s:Stm) (w:ByteArray):MX Tryz.prog 184 [(0,psO k c d),(1001,stO s)] [.c (.ptr 0 0),.c (.ptr 1001 0),.c (sS w)] (cZ w s k) (fun _=>.tup []) (fun b=>[(0,psO b.2 c d),(1001,stO b.1)]) pvS:=by
 refine MXA (fn:=Tryz.f184) Tryz.call184 Tryz.func184 rfl Tryz.ntmps184 Tryz.results184 rfl rfl ?_
 repeat'((fail_if_success (with_reducible refine ct 4 ?_));(fail_if_success (with_reducible refine ct 19 ?_));(first|(with_reducible first|apply AW.seq|apply AW.block|apply AW.skip|apply ae|apply aE|apply aw|apply cf|apply y_e|refine ah ?_)|((with_reducible apply ak);first|refine t_v AS.v ?_|refine bG (hP:=oT hf _ (by decide)) (k1:=fun x k h=>?_) (k2:=fun e h σx=>?_)|refine bG (hP:=eu hf) (k1:=fun x k h=>?_) (k2:=fun e h σx=>?_)|refine bG (hP:=rC hf _) (k1:=fun x k h=>?_) (k2:=fun e h σx=>?_)|refine bG (hP:=zN hf) (k1:=fun x k h=>?_) (k2:=fun e h σx=>?_)|refine bG (hP:=K2 hf) (k1:=fun x k h=>?_) (k2:=fun e h σx=>?_))|((with_reducible apply aV);refine t_s AS.s ?_)|((with_reducible refine au ?_);((refine aj (fun hc=>?_) (fun hc=>?_))))|((with_reducible refine bo ?_);first|(with_reducible refine aY ?_)|refine qx (k:=?_))|fail))
 case refine_1.refine_1=>
  have hb:=j3 hf h
  have hb1:=hb.1
  have hb2:x<8:=hb.2.1
  rw[wrap64 (by omega) (by omega)]
  clear hb
  by_cases hx:x=0
  ·subst hx
   repeat'(first|(with_reducible first|apply AW.seq|apply ae|apply aw|apply cf|apply y_e|refine ah ?_)|((with_reducible apply ak);first|refine t_v AS.v ?_|refine bG (hP:=eu hf) (k1:=fun x k h=>?_) (k2:=fun e h σx=>?_)|refine bG (hP:=lS hf) (k1:=fun x k h=>?_) (k2:=fun e h σx=>?_))|((with_reducible apply aV);refine t_s AS.s ?_)|((with_reducible refine au ?_);refine cF ?_)|((with_reducible refine bo ?_);first|(with_reducible refine aY ?_)|refine qx (k:=?_))|fail)
   all_goals(first|(refine⟨(),(_,_),?_,(by rfl),(by exact aD rfl),(by exact aD rfl)⟩;simp_all[cZ,symW,aa,ar,adv,Lv.zero,Sp.zero,Rg.zero,Ct.zero];done)|(simp_all[cZ,symW,aa,ar,adv,Lv.zero,Sp.zero,Rg.zero,Ct.zero];done)|fail "end")
  ·repeat'(first|(with_reducible first|apply AW.seq|apply ae|apply aw|apply cf|apply y_e|refine ah ?_)|((with_reducible apply ak);first|refine t_v AS.v ?_|refine bG (hP:=uQ hf) (k1:=fun x k h=>?_) (k2:=fun e h σx=>?_))|((with_reducible apply aV);refine t_s AS.s ?_)|((with_reducible refine au ?_);((refine aj (fun hc=>?_) (fun hc=>?_);all_goals(try(exfalso;revert hc;simp;omega)))))|((with_reducible refine bo ?_);first|(with_reducible refine aY ?_)|refine qx (k:=?_))|fail)
   all_goals(first|(refine⟨(),(_,_),?_,(by rfl),(by exact aD rfl),(by exact aD rfl)⟩;simp_all[cZ,symW,aa,ar,adv,Lv.zero,Sp.zero,Rg.zero,Ct.zero];done)|(simp_all[cZ,symW,aa,ar,adv,Lv.zero,Sp.zero,Rg.zero,Ct.zero];done)|fail "end")
 case refine_2.refine_2.refine_2.refine_2.refine_1.refine_1.refine_1=>
  have hb:=j3 hf h
  have hb1:=hb.1
  have hb2:x<3:=hb.2.1
  rw[wrap64 (by omega) (by omega)]
  clear hb
  repeat'(first|(with_reducible first|apply AW.seq|apply ae|apply aE|apply aw|apply cf|apply y_e|refine ah ?_)|((with_reducible apply ak);first|refine t_v AS.v ?_|refine bG (hP:=rC hf _) (k1:=fun x k h=>?_) (k2:=fun e h σx=>?_))|((with_reducible apply aV);refine t_s AS.s ?_)|((with_reducible refine bo ?_);first|(with_reducible refine aY ?_)|refine qx (k:=?_))|fail)
  all_goals(first|(refine⟨(),(_,_),?_,(by rfl),(by exact aD rfl),(by exact aD rfl)⟩;simp_all[cZ,asrW,aa,ar,adv,Lv.zero,Sp.zero,Rg.zero,Ct.zero];done)|(simp_all[cZ,asrW,aa,ar,adv,Lv.zero,Sp.zero,Rg.zero,Ct.zero];done)|fail "end")
 all_goals(first|(refine⟨(),(_,_),?_,(by rfl),(by exact aD rfl),(by exact aD rfl)⟩;simp_all[cZ,symW,fileW,asrW,aa,ar,adv,Lv.zero,Sp.zero,Rg.zero,Ct.zero];done)|(simp_all[cZ,symW,fileW,asrW,aa,ar,adv,Lv.zero,Sp.zero,Rg.zero,Ct.zero];done)|fail "end")
end
end Am
end Go.Proofs.YtkpodagbefnebaaGreatDoor
