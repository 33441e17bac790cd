import Derived.Test.YtkpodagbefnebaaGreatDoorYh9
import Derived.WalkLawsBesides
set_option linter.unusedSimpArgs false
set_option linter.unusedVariables false
set_option linter.unusedSectionVars false
namespace Go.Proofs.YtkpodagbefnebaaGreatDoor
namespace Am
open Tk Go.RowKit
set_option maxRecDepth 100000
set_option maxHeartbeats 1000000
abbrev psO {l:List Tok} (k:Ix l) (c d:Int):HO:=.obj 130 (psC ⟨l,((k.1:Nat):Int),c,d⟩)
abbrev pvS (f:Fa):Value:=pvF 127 f
theorem Au (c:Int) (t:Tok) (w:World):Calls Tryz.prog 103 #[.int .i64 c,.agg #[.int .i64 t.kind,.string t.text,.int .i64 t.pos.line,.int .i64 t.pos.col]] w fun e w'=>e= .panicked [{v:=pvS (flt c t),recovered:=false}]∧Below w.heap.size w w':=by
 go_enter Tryz.func103,Tryz.ntmps103
 go_wp2
 refine⟨rfl,rfl,?_⟩
 exact((Below.refl _ _).alloc (Nat.le_refl _) _)
theorem eH (c:Int) (t:Tok):MQL Tryz.prog 103 [] [.c (sI c),.agg (tkC t)] (pvS (flt c t)):=by
 refine⟨Tryz.call103,fun X vs hT hF hS0 hD hO hS hv=>?_⟩
 have e:vs= #[.int .i64 c,.agg #[.int .i64 t.kind,.string t.text,.int .i64 t.pos.line,.int .i64 t.pos.col]]:=by
  apply Array.ext'
  match hl:vs.toList,hv with
  |[x,y],hv=>
   have h1:x= .int .i64 c:=Cq.uniq .sc (hv.2 0 _ x rfl rfl)
   have h2:y= .agg #[.int .i64 t.kind,.string t.text,.int .i64 t.pos.line,.int .i64 t.pos.col]:=Cq.uniq (Cq.agg (vs:=[.int .i64 t.kind,.string t.text,.int .i64 t.pos.line,.int .i64 t.pos.col])) (hv.2 1 _ y rfl rfl)
   rw[h1,h2]
  |[],hv=>exact absurd hv.1 (by simp)
  |[_],hv=>exact absurd hv.1 (by simp)
  |_ :: _ :: _ :: _,hv=>exact absurd hv.1 (by simp)
 subst e
 refine(Au c t X.w0).mono ?_
 rintro e w' ⟨rfl,hb⟩
 have hk:Keep X.F X.w0 w':=⟨hb.os,hb.tape,hb.output,hb.size,fun k hk _=>hb.block k hk⟩
 exact⟨X.K0,rfl,hk,⟨fun n h=>⟨h,rfl⟩,fun g i hs hg=>⟨hs,World.cell?_of_block (hb.block g hg)⟩,fun n _=>.inl rfl⟩,fun g i hs _=>.inl (by rw[hS0];exact hs),fun g i hs=>Nat.lt_of_lt_of_le (hS g i (by rw[hS0];exact hs)) hb.size⟩
section
variable {l:List Tok} {k:Ix l} {c d:Int}
theorem Hd (k:Ix l):l[k.1]? =some (tk k):=List.getElem?_eq_getElem k.2
theorem cw:Pure Tryz.prog 102 [.c (.ep (psC ⟨l,((k.1:Nat):Int),c,d⟩))] (.agg (tkC (tk k))):=by
 have hk:=Hd k
 refine fn1 (fn:=Tryz.f102) Tryz.call102 Tryz.func102 rfl Tryz.ntmps102 Tryz.results102 rfl (by rfl) ?_
 repeat'(first|(with_reducible first|apply AW.seq|apply AW.ret|apply ae|apply y_e|refine ah ?_|refine bb ?_)|((with_reducible apply ak);first|refine t_v AS.v ?_|refine t_w AS.w ?_)|((with_reducible apply aV);refine t_s AS.s ?_)|((with_reducible refine aA ?_);refine k_c ?_)|(refine⟨by decide +kernel,?_⟩)|fail)
 simp only[unA]
theorem sJ (s:ByteArray):Pure Tryz.prog 108 [.c (.ep (psC ⟨l,((k.1:Nat):Int),c,d⟩)),.c (sS s)] (.c (sB (isM s k))):=by
 refine fn2 (fn:=Tryz.f108) Tryz.call108 Tryz.func108 rfl Tryz.ntmps108 Tryz.results108 rfl (by rfl) ?_
 repeat'(first|(with_reducible first|apply AW.seq|apply AW.ret|apply ae|apply y_e|refine ah ?_)|((with_reducible apply ak);first|refine t_v AS.v ?_|refine t_v (by exact ag (hP:=cw)) ?_)|((with_reducible apply bc);first|refine t_m (hs:=fun hg=>AS.v) (k:=?_)|refine t_m (hs:=fun hg=>(by exact ag (hP:=cw))) (k:=?_))|((with_reducible refine aA ?_);refine k_b ?_)|fail)
 simp[isM]
theorem Ku (s:ByteArray):Pure Tryz.prog 241 [.c (.ep (psC ⟨l,((k.1:Nat):Int),c,d⟩)),.c (sS s)] (.c (sB (isW s k))):=by
 refine fn2 (fn:=Tryz.f241) Tryz.call241 Tryz.func241 rfl Tryz.ntmps241 Tryz.results241 rfl (by rfl) ?_
 repeat'(first|(with_reducible first|apply AW.seq|apply AW.ret|apply ae|apply y_e|refine ah ?_)|((with_reducible apply ak);first|refine t_v AS.v ?_|refine t_v (by exact ag (hP:=cw)) ?_)|((with_reducible apply bc);first|refine t_m (hs:=fun hg=>AS.v) (k:=?_)|refine t_m (hs:=fun hg=>(by exact ag (hP:=cw))) (k:=?_))|((with_reducible refine aA ?_);refine k_b ?_)|fail)
 simp[isW]
theorem Cp:Pure Tryz.prog 176 [.c (.ep (psC ⟨l,((k.1:Nat):Int),c,d⟩))] (.c (sB (eg k))):=by
 refine fn1 (fn:=Tryz.f176) Tryz.call176 Tryz.func176 rfl Tryz.ntmps176 Tryz.results176 rfl (by rfl) ?_
 repeat'(first|(with_reducible first|apply AW.seq|apply AW.ret|apply ae|apply y_e|refine ah ?_)|((with_reducible apply ak);first|refine t_v AS.v ?_|refine t_v (by exact ag (hP:=cw)) ?_)|((with_reducible apply bc);first|refine t_m (hs:=fun hg=>AS.v) (k:=?_)|refine t_m (hs:=fun hg=>(by first|exact ag (hP:=cw)|exact ag (hP:=dM _))) (k:=?_))|((with_reducible refine aA ?_);refine k_b ?_)|fail)
 simp[eg]
theorem cV (hf:Fine l) (h:(tk k).kind≠0):HO.le (.obj 130 (psC ⟨l,((k.1:Nat):Int)+1,c,d⟩)) (psO (nx k) c d):=aD (by
 have:=hC hf h
 unfold psO
 rw[this];rfl)
theorem cd (hf:Fine l) (s:ByteArray):MX Tryz.prog 151 [(0,psO k c d)] [.c (.ptr 0 0),.c (sS s)] (.ok (isM s k,adv (isM s k) k):Except Fa (Bool×Ix l)) (fun b=>.c (sB b)) (fun k'=>[(0,psO k' c d)]) pvS:=by
 have hk:=k.2
 have hl:=hf.le
 refine MXA (fn:=Tryz.f151) Tryz.call151 Tryz.func151 rfl Tryz.ntmps151 Tryz.results151 rfl rfl ?_
 repeat'(first|(with_reducible first|apply AW.seq|apply AW.skip|apply AW.ret|apply ae|apply y_e|refine ah ?_)|((with_reducible apply ak);first|refine t_v AS.v ?_|refine t_v (by exact bn (hP:=sJ _)) ?_)|((with_reducible apply aV);refine t_s AS.s ?_)|((with_reducible refine au ?_);((refine aj (fun hc=>?_) (fun hc=>?_))))|((with_reducible refine bo ?_);refine l_1 (k:=?_))|fail)
 all_goals(first|(refine⟨_,_,?_,(by rfl),(by first|exact aD rfl|exact cV (by assumption) (by simp_all[isM,isW,eg]))⟩;simp_all[isM,aa,ar,adv,Lv.zero,Sp.zero,Rg.zero,Ct.zero];done)|fail "end")
theorem du (hf:Fine l) (s:ByteArray):MX Tryz.prog 175 [(0,psO k c d)] [.c (.ptr 0 0),.c (sS s)] (.ok (isW s k,adv (isW s k) k):Except Fa (Bool×Ix l)) (fun b=>.c (sB b)) (fun k'=>[(0,psO k' c d)]) pvS:=by
 have hk:=k.2
 have hl:=hf.le
 refine MXA (fn:=Tryz.f175) Tryz.call175 Tryz.func175 rfl Tryz.ntmps175 Tryz.results175 rfl rfl ?_
 repeat'(first|(with_reducible first|apply AW.seq|apply AW.skip|apply AW.ret|apply ae|apply y_e|refine ah ?_)|((with_reducible apply ak);first|refine t_v AS.v ?_|refine t_v (by exact bn (hP:=Ku _)) ?_)|((with_reducible apply aV);refine t_s AS.s ?_)|((with_reducible refine au ?_);((refine aj (fun hc=>?_) (fun hc=>?_))))|((with_reducible refine bo ?_);refine l_1 (k:=?_))|fail)
 all_goals(first|(refine⟨_,_,?_,(by rfl),(by first|exact aD rfl|exact cV (by assumption) (by simp_all[isM,isW,eg]))⟩;simp_all[isW,aa,ar,adv,Lv.zero,Sp.zero,Rg.zero,Ct.zero];done)|fail "end")
theorem xQ (hf:Fine l):MX Tryz.prog 177 [(0,psO k c d)] [.c (.ptr 0 0)] (.ok (tk k,adv (decide ((tk k).kind≠0)) k):Except Fa (Tok×Ix l)) (fun t=>.agg (tkC t)) (fun k'=>[(0,psO k' c d)]) pvS:=by
 have hk:=k.2
 have hl:=hf.le
 refine MXA (fn:=Tryz.f177) Tryz.call177 Tryz.func177 rfl Tryz.ntmps177 Tryz.results177 rfl rfl ?_
 repeat'(first|(with_reducible first|apply AW.seq|apply AW.skip|apply AW.ret|apply ae|apply y_e|refine ah ?_)|((with_reducible apply ak);first|refine t_v AS.v ?_|refine t_v (by exact bn (hP:=cw)) ?_|refine t_w AS.w ?_)|((with_reducible apply aV);refine t_s AS.s ?_)|((with_reducible refine au ?_);((refine aj (fun hc=>?_) (fun hc=>?_))))|((with_reducible refine bo ?_);refine fN (k:=?_))|fail)
 all_goals(first|(refine⟨_,_,?_,(by rfl),(by first|exact aD rfl|exact cV (by assumption) (by simp_all[isM,isW,eg]))⟩;simp_all[aa,ar,adv,Lv.zero,Sp.zero,Rg.zero,Ct.zero];done)|fail "end")
theorem jA (hf:Fine l) (s:ByteArray):MX Tryz.prog 107 [(0,psO k c d)] [.c (.ptr 0 0),.c (sS s)] (eD s k) (fun _=>.tup []) (fun k'=>[(0,psO k' c d)]) pvS:=by
 have a:=(cd (k:=k) (c:=c) (d:=d) hf s).ok _ _ rfl
 refine MXA (fn:=Tryz.f107) Tryz.call107 Tryz.func107 rfl Tryz.ntmps107 Tryz.results107 rfl rfl ?_
 repeat'(first|(with_reducible first|apply AW.seq|apply AW.skip|apply ae|apply y_e|refine ah ?_)|((with_reducible apply ak);first|refine t_v AS.v ?_|refine t_v (by exact bn (hP:=cw)) ?_|refine t_w (by exact ch (hP:=a)) ?_|refine t_q (hP:=eH _ _) (k:=fun σx=>?_))|((with_reducible refine au ?_);((refine aj (fun hc=>?_) (fun hc=>?_))))|((with_reducible refine bo ?_);first|(with_reducible refine aY ?_)|refine l_0 (k:=?_))|fail)
 all_goals(first|(refine⟨(),_,?_,(by rfl),(by exact aD rfl)⟩;simp_all[eD,aa,ar,adv,Lv.zero,Sp.zero,Rg.zero,Ct.zero];done)|(simp_all[eD,aa,ar,adv,Lv.zero,Sp.zero,Rg.zero,Ct.zero];done)|fail "end")
theorem py (hf:Fine l) (s:ByteArray):MX Tryz.prog 104 [(0,psO k c d)] [.c (.ptr 0 0),.c (sS s)] (eS s k) (fun _=>.tup []) (fun k'=>[(0,psO k' c d)]) pvS:=by
 have a:=(du (k:=k) (c:=c) (d:=d) hf s).ok _ _ rfl
 refine MXA (fn:=Tryz.f104) Tryz.call104 Tryz.func104 rfl Tryz.ntmps104 Tryz.results104 rfl rfl ?_
 repeat'(first|(with_reducible first|apply AW.seq|apply AW.skip|apply ae|apply y_e|refine ah ?_)|((with_reducible apply ak);first|refine t_v AS.v ?_|refine t_v (by exact bn (hP:=cw)) ?_|refine t_w (by exact ch (hP:=a)) ?_|refine t_q (hP:=eH _ _) (k:=fun σx=>?_))|((with_reducible refine au ?_);((refine aj (fun hc=>?_) (fun hc=>?_))))|((with_reducible refine bo ?_);first|(with_reducible refine aY ?_)|refine l_0 (k:=?_))|fail)
 all_goals(first|(refine⟨(),_,?_,(by rfl),(by exact aD rfl)⟩;simp_all[eS,aa,ar,adv,Lv.zero,Sp.zero,Rg.zero,Ct.zero];done)|(simp_all[eS,aa,ar,adv,Lv.zero,Sp.zero,Rg.zero,Ct.zero];done)|fail "end")
theorem eu (hf:Fine l):MX Tryz.prog 105 [(0,psO k c d)] [.c (.ptr 0 0)] (bY k) (fun s=>.c (sS s)) (fun k'=>[(0,psO k' c d)]) pvS:=by
 have a:=(xQ (k:=k) (c:=c) (d:=d) hf).ok _ _ rfl
 refine MXA (fn:=Tryz.f105) Tryz.call105 Tryz.func105 rfl Tryz.ntmps105 Tryz.results105 rfl rfl ?_
 repeat'(first|(with_reducible first|apply AW.seq|apply AW.skip|apply AW.ret|apply ae|apply aE|apply y_e|refine ah ?_)|((with_reducible apply ak);first|refine t_v AS.v ?_|refine t_v (by first|exact bn (hP:=cw)|exact bn (hP:=Cp)) ?_|refine t_w (by exact ch (hP:=a)) ?_|refine t_q (hP:=eH _ _) (k:=fun σx=>?_))|((with_reducible refine au ?_);((refine aj (fun hc=>?_) (fun hc=>?_))))|((with_reducible refine bo ?_);first|(with_reducible refine aY ?_)|refine l_1 (k:=?_))|fail)
 all_goals first|(first|(simp_all[bY,aa,ar,adv,Lv.zero,Sp.zero,Rg.zero,Ct.zero];done)|fail "end")|(first|(refine⟨_,_,?_,(by rfl),(by exact aD rfl)⟩;simp_all[bY,eg,aa,ar,adv,Lv.zero,Sp.zero,Rg.zero,Ct.zero];done)|fail "end")
end
end Am
end Go.Proofs.YtkpodagbefnebaaGreatDoor
