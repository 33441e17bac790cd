import Derived.Test.YtkpodagbefnebaaGreatDoorYf24
set_option linter.unusedSimpArgs false
set_option linter.unusedVariables false
set_option linter.unusedSectionVars false
namespace Go.Proofs.YtkpodagbefnebaaGreatDoor
namespace Am
open Tk Go.RowKit
set_option maxRecDepth 100000
set_option maxHeartbeats 4000000
theorem A8 (s:ByteArray):decide (s≠⟨#[]⟩)=decide ((1:Int)≤s.size):=by
 have h:=bc s
 rw[Bool.eq_iff_iff]
 simp only[decide_eq_true_eq]
 constructor
 ·intro hn
  cases hl:s.data.toList with
  |nil=>exact absurd (vK.2 hl) hn
  |cons a t=>rw[hl] at h;simp at h;omega
 ·intro hs e
  subst e
  have:(ByteArray.size ⟨#[]⟩)=0:=rfl
  omega
theorem zr (s:ByteArray):Pure Tryz.prog 316 [.c (sS s)] (.c (sB (gr s))):=by
 refine fn1 (fn:=Tryz.f316) Tryz.call316 Tryz.func316 rfl Tryz.ntmps316 Tryz.results316 rfl (by rfl) ?_
 refine AW.fact (t:=0) rfl (fun κ w x hr=>jO hr) fun hn=>?_
 repeat'(first|(with_reducible first|apply AW.seq|apply AW.block|apply AW.skip|apply AW.ret|apply AW.exit|apply aa|apply ak|apply aE|apply aw|apply aL|apply aH|apply y_e|refine ae ?_)|((with_reducible apply ai);refine t_v AS.v ?_)|((with_reducible apply aK);refine t_m (hs:=fun hg=>AS.v) (k:=?_))|((with_reducible refine aq ?_);((refine ah (fun hc=>?_) (fun hc=>?_);all_goals(try(exfalso;simp[*] at hc;done)))))|((with_reducible refine aM ?_);refine k_b ?_)|fail)
 refine AW.loop (fun n σ=>∃ j,n=s.size - j∧j≤s.size∧(s.data.toList.take j).all mX=true∧σ=mk [(0,.c (sS s)),(3,.c (sI (j:Int)))] []) s.size ?_ ?_
 ·exact⟨_,wkA,0,rfl,Nat.zero_le _,rfl,rfl⟩
 rintro n σ ⟨j,rfl,hj,ha,rfl⟩
 by_cases hlt:j<s.size
 ·obtain ⟨x,hx⟩:∃ x,s.data.toList[j]? =some x:=⟨_,List.getElem?_eq_getElem (by have:=bc s;omega)⟩
  repeat'(first|(with_reducible first|apply AW.seq|apply AW.block|apply AW.skip|apply AW.ret|apply AW.exit|apply aa|apply ak|apply aE|apply aw|apply aL|apply aH|apply y_e|refine ae ?_)|((with_reducible apply ai);refine t_v AS.v ?_)|((with_reducible apply aK);refine t_m (hs:=fun hg=>AS.v) (k:=?_))|((with_reducible refine aq ?_);((refine ah (fun hc=>?_) (fun hc=>?_);all_goals(try(exfalso;simp[*] at hc;done)))))|((with_reducible refine aM ?_);refine k_b ?_)|fail)
  ·have e:mX x=false:=by simp only[mX];simp at hc ⊢;omega
   rw[gr,w9 hx e,Bool.false_and]
  ·have e:mX x=true:=by simp only[mX];simp at hc ⊢;omega
   exact⟨_,_,(show s.size - (j+1)<s.size - j by omega),wkA,j+1,rfl,hlt,ir hx ha e,rfl⟩
 ·have e:=tj ha (by have:=bc s;omega)
  repeat'(first|(with_reducible first|apply AW.seq|apply AW.block|apply AW.skip|apply AW.ret|apply AW.exit|apply aa|apply ak|apply aE|apply aw|apply aL|apply aH|apply y_e|refine ae ?_)|((with_reducible apply ai);refine t_v AS.v ?_)|((with_reducible apply aK);refine t_m (hs:=fun hg=>AS.v) (k:=?_))|((with_reducible refine aq ?_);((refine ah (fun hc=>?_) (fun hc=>?_);all_goals(try(exfalso;simp[*] at hc;done)))))|((with_reducible refine aM ?_);refine k_b ?_)|fail)
  rw[gr,e,Bool.true_and,A8,show decide ((s.size:Int)≤32)=decide (s.size≤32) from decide_eq_decide.2 (by omega)]
section
variable {l:List Tok} {c:Int}
theorem fu (hf:Fine l) (k:Ix l) (f:Fa):MNL Tryz.prog 114 [(0,qsO k f c)] [.c (.ptr 0 0)] (.tup []) [(0,qsO (nx k) f c)]:=(kz hf).ok () _ rfl
theorem kc (hf:Fine l) (k:Ix l) (f:Fa):MNL Tryz.prog 260 [(0,qsO k f c)] [.c (.ptr 0 0)] (.c (bC (fE k f).1)) [(0,qsO (fE k f).2.1 (fE k f).2.2 c)]:=(wJ (k:=k) (f:=f) (c:=c) hf).ok (fE k f).1 (fE k f).2 rfl
theorem wG (hf:Fine l) (ob:Bool) (k:Ix l) (f:Fa):MX Tryz.prog 262 [(0,qsO k f c)] [.c (.ptr 0 0),.c (sB ob)] (.ok (ef ob k f):Except Fa (ByteArray×(Ix l×Fa))) (fun s=>.c (sS s)) (fun b=>[(0,qsO b.1 b.2 c)]) pvS:=by
 have nw:=cj (l:=l) (k:=k) (f:=f) (c:=c)
 by_cases h0:f.code=0
 ·have fa:=ee (l:=l) (c:=c) k h0
  by_cases h3:(tk k).kind=3
  ·have e1:(decide (f.code=0)&&decide ((tk k).kind=3))=true:=by simp[h0,h3]
   have on:=zr (tk k).text
   have fl:=cw (c:=c) k f 10 (tk k)
   unfold ef
   rw[if_pos e1]
   clear e1
   cases hb:(decide ((tk k).text=⟨#[]⟩) || (ob&& !gr (tk k).text)) with
   |true=>
    rw[if_pos rfl]
    have sk:=fu (c:=c) hf k (bZ f 10 (tk k))
    generalize bZ f 10 (tk k)=g at *
    refine MXA (fn:=Tryz.f262) Tryz.call262 Tryz.func262 rfl Tryz.ntmps262 Tryz.results262 rfl rfl ?_
    repeat'(first|(with_reducible first|apply AW.seq|apply AW.skip|apply AW.ret|apply aa|apply y_e|refine ae ?_)|((with_reducible apply ai);first|refine t_v AS.v ?_|refine t_v (by first|exact az (hP:=nw)|exact az (hP:=fa)) ?_|refine t_w AS.w ?_|refine t_w (by first|exact av (hP:=fl)|exact av (hP:=sk)) ?_)|((with_reducible apply aK);first|refine t_m (hs:=fun hg=>AS.v) (k:=?_)|refine t_m (hs:=fun hg=>(by exact aj (hP:=on))) (k:=?_))|((with_reducible apply ay);refine t_s AS.s ?_)|((with_reducible refine aq ?_);((refine ah (fun hc=>?_) (fun hc=>?_);all_goals(try(exfalso;simp[*] at hc;done)))))|((with_reducible refine aD ?_);refine l_1 (k:=?_))|fail)
    all_goals first|exact⟨_,(_,_),rfl,rfl,ar rfl⟩|(exfalso;simp_all;done)|trace_state
   |false=>
    rw[if_neg ff]
    have sk:=fu (c:=c) hf k f
    clear fl
    refine MXA (fn:=Tryz.f262) Tryz.call262 Tryz.func262 rfl Tryz.ntmps262 Tryz.results262 rfl rfl ?_
    repeat'(first|(with_reducible first|apply AW.seq|apply AW.skip|apply AW.ret|apply aa|apply y_e|refine ae ?_)|((with_reducible apply ai);first|refine t_v AS.v ?_|refine t_v (by first|exact az (hP:=nw)|exact az (hP:=fa)) ?_|refine t_w AS.w ?_|refine t_w (by exact av (hP:=sk)) ?_)|((with_reducible apply aK);first|refine t_m (hs:=fun hg=>AS.v) (k:=?_)|refine t_m (hs:=fun hg=>(by exact aj (hP:=on))) (k:=?_))|((with_reducible apply ay);refine t_s AS.s ?_)|((with_reducible refine aq ?_);((refine ah (fun hc=>?_) (fun hc=>?_);all_goals(try(exfalso;simp[*] at hc;done)))))|((with_reducible refine aD ?_);refine l_1 (k:=?_))|fail)
    all_goals exact⟨_,(_,_),rfl,rfl,ar rfl⟩
  ·have e1:¬ (decide (f.code=0)&&decide ((tk k).kind=3))=true:=by simp[h3]
   have fl:=cw (c:=c) k f 9 (tk k)
   unfold ef
   rw[if_neg e1]
   clear e1
   refine MXA (fn:=Tryz.f262) Tryz.call262 Tryz.func262 rfl Tryz.ntmps262 Tryz.results262 rfl rfl ?_
   repeat'(first|(with_reducible first|apply AW.seq|apply AW.ret|apply aa|apply ak|apply y_e|refine ae ?_)|((with_reducible apply ai);first|refine t_v AS.v ?_|refine t_v (by first|exact az (hP:=nw)|exact az (hP:=fa)) ?_|refine t_w AS.w ?_|refine t_w (by exact av (hP:=fl)) ?_)|((with_reducible apply aK);first|refine t_f ?_|refine t_m (hs:=fun hg=>AS.v) (k:=?_))|((with_reducible apply ay);refine t_s AS.s ?_)|((with_reducible refine aq ?_);first|refine aI ?_|(refine ah (fun hc=>?_) (fun hc=>?_);all_goals(try(exfalso;simp[*] at hc;done))))|((with_reducible refine aD ?_);refine l_1 (k:=?_))|fail)
   all_goals exact⟨_,(_,_),rfl,rfl,ar rfl⟩
 ·have fa:=fJ (l:=l) (c:=c) k h0
  have e1:¬ (decide (f.code=0)&&decide ((tk k).kind=3))=true:=by simp[h0]
  have fl:=cw (c:=c) k f 9 (tk k)
  unfold ef
  rw[if_neg e1]
  clear e1
  refine MXA (fn:=Tryz.f262) Tryz.call262 Tryz.func262 rfl Tryz.ntmps262 Tryz.results262 rfl rfl ?_
  repeat'(first|(with_reducible first|apply AW.seq|apply AW.ret|apply aa|apply ak|apply y_e|refine ae ?_)|((with_reducible apply ai);first|refine t_v AS.v ?_|refine t_v (by first|exact az (hP:=nw)|exact az (hP:=fa)) ?_|refine t_w AS.w ?_|refine t_w (by exact av (hP:=fl)) ?_)|((with_reducible apply aK);first|refine t_f ?_|refine t_m (hs:=fun hg=>AS.v) (k:=?_))|((with_reducible apply ay);refine t_s AS.s ?_)|((with_reducible refine aq ?_);first|refine aI ?_|(refine ah (fun hc=>?_) (fun hc=>?_);all_goals(try(exfalso;simp[*] at hc;done))))|((with_reducible refine aD ?_);refine l_1 (k:=?_))|fail)
  all_goals exact⟨_,(_,_),rfl,rfl,ar rfl⟩
theorem qI (hf:Fine l) (ob:Bool) (k:Ix l) (f:Fa):MNL Tryz.prog 262 [(0,qsO k f c)] [.c (.ptr 0 0),.c (sB ob)] (.c (sS (ef ob k f).1)) [(0,qsO (ef ob k f).2.1 (ef ob k f).2.2 c)]:=(wG hf ob k f).ok (ef ob k f).1 (ef ob k f).2 rfl
theorem zi (hf:Fine l) (s:Stm) (h:s.kind=1) (k:Ix l) (f:Fa):MX Tryz.prog 188 [(0,qsO k f c)] [.c (.ptr 0 0),.agg (stC s)] (.ok (cm s k f):Except Fa (Stm×(Ix l×Fa))) (fun s=>.agg (stC s)) (fun b=>[(0,qsO b.1 b.2 c)]) pvS:=by
 have m1:=bk (c:=c) hf k f
 unfold cm
 generalize aB k f=q at *
 obtain ⟨x,k1,f1⟩:=q
 dsimp only at m1 ⊢
 unfold jH
 dsimp only
 rw[if_pos h]
 unfold rr
 have m2:=gU (c:=c) hf k1 f1
 generalize bN k1 f1=q at *
 obtain ⟨y,k2,f2⟩:=q
 dsimp only at m2 ⊢
 refine MXA (fn:=Tryz.f188) Tryz.call188 Tryz.func188 rfl Tryz.ntmps188 Tryz.results188 rfl rfl ?_
 repeat'(first|(with_reducible first|apply AW.seq|apply AW.block|apply AW.ret|apply aa|apply aw|apply y_e|refine ae ?_)|((with_reducible apply ai);first|refine t_v AS.v ?_|refine t_w AS.w ?_|refine t_w (by first|exact av (hP:=m1)|exact av (hP:=m2)) ?_)|((with_reducible apply ay);refine t_s AS.s ?_)|((with_reducible refine aq ?_);((refine ah (fun hc=>?_) (fun hc=>?_);all_goals(try(exfalso;simp[*] at hc;done)))))|((with_reducible refine aD ?_);refine b8 (k:=?_))|fail)
 all_goals exact⟨_,(_,_),rfl,aY _,ar rfl⟩
end
end Am
namespace Am
open Tk Go.RowKit
set_option maxRecDepth 100000
set_option maxHeartbeats 4000000
section
variable {l:List Tok} {c:Int}
theorem me (hf:Fine l) (s:Stm) (h:s.kind=3∨s.kind=10∨s.kind=11) (k:Ix l) (f:Fa):MX Tryz.prog 188 [(0,qsO k f c)] [.c (.ptr 0 0),.agg (stC s)] (.ok (cm s k f):Except Fa (Stm×(Ix l×Fa))) (fun s=>.agg (stC s)) (fun b=>[(0,qsO b.1 b.2 c)]) pvS:=by
 have m1:=bk (c:=c) hf k f
 unfold cm
 generalize aB k f=q at *
 obtain ⟨x,k1,f1⟩:=q
 dsimp only at m1 ⊢
 unfold jH
 dsimp only
 rw[if_neg (by omega),if_neg (by omega),if_neg (by omega),if_neg (by omega),if_neg (by omega),if_neg (by omega)]
 have n1:¬ s.kind=1:=by omega
 have n2:¬ s.kind=2:=by omega
 have n4:¬ s.kind=4:=by omega
 have n5:¬ s.kind=5:=by omega
 have n8:¬ s.kind=8:=by omega
 have n9:¬ s.kind=9:=by omega
 clear h
 refine MXA (fn:=Tryz.f188) Tryz.call188 Tryz.func188 rfl Tryz.ntmps188 Tryz.results188 rfl rfl ?_
 repeat'(first|(with_reducible first|apply AW.seq|apply AW.block|apply AW.skip|apply AW.ret|apply aa|apply aw|apply y_e|refine ae ?_)|((with_reducible apply ai);first|refine t_v AS.v ?_|refine t_w AS.w ?_|refine t_w (by exact av (hP:=m1)) ?_)|((with_reducible apply ay);refine t_s AS.s ?_)|((with_reducible refine aq ?_);((refine ah (fun hc=>?_) (fun hc=>?_);all_goals(try(exfalso;simp[*] at hc;done)))))|((with_reducible refine aD ?_);refine b8 (k:=?_))|fail)
 all_goals exact⟨_,(_,_),rfl,aY _,ar rfl⟩
theorem vX (hf:Fine l) (s:Stm) (h:s.kind=2) (k:Ix l) (f:Fa):MX Tryz.prog 188 [(0,qsO k f c)] [.c (.ptr 0 0),.agg (stC s)] (.ok (cm s k f):Except Fa (Stm×(Ix l×Fa))) (fun s=>.agg (stC s)) (fun b=>[(0,qsO b.1 b.2 c)]) pvS:=by
 have m1:=bk (c:=c) hf k f
 unfold cm
 generalize aB k f=q at *
 obtain ⟨x,k1,f1⟩:=q
 dsimp only at m1 ⊢
 unfold jH
 dsimp only
 rw[if_neg (by rw[h];decide),if_pos h]
 unfold uj
 have a1:=fZ (c:=c) hf k1 f1 ⟨#[97,108,105,97,115]⟩
 cases h1:okW f1 ⟨#[97,108,105,97,115]⟩ k1 with
 |true=>
  rw[h1] at a1
  have a1:MNL _ _ _ _ _ [(0,qsO (nx k1) f1 c)]:=a1
  rw[if_pos rfl]
  have m2:=gU (c:=c) hf (nx k1) f1
  generalize bN (nx k1) f1=q at *
  obtain ⟨y,k2,f2⟩:=q
  dsimp only at m2 ⊢
  unfold kL
  have m3:=kc (c:=c) hf k2 f2
  generalize fE k2 f2=q at *
  obtain ⟨z,k3,f3⟩:=q
  dsimp only at m3 ⊢
  clear h1
  refine MXA (fn:=Tryz.f188) Tryz.call188 Tryz.func188 rfl Tryz.ntmps188 Tryz.results188 rfl rfl ?_
  repeat'(first|(with_reducible first|apply AW.seq|apply AW.block|apply AW.ret|apply aa|apply aw|apply y_e|refine ae ?_)|((with_reducible apply ai);first|refine t_v AS.v ?_|refine t_w AS.w ?_|refine t_w (by first|exact av (hP:=m1)|exact av (hP:=a1)|exact av (hP:=m2)|exact av (hP:=m3)) ?_)|((with_reducible apply ay);refine t_s AS.s ?_)|((with_reducible refine aq ?_);first|refine aI ?_|(refine ah (fun hc=>?_) (fun hc=>?_);all_goals(try(exfalso;simp[*] at hc;done))))|((with_reducible refine aD ?_);refine b8 (k:=?_))|fail)
  all_goals first|exact⟨_,(_,_),rfl,aY _,ar rfl⟩|trace_state
 |false=>
  rw[h1] at a1
  have a1:MNL _ _ _ _ _ [(0,qsO k1 f1 c)]:=a1
  rw[if_neg ff]
  unfold kL
  have m3:=kc (c:=c) hf k1 f1
  generalize fE k1 f1=q at *
  obtain ⟨z,k3,f3⟩:=q
  dsimp only at m3 ⊢
  clear h1
  refine MXA (fn:=Tryz.f188) Tryz.call188 Tryz.func188 rfl Tryz.ntmps188 Tryz.results188 rfl rfl ?_
  repeat'(first|(with_reducible first|apply AW.seq|apply AW.block|apply AW.skip|apply AW.ret|apply aa|apply aw|apply y_e|refine ae ?_)|((with_reducible apply ai);first|refine t_v AS.v ?_|refine t_w AS.w ?_|refine t_w (by first|exact av (hP:=m1)|exact av (hP:=a1)|exact av (hP:=m3)) ?_)|((with_reducible apply ay);refine t_s AS.s ?_)|((with_reducible refine aq ?_);first|refine aJ ?_|(refine ah (fun hc=>?_) (fun hc=>?_);all_goals(try(exfalso;simp[*] at hc;done))))|((with_reducible refine aD ?_);refine b8 (k:=?_))|fail)
  all_goals exact⟨_,(_,_),rfl,aY _,ar rfl⟩
theorem wk (hf:Fine l) (s:Stm) (h:s.kind=5) (k:Ix l) (f:Fa):MX Tryz.prog 188 [(0,qsO k f c)] [.c (.ptr 0 0),.agg (stC s)] (.ok (cm s k f):Except Fa (Stm×(Ix l×Fa))) (fun s=>.agg (stC s)) (fun b=>[(0,qsO b.1 b.2 c)]) pvS:=by
 have m1:=bk (c:=c) hf k f
 unfold cm
 generalize aB k f=q at *
 obtain ⟨x,k1,f1⟩:=q
 dsimp only at m1 ⊢
 unfold jH
 dsimp only
 rw[if_neg (by rw[h];decide),if_neg (by rw[h];decide),if_neg (by rw[h];decide),if_pos h]
 unfold tp
 have a1:=fZ (c:=c) hf k1 f1 ⟨#[116,121,112,101,115]⟩
 cases h1:okW f1 ⟨#[116,121,112,101,115]⟩ k1 with
 |true=>
  rw[h1] at a1
  have a1:MNL _ _ _ _ _ [(0,qsO (nx k1) f1 c)]:=a1
  rw[if_pos rfl]
  have m2:=bS (c:=c) hf false (nx k1) f1
  generalize bz false (nx k1) f1=q at *
  obtain ⟨y,k2,f2⟩:=q
  dsimp only at m2 ⊢
  clear h1
  refine MXA (fn:=Tryz.f188) Tryz.call188 Tryz.func188 rfl Tryz.ntmps188 Tryz.results188 rfl rfl ?_
  repeat'(first|(with_reducible first|apply AW.seq|apply AW.block|apply AW.ret|apply aa|apply aw|apply y_e|refine ae ?_)|((with_reducible apply ai);first|refine t_v AS.v ?_|refine t_w AS.w ?_|refine t_w (by first|exact av (hP:=m1)|exact av (hP:=a1)|exact av (hP:=m2)) ?_)|((with_reducible apply ay);refine t_s AS.s ?_)|((with_reducible refine aq ?_);first|refine aI ?_|(refine ah (fun hc=>?_) (fun hc=>?_);all_goals(try(exfalso;simp[*] at hc;done))))|((with_reducible refine aD ?_);refine b8 (k:=?_))|fail)
  all_goals first|exact⟨_,(_,_),rfl,aY _,ar rfl⟩|trace_state
 |false=>
  rw[h1] at a1
  have a1:MNL _ _ _ _ _ [(0,qsO k1 f1 c)]:=a1
  rw[if_neg ff]
  clear h1
  refine MXA (fn:=Tryz.f188) Tryz.call188 Tryz.func188 rfl Tryz.ntmps188 Tryz.results188 rfl rfl ?_
  repeat'(first|(with_reducible first|apply AW.seq|apply AW.block|apply AW.skip|apply AW.ret|apply aa|apply aw|apply y_e|refine ae ?_)|((with_reducible apply ai);first|refine t_v AS.v ?_|refine t_w AS.w ?_|refine t_w (by first|exact av (hP:=m1)|exact av (hP:=a1)) ?_)|((with_reducible apply ay);refine t_s AS.s ?_)|((with_reducible refine aq ?_);first|refine aJ ?_|(refine ah (fun hc=>?_) (fun hc=>?_);all_goals(try(exfalso;simp[*] at hc;done))))|((with_reducible refine aD ?_);refine b8 (k:=?_))|fail)
  all_goals exact⟨_,(_,_),rfl,aY _,ar rfl⟩
theorem yp (hf:Fine l) (s:Stm) (h:s.kind=9) (k:Ix l) (f:Fa):MX Tryz.prog 188 [(0,qsO k f c)] [.c (.ptr 0 0),.agg (stC s)] (.ok (cm s k f):Except Fa (Stm×(Ix l×Fa))) (fun s=>.agg (stC s)) (fun b=>[(0,qsO b.1 b.2 c)]) pvS:=by
 have m1:=bk (c:=c) hf k f
 unfold cm
 generalize aB k f=q at *
 obtain ⟨x,k1,f1⟩:=q
 dsimp only at m1 ⊢
 unfold jH
 dsimp only
 rw[if_neg (by rw[h];decide),if_neg (by rw[h];decide),if_neg (by rw[h];decide),if_neg (by rw[h];decide),if_neg (by rw[h];decide),if_pos h]
 unfold ud
 have m2:=gm (c:=c) hf [⟨#[116,114,117,101]⟩,⟨#[102,97,108,115,101]⟩] (by decide) k1 f1
 generalize b9 [⟨#[116,114,117,101]⟩,⟨#[102,97,108,115,101]⟩] k1 f1=q at *
 obtain ⟨y,k2,f2⟩:=q
 dsimp only at m2 ⊢
 refine MXA (fn:=Tryz.f188) Tryz.call188 Tryz.func188 rfl Tryz.ntmps188 Tryz.results188 rfl rfl ?_
 repeat'(first|(with_reducible first|apply AW.seq|apply AW.block|apply AW.ret|apply aa|apply aw|apply y_e|refine ae ?_)|((with_reducible apply ai);first|refine t_v AS.v ?_|refine t_w AS.w ?_|refine t_w (by first|exact av (hP:=m1)|exact av (hP:=m2)) ?_)|((with_reducible apply ay);refine t_s AS.s ?_)|((with_reducible refine aq ?_);((refine ah (fun hc=>?_) (fun hc=>?_);all_goals(try(exfalso;simp[*] at hc;done)))))|((with_reducible refine aD ?_);refine b8 (k:=?_))|fail)
 all_goals exact⟨_,(_,_),rfl,aY _,ar rfl⟩
theorem wX (hf:Fine l) (s:Stm) (h:s.kind=8) (k:Ix l) (f:Fa):MX Tryz.prog 188 [(0,qsO k f c)] [.c (.ptr 0 0),.agg (stC s)] (.ok (cm s k f):Except Fa (Stm×(Ix l×Fa))) (fun s=>.agg (stC s)) (fun b=>[(0,qsO b.1 b.2 c)]) pvS:=by
 have m1:=bk (c:=c) hf k f
 unfold cm
 generalize aB k f=q at *
 obtain ⟨x,k1,f1⟩:=q
 dsimp only at m1 ⊢
 unfold jH
 dsimp only
 rw[if_neg (by rw[h];decide),if_neg (by rw[h];decide),if_neg (by rw[h];decide),if_neg (by rw[h];decide),if_pos h]
 unfold tf
 have m2:=lM (c:=c) hf k1 f1 ⟨#[114,111,108,101,115]⟩
 generalize iu ⟨#[114,111,108,101,115]⟩ k1 f1=q at *
 obtain ⟨k2,f2⟩:=q
 dsimp only at m2 ⊢
 unfold pN
 have m3:=gU (c:=c) hf k2 f2
 generalize bN k2 f2=q at *
 obtain ⟨y,k3,f3⟩:=q
 dsimp only at m3 ⊢
 unfold py
 have m4:=lM (c:=c) hf k3 f3 ⟨#[108,101,118,101,108]⟩
 generalize iu ⟨#[108,101,118,101,108]⟩ k3 f3=q at *
 obtain ⟨k4,f4⟩:=q
 dsimp only at m4 ⊢
 unfold pd
 have m5:=kK (c:=c) hf k4 f4
 generalize cA k4 f4=q at *
 obtain ⟨v,k5,f5⟩:=q
 dsimp only at m5 ⊢
 unfold pC
 have m6:=lM (c:=c) hf k5 f5 ⟨#[114,97,110,103,101]⟩
 generalize iu ⟨#[114,97,110,103,101]⟩ k5 f5=q at *
 obtain ⟨k6,f6⟩:=q
 dsimp only at m6 ⊢
 unfold sv
 have m7:=mr (c:=c) hf k6 f6
 generalize du k6 f6=q at *
 obtain ⟨g,k7,f7⟩:=q
 dsimp only at m7 ⊢
 refine MXA (fn:=Tryz.f188) Tryz.call188 Tryz.func188 rfl Tryz.ntmps188 Tryz.results188 rfl rfl ?_
 repeat'(first|(with_reducible first|apply AW.seq|apply AW.block|apply AW.ret|apply aa|apply aw|apply y_e|refine ae ?_)|((with_reducible apply ai);first|refine t_v AS.v ?_|refine t_w AS.w ?_|refine t_w (by first|exact av (hP:=m1)|exact av (hP:=m2)|exact av (hP:=m3)|exact av (hP:=m4)|exact av (hP:=m5)|exact av (hP:=m6)|exact av (hP:=m7)) ?_)|((with_reducible apply ay);refine t_s AS.s ?_)|((with_reducible refine aq ?_);((refine ah (fun hc=>?_) (fun hc=>?_);all_goals(try(exfalso;simp[*] at hc;done)))))|((with_reducible refine aD ?_);refine b8 (k:=?_))|fail)
 all_goals exact⟨_,(_,_),rfl,aY _,ar rfl⟩
end
end Am
namespace Am
open Tk Go.RowKit
set_option maxRecDepth 100000
set_option maxHeartbeats 4000000
section
variable {l:List Tok} {c:Int}
theorem vC (hf:Fine l) (s:Stm) (h:s.kind=6) (k:Ix l) (f:Fa):MX Tryz.prog 189 [(0,qsO k f c)] [.c (.ptr 0 0),.agg (stC s)] (.ok (bL s k f):Except Fa (Stm×(Ix l×Fa))) (fun s=>.agg (stC s)) (fun b=>[(0,qsO b.1 b.2 c)]) pvS:=by
 unfold bL
 have m1:=bS (c:=c) hf false k f
 generalize bz false k f=q at *
 obtain ⟨x1,k1,f1⟩:=q
 dsimp only at m1 ⊢
 unfold gL
 dsimp only
 have m2:=bS (c:=c) hf (decide (s.kind=12)) k1 f1
 generalize bz (decide (s.kind=12)) k1 f1=q at *
 obtain ⟨x2,k2,f2⟩:=q
 dsimp only at m2 ⊢
 unfold gI
 dsimp only
 rw[if_pos h]
 refine MXA (fn:=Tryz.f189) Tryz.call189 Tryz.func189 rfl Tryz.ntmps189 Tryz.results189 rfl rfl ?_
 repeat'(first|(with_reducible first|apply AW.seq|apply AW.ret|apply aa|apply ak|apply y_e|refine ae ?_)|((with_reducible apply ai);first|refine t_v AS.v ?_|refine t_w AS.w ?_|refine t_w (by first|exact av (hP:=m1)|exact av (hP:=m2)) ?_)|((with_reducible apply ay);refine t_s AS.s ?_)|((with_reducible refine aq ?_);((refine ah (fun hc=>?_) (fun hc=>?_);all_goals(try(exfalso;simp[*] at hc;done)))))|((with_reducible refine aD ?_);refine b8 (k:=?_))|fail)
 all_goals exact⟨_,(_,_),rfl,aY _,ar rfl⟩
theorem sJ (hf:Fine l) (s:Stm) (h:s.kind=12) (k:Ix l) (f:Fa):MX Tryz.prog 189 [(0,qsO k f c)] [.c (.ptr 0 0),.agg (stC s)] (.ok (bL s k f):Except Fa (Stm×(Ix l×Fa))) (fun s=>.agg (stC s)) (fun b=>[(0,qsO b.1 b.2 c)]) pvS:=by
 unfold bL
 have m1:=bS (c:=c) hf false k f
 generalize bz false k f=q at *
 obtain ⟨x1,k1,f1⟩:=q
 dsimp only at m1 ⊢
 unfold gL
 dsimp only
 have m2:=bS (c:=c) hf (decide (s.kind=12)) k1 f1
 generalize bz (decide (s.kind=12)) k1 f1=q at *
 obtain ⟨x2,k2,f2⟩:=q
 dsimp only at m2 ⊢
 unfold gI
 dsimp only
 rw[if_neg (by rw[h];decide)]
 have m3:=bV (c:=c) hf k2 f2 ⟨#[58]⟩
 generalize aO ⟨#[58]⟩ k2 f2=q at *
 obtain ⟨k3,f3⟩:=q
 dsimp only at m3 ⊢
 unfold jK
 have m4:=bS (c:=c) hf false k3 f3
 generalize bz false k3 f3=q at *
 obtain ⟨x4,k4,f4⟩:=q
 dsimp only at m4 ⊢
 unfold gj
 dsimp only
 rw[if_pos h]
 have m5:=bS (c:=c) hf false k4 f4
 generalize bz false k4 f4=q at *
 obtain ⟨x5,k5,f5⟩:=q
 dsimp only at m5 ⊢
 have fa:=cM (l:=l) (k:=k5) (f:=f5) (c:=c)
 have nw:=cj (l:=l) (k:=k5) (f:=f5) (c:=c)
 refine MXA (fn:=Tryz.f189) Tryz.call189 Tryz.func189 rfl Tryz.ntmps189 Tryz.results189 rfl rfl ?_
 repeat'(first|(with_reducible first|apply AW.seq|apply AW.block|apply AW.skip|apply AW.ret|apply aa|apply aw|apply y_e|refine ae ?_)|((with_reducible apply ai);first|refine t_v AS.v ?_|refine t_w AS.w ?_|refine t_w (by first|exact av (hP:=m1)|exact av (hP:=m2)|exact av (hP:=m3)|exact av (hP:=m4)|exact av (hP:=m5)) ?_)|((with_reducible apply aK);refine t_f ?_)|((with_reducible apply ay);refine t_s AS.s ?_)|((with_reducible refine aq ?_);first|refine aJ ?_|(refine ah (fun hc=>?_) (fun hc=>?_);all_goals(try(exfalso;simp[*] at hc;done))))|((with_reducible refine aD ?_);refine b8 (k:=?_))|fail)
 all_goals exact⟨_,(_,_),rfl,aY _,ar rfl⟩
theorem sM (hf:Fine l) (s:Stm) (h:s.kind=14) (k:Ix l) (f:Fa):MX Tryz.prog 189 [(0,qsO k f c)] [.c (.ptr 0 0),.agg (stC s)] (.ok (bL s k f):Except Fa (Stm×(Ix l×Fa))) (fun s=>.agg (stC s)) (fun b=>[(0,qsO b.1 b.2 c)]) pvS:=by
 unfold bL
 have m1:=bS (c:=c) hf false k f
 generalize bz false k f=q at *
 obtain ⟨x1,k1,f1⟩:=q
 dsimp only at m1 ⊢
 unfold gL
 dsimp only
 have m2:=bS (c:=c) hf (decide (s.kind=12)) k1 f1
 generalize bz (decide (s.kind=12)) k1 f1=q at *
 obtain ⟨x2,k2,f2⟩:=q
 dsimp only at m2 ⊢
 unfold gI
 dsimp only
 rw[if_neg (by rw[h];decide)]
 have m3:=bV (c:=c) hf k2 f2 ⟨#[58]⟩
 generalize aO ⟨#[58]⟩ k2 f2=q at *
 obtain ⟨k3,f3⟩:=q
 dsimp only at m3 ⊢
 unfold jK
 have m4:=bS (c:=c) hf false k3 f3
 generalize bz false k3 f3=q at *
 obtain ⟨x4,k4,f4⟩:=q
 dsimp only at m4 ⊢
 unfold gj
 dsimp only
 rw[if_neg (by rw[h];decide),if_pos h]
 have m5:=mr (c:=c) hf k4 f4
 generalize du k4 f4=q at *
 obtain ⟨x5,k5,f5⟩:=q
 dsimp only at m5 ⊢
 have fa:=cM (l:=l) (k:=k5) (f:=f5) (c:=c)
 have nw:=cj (l:=l) (k:=k5) (f:=f5) (c:=c)
 refine MXA (fn:=Tryz.f189) Tryz.call189 Tryz.func189 rfl Tryz.ntmps189 Tryz.results189 rfl rfl ?_
 repeat'(first|(with_reducible first|apply AW.seq|apply AW.block|apply AW.skip|apply AW.ret|apply aa|apply aw|apply y_e|refine ae ?_)|((with_reducible apply ai);first|refine t_v AS.v ?_|refine t_w AS.w ?_|refine t_w (by first|exact av (hP:=m1)|exact av (hP:=m2)|exact av (hP:=m3)|exact av (hP:=m4)|exact av (hP:=m5)) ?_)|((with_reducible apply aK);refine t_f ?_)|((with_reducible apply ay);refine t_s AS.s ?_)|((with_reducible refine aq ?_);first|refine aJ ?_|(refine ah (fun hc=>?_) (fun hc=>?_);all_goals(try(exfalso;simp[*] at hc;done))))|((with_reducible refine aD ?_);refine b8 (k:=?_))|fail)
 all_goals exact⟨_,(_,_),rfl,aY _,ar rfl⟩
theorem uA (hf:Fine l) (s:Stm) (h:s.kind=7) (k:Ix l) (f:Fa):MX Tryz.prog 189 [(0,qsO k f c)] [.c (.ptr 0 0),.agg (stC s)] (.ok (bL s k f):Except Fa (Stm×(Ix l×Fa))) (fun s=>.agg (stC s)) (fun b=>[(0,qsO b.1 b.2 c)]) pvS:=by
 unfold bL
 have m1:=bS (c:=c) hf false k f
 generalize bz false k f=q at *
 obtain ⟨x1,k1,f1⟩:=q
 dsimp only at m1 ⊢
 unfold gL
 dsimp only
 have m2:=bS (c:=c) hf (decide (s.kind=12)) k1 f1
 generalize bz (decide (s.kind=12)) k1 f1=q at *
 obtain ⟨x2,k2,f2⟩:=q
 dsimp only at m2 ⊢
 unfold gI
 dsimp only
 rw[if_neg (by rw[h];decide)]
 have m3:=bV (c:=c) hf k2 f2 ⟨#[58]⟩
 generalize aO ⟨#[58]⟩ k2 f2=q at *
 obtain ⟨k3,f3⟩:=q
 dsimp only at m3 ⊢
 unfold jK
 have m4:=bS (c:=c) hf false k3 f3
 generalize bz false k3 f3=q at *
 obtain ⟨x4,k4,f4⟩:=q
 dsimp only at m4 ⊢
 unfold gj
 dsimp only
 rw[if_neg (by rw[h];decide),if_neg (by rw[h];decide)]
 have m5:=bk (c:=c) hf k4 f4
 generalize aB k4 f4=q at *
 obtain ⟨x5,k5,f5⟩:=q
 dsimp only at m5 ⊢
 unfold jM
 dsimp only
 have e:¬ (decide (s.kind=13)&&decide (s.op=1)&&decide (f5.code=0)&&decide ((tk k5).kind=3))=true:=by simp[h]
 rw[if_neg e]
 clear e
 have fa:=cM (l:=l) (k:=k5) (f:=f5) (c:=c)
 have nw:=cj (l:=l) (k:=k5) (f:=f5) (c:=c)
 refine MXA (fn:=Tryz.f189) Tryz.call189 Tryz.func189 rfl Tryz.ntmps189 Tryz.results189 rfl rfl ?_
 repeat'(first|(with_reducible first|apply AW.seq|apply AW.block|apply AW.skip|apply AW.ret|apply aa|apply aw|apply y_e|refine ae ?_)|((with_reducible apply ai);first|refine t_v AS.v ?_|refine t_w AS.w ?_|refine t_w (by first|exact av (hP:=m1)|exact av (hP:=m2)|exact av (hP:=m3)|exact av (hP:=m4)|exact av (hP:=m5)) ?_)|((with_reducible apply aK);refine t_f ?_)|((with_reducible apply ay);refine t_s AS.s ?_)|((with_reducible refine aq ?_);first|refine aJ ?_|(refine ah (fun hc=>?_) (fun hc=>?_);all_goals(try(exfalso;simp[*] at hc;done))))|((with_reducible refine aD ?_);refine b8 (k:=?_))|fail)
 all_goals exact⟨_,(_,_),rfl,aY _,ar rfl⟩
theorem sY (hf:Fine l) (s:Stm) (h:s.kind=13) (k:Ix l) (f:Fa):MX Tryz.prog 189 [(0,qsO k f c)] [.c (.ptr 0 0),.agg (stC s)] (.ok (bL s k f):Except Fa (Stm×(Ix l×Fa))) (fun s=>.agg (stC s)) (fun b=>[(0,qsO b.1 b.2 c)]) pvS:=by
 unfold bL
 have m1:=bS (c:=c) hf false k f
 generalize bz false k f=q at *
 obtain ⟨x1,k1,f1⟩:=q
 dsimp only at m1 ⊢
 unfold gL
 dsimp only
 have m2:=bS (c:=c) hf (decide (s.kind=12)) k1 f1
 generalize bz (decide (s.kind=12)) k1 f1=q at *
 obtain ⟨x2,k2,f2⟩:=q
 dsimp only at m2 ⊢
 unfold gI
 dsimp only
 rw[if_neg (by rw[h];decide)]
 have m3:=bV (c:=c) hf k2 f2 ⟨#[58]⟩
 generalize aO ⟨#[58]⟩ k2 f2=q at *
 obtain ⟨k3,f3⟩:=q
 dsimp only at m3 ⊢
 unfold jK
 have m4:=bS (c:=c) hf false k3 f3
 generalize bz false k3 f3=q at *
 obtain ⟨x4,k4,f4⟩:=q
 dsimp only at m4 ⊢
 unfold gj
 dsimp only
 rw[if_neg (by rw[h];decide),if_neg (by rw[h];decide)]
 have m5:=bk (c:=c) hf k4 f4
 generalize aB k4 f4=q at *
 obtain ⟨x5,k5,f5⟩:=q
 dsimp only at m5 ⊢
 unfold jM
 dsimp only
 have fa:=cM (l:=l) (k:=k5) (f:=f5) (c:=c)
 have nw:=cj (l:=l) (k:=k5) (f:=f5) (c:=c)
 by_cases hb:s.op=1∧f5.code=0∧(tk k5).kind=3
 ·obtain ⟨b1,b2,b3⟩:=hb
  have e:(decide (s.kind=13)&&decide (s.op=1)&&decide (f5.code=0)&&decide ((tk k5).kind=3))=true:=by simp[h,b1,b2,b3]
  rw[if_pos e]
  clear e
  have m6:=qI (c:=c) hf true k5 f5
  generalize ef true k5 f5=q at *
  obtain ⟨x6,k6,f6⟩:=q
  dsimp only at m6 ⊢
  refine MXA (fn:=Tryz.f189) Tryz.call189 Tryz.func189 rfl Tryz.ntmps189 Tryz.results189 rfl rfl ?_
  repeat'(first|(with_reducible first|apply AW.seq|apply AW.block|apply AW.skip|apply AW.ret|apply aa|apply aw|apply y_e|refine ae ?_)|((with_reducible apply ai);first|refine t_v AS.v ?_|refine t_w AS.w ?_|refine t_w (by first|exact av (hP:=m1)|exact av (hP:=m2)|exact av (hP:=m3)|exact av (hP:=m4)|exact av (hP:=m5)|exact av (hP:=m6)) ?_)|((with_reducible apply aK);first|refine t_m (hs:=fun hg=>AS.v) (k:=?_)|refine t_m (hs:=fun hg=>(by first|exact az (hP:=fa)|exact az (hP:=nw))) (k:=?_))|((with_reducible apply ay);refine t_s AS.s ?_)|((with_reducible refine aq ?_);((refine ah (fun hc=>?_) (fun hc=>?_);all_goals(try(exfalso;simp[*] at hc;done)))))|((with_reducible refine aD ?_);refine b8 (k:=?_))|fail)
  all_goals exact⟨_,(_,_),rfl,aY _,ar rfl⟩
 ·have e:¬ (decide (s.kind=13)&&decide (s.op=1)&&decide (f5.code=0)&&decide ((tk k5).kind=3))=true:=by
   intro e
   simp only[Bool.and_eq_true,decide_eq_true_eq] at e
   exact hb ⟨e.1.1.2,e.1.2,e.2⟩
  rw[if_neg e]
  clear e
  refine MXA (fn:=Tryz.f189) Tryz.call189 Tryz.func189 rfl Tryz.ntmps189 Tryz.results189 rfl rfl ?_
  repeat'(first|(with_reducible first|apply AW.seq|apply AW.block|apply AW.skip|apply AW.ret|apply aa|apply aw|apply y_e|refine ae ?_)|((with_reducible apply ai);first|refine t_v AS.v ?_|refine t_w AS.w ?_|refine t_w (by first|exact av (hP:=m1)|exact av (hP:=m2)|exact av (hP:=m3)|exact av (hP:=m4)|exact av (hP:=m5)) ?_)|((with_reducible apply aK);first|refine t_m (hs:=fun hg=>AS.v) (k:=?_)|refine t_m (hs:=fun hg=>(by first|exact az (hP:=fa)|exact az (hP:=nw))) (k:=?_))|((with_reducible apply ay);refine t_s AS.s ?_)|((with_reducible refine aq ?_);((refine ah (fun hc=>?_) (fun hc=>?_);all_goals(try(exfalso;simp[*] at hc;done));all_goals(try(exfalso;revert hc;simp;omega)))))|((with_reducible refine aD ?_);refine b8 (k:=?_))|fail)
  all_goals exact⟨_,(_,_),rfl,aY _,ar rfl⟩
theorem uH (hf:Fine l) (s:Stm) (h:s.kind=22) (k:Ix l) (f:Fa):MX Tryz.prog 190 [(0,qsO k f c)] [.c (.ptr 0 0),.agg (stC s)] (.ok (bB s k f):Except Fa (Stm×(Ix l×Fa))) (fun s=>.agg (stC s)) (fun b=>[(0,qsO b.1 b.2 c)]) pvS:=by
 unfold bB
 rw[if_neg (by rw[h];decide),if_neg (by rw[h];decide),if_neg (by rw[h];decide),if_neg (by rw[h];decide),if_neg (by rw[h];decide),if_pos h]
 unfold tr
 have m1:=bS (c:=c) hf false k f
 generalize bz false k f=q at *
 obtain ⟨x1,k1,f1⟩:=q
 dsimp only at m1 ⊢
 refine MXA (fn:=Tryz.f190) Tryz.call190 Tryz.func190 rfl Tryz.ntmps190 Tryz.results190 rfl rfl ?_
 repeat'(first|(with_reducible first|apply AW.seq|apply AW.block|apply AW.ret|apply aa|apply aw|apply y_e|refine ae ?_)|((with_reducible apply ai);first|refine t_v AS.v ?_|refine t_w AS.w ?_|refine t_w (by exact av (hP:=m1)) ?_)|((with_reducible apply ay);refine t_s AS.s ?_)|((with_reducible refine aq ?_);((refine ah (fun hc=>?_) (fun hc=>?_);all_goals(try(exfalso;simp[*] at hc;done)))))|((with_reducible refine aD ?_);refine b8 (k:=?_))|fail)
 all_goals exact⟨_,(_,_),rfl,aY _,ar rfl⟩
theorem vd (hf:Fine l) (s:Stm) (h:s.kind=20) (k:Ix l) (f:Fa):MX Tryz.prog 190 [(0,qsO k f c)] [.c (.ptr 0 0),.agg (stC s)] (.ok (bB s k f):Except Fa (Stm×(Ix l×Fa))) (fun s=>.agg (stC s)) (fun b=>[(0,qsO b.1 b.2 c)]) pvS:=by
 unfold bB
 rw[if_neg (by rw[h];decide),if_neg (by rw[h];decide),if_neg (by rw[h];decide),if_pos h]
 unfold BE
 have m1:=bk (c:=c) hf k f
 generalize aB k f=q at *
 obtain ⟨x1,k1,f1⟩:=q
 dsimp only at m1 ⊢
 unfold o0
 have m2:=lu (c:=c) hf k1 f1
 generalize cY k1 f1=q at *
 obtain ⟨x2,k2,f2⟩:=q
 dsimp only at m2 ⊢
 refine MXA (fn:=Tryz.f190) Tryz.call190 Tryz.func190 rfl Tryz.ntmps190 Tryz.results190 rfl rfl ?_
 repeat'(first|(with_reducible first|apply AW.seq|apply AW.block|apply AW.ret|apply aa|apply aw|apply y_e|refine ae ?_)|((with_reducible apply ai);first|refine t_v AS.v ?_|refine t_w AS.w ?_|refine t_w (by first|exact av (hP:=m1)|exact av (hP:=m2)) ?_)|((with_reducible apply ay);refine t_s AS.s ?_)|((with_reducible refine aq ?_);((refine ah (fun hc=>?_) (fun hc=>?_);all_goals(try(exfalso;simp[*] at hc;done)))))|((with_reducible refine aD ?_);refine b8 (k:=?_))|fail)
 all_goals exact⟨_,(_,_),rfl,aY _,ar rfl⟩
theorem uM (hf:Fine l) (s:Stm) (h:s.kind=15) (k:Ix l) (f:Fa):MX Tryz.prog 190 [(0,qsO k f c)] [.c (.ptr 0 0),.agg (stC s)] (.ok (bB s k f):Except Fa (Stm×(Ix l×Fa))) (fun s=>.agg (stC s)) (fun b=>[(0,qsO b.1 b.2 c)]) pvS:=by
 unfold bB
 rw[if_pos h]
 unfold zP
 have m1:=bS (c:=c) hf false k f
 generalize bz false k f=q at *
 obtain ⟨x1,k1,f1⟩:=q
 dsimp only at m1 ⊢
 unfold tQ
 have m2:=bS (c:=c) hf false k1 f1
 generalize bz false k1 f1=q at *
 obtain ⟨x2,k2,f2⟩:=q
 dsimp only at m2 ⊢
 unfold oo
 have m3:=r7 (c:=c) hf false k2 f2
 generalize gZ false k2 f2=q at *
 obtain ⟨x3,k3,f3⟩:=q
 dsimp only at m3 ⊢
 refine MXA (fn:=Tryz.f190) Tryz.call190 Tryz.func190 rfl Tryz.ntmps190 Tryz.results190 rfl rfl ?_
 repeat'(first|(with_reducible first|apply AW.seq|apply AW.block|apply AW.ret|apply aa|apply aw|apply y_e|refine ae ?_)|((with_reducible apply ai);first|refine t_v AS.v ?_|refine t_w AS.w ?_|refine t_w (by first|exact av (hP:=m1)|exact av (hP:=m2)|exact av (hP:=m3)) ?_)|((with_reducible apply ay);refine t_s AS.s ?_)|((with_reducible refine aq ?_);((refine ah (fun hc=>?_) (fun hc=>?_);all_goals(try(exfalso;simp[*] at hc;done)))))|((with_reducible refine aD ?_);refine b8 (k:=?_))|fail)
 all_goals exact⟨_,(_,_),rfl,aY _,ar rfl⟩
theorem ur (hf:Fine l) (s:Stm) (h:s.kind=16) (k:Ix l) (f:Fa):MX Tryz.prog 190 [(0,qsO k f c)] [.c (.ptr 0 0),.agg (stC s)] (.ok (bB s k f):Except Fa (Stm×(Ix l×Fa))) (fun s=>.agg (stC s)) (fun b=>[(0,qsO b.1 b.2 c)]) pvS:=by
 unfold bB
 rw[if_neg (by rw[h];decide),if_pos h]
 unfold Bj
 have m1:=bS (c:=c) hf false k f
 generalize bz false k f=q at *
 obtain ⟨x1,k1,f1⟩:=q
 dsimp only at m1 ⊢
 unfold oo
 have m3:=r7 (c:=c) hf true k1 f1
 generalize gZ true k1 f1=q at *
 obtain ⟨x3,k3,f3⟩:=q
 dsimp only at m3 ⊢
 refine MXA (fn:=Tryz.f190) Tryz.call190 Tryz.func190 rfl Tryz.ntmps190 Tryz.results190 rfl rfl ?_
 repeat'(first|(with_reducible first|apply AW.seq|apply AW.block|apply AW.ret|apply aa|apply aw|apply y_e|refine ae ?_)|((with_reducible apply ai);first|refine t_v AS.v ?_|refine t_w AS.w ?_|refine t_w (by first|exact av (hP:=m1)|exact av (hP:=m3)) ?_)|((with_reducible apply ay);refine t_s AS.s ?_)|((with_reducible refine aq ?_);((refine ah (fun hc=>?_) (fun hc=>?_);all_goals(try(exfalso;simp[*] at hc;done)))))|((with_reducible refine aD ?_);refine b8 (k:=?_))|fail)
 all_goals exact⟨_,(_,_),rfl,aY _,ar rfl⟩
theorem vD (hf:Fine l) (s:Stm) (h:s.kind=21) (k:Ix l) (f:Fa):MX Tryz.prog 190 [(0,qsO k f c)] [.c (.ptr 0 0),.agg (stC s)] (.ok (bB s k f):Except Fa (Stm×(Ix l×Fa))) (fun s=>.agg (stC s)) (fun b=>[(0,qsO b.1 b.2 c)]) pvS:=by
 unfold bB
 rw[if_neg (by rw[h];decide),if_neg (by rw[h];decide),if_neg (by rw[h];decide),if_neg (by rw[h];decide),if_pos h]
 unfold uh
 have m1:=qI (c:=c) hf false k f
 generalize ef false k f=q at *
 obtain ⟨x1,k1,f1⟩:=q
 dsimp only at m1 ⊢
 unfold p9
 have m2:=gm (c:=c) hf eU (by decide) k1 f1
 have hb:=nE eU k1 f1
 generalize b9 eU k1 f1=q at *
 obtain ⟨x2,k2,f2⟩:=q
 have hb:0≤x2∧x2≤5:=hb
 dsimp only at m2 ⊢
 have hw:IntKind.i64.wrap (x2 - 1)=x2 - 1:=wrap64 (by omega) (by omega)
 unfold o0
 have m3:=lu (c:=c) hf k2 f2
 generalize cY k2 f2=q at *
 obtain ⟨x3,k3,f3⟩:=q
 dsimp only at m3 ⊢
 unfold eU at m2
 refine MXA (fn:=Tryz.f190) Tryz.call190 Tryz.func190 rfl Tryz.ntmps190 Tryz.results190 rfl rfl ?_
 repeat'(first|(with_reducible first|apply AW.seq|apply AW.block|apply AW.ret|apply aa|apply aw|apply y_e|refine ae ?_)|((with_reducible apply ai);first|refine t_v AS.v ?_|refine t_w AS.w ?_|refine t_w (by first|exact av (hP:=m1)|exact av (hP:=m2)|exact av (hP:=m3)) ?_)|((with_reducible apply ay);refine t_s AS.s ?_)|((with_reducible refine aq ?_);((refine ah (fun hc=>?_) (fun hc=>?_);all_goals(try(exfalso;simp[*] at hc;done)))))|((with_reducible refine aD ?_);refine b8 (k:=?_))|fail)
 all_goals exact⟨_,(_,_),rfl,aY _,ar rfl⟩
theorem vE (hf:Fine l) (s:Stm) (h:s.kind=23) (k:Ix l) (f:Fa):MX Tryz.prog 190 [(0,qsO k f c)] [.c (.ptr 0 0),.agg (stC s)] (.ok (bB s k f):Except Fa (Stm×(Ix l×Fa))) (fun s=>.agg (stC s)) (fun b=>[(0,qsO b.1 b.2 c)]) pvS:=by
 unfold bB
 rw[if_neg (by rw[h];decide),if_neg (by rw[h];decide),if_neg (by rw[h];decide),if_neg (by rw[h];decide),if_neg (by rw[h];decide),if_neg (by rw[h];decide),if_pos h]
 unfold wS
 have m1:=bk (c:=c) hf k f
 generalize aB k f=q at *
 obtain ⟨x1,k1,f1⟩:=q
 dsimp only at m1 ⊢
 unfold tu
 have m2:=gm (c:=c) hf iK (by decide) k1 f1
 generalize b9 iK k1 f1=q at *
 obtain ⟨x2,k2,f2⟩:=q
 dsimp only at m2 ⊢
 unfold tU
 have m3:=bS (c:=c) hf false k2 f2
 generalize bz false k2 f2=q at *
 obtain ⟨x3,k3,f3⟩:=q
 dsimp only at m3 ⊢
 unfold xV
 have m4:=bS (c:=c) hf false k3 f3
 generalize bz false k3 f3=q at *
 obtain ⟨x4,k4,f4⟩:=q
 dsimp only at m4 ⊢
 unfold iK at m2
 refine MXA (fn:=Tryz.f190) Tryz.call190 Tryz.func190 rfl Tryz.ntmps190 Tryz.results190 rfl rfl ?_
 repeat'(first|(with_reducible first|apply AW.seq|apply AW.block|apply AW.ret|apply aa|apply aw|apply y_e|refine ae ?_)|((with_reducible apply ai);first|refine t_v AS.v ?_|refine t_w AS.w ?_|refine t_w (by first|exact av (hP:=m1)|exact av (hP:=m2)|exact av (hP:=m3)|exact av (hP:=m4)) ?_)|((with_reducible apply ay);refine t_s AS.s ?_)|((with_reducible refine aq ?_);((refine ah (fun hc=>?_) (fun hc=>?_);all_goals(try(exfalso;simp[*] at hc;done)))))|((with_reducible refine aD ?_);refine b8 (k:=?_))|fail)
 all_goals exact⟨_,(_,_),rfl,aY _,ar rfl⟩
end
end Am
end Go.Proofs.YtkpodagbefnebaaGreatDoor
