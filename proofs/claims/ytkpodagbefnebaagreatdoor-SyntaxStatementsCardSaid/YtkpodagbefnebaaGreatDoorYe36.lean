import Derived.Test.YtkpodagbefnebaaGreatDoorYe35
import Derived.Test.YtkpodagbefnebaaGreatDoorYe34
set_option linter.unusedSimpArgs false
set_option linter.unusedVariables false
set_option linter.unusedSectionVars false
namespace Go.Proofs.YtkpodagbefnebaaGreatDoor
namespace Am
open Tk Go.RowKit
set_option maxRecDepth 100000
set_option maxHeartbeats 4000000
def exS:Stm:={Stm.zero with kind:=12,op:=1,pos:=⟨1,13⟩,source:=⟨false,false,false,[⟨#[97]⟩],[]⟩,target:=⟨false,false,true,[⟨#[98]⟩],[]⟩,cls:=⟨false,false,false,[⟨#[102,105,108,101]⟩],[]⟩,perms:=⟨false,false,false,[⟨#[114,101,97,100]⟩,⟨#[119,114,105,116,101]⟩],[]⟩}
theorem FA:kS ⟨#[109,111,100,117,108,101,32,109,32,49,59,32,97,108,108,111,119,32,97,32,123,32,98,32,115,101,108,102,32,125,32,58,32,102,105,108,101,32,123,32,114,101,97,100,32,119,114,105,116,101,32,125,59]⟩= .ok ⟨⟨#[109]⟩,1,[exS]⟩:=by kernel_rfl
theorem FH:kS ⟨#[109,111,100,117,108,101,32,109,32,49,59,32,97,108,108,111,119,32,115,101,108,102,32,98,32,58,32,102,105,108,101,32,114,101,97,100,59]⟩= .error ⟨9,⟨1,19⟩,⟨#[115,101,108,102]⟩⟩:=by kernel_rfl
theorem Fk:kS ⟨#[109,111,100,117,108,101,32,109,32,49,48,48,48,48,59]⟩= .error ⟨3,⟨1,10⟩,⟨#[49,48,48,48,48]⟩⟩:=by kernel_rfl
theorem Fo:pn ⟨#[126,32,123,32,97,32,45,32,98,32,125]⟩= .ok ⟨false,true,false,[⟨#[97]⟩],[⟨#[98]⟩]⟩:=by kernel_rfl
theorem Bt:Pure Tryz.prog 13 [] (.c (sB true)):=by
 obtain ⟨m1,s1,e1,hm,hk,ho,hp,hs,hl⟩:∃ m s,kS ⟨#[109,111,100,117,108,101,32,109,32,49,59,32,97,108,108,111,119,32,97,32,123,32,98,32,115,101,108,102,32,125,32,58,32,102,105,108,101,32,123,32,114,101,97,100,32,119,114,105,116,101,32,125,59]⟩= .ok m∧m.stmts=[s]∧s.kind=12∧s.op=1∧s.pos=⟨1,13⟩∧s.target.self=true∧s.perms.names.length=2:=⟨_,_,FA,rfl,rfl,rfl,rfl,rfl,rfl⟩
 obtain ⟨n1,e4,hn,hn1,hn2⟩:∃ n,pn ⟨#[126,32,123,32,97,32,45,32,98,32,125]⟩= .ok n∧n.nt=true∧n.names.length=1∧n.except.length=1:=⟨_,Fo,rfl,rfl,rfl⟩
 have p1:=pj ⟨#[109,111,100,117,108,101,32,109,32,49,59,32,97,108,108,111,119,32,97,32,123,32,98,32,115,101,108,102,32,125,32,58,32,102,105,108,101,32,123,32,114,101,97,100,32,119,114,105,116,101,32,125,59]⟩
 have p2:=pj ⟨#[109,111,100,117,108,101,32,109,32,49,59,32,97,108,108,111,119,32,115,101,108,102,32,98,32,58,32,102,105,108,101,32,114,101,97,100,59]⟩
 have p3:=pj ⟨#[109,111,100,117,108,101,32,109,32,49,48,48,48,48,59]⟩
 have p4:=A5 ⟨#[126,32,123,32,97,32,45,32,98,32,125]⟩
 rw[e1] at p1
 rw[FH] at p2
 rw[Fk] at p3
 rw[e4] at p4
 have p1:Pure _ _ _ (.tup [.agg (moC m1),.agg (faC Fa.zero)]):=p1
 have p2:Pure _ _ _ (.tup [.agg (moC Mo.zero),.agg (faC ⟨9,⟨1,19⟩,⟨#[115,101,108,102]⟩⟩)]):=p2
 have p3:Pure _ _ _ (.tup [.agg (moC Mo.zero),.agg (faC ⟨3,⟨1,10⟩,⟨#[49,48,48,48,48]⟩⟩)]):=p3
 have p4:Pure _ _ _ (.tup [.agg (nsC n1),.agg (faC Fa.zero)]):=p4
 clear e1 e4
 have hg:(m1.stmts.map stC)[0]? =some (stC s1):=by rw[hm];rfl
 have hml:m1.stmts.length=1:=by rw[hm];rfl
 refine fn0 (fn:=Tryz.f13) Tryz.call13 Tryz.func13 rfl Tryz.ntmps13 Tryz.results13 rfl (by rfl) ?_
 repeat'(first|(with_reducible first|apply AW.seq|apply AW.skip|apply AW.ret|apply aa|apply ak|apply y_e|refine ae ?_)|((with_reducible apply ai);first|refine t_v AS.v ?_|refine t_v (by first|exact aj (hP:=p1)|exact aj (hP:=p2)|exact aj (hP:=p3)|exact aj (hP:=p4)) ?_|refine t_w AS.w ?_)|((with_reducible apply aK);first|refine t_m (hs:=fun hg=>AS.v) (k:=?_)|refine t_m (hs:=fun hg=>(by first|exact Bf|exact At)) (k:=?_))|((with_reducible apply ay);refine t_s AS.s ?_)|((with_reducible refine aq ?_);((refine ah (fun hc=>?_) (fun hc=>?_))))|((with_reducible refine aM ?_);refine k_b ?_)|fail)
 ·exfalso
  simp[hml,Fa.zero] at hc
 ·simp[hk,ho,hp,hs,hl,hn,hn1,hn2,Fa.zero]
end Am
namespace Am
open Tk Go.RowKit
set_option maxRecDepth 100000
set_option maxHeartbeats 4000000
theorem vJ:Pure Tryz.prog 22 [.c .nil,.c .nil] (.c (sB true)):=by
 refine fn2 (fn:=Tryz.f22) Tryz.call22 Tryz.func22 rfl Tryz.ntmps22 Tryz.results22 rfl (by rfl) ?_
 repeat'(first|(with_reducible first|apply AW.seq|apply AW.block|apply AW.skip|apply AW.ret|apply AW.exit|apply aa|apply aD|apply aH|apply y_e|refine ae ?_)|((with_reducible apply ai);refine t_v AS.v ?_)|((with_reducible refine aq ?_);refine aI ?_)|((with_reducible refine aM ?_);refine k_b ?_)|fail)
 refine AW.loop (fun n σ=>n=0∧σ=mk [(0,.c .nil),(1,.c .nil),(5,.c (sI 0))] []) 0 ?_ ?_
 ·exact⟨_,wkA,rfl,rfl⟩
 rintro n σ ⟨rfl,rfl⟩
 repeat'(first|(with_reducible first|apply AW.seq|apply AW.block|apply AW.skip|apply AW.ret|apply AW.exit|apply aa|apply aD|apply aH|apply y_e|refine ae ?_)|((with_reducible apply ai);refine t_v AS.v ?_)|((with_reducible refine aq ?_);refine aI ?_)|((with_reducible refine aM ?_);refine k_b ?_)|fail)
 all_goals rfl
theorem uy:Pure Tryz.prog 17 [.c .nil,.c .nil] (.c (sB true)):=by
 refine fn2 (fn:=Tryz.f17) Tryz.call17 Tryz.func17 rfl Tryz.ntmps17 Tryz.results17 rfl (by rfl) ?_
 repeat'(first|(with_reducible first|apply AW.seq|apply AW.block|apply AW.skip|apply AW.ret|apply AW.exit|apply aa|apply aD|apply aH|apply y_e|refine ae ?_)|((with_reducible apply ai);refine t_v AS.v ?_)|((with_reducible refine aq ?_);refine aI ?_)|((with_reducible refine aM ?_);refine k_b ?_)|fail)
 refine AW.loop (fun n σ=>n=0∧σ=mk [(0,.c .nil),(1,.c .nil),(5,.c (sI 0))] []) 0 ?_ ?_
 ·exact⟨_,wkA,rfl,rfl⟩
 rintro n σ ⟨rfl,rfl⟩
 repeat'(first|(with_reducible first|apply AW.seq|apply AW.block|apply AW.skip|apply AW.ret|apply AW.exit|apply aa|apply aD|apply aH|apply y_e|refine ae ?_)|((with_reducible apply ai);refine t_v AS.v ?_)|((with_reducible refine aq ?_);refine aI ?_)|((with_reducible refine aM ?_);refine k_b ?_)|fail)
 all_goals rfl
theorem law_sts (src:ByteArray):Pure Tryz.prog 5 [.c (sS src)] (.c (sB true)):=by
 have al:=Bt
 by_cases hs:src.size≤9000
 ·have p1:=zD src
  have p2:=vf src
  cases hp:mf src with
  |ok x=>
   rw[hp] at p1 p2
   have p1:Pure _ _ _ (.tup [.c (.lst none 55 (x.map stC)),.agg (faC Fa.zero)]):=p1
   have p2:Pure _ _ _ (.tup [.c (.lst none 55 (x.map stC)),.agg (faC Fa.zero)]):=p2
   have p3:=uC x x
   rw[AC] at p3
   have p4:=zY x
   clear hp
   refine fn1 (fn:=Tryz.f5) Tryz.call5 Tryz.func5 rfl Tryz.ntmps5 Tryz.results5 rfl (by rfl) ?_
   repeat'(first|(with_reducible first|apply AW.seq|apply AW.skip|apply AW.ret|apply aa|apply y_e|refine ae ?_)|((with_reducible apply ai);first|refine t_v AS.v ?_|refine t_v (by first|exact aj (hP:=p1)|exact aj (hP:=p2)|exact tZ) ?_|refine t_w AS.w ?_)|((with_reducible apply aK);first|refine t_m (hs:=fun hg=>AS.v) (k:=?_)|refine t_m (hs:=fun hg=>(by first|exact aj (hP:=al)|exact aj (hP:=p3)|exact aj (hP:=p4))) (k:=?_))|((with_reducible apply ay);refine t_s AS.s ?_)|((with_reducible refine aq ?_);((refine ah (fun hc=>?_) (fun hc=>?_);all_goals(try(exfalso;revert hc;simp;omega)))))|((with_reducible refine aM ?_);refine k_b ?_)|fail)
   all_goals first|rfl|(exfalso;simp at hc;done)|simp|trace_state
  |error g=>
   rw[hp] at p1 p2
   have p1:Pure _ _ _ (.tup [.c .nil,.agg (faC g)]):=p1
   have p2:Pure _ _ _ (.tup [.c .nil,.agg (faC g)]):=p2
   have p3:=vJ
   have p4:=uy
   clear hp
   refine fn1 (fn:=Tryz.f5) Tryz.call5 Tryz.func5 rfl Tryz.ntmps5 Tryz.results5 rfl (by rfl) ?_
   repeat'(first|(with_reducible first|apply AW.seq|apply AW.skip|apply AW.ret|apply aa|apply y_e|refine ae ?_)|((with_reducible apply ai);first|refine t_v AS.v ?_|refine t_v (by first|exact aj (hP:=p1)|exact aj (hP:=p2)|exact tZ) ?_|refine t_w AS.w ?_)|((with_reducible apply aK);first|refine t_m (hs:=fun hg=>AS.v) (k:=?_)|refine t_m (hs:=fun hg=>(by first|exact aj (hP:=al)|exact aj (hP:=p3)|exact aj (hP:=p4))) (k:=?_))|((with_reducible apply ay);refine t_s AS.s ?_)|((with_reducible refine aq ?_);((refine ah (fun hc=>?_) (fun hc=>?_);all_goals(try(exfalso;revert hc;simp;omega)))))|((with_reducible refine aM ?_);refine k_b ?_)|fail)
   all_goals simp
 ·refine fn1 (fn:=Tryz.f5) Tryz.call5 Tryz.func5 rfl Tryz.ntmps5 Tryz.results5 rfl (by rfl) ?_
  repeat'(first|(with_reducible first|apply AW.seq|apply AW.ret|apply aa|apply ak|apply y_e|refine ae ?_)|((with_reducible apply ai);first|refine t_v AS.v ?_|refine t_v (by exact aj (hP:=al)) ?_)|((with_reducible refine aq ?_);((refine ah (fun hc=>?_) (fun hc=>?_);all_goals(try(exfalso;revert hc;simp;omega)))))|((with_reducible refine aM ?_);refine k_b ?_)|fail)
  rfl
end Am
end Go.Proofs.YtkpodagbefnebaaGreatDoor
