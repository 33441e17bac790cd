import Derived.Test.YtkpodagbefnebaaGreatDoorYg31
import Derived.Laws.StructEq
import Derived.Test.YtkpodagbefnebaaGreatDoorYg30
import Derived.Test.YtkpodagbefnebaaGreatDoorYg25
set_option linter.unusedSimpArgs false
set_option linter.unusedVariables false
set_option linter.unusedSectionVars false
namespace Go.Proofs.YtkpodagbefnebaaGreatDoor
namespace Am
open Tk Go.RowKit
set_option maxRecDepth 100000
set_option maxHeartbeats 4000000
def rtV {α:Type} (z:V) (R:α→V):Except Fa α→V
 | .ok a=>.tup [R a,.agg (faC Fa.zero)]
 | .error f=>.tup [z,.agg (faC f)]
theorem JZ:pX 49 (.obj 25 (moC Mo.zero)) (fun m=>.obj 25 (moC m)) (fun _ k=>lx k):=fun l hf h=>by
 have st:=fun k=>(Cz hf (Hs hf) (fuel l) (fuel l) (Nat.le_refl _)).ss 0 k 0 (by decide) (by unfold fuel;omega)
 have md:=Bu (k:=(⟨0,h⟩:Ix l)) (c:=0) (d:=0) hf
 have e:(lx (⟨0,h⟩:Ix l)>>=fun x=>.ok ((),x):Except Fa (Unit×(Mo×(Ix l×Nat))))=gm (⟨0,h⟩:Ix l)>>=fun x=>ct tksK (fuel l) 0 [] x.2 0>>=fun y=>.ok ((),({x.1 with stmts:=y.1},y.2)):=by
  unfold lx
  cases gm (⟨0,h⟩:Ix l) with
  |error f=>rfl
  |ok x=>
   simp only[aa]
   cases ct tksK (fuel l) 0 [] x.2 0 with
   |error f=>rfl
   |ok y=>rfl
 rw[e]
 clear e
 refine MXA (fn:=Tryz.f49) Tryz.call49 Tryz.func49 rfl Tryz.ntmps49 Tryz.results49 rfl rfl ?_
 repeat'(first|(with_reducible first|apply AW.seq|apply ae|apply aD|apply y_e|refine ag ?_)|((with_reducible apply ak);first|refine t_v AS.v ?_|refine bB (hP:=md) (k1:=fun x k h=>?_) (k2:=fun e h σx=>?_)|refine bB (hP:=st _) (k1:=fun x k h=>?_) (k2:=fun e h σx=>?_))|((with_reducible apply aX);refine t_s AS.s ?_)|((with_reducible refine bj ?_);first|(with_reducible refine aW ?_)|refine oz (k:=?_))|fail)
 ·rename_i h1
  exact⟨(),(_,_),by rw[h1,aa,h];rfl,rfl,aC rfl,aC rfl⟩
 ·rename_i h1
  rw[h1,aa,h];rfl
 ·rw[h];rfl
theorem Jb {l:List Tok} {α:Type} (x:Except Fa (α×Ix l)):(zQ x>>=fun y=>.ok ((),y):Except Fa (Unit×(α×(Ix l×Nat))))=x>>=fun y=>.ok ((),(y.1,(y.2,0))):=by
 unfold zQ
 cases x <;> rfl
theorem JT:pX 79 (.obj 60 (nsC NS.zero)) (fun x=>.obj 60 (nsC x)) (fun _ k=>zQ (eG true k)):=fun l hf h=>by
 have c:=pB (k:=(⟨0,h⟩:Ix l)) (c:=0) (d:=0) hf true
 rw[Jb]
 refine MXA (fn:=Tryz.f79) Tryz.call79 Tryz.func79 rfl Tryz.ntmps79 Tryz.results79 rfl rfl ?_
 repeat'(first|(with_reducible first|apply y_e|refine ag ?_)|((with_reducible apply ak);first|refine t_v AS.v ?_|refine bB (hP:=c) (k1:=fun x k h=>?_) (k2:=fun e h σx=>?_))|((with_reducible apply aX);refine t_s AS.s ?_)|((with_reducible refine bj ?_);first|(with_reducible refine aW ?_)|refine oz (k:=?_))|fail)
 ·exact⟨(),(_,(_,0)),by rw[h];rfl,rfl,aC rfl,aC rfl⟩
 ·rw[h];rfl
theorem HW:NZs (fun _ k=>lx k):=fun _ k=>EK k
theorem HY:NZs (fun _ k=>zQ (eG true k)):=fun _ k=>KW (pA _ _)
theorem nA (src:ByteArray):Pure Tryz.prog 14 [.c (sS src)] (rtV (.agg (moC Mo.zero)) (fun x=>.agg (moC x)) (iM src)):=by
 have hb:(HO.obj 25 (moC Mo.zero)).one=true:=by rfl
 have rn:=Cd (src:=src) hb JZ HW
 cases hp:iM src with
 |ok x=>
  have mp:=rn.1 x hp
  have ho:(HO.obj 25 (moC x)).one=true:=by simp[HO.one,okA,okL,C.ok]
  show Pure _ _ _ (.tup [.agg (moC x),.agg (faC Fa.zero)])
  refine fn1 (fn:=Tryz.f14) Tryz.call14 Tryz.func14 rfl Tryz.ntmps14 Tryz.results14 rfl (by first|rfl|simp[V.ok,okL,C.ok,okA,okV]) ?_
  repeat'(first|(with_reducible first|apply AW.seq|apply AW.skip|apply AW.ret|apply ae|apply y_e|refine ag ?_|refine bh ?_)|((with_reducible apply ak);first|refine t_w (ym mp ⟨fun d=>eS ho,fun ns=>iE ho⟩ hb (by simp[V.ok,okA])) ?_|refine t_v AS.v ?_|refine t_w AS.w ?_)|((with_reducible apply aX);refine t_s AS.s ?_)|((with_reducible refine av ?_);refine cg ?_)|((with_reducible refine aF ?_);(((refine EB ?_ ?_);all_goals(with_reducible (apply Ga)))))|(refine⟨by decide +kernel,?_⟩)|fail)
  all_goals first|exact vW (sL _ _) (n8 _)|exact vW rfl (n8 _)|(simp only[unA];done)|(simp only[V.un,C.un,unA];done)|rfl
 |error f=>
  obtain ⟨h0,o,ho,mp⟩:=rn.2 f hp
  show Pure _ _ _ (.tup [.agg (moC Mo.zero),.agg (faC f)])
  refine fn1 (fn:=Tryz.f14) Tryz.call14 Tryz.func14 rfl Tryz.ntmps14 Tryz.results14 rfl (by first|rfl|simp[V.ok,okL,C.ok,okA,okV]) ?_
  repeat'(first|(with_reducible first|apply AW.seq|apply AW.ret|apply ae|apply ar|apply y_e|refine ag ?_|refine bh ?_)|((with_reducible apply ak);first|refine t_w (ym mp ho hb (by simp[V.ok,okA])) ?_|refine t_v AS.v ?_|refine t_w AS.w ?_)|((with_reducible apply aX);refine t_s AS.s ?_)|((with_reducible refine av ?_);((refine aj (fun hc=>?_) (fun hc=>?_);all_goals(try(exfalso;simp[*] at hc;done)))))|((with_reducible refine aF ?_);(((refine EB ?_ ?_);all_goals(with_reducible (apply Ga)))))|(refine⟨by decide +kernel,?_⟩)|fail)
  all_goals((simp only[unA];done))
theorem EL (src:ByteArray):Pure Tryz.prog 34 [.c (sS src)] (rtV (.agg (nsC NS.zero)) (fun x=>.agg (nsC x)) (rL src)):=by
 have hb:(HO.obj 60 (nsC NS.zero)).one=true:=by rfl
 have rn:=Cd (src:=src) hb JT HY
 cases hp:rL src with
 |ok x=>
  have mp:=rn.1 x hp
  have ho:(HO.obj 60 (nsC x)).one=true:=by simp[HO.one,okA,okL,C.ok]
  show Pure _ _ _ (.tup [.agg (nsC x),.agg (faC Fa.zero)])
  refine fn1 (fn:=Tryz.f34) Tryz.call34 Tryz.func34 rfl Tryz.ntmps34 Tryz.results34 rfl (by first|rfl|simp[V.ok,okL,C.ok,okA,okV]) ?_
  repeat'(first|(with_reducible first|apply AW.seq|apply AW.skip|apply AW.ret|apply ae|apply y_e|refine ag ?_|refine bh ?_)|((with_reducible apply ak);first|refine t_w (ym mp ⟨fun d=>eS ho,fun ns=>iE ho⟩ hb (by simp[V.ok,okA])) ?_|refine t_v AS.v ?_|refine t_w AS.w ?_)|((with_reducible apply aX);refine t_s AS.s ?_)|((with_reducible refine av ?_);refine cg ?_)|((with_reducible refine aF ?_);(((refine EB ?_ ?_);all_goals(with_reducible (apply Ga)))))|(refine⟨by decide +kernel,?_⟩)|fail)
  all_goals first|exact vW (sL _ _) (n8 _)|exact vW rfl (n8 _)|(simp only[unA];done)|(simp only[V.un,C.un,unA];done)|rfl
 |error f=>
  obtain ⟨h0,o,ho,mp⟩:=rn.2 f hp
  show Pure _ _ _ (.tup [.agg (nsC NS.zero),.agg (faC f)])
  refine fn1 (fn:=Tryz.f34) Tryz.call34 Tryz.func34 rfl Tryz.ntmps34 Tryz.results34 rfl (by first|rfl|simp[V.ok,okL,C.ok,okA,okV]) ?_
  repeat'(first|(with_reducible first|apply AW.seq|apply AW.ret|apply ae|apply ar|apply y_e|refine ag ?_|refine bh ?_)|((with_reducible apply ak);first|refine t_w (ym mp ho hb (by simp[V.ok,okA])) ?_|refine t_v AS.v ?_|refine t_w AS.w ?_)|((with_reducible apply aX);refine t_s AS.s ?_)|((with_reducible refine av ?_);((refine aj (fun hc=>?_) (fun hc=>?_);all_goals(try(exfalso;simp[*] at hc;done)))))|((with_reducible refine aF ?_);(((refine EB ?_ ?_);all_goals(with_reducible (apply Ga)))))|(refine⟨by decide +kernel,?_⟩)|fail)
  all_goals((simp only[unA];done))
end Am
namespace Am
open Tk Go.RowKit
set_option maxRecDepth 100000
set_option maxHeartbeats 4000000
theorem Po.ext' {a b:Po} (h1:a.line=b.line) (h2:a.col=b.col):a=b:=by cases a;cases b;simp_all
instance:DecidableEq Po:=fun a b=>if h:a.line=b.line∧a.col=b.col then isTrue (Po.ext' h.1 h.2) else isFalse fun e=>h (e▸⟨rfl,rfl⟩)
theorem Fa.ext' {a b:Fa} (h1:a.code=b.code) (h2:a.pos=b.pos) (h3:a.name=b.name):a=b:=by cases a;cases b;simp_all
instance:DecidableEq Fa:=fun a b=>if h:a.code=b.code∧a.pos=b.pos∧a.name=b.name then isTrue (Fa.ext' h.1 h.2.1 h.2.2) else isFalse fun e=>h (e▸⟨rfl,rfl,rfl⟩)
theorem BZ (d:Nat) (a b c e:Int) (w:World):(Op.equalIn (d+2) 28 (.agg #[.int .i64 a,.int .i64 b]) (.agg #[.int .i64 c,.int .i64 e])).run Tryz.prog w= .ok ((a == c)&&(b == e)) w:=by
 have hS:Tryz.prog.underlying 28=some (.struct (Tryz.prog.fieldsOf 28)):=by kernel_rfl
 have hp:Tryz.prog.stoodInHeld 28=false:=by kernel_rfl
 rw[run_equalIn_agg w (d+1) 28 _ _ hS hp]
 simp only[Program.fieldsOf,Tryz.underlying28]
 go_simp
 by_cases h1:a=c <;> by_cases h2:b=e <;> simp[h1,h2]
theorem AO (d:Nat) (a b c i e f:Int) (s t:ByteArray) (w:World):(Op.equalIn (d+3) 30 (.agg #[.int .i64 a,.int .i64 b,.int .i64 c,.string s]) (.agg #[.int .i64 i,.int .i64 e,.int .i64 f,.string t])).run Tryz.prog w= .ok ((a == i)&&((b == e)&&(c == f))&&(s.toList == t.toList)) w:=by
 have hS:Tryz.prog.underlying 30=some (.struct (Tryz.prog.fieldsOf 30)):=by kernel_rfl
 have hp:Tryz.prog.stoodInHeld 30=false:=by kernel_rfl
 have hq:=BZ d b c e f w
 rw[run_equalIn_agg w (d+2) 30 _ _ hS hp]
 simp only[Program.fieldsOf,Tryz.underlying30]
 go_simp
 by_cases h1:a=i
 ·by_cases h2:b=e
  ·by_cases h3:c=f
   ·by_cases h4:s.toList=t.toList
    ·simp[h1,h2,h3,h4]
    ·simp[h1,h2,h3,h4]
   ·simp[h1,h2,h3]
  ·simp[h1,h2]
 ·simp[h1]
theorem Lh (a b:Po):((a.line == b.line)&&(a.col == b.col))=decide (a=b):=by
 rw[Bool.eq_iff_iff]
 simp only[Bool.and_eq_true,beq_iff_eq,decide_eq_true_eq]
 exact⟨fun h=>Po.ext' h.1 h.2,fun h=>by rw[h];exact⟨rfl,rfl⟩⟩
theorem HA (a b:Fa):((a.code == b.code)&&((a.pos.line == b.pos.line)&&(a.pos.col == b.pos.col))&&(a.name.toList == b.name.toList))=decide (a=b):=by
 rw[Bool.eq_iff_iff]
 simp only[Bool.and_eq_true,beq_iff_eq,decide_eq_true_eq,lV]
 exact⟨fun h=>Fa.ext' h.1.1 (Po.ext' h.1.2.1 h.1.2.2) h.2,fun h=>by rw[h];exact⟨⟨rfl,rfl,rfl⟩,rfl⟩⟩
section
variable {ρ:Operand→Option V} {H:Nat→Option HO} {d:Option Nat} {ty t2:TypeId} {pos:String} {af:Array Edge} {gu:Option (Nat×Bool)} {x y:Operand}
theorem G1 {a b:Po} (hx:Ev ρ x (.agg (poC a)):=by exact aB) (hy:Ev ρ y (.agg (poC b)):=by exact aB):AS Tryz.prog ρ H ⟨d,.binOp .eql 28 x y t2,ty,pos,af,gu⟩ ⟨.c (sB (decide (a=b))),[],[]⟩:=by
 refine .still (x:=.bool (decide (a=b))) (fun q hq w=>?_) fun _=>.sc rfl
 have h1:=hq x (by simp[Op.operands]) _ _ hx (Cq.agg (vs:=[.int .i64 a.line,.int .i64 a.col]))
 have h2:=hq y (by simp[Op.operands]) _ _ hy (Cq.agg (vs:=[.int .i64 b.line,.int .i64 b.col]))
 have h3:(do eqGuard .eql 28 x y (.agg #[.int .i64 a.line,.int .i64 a.col]) (.agg #[.int .i64 b.line,.int .i64 b.col]);binOp .eql 28 (.agg #[.int .i64 a.line,.int .i64 a.col]) (.agg #[.int .i64 b.line,.int .i64 b.col]):Sem Value).run Tryz.prog w= .ok (.bool (decide (a=b))) w:=by
  have hz:(binOp .eql 28 (.agg #[.int .i64 a.line,.int .i64 a.col]) (.agg #[.int .i64 b.line,.int .i64 b.col])).run Tryz.prog w= .ok (.bool (decide (a=b))) w:=by
   rw[run_eql_struct,show(10000:Nat)=9998+2 from rfl,BZ 9998,←Lh];rfl
  have hg:(eqGuard .eql 28 x y (.agg #[.int .i64 a.line,.int .i64 a.col]) (.agg #[.int .i64 b.line,.int .i64 b.col])).run Tryz.prog w= .ok () w:=by simp[go_sem]
  rw[Sem.run_bind,hg,Result.andThen_ok,hz]
 unfold execOp
 simp only[h1,h2]
 simp only[Sem.run_bind] at h3 ⊢
 rw[h3]
 simp
theorem G5 {a b:Fa} (hx:Ev ρ x (.agg (faC a)):=by exact aB) (hy:Ev ρ y (.agg (faC b)):=by exact aB):AS Tryz.prog ρ H ⟨d,.binOp .neq 30 x y t2,ty,pos,af,gu⟩ ⟨.c (sB (!decide (a=b))),[],[]⟩:=by
 refine .still (x:=.bool (!decide (a=b))) (fun q hq w=>?_) fun _=>.sc rfl
 have h1:=hq x (by simp[Op.operands]) _ _ hx (Cq.agg (vs:=[.int .i64 a.code,.int .i64 a.pos.line,.int .i64 a.pos.col,.string a.name]))
 have h2:=hq y (by simp[Op.operands]) _ _ hy (Cq.agg (vs:=[.int .i64 b.code,.int .i64 b.pos.line,.int .i64 b.pos.col,.string b.name]))
 have h3:(do eqGuard .neq 30 x y (.agg #[.int .i64 a.code,.int .i64 a.pos.line,.int .i64 a.pos.col,.string a.name]) (.agg #[.int .i64 b.code,.int .i64 b.pos.line,.int .i64 b.pos.col,.string b.name]);binOp .neq 30 (.agg #[.int .i64 a.code,.int .i64 a.pos.line,.int .i64 a.pos.col,.string a.name]) (.agg #[.int .i64 b.code,.int .i64 b.pos.line,.int .i64 b.pos.col,.string b.name]):Sem Value).run Tryz.prog w= .ok (.bool (!decide (a=b))) w:=by
  have hz:(binOp .neq 30 (.agg #[.int .i64 a.code,.int .i64 a.pos.line,.int .i64 a.pos.col,.string a.name]) (.agg #[.int .i64 b.code,.int .i64 b.pos.line,.int .i64 b.pos.col,.string b.name])).run Tryz.prog w= .ok (.bool (!decide (a=b))) w:=by
   rw[run_neq_struct,show(10000:Nat)=9997+3 from rfl,AO 9997,←HA];rfl
  have hg:(eqGuard .neq 30 x y (.agg #[.int .i64 a.code,.int .i64 a.pos.line,.int .i64 a.pos.col,.string a.name]) (.agg #[.int .i64 b.code,.int .i64 b.pos.line,.int .i64 b.pos.col,.string b.name])).run Tryz.prog w= .ok () w:=by simp[go_sem]
  rw[Sem.run_bind,hg,Result.andThen_ok,hz]
 unfold execOp
 simp only[h1,h2]
 simp only[Sem.run_bind] at h3 ⊢
 rw[h3]
 simp
end
end Am
namespace Am
open Tk Go.RowKit
set_option maxRecDepth 100000
set_option maxHeartbeats 4000000
def exS:Stm:={Stm.zero with kind:=12,op:=1,pos:=⟨1,13⟩,source:=⟨false,false,false,[⟨#[97]⟩],[]⟩,target:=⟨false,false,true,[⟨#[98]⟩],[]⟩,cls:=⟨false,false,false,[⟨#[102,105,108,101]⟩],[]⟩,perms:=⟨false,false,false,[⟨#[114,101,97,100]⟩,⟨#[119,114,105,116,101]⟩],[]⟩}
theorem L9:iM ⟨#[109,111,100,117,108,101,32,109,32,49,59,32,97,108,108,111,119,32,97,32,123,32,98,32,115,101,108,102,32,125,32,58,32,102,105,108,101,32,123,32,114,101,97,100,32,119,114,105,116,101,32,125,59]⟩= .ok ⟨⟨#[109]⟩,1,[exS]⟩:=by kernel_rfl
theorem La:iM ⟨#[109,111,100,117,108,101,32,109,32,49,59,32,97,108,108,111,119,32,115,101,108,102,32,98,32,58,32,102,105,108,101,32,114,101,97,100,59]⟩= .error ⟨9,⟨1,19⟩,⟨#[115,101,108,102]⟩⟩:=by kernel_rfl
theorem Lb:iM ⟨#[109,111,100,117,108,101,32,109,32,49,48,48,48,48,59]⟩= .error ⟨3,⟨1,10⟩,⟨#[49,48,48,48,48]⟩⟩:=by kernel_rfl
theorem Lc:rL ⟨#[126,32,123,32,97,32,45,32,98,32,125]⟩= .ok ⟨false,true,false,[⟨#[97]⟩],[⟨#[98]⟩]⟩:=by kernel_rfl
theorem DK:Pure Tryz.prog 13 [] (.c (sB true)):=by
 obtain ⟨m1,s1,e1,hm,hk,ho,hp,hs,hl⟩:∃ m s,iM ⟨#[109,111,100,117,108,101,32,109,32,49,59,32,97,108,108,111,119,32,97,32,123,32,98,32,115,101,108,102,32,125,32,58,32,102,105,108,101,32,123,32,114,101,97,100,32,119,114,105,116,101,32,125,59]⟩= .ok m∧m.stmts=[s]∧s.kind=12∧s.op=1∧s.pos=⟨1,13⟩∧s.target.self=true∧s.perms.names.length=2:=⟨_,_,L9,rfl,rfl,rfl,rfl,rfl,rfl⟩
 obtain ⟨n1,e4,hn,hn1,hn2⟩:∃ n,rL ⟨#[126,32,123,32,97,32,45,32,98,32,125]⟩= .ok n∧n.nt=true∧n.names.length=1∧n.except.length=1:=⟨_,Lc,rfl,rfl,rfl⟩
 have p1:=nA ⟨#[109,111,100,117,108,101,32,109,32,49,59,32,97,108,108,111,119,32,97,32,123,32,98,32,115,101,108,102,32,125,32,58,32,102,105,108,101,32,123,32,114,101,97,100,32,119,114,105,116,101,32,125,59]⟩
 have p2:=nA ⟨#[109,111,100,117,108,101,32,109,32,49,59,32,97,108,108,111,119,32,115,101,108,102,32,98,32,58,32,102,105,108,101,32,114,101,97,100,59]⟩
 have p3:=nA ⟨#[109,111,100,117,108,101,32,109,32,49,48,48,48,48,59]⟩
 have p4:=EL ⟨#[126,32,123,32,97,32,45,32,98,32,125]⟩
 rw[e1] at p1
 rw[La] at p2
 rw[Lb] at p3
 rw[e4] at p4
 have p1:Pure _ _ _ (.tup [.agg (moC m1),.agg (faC Fa.zero)]):=p1
 have p2:Pure _ _ _ (.tup [.agg (moC Mo.zero),.agg (faC ⟨9,⟨1,19⟩,⟨#[115,101,108,102]⟩⟩)]):=p2
 have p3:Pure _ _ _ (.tup [.agg (moC Mo.zero),.agg (faC ⟨3,⟨1,10⟩,⟨#[49,48,48,48,48]⟩⟩)]):=p3
 have p4:Pure _ _ _ (.tup [.agg (nsC n1),.agg (faC Fa.zero)]):=p4
 clear e1 e4
 have hg:(m1.stmts.map stC)[0]? =some (stC s1):=by rw[hm];rfl
 have hml:m1.stmts.length=1:=by rw[hm];rfl
 refine fn0 (fn:=Tryz.f13) Tryz.call13 Tryz.func13 rfl Tryz.ntmps13 Tryz.results13 rfl (by rfl) ?_
 repeat'(first|(with_reducible first|apply AW.seq|apply AW.skip|apply AW.ret|apply ae|apply ar|apply y_e|refine ag ?_)|((with_reducible apply ak);first|refine t_v AS.v ?_|refine t_v (by first|exact ah (hP:=p1)|exact ah (hP:=p2)|exact ah (hP:=p3)|exact ah (hP:=p4)) ?_|refine t_w AS.w ?_)|((with_reducible apply bt);first|refine t_m (hs:=fun hg=>AS.v) (k:=?_)|refine t_m (hs:=fun hg=>(by first|exact G5|exact G1)) (k:=?_))|((with_reducible apply aX);refine t_s AS.s ?_)|((with_reducible refine av ?_);((refine aj (fun hc=>?_) (fun hc=>?_))))|((with_reducible refine aF ?_);refine k_b ?_)|fail)
 ·exfalso
  simp[hml,Fa.zero] at hc
 ·simp[hk,ho,hp,hs,hl,hn,hn1,hn2,Fa.zero]
end Am
namespace Am
open Tk Go.RowKit
set_option maxRecDepth 100000
set_option maxHeartbeats 4000000
mutual
theorem E0:∀ s:Stm,gk (npS s)=gk s
 |⟨a1,a2,a3,a4,a5,a6,a7,a8,a9,a10,a11,a12,a13,a14,a15,a16,a17,t,e⟩=>by rw[npS,gk,gk,l9 t,l9 e]
theorem l9:∀ l:List Stm,eo (tZ l)=eo l
 |[]=>by rw[tZ]
 |x :: l=>by rw[tZ,eo,eo,E0 x,l9 l]
end
mutual
theorem E8:∀ s:Stm,dpS s≤gk s
 |⟨a1,a2,a3,a4,a5,a6,a7,a8,a9,a10,a11,a12,a13,a14,a15,a16,a17,t,e⟩=>by
  have h1:=nr t
  have h2:=nr e
  rw[dpS,gk]
  split
  ·rename_i h
   omega
  ·omega
theorem nr:∀ l:List Stm,dpL l≤eo l∧(0<l.length→dpL l+1≤eo l)∧(l.length=0→dpL l=0)
 |[]=>by rw[dpL];exact⟨Nat.zero_le _,fun h=>(by simp at h),fun _=>rfl⟩
 |x :: l=>by
  have h1:=E8 x
  have h2:=nr l
  rw[dpL,eo]
  simp only[List.length_cons]
  omega
end
theorem law_back (m:Mo) (hb:fU m=0→eo m.stmts≤60→(∀ x∈m.stmts,stW x)∧(jE m).size≤70368744177664):Pure Tryz.prog 7 [.agg (moC m)] (.c (sB true)):=by
 have al:=DK
 have p1:=za m.stmts
 by_cases h1:0≤lfL m.stmts 60
 ·have hc:=HQ h1
  have hd:=(nr m.stmts).1
  have p2:=pc (m:=m) (by omega)
  rw[decide_eq_true h1] at p1
  by_cases h2:fU m=0
  ·obtain ⟨w1,w2⟩:=hb h2 (by omega)
   have p3:=z8 (m:=m) (by omega) fun _=>⟨w1,w2⟩
   unfold kU at p3
   rw[if_neg (fun h=>h h2)] at p3
   rw[h2] at p2
   by_cases h3:65536<(jE m).size
   ·rw[if_pos h3] at p3
    clear hb w1
    refine fn1 (fn:=Tryz.f7) Tryz.call7 Tryz.func7 rfl Tryz.ntmps7 Tryz.results7 rfl (by rfl) ?_
    repeat'(first|(with_reducible first|apply AW.seq|apply AW.skip|apply AW.ret|apply ae|apply ar|apply y_e|refine ag ?_)|((with_reducible apply ak);first|refine t_v AS.v ?_|refine t_v (by first|exact ah (hP:=al)|exact ah (hP:=p1)|exact ah (hP:=p3)) ?_|refine t_w AS.w ?_)|((with_reducible apply bt);first|refine t_m (hs:=fun hg=>AS.v) (k:=?_)|refine t_m (hs:=fun hg=>(by exact ah (hP:=p2))) (k:=?_))|((with_reducible refine av ?_);first|refine cO ?_|refine cg ?_)|((with_reducible refine aF ?_);refine k_b ?_)|fail)
    all_goals rfl
   ·rw[if_neg h3] at p3
    obtain ⟨x,e1,e2⟩:=vt h2 (by omega) (by omega)
    have p4:=nA (jE m)
    rw[e1] at p4
    have p4:Pure _ _ _ (.tup [.agg (moC x),.agg (faC Fa.zero)]):=p4
    have p5:=Fl x m
    rw[Cg e2] at p5
    have p6:=Dw x
    have p7:=um m
    have e3:gV x.stmts=gV m.stmts:=by
     have:=congrArg Mo.stmts e2
     have h:x.stmts.map npS=m.stmts.map npS:=this
     unfold gV
     rw[← l9 x.stmts,←l9 m.stmts,jG,jG,h]
    rw[e3] at p6
    generalize jE m=t at *
    clear hb w1 e1 e2 e3
    refine fn1 (fn:=Tryz.f7) Tryz.call7 Tryz.func7 rfl Tryz.ntmps7 Tryz.results7 rfl (by rfl) ?_
    repeat'(first|(with_reducible first|apply AW.seq|apply AW.skip|apply AW.ret|apply ae|apply y_e|refine ag ?_|refine bh ?_)|((with_reducible apply ak);first|refine t_v AS.v ?_|refine t_v (by first|exact ah (hP:=p1)|exact ah (hP:=p3)|exact ah (hP:=p4)) ?_|refine t_w AS.w ?_)|((with_reducible apply bt);first|refine t_m (hs:=fun hg=>AS.v) (k:=?_)|refine t_m (hs:=fun hg=>(by first|exact ah (hP:=al)|exact ah (hP:=p2)|exact ah (hP:=p5)|exact ah (hP:=p6)|exact ah (hP:=p7))) (k:=?_))|((with_reducible apply aX);refine t_s AS.s ?_)|((with_reducible refine av ?_);refine cg ?_)|((with_reducible refine aF ?_);refine k_b ?_)|(refine⟨by decide +kernel,?_⟩)|fail)
    all_goals((simp;rfl))
  ·clear hb
   refine fn1 (fn:=Tryz.f7) Tryz.call7 Tryz.func7 rfl Tryz.ntmps7 Tryz.results7 rfl (by rfl) ?_
   repeat'(first|(with_reducible first|apply AW.seq|apply AW.ret|apply ae|apply ar|apply y_e|refine ag ?_)|((with_reducible apply ak);first|refine t_v AS.v ?_|refine t_v (by first|exact ah (hP:=al)|exact ah (hP:=p1)) ?_|refine t_w AS.w ?_)|((with_reducible apply bt);first|refine t_m (hs:=fun hg=>AS.v) (k:=?_)|refine t_m (hs:=fun hg=>(by exact ah (hP:=p2))) (k:=?_))|((with_reducible refine av ?_);((refine aj (fun hc=>?_) (fun hc=>?_);all_goals(try(exfalso;simp[*] at hc;done)))))|((with_reducible refine aF ?_);refine k_b ?_)|fail)
   all_goals rfl
 ·rw[decide_eq_false h1] at p1
  clear hb
  refine fn1 (fn:=Tryz.f7) Tryz.call7 Tryz.func7 rfl Tryz.ntmps7 Tryz.results7 rfl (by rfl) ?_
  repeat'(first|(with_reducible first|apply AW.seq|apply AW.ret|apply ae|apply ar|apply y_e|refine ag ?_)|((with_reducible apply ak);first|refine t_v AS.v ?_|refine t_v (by first|exact ah (hP:=al)|exact ah (hP:=p1)) ?_|refine t_w AS.w ?_)|((with_reducible apply bt);refine t_f ?_)|((with_reducible refine av ?_);refine cO ?_)|((with_reducible refine aF ?_);refine k_b ?_)|fail)
  all_goals rfl
end Am
namespace Am
open Tk
set_option maxRecDepth 100000
set_option maxHeartbeats 4000000
theorem Ds {l:List Stm} {x:Stm} (h:x∈l):wS x≤wSs l:=by
 induction l with
 |nil=>cases h
 |cons y l ih=>
  rw[wSs]
  rcases List.mem_cons.1 h with rfl|h
  ·omega
  ·have:=ih h;omega
theorem qZ {l:List Stm} {x:Stm} (h:x∈l):1+gk x≤eo l:=by
 induction l with
 |nil=>cases h
 |cons y l ih=>
  rw[eo]
  rcases List.mem_cons.1 h with rfl|h
  ·omega
  ·have:=ih h;omega
theorem AR:∀ (n:Nat) (s:Stm),SizeOf.sizeOf s<n→fmB s=true→wS s≤1048576→stW s
 |0,_,h,_,_=>absurd h (Nat.not_lt_zero _)
 |n+1,s,h,hf,hs=>by
  rw[GS] at hs
  rw[ll] at hf
  have hw:=hf
  rw[wA]
  by_cases k:s.kind=17∨s.kind=18
  ·unfold bz at hf
   rw[Bool.and_eq_true] at hf
   have hf:=hf.1
   have hq:(s.kind=17→cB 1 s.cond=0)∧s.thn.all fmB=true∧s.els.all fmB=true:=by
    rcases k with k|k
    ·simp only[k,Int.reduceEq,or_self,if_false,if_true,Bool.and_eq_true] at hf
     exact⟨fun _=>of_decide_eq_true hf.1.1.1,hf.1.2,hf.2⟩
    ·simp only[k,Int.reduceEq,or_self,if_false,if_true,Bool.and_eq_true] at hf
     exact⟨fun h=>by rw[k] at h;omega,hf.1.2,hf.2⟩
   refine⟨⟨fun a b=>by omega,JA (by omega),hq.1⟩,fun x hx=>?_,fun x hx=>?_⟩
   ·exact AR n x (by have:=mH hx;omega) (List.all_eq_true.1 hq.2.1 x hx) (by have:=Ds hx;omega)
   ·exact AR n x (by have:=ma hx;omega) (List.all_eq_true.1 hq.2.2 x hx) (by have:=Ds hx;omega)
  ·obtain ⟨b1,b2⟩:=xm hw (by omega) (by omega)
   refine⟨⟨fun _ _=>Iu hw,JA (by omega),fun h=>by omega⟩,?_,?_⟩
   ·rw[b1];intro x hx;cases hx
   ·rw[b2];intro x hx;cases hx
theorem wD:∀ (n:Nat) (s:Stm) (lv:Nat),SizeOf.sizeOf s<n→stW s→lv+gk s≤10000→(stT lv s).size+1≤(1+gk s)*4294967296
 |0,_,_,h,_,_=>absurd h (Nat.not_lt_zero _)
 |n+1,s,lv,h,hW,hlv=>by
  rw[la] at hlv
  rw[wA] at hW
  obtain ⟨⟨hr,hbd,hc2⟩,w1,w2⟩:=hW
  have p1:(dj (lv+1) s.thn).size≤eo s.thn*4294967296:=nW fun x hx=>wD n x (lv+1) (by have:=mH hx;omega) (w1 x hx) (by have:=qZ hx;omega)
  have p2:(dj (lv+1) s.els).size≤eo s.els*4294967296:=nW fun x hx=>wD n x (lv+1) (by have:=ma hx;omega) (w2 x hx) (by have:=qZ hx;omega)
  have hi:=mf lv
  rw[la,Cs]
  have t1:ByteArray.size ⟨#[59]⟩=1:=rfl
  have t2:ByteArray.size ⟨#[125]⟩=1:=rfl
  have t3:ByteArray.size ⟨#[32,101,108,115,101,32,123,10]⟩=8:=rfl
  have t4:ByteArray.size ⟨#[]⟩=0:=rfl
  unfold stH
  split
  ·rename_i k
   have:=Bf (hr k.1 k.2) hbd
   rw[ByteArray.size_append,ByteArray.size_append,t1]
   omega
  ·have:=B1 hbd hc2
   split
   ·simp only[ByteArray.size_append,t2,t3]
    omega
   ·simp only[ByteArray.size_append,t2,t4]
    omega
theorem mod_w {m:Mo} (hs:wM m≤1048576) (h:fU m=0) (hn:eo m.stmts≤60):(∀ x∈m.stmts,stW x)∧(jE m).size≤70368744177664:=by
 unfold wM wB at hs
 have hc:¬ (m.version<0∨9999<m.version)∧m.stmts.all fmB=true:=by
  unfold fU at h
  split at h
  ·omega
  ·split at h
   ·omega
   ·split at h
    ·omega
    ·split at h
     ·omega
     ·rename_i h1 h2 h3
      exact⟨h1,by simpa using h3⟩
 obtain ⟨hv,hf⟩:=hc
 have hW:∀ x∈m.stmts,stW x:=fun x hx=>AR _ x (Nat.lt_succ_self _) (List.all_eq_true.1 hf x hx) (by have:=Ds hx;omega)
 refine⟨hW,?_⟩
 have hb:=nW (lv:=0) (l:=m.stmts) fun x hx=>wD _ x 0 (Nat.lt_succ_self _) (hW x hx) (by have:=qZ hx;omega)
 have hi:=JO m.version (by omega) (by omega)
 simp only[jE,cq,tlB,ByteArray.size_append,bC,List.size_toArray,List.length_cons,List.length_nil]
 omega
end Am
end Go.Proofs.YtkpodagbefnebaaGreatDoor
