import Derived.Test.YtkpodagbefnebaaGreatDoorYh32
import Derived.Laws.StructEq
import Derived.Test.YtkpodagbefnebaaGreatDoorYh26
import Derived.Test.YtkpodagbefnebaaGreatDoorYh30
import Derived.Test.YtkpodagbefnebaaGreatDoorYh31
set_option linter.unusedSimpArgs false
set_option linter.unusedVariables false
set_option linter.unusedSectionVars false
namespace Go.Proofs.YtkpodagbefnebaaGreatDoor
namespace Am
open Tk Go.RowKit
set_option maxRecDepth 100000
set_option maxHeartbeats 4000000
def rtV {α:Type} (z:V) (R:α→V):Except Fa α→V
 | .ok a=>.tup [R a,.agg (faC Fa.zero)]
 | .error f=>.tup [z,.agg (faC f)]
theorem Lo:tP 49 (.obj 25 (moC Mo.zero)) (fun m=>.obj 25 (moC m)) (fun _ k=>mg k):=fun l hf h=>by
 have st:=fun k=>(DU hf (IR hf) (fuel l) (fuel l) (Nat.le_refl _)).ss 0 k 0 (by decide) (by unfold fuel;omega)
 have md:=CP (k:=(⟨0,h⟩:Ix l)) (c:=0) (d:=0) hf
 have e:(mg (⟨0,h⟩:Ix l)>>=fun x=>.ok ((),x):Except Fa (Unit×(Mo×(Ix l×Nat))))=gx (⟨0,h⟩:Ix l)>>=fun x=>cy tksK (fuel l) 0 [] x.2 0>>=fun y=>.ok ((),({x.1 with stmts:=y.1},y.2)):=by
  unfold mg
  cases gx (⟨0,h⟩:Ix l) with
  |error f=>rfl
  |ok x=>
   simp only[aa]
   cases cy tksK (fuel l) 0 [] x.2 0 with
   |error f=>rfl
   |ok y=>rfl
 rw[e]
 clear e
 refine MXA (fn:=Tryz.f49) Tryz.call49 Tryz.func49 rfl Tryz.ntmps49 Tryz.results49 rfl rfl ?_
 repeat'(first|(with_reducible first|apply AW.seq|apply ae|apply aE|apply y_e|refine ah ?_)|((with_reducible apply ak);first|refine t_v AS.v ?_|refine bG (hP:=md) (k1:=fun x k h=>?_) (k2:=fun e h σx=>?_)|refine bG (hP:=st _) (k1:=fun x k h=>?_) (k2:=fun e h σx=>?_))|((with_reducible apply aV);refine t_s AS.s ?_)|((with_reducible refine bo ?_);first|(with_reducible refine aY ?_)|refine qx (k:=?_))|fail)
 ·rename_i h1
  exact⟨(),(_,_),by rw[h1,aa,h];rfl,rfl,aD rfl,aD rfl⟩
 ·rename_i h1
  rw[h1,aa,h];rfl
 ·rw[h];rfl
theorem Jg:NZs (fun _ k=>mg k):=fun _ k=>Ge k
theorem GE (src:ByteArray):Pure Tryz.prog 14 [.c (sS src)] (rtV (.agg (moC Mo.zero)) (fun x=>.agg (moC x)) (n8 src)):=by
 have hb:(HO.obj 25 (moC Mo.zero)).one=true:=by rfl
 have rn:=JM (src:=src) hb Lo Jg
 cases hp:n8 src with
 |ok x=>
  have mp:=rn.1 x hp
  have ho:(HO.obj 25 (moC x)).one=true:=by simp[HO.one,okA,okL,C.ok]
  show Pure _ _ _ (.tup [.agg (moC x),.agg (faC Fa.zero)])
  refine fn1 (fn:=Tryz.f14) Tryz.call14 Tryz.func14 rfl Tryz.ntmps14 Tryz.results14 rfl (by first|rfl|simp[V.ok,okL,C.ok,okA,okV]) ?_
  repeat'(first|(with_reducible first|apply AW.seq|apply AW.skip|apply AW.ret|apply ae|apply y_e|refine ah ?_|refine bb ?_)|((with_reducible apply ak);first|refine t_w (I8 mp ⟨fun d=>fG ho,fun ns=>jC ho⟩ hb (by simp[V.ok,okA])) ?_|refine t_v AS.v ?_|refine t_w AS.w ?_)|((with_reducible apply aV);refine t_s AS.s ?_)|((with_reducible refine au ?_);refine cj ?_)|((with_reducible refine aA ?_);(((refine Lc ?_ ?_);all_goals(with_reducible (apply ED)))))|(refine⟨by decide +kernel,?_⟩)|fail)
  all_goals first|exact uL (yb _ _) (rG _)|exact uL rfl (rG _)|(simp only[unA];done)|(simp only[V.un,C.un,unA];done)|rfl
 |error f=>
  obtain ⟨h0,o,ho,mp⟩:=rn.2 f hp
  show Pure _ _ _ (.tup [.agg (moC Mo.zero),.agg (faC f)])
  refine fn1 (fn:=Tryz.f14) Tryz.call14 Tryz.func14 rfl Tryz.ntmps14 Tryz.results14 rfl (by first|rfl|simp[V.ok,okL,C.ok,okA,okV]) ?_
  repeat'(first|(with_reducible first|apply AW.seq|apply AW.ret|apply ae|apply aq|apply y_e|refine ah ?_|refine bb ?_)|((with_reducible apply ak);first|refine t_w (I8 mp ho hb (by simp[V.ok,okA])) ?_|refine t_v AS.v ?_|refine t_w AS.w ?_)|((with_reducible apply aV);refine t_s AS.s ?_)|((with_reducible refine au ?_);((refine aj (fun hc=>?_) (fun hc=>?_);all_goals(try(exfalso;simp[*] at hc;done)))))|((with_reducible refine aA ?_);(((refine Lc ?_ ?_);all_goals(with_reducible (apply ED)))))|(refine⟨by decide +kernel,?_⟩)|fail)
  all_goals((simp only[unA];done))
end Am
namespace Am
open Tk Go.RowKit
set_option maxRecDepth 100000
set_option maxHeartbeats 4000000
theorem Po.ext' {a b:Po} (h1:a.line=b.line) (h2:a.col=b.col):a=b:=by cases a;cases b;simp_all
instance:DecidableEq Po:=fun a b=>if h:a.line=b.line∧a.col=b.col then isTrue (Po.ext' h.1 h.2) else isFalse fun e=>h (e▸⟨rfl,rfl⟩)
theorem Fa.ext' {a b:Fa} (h1:a.code=b.code) (h2:a.pos=b.pos) (h3:a.name=b.name):a=b:=by cases a;cases b;simp_all
instance:DecidableEq Fa:=fun a b=>if h:a.code=b.code∧a.pos=b.pos∧a.name=b.name then isTrue (Fa.ext' h.1 h.2.1 h.2.2) else isFalse fun e=>h (e▸⟨rfl,rfl,rfl⟩)
theorem Jx (d:Nat) (a b c e:Int) (w:World):(Op.equalIn (d+2) 28 (.agg #[.int .i64 a,.int .i64 b]) (.agg #[.int .i64 c,.int .i64 e])).run Tryz.prog w= .ok ((a == c)&&(b == e)) w:=by
 have hS:Tryz.prog.underlying 28=some (.struct (Tryz.prog.fieldsOf 28)):=by kernel_rfl
 have hp:Tryz.prog.stoodInHeld 28=false:=by kernel_rfl
 rw[run_equalIn_agg w (d+1) 28 _ _ hS hp]
 simp only[Program.fieldsOf,Tryz.underlying28]
 go_simp
 by_cases h1:a=c <;> by_cases h2:b=e <;> simp[h1,h2]
theorem Ca (d:Nat) (a b c i e f:Int) (s t:ByteArray) (w:World):(Op.equalIn (d+3) 30 (.agg #[.int .i64 a,.int .i64 b,.int .i64 c,.string s]) (.agg #[.int .i64 i,.int .i64 e,.int .i64 f,.string t])).run Tryz.prog w= .ok ((a == i)&&((b == e)&&(c == f))&&(s.toList == t.toList)) w:=by
 have hS:Tryz.prog.underlying 30=some (.struct (Tryz.prog.fieldsOf 30)):=by kernel_rfl
 have hp:Tryz.prog.stoodInHeld 30=false:=by kernel_rfl
 have hq:=Jx d b c e f w
 rw[run_equalIn_agg w (d+2) 30 _ _ hS hp]
 simp only[Program.fieldsOf,Tryz.underlying30]
 go_simp
 by_cases h1:a=i
 ·by_cases h2:b=e
  ·by_cases h3:c=f
   ·by_cases h4:s.toList=t.toList
    ·simp[h1,h2,h3,h4]
    ·simp[h1,h2,h3,h4]
   ·simp[h1,h2,h3]
  ·simp[h1,h2]
 ·simp[h1]
theorem J1 (a b:Fa):((a.code == b.code)&&((a.pos.line == b.pos.line)&&(a.pos.col == b.pos.col))&&(a.name.toList == b.name.toList))=decide (a=b):=by
 rw[Bool.eq_iff_iff]
 simp only[Bool.and_eq_true,beq_iff_eq,decide_eq_true_eq,mH]
 exact⟨fun h=>Fa.ext' h.1.1 (Po.ext' h.1.2.1 h.1.2.2) h.2,fun h=>by rw[h];exact⟨⟨rfl,rfl,rfl⟩,rfl⟩⟩
section
variable {ρ:Operand→Option V} {H:Nat→Option HO} {d:Option Nat} {ty t2:TypeId} {pos:String} {af:Array Edge} {gu:Option (Nat×Bool)} {x y:Operand}
theorem Hn {a b:Fa} (hx:Ev ρ x (.agg (faC a)):=by exact az) (hy:Ev ρ y (.agg (faC b)):=by exact az):AS Tryz.prog ρ H ⟨d,.binOp .eql 30 x y t2,ty,pos,af,gu⟩ ⟨.c (sB (decide (a=b))),[],[]⟩:=by
 refine .still (x:=.bool (decide (a=b))) (fun q hq w=>?_) fun _=>.sc rfl
 have h1:=hq x (by simp[Op.operands]) _ _ hx (Cq.agg (vs:=[.int .i64 a.code,.int .i64 a.pos.line,.int .i64 a.pos.col,.string a.name]))
 have h2:=hq y (by simp[Op.operands]) _ _ hy (Cq.agg (vs:=[.int .i64 b.code,.int .i64 b.pos.line,.int .i64 b.pos.col,.string b.name]))
 have h3:(do eqGuard .eql 30 x y (.agg #[.int .i64 a.code,.int .i64 a.pos.line,.int .i64 a.pos.col,.string a.name]) (.agg #[.int .i64 b.code,.int .i64 b.pos.line,.int .i64 b.pos.col,.string b.name]);binOp .eql 30 (.agg #[.int .i64 a.code,.int .i64 a.pos.line,.int .i64 a.pos.col,.string a.name]) (.agg #[.int .i64 b.code,.int .i64 b.pos.line,.int .i64 b.pos.col,.string b.name]):Sem Value).run Tryz.prog w= .ok (.bool (decide (a=b))) w:=by
  have hz:(binOp .eql 30 (.agg #[.int .i64 a.code,.int .i64 a.pos.line,.int .i64 a.pos.col,.string a.name]) (.agg #[.int .i64 b.code,.int .i64 b.pos.line,.int .i64 b.pos.col,.string b.name])).run Tryz.prog w= .ok (.bool (decide (a=b))) w:=by
   rw[run_eql_struct,show(10000:Nat)=9997+3 from rfl,Ca 9997,←J1];rfl
  have hg:(eqGuard .eql 30 x y (.agg #[.int .i64 a.code,.int .i64 a.pos.line,.int .i64 a.pos.col,.string a.name]) (.agg #[.int .i64 b.code,.int .i64 b.pos.line,.int .i64 b.pos.col,.string b.name])).run Tryz.prog w= .ok () w:=by simp[go_sem]
  rw[Sem.run_bind,hg,Result.andThen_ok,hz]
 unfold execOp
 simp only[h1,h2]
 simp only[Sem.run_bind] at h3 ⊢
 rw[h3]
 simp
end
end Am
namespace Am
open Tk Go.RowKit
set_option maxRecDepth 100000
set_option maxHeartbeats 4000000
end Am
namespace Am
open Tk Go.RowKit
set_option maxRecDepth 100000
set_option maxHeartbeats 4000000
mutual
theorem Fw:∀ s:Stm,jZ (npS s)=jZ s
 |⟨a1,a2,a3,a4,a5,a6,a7,a8,a9,a10,a11,a12,a13,a14,a15,a16,a17,t,e⟩=>by rw[npS,jZ,jZ,ks t,ks e]
theorem ks:∀ l:List Stm,eB (gL l)=eB l
 |[]=>by rw[gL]
 |x :: l=>by rw[gL,eB,eB,Fw x,ks l]
end
end Am
namespace Am
open Tk
set_option maxRecDepth 100000
set_option maxHeartbeats 4000000
def upS (p:Po) (t e:List Stm) (s:Stm):Stm:={s with pos:=p,thn:=t,els:=e}
theorem eE {p:Po} {t e:List Stm} {s:Stm} (h1:t.length=s.thn.length) (h2:e.length=s.els.length):kU (upS p t e s)=kU s:=by
 have z1:Z (upS p t e s) 15=Z s 15:=by
  show decide (t.length=0)=decide (s.thn.length=0)
  rw[h1]
 have z2:Z (upS p t e s) 16=Z s 16:=by
  show decide (e.length=0)=decide (s.els.length=0)
  rw[h2]
 rw[tn,tn,z1,z2]
 rfl
section
variable {p:Po} {t e:List Stm} {s:Stm}
theorem yB:(fz (upS p t e s)).1=(fz s).1∧(fz (upS p t e s)).2=upS p t e (fz s).2:=by
 have hk:(upS p t e s).kind=s.kind:=rfl
 by_cases h0:s.kind=1∨s.kind=4
 ·unfold fz
  rw[hk,if_pos h0,if_pos h0]
  exact⟨rfl,rfl⟩
 by_cases h1:s.kind=2
 ·unfold fz
  rw[hk,if_neg h0,if_pos h1,if_neg h0,if_pos h1]
  exact⟨rfl,rfl⟩
 by_cases h2:s.kind=3∨s.kind=10∨s.kind=11
 ·unfold fz
  rw[hk,if_neg h0,if_neg h1,if_pos h2,if_neg h0,if_neg h1,if_pos h2]
  exact⟨rfl,rfl⟩
 by_cases h3:s.kind=5
 ·unfold fz
  rw[hk,if_neg h0,if_neg h1,if_neg h2,if_pos h3,if_neg h0,if_neg h1,if_neg h2,if_pos h3]
  exact⟨rfl,rfl⟩
 by_cases h4:s.kind=8
 ·unfold fz
  rw[hk,if_neg h0,if_neg h1,if_neg h2,if_neg h3,if_pos h4,if_neg h0,if_neg h1,if_neg h2,if_neg h3,if_pos h4]
  exact⟨rfl,rfl⟩
 by_cases h5:s.kind=9
 ·unfold fz
  rw[hk,if_neg h0,if_neg h1,if_neg h2,if_neg h3,if_neg h4,if_pos h5,if_neg h0,if_neg h1,if_neg h2,if_neg h3,if_neg h4,if_pos h5]
  exact⟨rfl,rfl⟩
 unfold fz
 rw[hk,if_neg h0,if_neg h1,if_neg h2,if_neg h3,if_neg h4,if_neg h5,if_neg h0,if_neg h1,if_neg h2,if_neg h3,if_neg h4,if_neg h5]
 exact⟨rfl,rfl⟩
theorem Dq:(iR (upS p t e s)).1=(iR s).1∧(iR (upS p t e s)).2=upS p t e (iR s).2:=by
 have hk:(upS p t e s).kind=s.kind:=rfl
 by_cases h0:s.kind=6
 ·unfold iR
  rw[hk,if_pos h0,if_pos h0]
  exact⟨rfl,rfl⟩
 by_cases h1:s.kind=7
 ·unfold iR
  rw[hk,if_neg h0,if_pos h1,if_neg h0,if_pos h1]
  exact⟨rfl,rfl⟩
 by_cases h2:s.kind=12
 ·unfold iR
  rw[hk,if_neg h0,if_neg h1,if_pos h2,if_neg h0,if_neg h1,if_pos h2]
  exact⟨rfl,rfl⟩
 by_cases h3:s.kind=13
 ·unfold iR
  rw[hk,if_neg h0,if_neg h1,if_neg h2,if_pos h3,if_neg h0,if_neg h1,if_neg h2,if_pos h3]
  exact⟨rfl,rfl⟩
 by_cases h4:s.kind=14
 ·unfold iR
  rw[hk,if_neg h0,if_neg h1,if_neg h2,if_neg h3,if_pos h4,if_neg h0,if_neg h1,if_neg h2,if_neg h3,if_pos h4]
  exact⟨rfl,rfl⟩
 by_cases h5:s.kind=23
 ·unfold iR
  rw[hk,if_neg h0,if_neg h1,if_neg h2,if_neg h3,if_neg h4,if_pos h5,if_neg h0,if_neg h1,if_neg h2,if_neg h3,if_neg h4,if_pos h5]
  exact⟨rfl,rfl⟩
 unfold iR
 rw[hk,if_neg h0,if_neg h1,if_neg h2,if_neg h3,if_neg h4,if_neg h5,if_neg h0,if_neg h1,if_neg h2,if_neg h3,if_neg h4,if_neg h5]
 exact⟨rfl,rfl⟩
theorem FC:(fz s).2.thn=s.thn∧(fz s).2.els=s.els:=by
 unfold fz
 repeat' split
 all_goals exact⟨rfl,rfl⟩
theorem JF:(iR s).2.thn=s.thn∧(iR s).2.els=s.els:=by
 unfold iR kY
 repeat' split
 all_goals exact⟨rfl,rfl⟩
theorem JS {tb eb:Bool} (h1:t.length=s.thn.length) (h2:e.length=s.els.length):(jo tb eb (upS p t e s)).1=(jo tb eb s).1∧kU (jo tb eb (upS p t e s)).2=kU (jo tb eb s).2:=by
 have hk:(upS p t e s).kind=s.kind:=rfl
 have ht:(upS p t e s).thn=t:=rfl
 have hop:(upS p t e s).op=s.op:=rfl
 by_cases h15:s.kind=15
 ·unfold jo
  rw[hk,if_pos h15,if_pos h15]
  exact⟨rfl,eE (s:={s with cls:=NS.zero,perms:=NS.zero,cond:=Ex.zero}) h1 h2⟩
 by_cases h16:s.kind=16
 ·unfold jo
  rw[hk,if_neg h15,if_pos h16,if_neg h15,if_pos h16]
  exact⟨rfl,eE (s:={s with cls:=NS.zero,cond:=Ex.zero}) h1 h2⟩
 by_cases h17:s.kind=17
 ·unfold jo
  rw[hk,if_neg h15,if_neg h16,if_pos h17,if_neg h15,if_neg h16,if_pos h17]
  exact⟨by rw[ht,h1];rfl,eE (p:=p) (t:=[]) (e:=[]) (s:={s with cond:=Ex.zero,thn:=[],els:=[]}) rfl rfl⟩
 by_cases h18:s.kind=18
 ·unfold jo
  rw[hk,if_neg h15,if_neg h16,if_neg h17,if_pos h18,if_neg h15,if_neg h16,if_neg h17,if_pos h18]
  exact⟨by rw[ht,h1],eE (p:=p) (t:=[]) (e:=[]) (s:={s with thn:=[],els:=[]}) rfl rfl⟩
 by_cases h19:s.kind=19
 ·unfold jo
  rw[hk,if_neg h15,if_neg h16,if_neg h17,if_neg h18,if_pos h19,if_neg h15,if_neg h16,if_neg h17,if_neg h18,if_pos h19]
  by_cases hq:s.op=1
  ·rw[hop,if_pos hq,if_pos hq]
   exact⟨rfl,eE (s:={s with op:=0,list:=[],name:=⟨#[]⟩}) h1 h2⟩
  ·rw[hop,if_neg hq,if_neg hq]
   exact⟨rfl,eE (s:={s with op:=0,list:=[]}) h1 h2⟩
 by_cases h20:s.kind=20
 ·unfold jo
  rw[hk,if_neg h15,if_neg h16,if_neg h17,if_neg h18,if_neg h19,if_pos h20,if_neg h15,if_neg h16,if_neg h17,if_neg h18,if_neg h19,if_pos h20]
  exact⟨rfl,eE (s:={s with name:=⟨#[]⟩,ctx:=Ct.zero}) h1 h2⟩
 by_cases h21:s.kind=21
 ·unfold jo
  rw[hk,if_neg h15,if_neg h16,if_neg h17,if_neg h18,if_neg h19,if_neg h20,if_pos h21,if_neg h15,if_neg h16,if_neg h17,if_neg h18,if_neg h19,if_neg h20,if_pos h21]
  exact⟨rfl,eE (s:={s with text:=⟨#[]⟩,op:=0,ctx:=Ct.zero}) h1 h2⟩
 by_cases h22:s.kind=22
 ·unfold jo
  rw[hk,if_neg h15,if_neg h16,if_neg h17,if_neg h18,if_neg h19,if_neg h20,if_neg h21,if_pos h22,if_neg h15,if_neg h16,if_neg h17,if_neg h18,if_neg h19,if_neg h20,if_neg h21,if_pos h22]
  exact⟨rfl,eE (s:={s with source:=NS.zero}) h1 h2⟩
 unfold jo
 rw[hk,if_neg h15,if_neg h16,if_neg h17,if_neg h18,if_neg h19,if_neg h20,if_neg h21,if_neg h22,if_neg h15,if_neg h16,if_neg h17,if_neg h18,if_neg h19,if_neg h20,if_neg h21,if_neg h22]
 exact⟨rfl,eE h1 h2⟩
theorem J3 {tb eb:Bool} (h1:t.length=s.thn.length) (h2:e.length=s.els.length):fmH tb eb (upS p t e s)=fmH tb eb s:=by
 obtain ⟨a1,a2⟩:=FC (s:=s)
 obtain ⟨b1,b2⟩:=JF (s:=s)
 obtain ⟨c1,c2⟩:=JS (p:=p) (tb:=tb) (eb:=eb) h1 h2
 unfold fmH
 rw[yB.1,yB.2,Dq.1,Dq.2,c1,c2,eE (by rw[a1];exact h1) (by rw[a2];exact h2),eE (by rw[b1];exact h1) (by rw[b2];exact h2)]
theorem JU {lv:Nat} {tb eb:ByteArray} (h2:e.length=s.els.length):stH lv (upS p t e s) tb eb=stH lv s tb eb:=by
 have a1:bz (upS p t e s)=bz s:=rfl
 have a2:j4 (upS p t e s)=j4 s:=rfl
 unfold stH
 rw[a1,a2]
 show(if s.kind≠17∧s.kind≠18 then _ else _++(if 0<e.length then _ else _))=_
 rw[h2]
end
theorem gy (l:List Stm):(gL l).length=l.length:=by rw[jb,List.length_map]
mutual
theorem J2:∀ s:Stm,fmB (npS s)=fmB s
 |⟨a1,a2,a3,a4,a5,a6,a7,a8,a9,a10,a11,a12,a13,a14,a15,a16,a17,t,e⟩=>by
  rw[npS,fmB,fmB,lZ t,lZ e]
  exact J3 (s:=⟨a1,a2,a3,a4,a5,a6,a7,a8,a9,a10,a11,a12,a13,a14,a15,a16,a17,t,e⟩) (gy t) (gy e)
theorem lZ:∀ l:List Stm,qw (gL l)=qw l
 |[]=>by rw[gL]
 |x :: l=>by rw[gL,qw,qw,J2 x,lZ l]
end
mutual
theorem JV:∀ (lv:Nat) (s:Stm),stT lv (npS s)=stT lv s
 |lv,⟨a1,a2,a3,a4,a5,a6,a7,a8,a9,a10,a11,a12,a13,a14,a15,a16,a17,t,e⟩=>by
  rw[npS,stT,stT,lQ (lv+1) t,lQ (lv+1) e]
  exact JU (s:=⟨a1,a2,a3,a4,a5,a6,a7,a8,a9,a10,a11,a12,a13,a14,a15,a16,a17,t,e⟩) (gy e)
theorem lQ:∀ (lv:Nat) (l:List Stm),cJ lv (gL l)=cJ lv l
 |_,[]=>by rw[gL]
 |lv,x :: l=>by rw[gL,cJ,cJ,JV lv x,lQ lv l]
end
mutual
theorem IY:∀ s:Stm,dpS (npS s)=dpS s
 |⟨a1,a2,a3,a4,a5,a6,a7,a8,a9,a10,a11,a12,a13,a14,a15,a16,a17,t,e⟩=>by
  rw[npS,dpS,dpS,oX t,oX e,gy,gy]
theorem oX:∀ l:List Stm,dpL (gL l)=dpL l
 |[]=>by rw[gL]
 |x :: l=>by rw[gL,dpL,dpL,IY x,oX l]
end
mutual
theorem H1:∀ (n:Int) (s:Stm),kR n (npS s)=kR n s
 |n,⟨a1,a2,a3,a4,a5,a6,a7,a8,a9,a10,a11,a12,a13,a14,a15,a16,a17,t,e⟩=>by
  rw[npS,kR,kR,mA (n - 1) t,mA (n - 1) e,gy,gy]
  rfl
theorem mA:∀ (n:Int) (l:List Stm),ko n (gL l)=ko n l
 |_,[]=>by rw[gL]
 |n,x :: l=>by rw[gL,ko,ko,H1 n x,mA n l]
end
theorem D4 (l:List Stm):okM (gL l)=okM l:=by
 have e:∀ l:List Stm,l.all (kR 14)=ko 14 l:=fun l=>(kF 14 l).symm
 unfold okM dn gX
 rw[gy,e,e,mA,ks]
theorem BQ {x m:Mo} (h:npM x=npM m):eo x=eo m∧jx x=jx m∧okM x.stmts=okM m.stmts∧x.name=m.name∧gX x.stmts=gX m.stmts:=by
 have n1:x.name=m.name:=by have e:=congrArg Mo.name h;exact e
 have n2:x.version=m.version:=by have e:=congrArg Mo.version h;exact e
 have n3:gL x.stmts=gL m.stmts:=by
  have:=congrArg Mo.stmts h
  rw[jb,jb];exact this
 have c1:gX x.stmts=gX m.stmts:=by unfold gX;rw[← ks x.stmts,n3,ks]
 have c2:dpL x.stmts=dpL m.stmts:=by rw[← oX x.stmts,n3,oX]
 have c3:x.stmts.all fmB=m.stmts.all fmB:=by rw[← kc,←kc,←lZ x.stmts,n3,lZ]
 have c4:cJ 0 x.stmts=cJ 0 m.stmts:=by rw[← lQ 0 x.stmts,n3,lQ]
 have c5:okM x.stmts=okM m.stmts:=by rw[← D4 x.stmts,n3,D4]
 refine⟨?_,?_,c5,n1,c1⟩
 ·unfold eo;rw[n1,n2,c1,c2,c3]
 ·unfold jx;rw[n1,n2,c4]
end Am
namespace Am
open Tk Go.RowKit
set_option maxRecDepth 100000
set_option maxHeartbeats 4000000
theorem L4 {m:Mo} (h:eo m=0):dpL m.stmts≤12:=by
 unfold eo at h
 split at h
 ·omega
 ·split at h
  ·omega
  ·split at h
   ·omega
   ·rename_i h1 h2
    omega
theorem law_rt (m:Mo):Pure Tryz.prog 12 [.agg (moC m)] (.c (sB true)):=by
 have al:=Fc
 have ps:=H3 m.stmts
 by_cases h1:okM m.stmts=true
 ·rw[h1] at ps
  by_cases h2:m.name.size≤300
  ·have pm:=oF (m:=m) (uu h1) fun hc=>xi h1 h2 hc
   unfold jr at pm
   by_cases h3:eo m=0
   ·rw[if_neg (fun h=>h h3)] at pm
    by_cases h4:65536<(jx m).size
    ·rw[if_pos h4] at pm
     refine fn1 (fn:=Tryz.f12) Tryz.call12 Tryz.func12 rfl Tryz.ntmps12 Tryz.results12 rfl (by rfl) ?_
     repeat'(first|(with_reducible first|apply AW.seq|apply AW.skip|apply AW.ret|apply ae|apply aq|apply y_e|refine ah ?_)|((with_reducible apply ak);first|refine t_v AS.v ?_|refine t_v (by first|exact ag (hP:=ps)|exact ag (hP:=pm)) ?_|refine t_w AS.w ?_)|((with_reducible apply bc);first|refine t_m (hs:=fun hg=>AS.v) (k:=?_)|refine t_m (hs:=fun hg=>(by exact ag (hP:=al))) (k:=?_))|((with_reducible refine au ?_);first|refine cF ?_|(refine aj (fun hc=>?_) (fun hc=>?_);all_goals(try(exfalso;simp[*] at hc;done));all_goals(try(exfalso;revert hc;simp;omega))))|((with_reducible refine aA ?_);refine k_b ?_)|fail)
     all_goals rfl
    ·rw[if_neg h4] at pm
     have hn:=wx h1 (L4 h3)
     obtain ⟨x,e1,e2⟩:=wo h3 (by omega) (by omega)
     have pp:=GE (jx m)
     rw[e1] at pp
     have pp:Pure _ _ _ (.tup [.agg (moC x),.agg (faC Fa.zero)]):=pp
     obtain ⟨c1,c2,c3,c4,c5⟩:=BQ e2
     have px:=oF (m:=x) (uu (by rw[c3];exact h1)) fun hc=>xi (by rw[c3];exact h1) (by rw[c4];exact h2) hc
     unfold jr at px
     rw[c1,c2,if_neg (fun h=>h h3),if_neg h4] at px
     have pc:=nX (m:=m) (uu h1)
     rw[h3] at pc
     have q1:=GK x m
     have q2:=JO x m
     rw[DA e2] at q1 q2
     generalize jx m=t at *
     clear e1 e2 c1 c2 c3 c4 c5 hn
     refine fn1 (fn:=Tryz.f12) Tryz.call12 Tryz.func12 rfl Tryz.ntmps12 Tryz.results12 rfl (by rfl) ?_
     repeat'(first|(with_reducible first|apply AW.seq|apply AW.skip|apply AW.ret|apply ae|apply y_e|refine ah ?_)|((with_reducible apply ak);first|refine t_v AS.v ?_|refine t_v (by first|exact ag (hP:=ps)|exact ag (hP:=pm)|exact ag (hP:=pp)|exact ag (hP:=px)|exact ag (hP:=pc)) ?_|refine t_w AS.w ?_)|((with_reducible apply bc);first|refine t_m (hs:=fun hg=>AS.v) (k:=?_)|refine t_m (hs:=fun hg=>(by first|exact ag (hP:=al)|exact ag (hP:=q1)|exact ag (hP:=q2)|exact Hn)) (k:=?_))|((with_reducible apply aV);refine t_s AS.s ?_)|((with_reducible refine au ?_);first|refine cj ?_|(refine aj (fun hc=>?_) (fun hc=>?_);all_goals(try(exfalso;revert hc;simp;omega))))|((with_reducible refine aA ?_);refine k_b ?_)|fail)
     all_goals((simp;done))
   ·rw[if_pos h3] at pm
    generalize eo m=c at *
    refine fn1 (fn:=Tryz.f12) Tryz.call12 Tryz.func12 rfl Tryz.ntmps12 Tryz.results12 rfl (by rfl) ?_
    repeat'(first|(with_reducible first|apply AW.seq|apply AW.skip|apply AW.ret|apply ae|apply aq|apply y_e|refine ah ?_)|((with_reducible apply ak);first|refine t_v AS.v ?_|refine t_v (by first|exact ag (hP:=ps)|exact ag (hP:=pm)) ?_|refine t_w AS.w ?_)|((with_reducible apply bc);first|refine t_m (hs:=fun hg=>AS.v) (k:=?_)|refine t_m (hs:=fun hg=>(by exact ag (hP:=al))) (k:=?_))|((with_reducible refine au ?_);first|refine cF ?_|(refine aj (fun hc=>?_) (fun hc=>?_);all_goals(try(exfalso;simp[*] at hc;done));all_goals(try(exfalso;revert hc;simp;omega))))|((with_reducible refine aA ?_);refine k_b ?_)|fail)
    all_goals rfl
  ·refine fn1 (fn:=Tryz.f12) Tryz.call12 Tryz.func12 rfl Tryz.ntmps12 Tryz.results12 rfl (by rfl) ?_
   repeat'(first|(with_reducible first|apply AW.seq|apply AW.ret|apply ae|apply aq|apply y_e|refine ah ?_)|((with_reducible apply ak);first|refine t_v AS.v ?_|refine t_v (by first|exact ag (hP:=al)|exact ag (hP:=ps)) ?_|refine t_w AS.w ?_)|((with_reducible apply bc);first|refine t_f ?_|refine t_m (hs:=fun hg=>AS.v) (k:=?_))|((with_reducible refine au ?_);first|refine cF ?_|(refine aj (fun hc=>?_) (fun hc=>?_);all_goals(try(exfalso;revert hc;simp;omega))))|((with_reducible refine aA ?_);refine k_b ?_)|fail)
   all_goals rfl
 ·rw[Bool.not_eq_true] at h1
  rw[h1] at ps
  refine fn1 (fn:=Tryz.f12) Tryz.call12 Tryz.func12 rfl Tryz.ntmps12 Tryz.results12 rfl (by rfl) ?_
  repeat'(first|(with_reducible first|apply AW.seq|apply AW.ret|apply ae|apply aq|apply y_e|refine ah ?_)|((with_reducible apply ak);first|refine t_v AS.v ?_|refine t_v (by first|exact ag (hP:=al)|exact ag (hP:=ps)) ?_|refine t_w AS.w ?_)|((with_reducible apply bc);first|refine t_f ?_|refine t_m (hs:=fun hg=>AS.v) (k:=?_))|((with_reducible refine au ?_);first|refine cF ?_|(refine aj (fun hc=>?_) (fun hc=>?_);all_goals(try(exfalso;revert hc;simp;omega))))|((with_reducible refine aA ?_);refine k_b ?_)|fail)
  all_goals rfl
end Am
end Go.Proofs.YtkpodagbefnebaaGreatDoor
