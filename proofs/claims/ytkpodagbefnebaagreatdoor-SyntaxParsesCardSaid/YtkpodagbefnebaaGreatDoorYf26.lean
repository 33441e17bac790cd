import Derived.Test.YtkpodagbefnebaaGreatDoorYf25
import Derived.Test.YtkpodagbefnebaaGreatDoorYf15
import Derived.Test.YtkpodagbefnebaaGreatDoorYf8
import Derived.WalkKit
import Derived.WalkLawsBesides
import Derived.Test.YtkpodagbefnebaaGreatDoorYf17
set_option linter.unusedSimpArgs false
set_option linter.unusedVariables false
set_option linter.unusedSectionVars false
namespace Go.Proofs.YtkpodagbefnebaaGreatDoor
namespace Am
open Tk Go.RowKit
set_option maxRecDepth 100000
set_option maxHeartbeats 4000000
theorem Ca:∀ (h:C) (x:Stm),aV (stC x) 7 [h]=some (stM h x):=by intros;kernel_rfl
theorem C6:∀ (h:C) (x:Stm),aN true (stM h x) 0 55=some (.agg (stM h x)):=by intros;kernel_rfl
theorem zT {t:Nat} {acc:List ByteArray} (s:Stm):(V.agg (stM (.lst (some t) 1 (acc.map oneS)) s)).un= .agg (stC {s with list:=acc}):=by
 rw[V.un,stM,p8,eu,C.un,unA.2.1]
 cases s;rfl
theorem Eu (h:C) (x:Stm):List.take 55 (List.drop 0 (stM h x))=stM h x:=by cases x;kernel_rfl
theorem vY {t:Nat} {acc:List ByteArray} (s:Stm):(V.agg (List.take 55 (List.drop 0 (stM (.lst (some t) 1 (acc.map oneS)) s)))).un= .agg (stC {s with list:=acc}):=by
 rw[Eu];exact zT s
section
variable {l:List Tok} {c:Int}
theorem ov (hl:Fine l):∀ (n:Nat) (acc:List ByteArray) (k:Ix l) (f:Fa),(fG n acc k f).1.length+k.1≤acc.length+(fG n acc k f).2.1.1
 |0,_,_,_=>Nat.le_refl _
 |n+1,acc,k,f=>by
  rw[fG]
  split
  ·rename_i h
   have hx:=aW hl ((Bool.and_eq_true _ _).mp h).2
   have h1:=lQ hl (nx k) f
   have h2:=ov hl n (acc++[(aB (nx k) f).1]) (aB (nx k) f).2.1 (aB (nx k) f).2.2
   simp only[List.length_append,List.length_cons,List.length_nil] at h2
   omega
  ·exact Nat.le_refl _
theorem o3 (hl:Fine l) (k:Ix l) (f:Fa):(fE k f).1.length≤4294967296:=by
 have h:=ov hl (fuel l) [] k f
 have h2:=(fG (fuel l) [] k f).2.1.2
 have h3:=hl.le
 unfold fE
 simp only[List.length_nil] at h
 omega
theorem y7 (hf:Fine l) (s:Stm) (h:s.kind=4) (k:Ix l) (f:Fa):MX Tryz.prog 188 [(0,qsO k f c)] [.c (.ptr 0 0),.agg (stC s)] (.ok (cm s k f):Except Fa (Stm×(Ix l×Fa))) (fun s=>.agg (stC s)) (fun b=>[(0,qsO b.1 b.2 c)]) pvS:=by
 have m1:=bk (c:=c) hf k f
 unfold cm
 generalize aB k f=q at *
 obtain ⟨x,k1,f1⟩:=q
 dsimp only at m1 ⊢
 unfold jH
 dsimp only
 rw[if_neg (by rw[h];decide),if_neg (by rw[h];decide),if_pos h]
 unfold vM
 have m2:=bk (c:=c) hf k1 f1
 generalize aB k1 f1=q at *
 obtain ⟨y,k2,f2⟩:=q
 dsimp only at m2 ⊢
 unfold u9
 have hml:=o3 hf k2 f2
 have m3:=kc (c:=c) hf k2 f2
 generalize fE k2 f2=q at *
 obtain ⟨z,k3,f3⟩:=q
 dsimp only at m3 hml ⊢
 refine MXA (fn:=Tryz.f188) Tryz.call188 Tryz.func188 rfl Tryz.ntmps188 Tryz.results188 rfl rfl ?_
 repeat'(first|(with_reducible first|apply AW.seq|apply AW.block|apply AW.ret|apply aa|apply aw|apply y_e|refine ae ?_|refine b7 ?_)|((with_reducible apply ai);first|refine t_w ng ?_|refine t_v (iE (hc:=by simp only[zE];rfl)) ?_|refine t_v (iE (hc:=by simp only[C6];rfl)) ?_|refine t_v AS.v ?_|refine t_w AS.w ?_|refine t_w (by first|exact av (hP:=m1)|exact av (hP:=m2)|exact av (hP:=m3)) ?_)|((with_reducible apply ay);first|refine t_s (fw (hs:=by simp only[Ca];rfl)) ?_|refine t_s (fw (hs:=by simp only[wv];rfl)) ?_|refine t_s AS.s ?_)|((with_reducible refine aq ?_);((refine ah (fun hc=>?_) (fun hc=>?_);all_goals(try(exfalso;simp[*] at hc;done)))))|((with_reducible refine aD ?_);refine b8 (k:=?_))|(refine⟨by decide +kernel,?_⟩)|fail)
 all_goals exact⟨{ s with name:=x,list:=[y]++z},(_,_),rfl,vY {s with name:=x},ar rfl⟩
theorem BC (hf:Fine l) (s:Stm) (k:Ix l) (f:Fa):MX Tryz.prog 263 [(0,qsO k f c)] [.c (.ptr 0 0),.agg (stC s)] (.ok (lE s k f):Except Fa (Stm×(Ix l×Fa))) (fun s=>.agg (stC s)) (fun b=>[(0,qsO b.1 b.2 c)]) pvS:=by
 have m1:=gm (c:=c) hf gX (by decide) k f
 unfold lE
 generalize b9 gX k f=q at *
 obtain ⟨w,k1,f1⟩:=q
 dsimp only at m1 ⊢
 unfold gX at m1
 unfold tV
 dsimp only
 by_cases h:w=1
 ·rw[if_pos h]
  have m2:=bk (c:=c) hf k1 f1
  generalize aB k1 f1=q at *
  obtain ⟨y,k2,f2⟩:=q
  dsimp only at m2 ⊢
  unfold wt
  have m3:=gU (c:=c) hf k2 f2
  generalize bN k2 f2=q at *
  obtain ⟨z,k3,f3⟩:=q
  dsimp only at m3 ⊢
  refine MXA (fn:=Tryz.f263) Tryz.call263 Tryz.func263 rfl Tryz.ntmps263 Tryz.results263 rfl rfl ?_
  repeat'(first|(with_reducible first|apply AW.seq|apply AW.ret|apply aa|apply ak|apply y_e|refine ae ?_)|((with_reducible apply ai);first|refine t_v AS.v ?_|refine t_w AS.w ?_|refine t_w (by first|exact av (hP:=m1)|exact av (hP:=m2)|exact av (hP:=m3)) ?_)|((with_reducible apply ay);refine t_s AS.s ?_)|((with_reducible refine aq ?_);((refine ah (fun hc=>?_) (fun hc=>?_);all_goals(try(exfalso;simp[*] at hc;done)))))|((with_reducible refine aD ?_);refine b8 (k:=?_))|fail)
  all_goals exact⟨_,(_,_),rfl,aY _,ar rfl⟩
 ·rw[if_neg h]
  unfold vM
  have m2:=bk (c:=c) hf k1 f1
  generalize aB k1 f1=q at *
  obtain ⟨y,k2,f2⟩:=q
  dsimp only at m2 ⊢
  unfold u9
  have hml:=o3 hf k2 f2
  have m3:=kc (c:=c) hf k2 f2
  generalize fE k2 f2=q at *
  obtain ⟨z,k3,f3⟩:=q
  dsimp only at m3 hml ⊢
  refine MXA (fn:=Tryz.f263) Tryz.call263 Tryz.func263 rfl Tryz.ntmps263 Tryz.results263 rfl rfl ?_
  repeat'(first|(with_reducible first|apply AW.seq|apply AW.skip|apply AW.ret|apply aa|apply y_e|refine ae ?_|refine b7 ?_)|((with_reducible apply ai);first|refine t_w ng ?_|refine t_v (iE (hc:=by simp only[zE];rfl)) ?_|refine t_v (iE (hc:=by simp only[C6];rfl)) ?_|refine t_v AS.v ?_|refine t_w AS.w ?_|refine t_w (by first|exact av (hP:=m1)|exact av (hP:=m2)|exact av (hP:=m3)) ?_)|((with_reducible apply ay);first|refine t_s (fw (hs:=by simp only[Ca];rfl)) ?_|refine t_s (fw (hs:=by simp only[wv];rfl)) ?_|refine t_s AS.s ?_)|((with_reducible refine aq ?_);((refine ah (fun hc=>?_) (fun hc=>?_);all_goals(try(exfalso;simp[*] at hc;done)))))|((with_reducible refine aD ?_);refine b8 (k:=?_))|(refine⟨by decide +kernel,?_⟩)|fail)
  all_goals exact⟨{ s with op:=w,list:=[y]++z},(_,_),rfl,vY {s with op:=w},ar rfl⟩
theorem AJ (hf:Fine l) (s:Stm) (k:Ix l) (f:Fa):MNL Tryz.prog 263 [(0,qsO k f c)] [.c (.ptr 0 0),.agg (stC s)] (.agg (stC (lE s k f).1)) [(0,qsO (lE s k f).2.1 (lE s k f).2.2 c)]:=(BC hf s k f).ok (lE s k f).1 (lE s k f).2 rfl
theorem uU (hf:Fine l) (s:Stm) (h:s.kind=19) (k:Ix l) (f:Fa):MX Tryz.prog 190 [(0,qsO k f c)] [.c (.ptr 0 0),.agg (stC s)] (.ok (bB s k f):Except Fa (Stm×(Ix l×Fa))) (fun s=>.agg (stC s)) (fun b=>[(0,qsO b.1 b.2 c)]) pvS:=by
 unfold bB
 rw[if_neg (by rw[h];decide),if_neg (by rw[h];decide),if_pos h]
 have m1:=AJ (c:=c) hf s k f
 generalize lE s k f=q at *
 obtain ⟨x1,k1,f1⟩:=q
 dsimp only at m1 ⊢
 refine MXA (fn:=Tryz.f190) Tryz.call190 Tryz.func190 rfl Tryz.ntmps190 Tryz.results190 rfl rfl ?_
 repeat'(first|(with_reducible first|apply AW.seq|apply AW.block|apply AW.ret|apply aa|apply ak|apply aL|apply y_e|refine ae ?_)|((with_reducible apply ai);first|refine t_v AS.v ?_|refine t_w AS.w ?_|refine t_w (by exact av (hP:=m1)) ?_)|((with_reducible apply ay);refine t_s AS.s ?_)|((with_reducible refine aq ?_);((refine ah (fun hc=>?_) (fun hc=>?_);all_goals(try(exfalso;simp[*] at hc;done)))))|((with_reducible refine aD ?_);refine b8 (k:=?_))|fail)
 all_goals exact⟨_,(_,_),rfl,aY _,ar rfl⟩
end
end Am
namespace Am
set_option maxRecDepth 100000
section
variable {α:Type} {l m:List α} {x y:α} {j:Nat}
theorem r8 (h:l.take j=m.take j) (hx:l[j]? =some x) (hy:m[j]? =some y) (e:x=y):l.take (j+1)=m.take (j+1):=by rw[List.take_add_one,List.take_add_one,h,hx,hy,e]
theorem xK (hx:l[j]? =some x) (hy:m[j]? =some y) (e:x≠y):l≠m:=fun h=>by subst h;rw[hx] at hy;injection hy with hy;exact e hy
theorem uf (h:l.take j=m.take j) (h1:l.length≤j) (h2:l.length=m.length):l=m:=by rwa [List.take_of_length_le h1,List.take_of_length_le (by omega)] at h
end
def jQ (a b:NS):Bool:=(a.all == b.all)&&(a.nt == b.nt)&&(a.self == b.self)&&decide (a.names=b.names)&&decide (a.except=b.except)
def jc (a b:Lv):Bool:=decide (a.sens=b.sens)&&decide (a.cats=b.cats)
def mG (a b:Rg):Bool:=jc a.lo b.lo&&jc a.hi b.hi
end Am
namespace Am
set_option maxRecDepth 100000
set_option maxHeartbeats 1000000
theorem wP {e x:Ex} (h:x∈e.kids):SizeOf.sizeOf x<SizeOf.sizeOf e:=by
 cases e
 have:=List.sizeOf_lt_of_mem h
 simp only[Ex.mk.sizeOf_spec] at this ⊢
 omega
end Am
namespace Am
set_option maxRecDepth 100000
set_option maxHeartbeats 1000000
def nP (op:Int):Int:=if op=1 then 0 else if op=2 then 1 else if op=3∨op=4∨op=5∨op=6∨op=7 then 2 else -1
def bX (e:Ex) (level:Int):Int:=
 if 12<level then 4
 else if nP e.op<0∨e.a≠0∨e.b≠0∨e.rel≠0∨Se.eqB e.set Se.zero=false∨(e.kids.length:Int)≠nP e.op∨(e.names.length:Int)≠(if nP e.op=0 then 1 else 0) then 2
 else if nP e.op=0∧idB (e.names.getD 0 ⟨#[]⟩)=false then 10 else 0
end Am
namespace Am
set_option maxRecDepth 100000
set_option maxHeartbeats 1000000
def j6:List Int→Int
 |[]=>0
 |x :: l=>if x=0 then j6 l else x
mutual
def fq (level:Int):Ex→Int
 |⟨op,a,rel,b,names,set,kids⟩=>if bX ⟨op,a,rel,b,names,set,kids⟩ level=0 then nv (level+1) kids else bX ⟨op,a,rel,b,names,set,kids⟩ level
def nv (level:Int):List Ex→Int
 |[]=>0
 |e :: l=>if fq level e=0 then nv level l else fq level e
end
theorem kp (level:Int):∀ l:List Ex,nv level l=j6 (l.map (fq level))
 |[]=>by rw[nv];rfl
 |e :: l=>by rw[nv,kp level l];rfl
theorem kl (level:Int) (e:Ex):fq level e=if bX e level=0 then j6 (e.kids.map (fq (level+1))) else bX e level:=by
 cases e;rw[fq,kp]
theorem nn {α:Type} {f:α→Int}:∀ {l:List α} {j:Nat} {x:α},l[j]? =some x→(∀ y∈l.take j,f y=0)→f x≠0→j6 (l.map f)=f x
 |[],j,x,h,_,_=>by simp at h
 |a :: l,0,x,h,_,hf=>by
  obtain rfl:a=x:=by simpa using h
  simp[j6,hf]
 |a :: l,j+1,x,h,ha,hf=>by
  have h0:=ha a (by simp)
  simp only[List.map_cons,j6,h0,if_true]
  exact nn (j:=j) (by simpa using h) (fun y hy=>ha y (by simp[hy])) hf
theorem kH {α:Type} {f:α→Int}:∀ {l:List α} {j:Nat},(∀ y∈l.take j,f y=0)→l.length≤j→j6 (l.map f)=0
 |[],_,_,_=>rfl
 |a :: l,0,_,h=>by simp at h
 |a :: l,j+1,ha,h=>by
  simp only[List.map_cons,j6,ha a (by simp),if_true]
  exact kH (j:=j) (fun y hy=>ha y (by simp[hy])) (by simpa using h)
theorem ot {α:Type} {f:α→Int} {l:List α} {j:Nat} {x:α} (h:l[j]? =some x) (ha:∀ y∈l.take j,f y=0) (h0:f x=0):∀ y∈l.take (j+1),f y=0:=by
 intro y hy
 rw[List.take_add_one,h] at hy
 rcases List.mem_append.mp hy with h1|h1
 ·exact ha y h1
 ·simp at h1;rw[h1];exact h0
end Am
namespace Am
open Tk Go.RowKit
set_option maxRecDepth 100000
set_option maxHeartbeats 4000000
section
variable {ts:List Tok} {i:Nat}
theorem yM (hl:ts.length≤4294967296) (hi:i≤ts.length) (s:ByteArray):Pure Tryz.prog 353 [.c (.lst none 4 (ts.map tkC)),.c (sI i),.c (sS s)] (.c (sB (isK ts i s))):=by
 by_cases hlt:i<ts.length
 ·obtain ⟨t,ht⟩:∃ t,ts[i]? =some t:=⟨_,List.getElem?_eq_getElem hlt⟩
  refine fn3 (fn:=Tryz.f353) Tryz.call353 Tryz.func353 rfl Tryz.ntmps353 Tryz.results353 rfl (by rfl) ?_
  repeat'(first|(with_reducible first|apply AW.seq|apply AW.ret|apply aa|apply y_e|refine ae ?_)|((with_reducible apply ai);refine t_v AS.v ?_)|((with_reducible apply aK);first|refine t_f ?_|refine t_m (hs:=fun hg=>AS.v) (k:=?_))|((with_reducible refine aM ?_);refine k_b ?_)|fail)
  have e:isK ts i s=(decide (t.kind=4)&&decide (t.text=s)):=by unfold isK;rw[ht]
  rw[e]
  clear ht e
  simp[hlt]
 ·have hi2:i=ts.length:=by omega
  subst hi2
  clear hlt hi
  refine fn3 (fn:=Tryz.f353) Tryz.call353 Tryz.func353 rfl Tryz.ntmps353 Tryz.results353 rfl (by rfl) ?_
  repeat'(first|(with_reducible first|apply AW.seq|apply AW.ret|apply aa|apply y_e|refine ae ?_)|((with_reducible apply ai);refine t_v AS.v ?_)|((with_reducible apply aK);first|refine t_f ?_|refine t_m (hs:=fun hg=>AS.v) (k:=?_))|((with_reducible refine aM ?_);refine k_b ?_)|fail)
  simp[isK]
theorem nc (hl:ts.length≤4294967296) (hi:i≤ts.length) (c:Int):Pure Tryz.prog 315 [.c (.lst none 4 (ts.map tkC)),.c (sI i),.c (sI c)] (.agg (faC (flK c ts i))):=by
 by_cases hlt:i<ts.length
 ·obtain ⟨t,ht⟩:∃ t,ts[i]? =some t:=⟨_,List.getElem?_eq_getElem hlt⟩
  refine fn3 (fn:=Tryz.f315) Tryz.call315 Tryz.func315 rfl Tryz.ntmps315 Tryz.results315 rfl (by rfl) ?_
  repeat'(first|(with_reducible first|apply AW.seq|apply AW.skip|apply AW.ret|apply aa|apply y_e|refine ae ?_)|((with_reducible apply ai);first|refine t_v AS.v ?_|refine t_w AS.w ?_)|((with_reducible apply ay);refine t_s AS.s ?_)|((with_reducible refine aq ?_);((refine ah (fun hc=>?_) (fun hc=>?_);all_goals(try(exfalso;simp[*] at hc;done)))))|((with_reducible refine aM ?_);refine k_c ?_)|fail)
  all_goals(((unfold flK;rw[ht];rfl)))
 ·have hi2:i=ts.length:=by omega
  subst hi2
  clear hlt hi
  refine fn3 (fn:=Tryz.f315) Tryz.call315 Tryz.func315 rfl Tryz.ntmps315 Tryz.results315 rfl (by rfl) ?_
  repeat'(first|(with_reducible first|apply AW.seq|apply AW.skip|apply AW.ret|apply aa|apply y_e|refine ae ?_)|((with_reducible apply ai);first|refine t_v AS.v ?_|refine t_w AS.w ?_)|((with_reducible apply ay);refine t_s AS.s ?_)|((with_reducible refine aq ?_);((refine ah (fun hc=>?_) (fun hc=>?_);all_goals(try(exfalso;simp[*] at hc;done)))))|((with_reducible refine aM ?_);refine k_c ?_)|fail)
  all_goals(((unfold flK;rw[List.getElem?_eq_none (Nat.le_refl _)];rfl)))
theorem zv {op:Int} (h:op=3∨op=4∨op=5∨op=6∨op=7):Pure Tryz.prog 322 [.c (sI op)] (.c (sS (sgM op))):=by
 refine fn1 (fn:=Tryz.f322) Tryz.call322 Tryz.func322 rfl Tryz.ntmps322 Tryz.results322 rfl (by rfl) ?_
 repeat'(first|(with_reducible first|apply AW.seq|apply AW.skip|apply AW.ret|apply aa|apply ak|apply y_e|refine ae ?_)|((with_reducible apply ai);refine t_v AS.v ?_)|((with_reducible refine aq ?_);((refine ah (fun hc=>?_) (fun hc=>?_))))|((with_reducible refine aM ?_);refine k_s ?_)|fail)
 all_goals(simp only[decide_eq_true_eq,decide_eq_false_iff_not] at *;rcases h with h|h|h|h|h <;> simp_all[sgM])
theorem qf {op:Int} (h:op=3∨op=4∨op=5∨op=6∨op=7):Pure Tryz.prog 320 [.c (sI op)] (.c (sI (sgN op))):=by
 refine fn1 (fn:=Tryz.f320) Tryz.call320 Tryz.func320 rfl Tryz.ntmps320 Tryz.results320 rfl (by rfl) ?_
 repeat'(first|(with_reducible first|apply AW.seq|apply AW.skip|apply AW.ret|apply aa|apply ak|apply y_e|refine ae ?_)|((with_reducible apply ai);refine t_v AS.v ?_)|((with_reducible apply aK);refine t_m (hs:=fun hg=>AS.v) (k:=?_))|((with_reducible refine aq ?_);((refine ah (fun hc=>?_) (fun hc=>?_);all_goals(try(exfalso;revert hc;simp;omega)))))|((with_reducible refine aM ?_);refine k_i ?_)|fail)
 all_goals(simp only[decide_eq_true_eq,decide_eq_false_iff_not] at *;rcases h with h|h|h|h|h <;> simp_all[sgN])
end
end Am
namespace Am
open Tk Go.RowKit
set_option maxRecDepth 100000
set_option maxHeartbeats 4000000
section
variable {ts:List Tok} {i:Nat}
theorem xv {n:Nat} (hn:n≤4):gO ts i n [3,4,5,6,7]=opK ts i n:=by
 match n,hn with
 |0,_=>simp[gO,opK,sgN]
 |1,_=>simp[gO,opK,sgN,sgM]
 |2,_=>simp[gO,opK,sgN,sgM]
 |3,_=>simp[gO,opK,sgN,sgM]
 |4,_=>simp[gO,opK,sgN,sgM]
theorem qM (hl:ts.length≤4294967296) (hi:i≤ts.length) {n:Nat} (hn:n≤4):Pure Tryz.prog 345 [.c (.lst none 4 (ts.map tkC)),.c (sI i),.c (sI n)] (.c (sI (opK ts i n))):=by
 refine fn3 (fn:=Tryz.f345) Tryz.call345 Tryz.func345 rfl Tryz.ntmps345 Tryz.results345 rfl (by rfl) ?_
 repeat'(first|(with_reducible first|apply AW.seq|apply AW.block|apply AW.ret|apply AW.exit|apply aa|apply aE|apply aH|apply y_e|refine ae ?_)|((with_reducible apply ai);refine t_v AS.v ?_)|((with_reducible refine aq ?_);refine aJ ?_)|((with_reducible refine aM ?_);refine k_i ?_)|fail)
 rw[← xv (i:=i) (ts:=ts) hn]
 refine AW.loop (fun m σ=>∃ j:Nat,j≤5∧m=5 - j∧gO ts i n ([3,4,5,6,7].drop j)=gO ts i n [3,4,5,6,7]∧σ=mk [(7,.c (sI (3+(j:Int)))),(6,.c (sI 0)),(0,.c (.lst none 4 (ts.map tkC))),(1,.c (sI i)),(2,.c (sI n))] []) 5 ?_ ?_
 ·exact⟨_,wkA,0,by omega,rfl,rfl,rfl⟩
 rintro m σ ⟨j,hj,rfl,hs,rfl⟩
 generalize he:gO ts i n [3,4,5,6,7]=x at hs
 have ip:=fun s=>yM hl hi s
 by_cases hj5:j<5
 ·have ho:(3:Int)+j=3∨(3:Int)+j=4∨(3:Int)+j=5∨(3:Int)+j=6∨(3:Int)+j=7:=by omega
  have hd:([3,4,5,6,7]:List Int).drop j=(3+(j:Int)) :: ([3,4,5,6,7]:List Int).drop (j+1):=by
   match j,hj5 with
   |0,_=>rfl
   |1,_=>rfl
   |2,_=>rfl
   |3,_=>rfl
   |4,_=>rfl
  rw[hd,gO] at hs
  clear hd
  have q1:=qf ho
  have q2:=zv ho
  clear ho
  repeat'(first|(with_reducible first|apply AW.seq|apply AW.block|apply AW.skip|apply AW.ret|apply aa|apply ak|apply aw|apply aL|apply y_e|refine ae ?_)|((with_reducible apply ai);first|refine t_v AS.v ?_|refine t_v (by exact aj (hP:=q1)) ?_)|((with_reducible apply aK);first|refine t_m (hs:=fun hg=>AS.v) (k:=?_)|refine t_m (hs:=fun hg=>(by first|exact aj (hP:=q2)|exact aj (hP:=ip _))) (k:=?_))|((with_reducible refine aq ?_);((refine ah (fun hc=>?_) (fun hc=>?_);all_goals(try(exfalso;revert hc;simp;omega)))))|((with_reducible refine aM ?_);refine k_i ?_)|fail)
  ·rw[← hs,if_pos (by simpa using hc)]
  ·have hno:¬ (sgN (3+(j:Int))=n∧isK ts i (sgM (3+(j:Int)))=true):=by rintro ⟨h1,h2⟩;simp[h1,h2] at hc
   have e3:(3:Int)+(j:Int)+1=3+((j+1:Nat):Int):=by omega
   simp only[e3]
   exact⟨_,_,by show 5 - (j+1)<5 - j;omega,wkA,j+1,by omega,rfl,by rw[← hs,if_neg hno],rfl⟩
 ·have hj:j=5:=by omega
  subst hj
  have hs:0=x:=hs
  repeat'(first|(with_reducible first|apply AW.seq|apply AW.block|apply AW.ret|apply AW.exit|apply aa|apply aE|apply aH|apply y_e|refine ae ?_)|((with_reducible apply ai);refine t_v AS.v ?_)|((with_reducible refine aq ?_);refine aJ ?_)|((with_reducible refine aM ?_);refine k_i ?_)|fail)
  rw[hs]
end
end Am
end Go.Proofs.YtkpodagbefnebaaGreatDoor
