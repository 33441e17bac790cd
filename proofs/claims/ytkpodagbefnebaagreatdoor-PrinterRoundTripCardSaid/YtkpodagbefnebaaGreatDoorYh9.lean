import Derived.Test.YtkpodagbefnebaaGreatDoorYh8
import Derived.Lib.ItoaNum
import Derived.Lib.Repeat
import Derived.Lib.Small
set_option linter.unusedSimpArgs false
set_option linter.unusedVariables false
set_option linter.unusedSectionVars false
namespace Go.Proofs.YtkpodagbefnebaaGreatDoor
namespace Am
set_option maxRecDepth 100000
set_option maxHeartbeats 1000000
theorem Co (n m:Int):Pure Tryz.prog 296 [.c (sI n),.c (sI m)] (.c (sB (decide (0≤n)&&decide (n<m)))):=by
 refine fn2 (fn:=Tryz.f296) Tryz.call296 Tryz.func296 rfl Tryz.ntmps296 Tryz.results296 rfl (by rfl) ?_
 repeat'(first|(with_reducible first|apply AW.seq|apply AW.ret|apply ae|apply y_e|refine ah ?_)|((with_reducible apply ak);refine t_v AS.v ?_)|((with_reducible apply bc);refine t_m (hs:=fun hg=>AS.v) (k:=?_))|((with_reducible refine aA ?_);refine k_b ?_)|fail)
 rfl
theorem Bx {l:List Ex} {p:Ex→Bool} {f:Nat} {caps:List C} (hcap:okL noN caps=true) (h:∀ s∈l,Pure Tryz.prog f ([.agg (exC s)]++caps.map V.c) (.c (sB (p s)))):Pure Tryz.prog 297 [.c (.lst none 10 (l.map exC)),.c (.fn f caps)] (.c (sB (l.all p))):=by
 have hcap2:okL (fun n=>(look ([]:List (Nat×HO)) n).isSome) caps=true:=hcap
 refine fn2 (fn:=Tryz.f297) Tryz.call297 Tryz.func297 rfl Tryz.ntmps297 Tryz.results297 rfl (by rfl) ?_
 refine AW.fact (t:=0) rfl (fun κ w x hr=>dq hr) fun hn=>?_
 repeat'(first|(with_reducible first|apply AW.seq|apply AW.block|apply ae|apply y_e|refine ah ?_)|((with_reducible apply ak);refine t_v AS.v ?_)|fail)
 refine AW.loop (fun n σ=>∃ j,n=l.length - j∧j≤l.length∧(l.take j).all p=true∧σ=mk [(1,.c (.fn f caps)),(7,.c (.lst none 10 (l.map exC))),(8,.c (sI (l.map exC).length)),(9,.c (sI j))] []) l.length ?_ ?_
 ·exact⟨_,wkA,0,rfl,Nat.zero_le _,rfl,rfl⟩
 rintro n σ ⟨j,rfl,hj,ha,rfl⟩
 by_cases hlt:j<l.length
 ·obtain ⟨x,hx⟩:∃ x,l[j]? =some x:=⟨_,List.getElem?_eq_getElem hlt⟩
  have hp:=h x (List.mem_of_getElem? hx)
  repeat'(first|(with_reducible first|apply AW.seq|apply AW.block|apply AW.skip|apply AW.ret|apply ae|apply aq|apply aw|apply aG|apply y_e|refine ah ?_)|((with_reducible apply ak);first|refine t_v AS.v ?_|refine t_v (by exact ag (hP:=hp)) ?_|refine t_w AS.w ?_)|((with_reducible apply aV);refine t_s AS.s ?_)|((with_reducible refine au ?_);((refine aj (fun hc=>?_) (fun hc=>?_);all_goals(try(exfalso;simp[*] at hc;done)))))|((with_reducible refine aA ?_);refine k_b ?_)|fail)
  ·rw[fF hx (by simpa using hc)]
  ·exact⟨_,_,(show l.length - (j+1)<l.length - j by omega),wkA,j+1,rfl,hlt,dv hx ha (by simpa using hc),rfl⟩
 ·repeat'(first|(with_reducible first|apply AW.seq|apply AW.ret|apply AW.exit|apply ae|apply aJ|apply aW|apply y_e|refine ah ?_)|((with_reducible apply ak);refine t_v AS.v ?_)|((with_reducible refine au ?_);((refine aj (fun hc=>?_) (fun hc=>?_);all_goals(try(exfalso;simp[*] at hc;done)))))|((with_reducible refine aA ?_);refine k_b ?_)|fail)
  rw[fD ha (by omega)]
def nB (limit level op a rel b:Int) (names:List ByteArray) (set:Se) (n:Nat):Bool:=
 decide (level≤12)&&Se.eqB set Se.zero &&
  (if op=2∨op=3∨op=4 then decide (a=0)&&decide (rel=0)&&decide (b=0)&&decide ((names.length:Int)=0)&&decide ((n:Int)=if op=2 then 1 else 2)
   else if op=8 then(decide (0≤a)&&decide (a<limit))&&(decide (0≤b)&&decide (b<limit))&&(decide (0≤rel)&&decide (rel<5))&&decide ((names.length:Int)=0)&&decide ((n:Int)=0)
   else if op=9 then(decide (0≤a)&&decide (a<limit))&&decide (rel=0)&&decide (b=0)&&kX names&&decide ((n:Int)=0)
   else false)
mutual
def fA (limit level:Int):Ex→Bool
 |⟨op,a,rel,b,names,set,kids⟩=>nB limit level op a rel b names set kids.length&&ll limit (level+1) kids
def ll (limit level:Int):List Ex→Bool
 |[]=>true
 |e :: l=>fA limit level e&&ll limit level l
end
theorem pA (limit level:Int):∀ l:List Ex,ll limit level l=l.all (fA limit level)
 |[]=>by rw[ll];rfl
 |e :: l=>by rw[ll,pA limit level l];rfl
theorem j9 (limit level:Int) (e:Ex):fA limit level e=(nB limit level e.op e.a e.rel e.b e.names e.set e.kids.length&&e.kids.all (fA limit (level+1))):=by
 cases e;rw[fA,pA]
theorem Gk {e:Ex} {limit level:Int} (h0:-100≤level) (h1:level≤12) (h:Pure Tryz.prog 221 [.agg (exC e),.c (sI limit),.c (sI (level+1))] (.c (sB (fA limit (level+1) e)))):Pure Tryz.prog 298 [.agg (exC e),.c (.ep [sI limit]),.c (.ep [sI level])] (.c (sB (fA limit (level+1) e))):=by
 refine fn3 (fn:=Tryz.f298) Tryz.call298 Tryz.func298 rfl Tryz.ntmps298 Tryz.results298 rfl (by rfl) ?_
 repeat'(first|(with_reducible first|apply AW.seq|apply AW.ret|apply ae|apply y_e|refine ah ?_)|((with_reducible apply ak);first|refine t_v AS.v ?_|refine t_v (by exact ag (hP:=h)) ?_|refine t_w AS.w ?_)|((with_reducible refine aA ?_);refine k_b ?_)|fail)
 rfl
theorem gi {e x:Ex} (h:x∈e.kids):SizeOf.sizeOf x<SizeOf.sizeOf e:=by
 cases e
 have:=List.sizeOf_lt_of_mem h
 simp only[Ex.mk.sizeOf_spec] at this ⊢
 omega
theorem CU (limit:Int):∀ (n:Nat) (e:Ex) (level:Int),SizeOf.sizeOf e<n→-100≤level→level≤100→Pure Tryz.prog 221 [.agg (exC e),.c (sI limit),.c (sI level)] (.c (sB (fA limit level e)))
 |0,_,_,h,_,_=>absurd h (Nat.not_lt_zero _)
 |n+1,e,level,h,h0,h1=>by
  have ih:∀ x∈e.kids,-100≤level→level≤12→Pure Tryz.prog 298 [.agg (exC x),.c (.ep [sI limit]),.c (.ep [sI level])] (.c (sB (fA limit (level+1) x))):=fun x hx k0 k1=>
   Gk k0 k1 (CU limit n x (level+1) (by have:=gi hx;omega) (by omega) (by omega))
  rw[j9]
  refine fn3 (fn:=Tryz.f221) Tryz.call221 Tryz.func221 rfl Tryz.ntmps221 Tryz.results221 rfl (by rfl) ?_
  repeat'(first|(with_reducible first|apply AW.seq|apply AW.block|apply AW.skip|apply AW.ret|apply ae|apply aq|apply aw|apply aG|apply y_e|refine ah ?_)|((with_reducible apply ak);first|refine t_v AS.v ?_|refine t_w AS.w ?_)|((with_reducible apply bc);first|refine t_m (hs:=fun hg=>AS.v) (k:=?_)|refine t_m (hs:=fun hg=>(by first|exact ag (hP:=Co _ _)|exact ag (hP:=tu _)|exact bn (hP:=Bx rfl fun x hx=>ih x hx h0 (by simp_all)))) (k:=?_))|((with_reducible refine au ?_);((refine aj (fun hc=>?_) (fun hc=>?_);all_goals(try(exfalso;simp[*] at hc;done)))))|((with_reducible refine aA ?_);refine k_b ?_)|fail)
  all_goals
   simp only[decide_eq_true_eq,decide_eq_false_iff_not] at *
   simp only[nB,List.length_map]
   simp[*,Bool.and_assoc]
theorem Jj (e:Ex) (limit:Int):Pure Tryz.prog 221 [.agg (exC e),.c (sI limit),.c (sI 1)] (.c (sB (fA limit 1 e))):=CU limit _ e 1 (Nat.lt_succ_self _) (by omega) (by omega)
def fy (e:Ex) (validate:Bool):Bool:=fA (if validate then 15 else 10) 1 e
theorem iO (e:Ex) (v:Bool):Pure Tryz.prog 165 [.agg (exC e),.c (sB v)] (.c (sB (fy e v))):=by
 refine fn2 (fn:=Tryz.f165) Tryz.call165 Tryz.func165 rfl Tryz.ntmps165 Tryz.results165 rfl (by rfl) ?_
 repeat'(first|(with_reducible first|apply AW.seq|apply AW.skip|apply AW.ret|apply ae|apply y_e|refine ah ?_)|((with_reducible apply ak);first|refine t_v AS.v ?_|refine t_v (by exact ag (hP:=Jj _ _)) ?_|refine t_w AS.w ?_)|((with_reducible refine au ?_);((refine aj (fun hc=>?_) (fun hc=>?_))))|((with_reducible refine aA ?_);refine k_b ?_)|fail)
 all_goals(unfold fy;rw[hc];rfl)
end Am
namespace Am
set_option maxRecDepth 100000
set_option maxHeartbeats 1000000
def dh (op:Int):Int:=if op=1 then 0 else if op=2 then 1 else if op=3∨op=4∨op=5∨op=6∨op=7 then 2 else -1
theorem ez (op:Int):Pure Tryz.prog 334 [.c (sI op)] (.c (sI (dh op))):=by
 refine fn1 (fn:=Tryz.f334) Tryz.call334 Tryz.func334 rfl Tryz.ntmps334 Tryz.results334 rfl (by rfl) ?_
 repeat'(first|(with_reducible first|apply AW.seq|apply AW.block|apply AW.skip|apply AW.ret|apply ae|apply aq|apply aw|apply aG|apply y_e|refine ah ?_)|((with_reducible apply ak);refine t_v AS.v ?_)|((with_reducible refine au ?_);((refine aj (fun hc=>?_) (fun hc=>?_);all_goals(try(exfalso;simp[*] at hc;done)))))|((with_reducible refine aA ?_);refine k_i ?_)|fail)
 all_goals
  simp only[decide_eq_true_eq,decide_eq_false_iff_not] at *
  simp[dh, *]
def eQ (e:Ex) (level:Int):Int:=
 if 12<level then 4
 else if dh e.op<0∨e.a≠0∨e.b≠0∨e.rel≠0∨Se.eqB e.set Se.zero=false∨(e.kids.length:Int)≠dh e.op∨(e.names.length:Int)≠(if dh e.op=0 then 1 else 0) then 2
 else if dh e.op=0∧idB (e.names.getD 0 ⟨#[]⟩)=false then 10 else 0
theorem Fm (e:Ex) (level:Int):Pure Tryz.prog 341 [.agg (exC e),.c (sI level)] (.c (sI (eQ e level))):=by
 refine fn2 (fn:=Tryz.f341) Tryz.call341 Tryz.func341 rfl Tryz.ntmps341 Tryz.results341 rfl (by rfl) ?_
 by_cases h0:e.names.length=1
 ·have hg:e.names[0]? =some (e.names.getD 0 ⟨#[]⟩):=by
   match hn:e.names,h0 with
   |[x],_=>rfl
  repeat'(first|(with_reducible first|apply AW.seq|apply AW.block|apply AW.skip|apply AW.ret|apply ae|apply aq|apply aw|apply aG|apply y_e|refine ah ?_)|((with_reducible apply ak);first|refine t_v AS.v ?_|refine t_v (by exact ag (hP:=ez _)) ?_|refine t_w AS.w ?_)|((with_reducible apply bc);first|refine t_m (hs:=fun hg=>AS.v) (k:=?_)|refine t_m (hs:=fun hg=>(by exact ag (hP:=dM _))) (k:=?_))|((with_reducible refine au ?_);((refine aj (fun hc=>?_) (fun hc=>?_);all_goals(try(exfalso;simp[*] at hc;done)))))|((with_reducible refine aA ?_);refine k_i ?_)|fail)
  all_goals
   try simp only[List.length_map] at *
   unfold eQ
   grind
 ·repeat'(first|(with_reducible first|apply AW.seq|apply AW.block|apply AW.skip|apply AW.ret|apply ae|apply aq|apply aw|apply aG|apply y_e|refine ah ?_)|((with_reducible apply ak);first|refine t_v AS.v ?_|refine t_v (by exact ag (hP:=ez _)) ?_|refine t_w AS.w ?_)|((with_reducible apply bc);first|refine t_f ?_|refine t_m (hs:=fun hg=>AS.v) (k:=?_))|((with_reducible refine au ?_);first|refine cj ?_|(refine aj (fun hc=>?_) (fun hc=>?_);all_goals(try(exfalso;revert hc;simp;omega))))|((with_reducible refine aA ?_);refine k_i ?_)|fail)
  all_goals
   try simp only[List.length_map] at *
   unfold eQ
   grind
end Am
namespace Am
set_option maxRecDepth 100000
set_option maxHeartbeats 1000000
def gF:List Int→Int
 |[]=>0
 |x :: l=>if x=0 then gF l else x
mutual
def cP (level:Int):Ex→Int
 |⟨op,a,rel,b,names,set,kids⟩=>if eQ ⟨op,a,rel,b,names,set,kids⟩ level=0 then l8 (level+1) kids else eQ ⟨op,a,rel,b,names,set,kids⟩ level
def l8 (level:Int):List Ex→Int
 |[]=>0
 |e :: l=>if cP level e=0 then l8 level l else cP level e
end
theorem lL (level:Int):∀ l:List Ex,l8 level l=gF (l.map (cP level))
 |[]=>by rw[l8];rfl
 |e :: l=>by rw[l8,lL level l];rfl
theorem lK (level:Int) (e:Ex):cP level e=if eQ e level=0 then gF (e.kids.map (cP (level+1))) else eQ e level:=by
 cases e;rw[cP,lL]
theorem uC {α:Type} {f:α→Int}:∀ {l:List α} {j:Nat} {x:α},l[j]? =some x→(∀ y∈l.take j,f y=0)→f x≠0→gF (l.map f)=f x
 |[],j,x,h,_,_=>by simp at h
 |a :: l,0,x,h,_,hf=>by
  obtain rfl:a=x:=by simpa using h
  simp[gF,hf]
 |a :: l,j+1,x,h,ha,hf=>by
  have h0:=ha a (by simp)
  simp only[List.map_cons,gF,h0,if_true]
  exact uC (j:=j) (by simpa using h) (fun y hy=>ha y (by simp[hy])) hf
theorem qZ {α:Type} {f:α→Int}:∀ {l:List α} {j:Nat},(∀ y∈l.take j,f y=0)→l.length≤j→gF (l.map f)=0
 |[],_,_,_=>rfl
 |a :: l,0,_,h=>by simp at h
 |a :: l,j+1,ha,h=>by
  simp only[List.map_cons,gF,ha a (by simp),if_true]
  exact qZ (j:=j) (fun y hy=>ha y (by simp[hy])) (by simpa using h)
theorem AX {α:Type} {f:α→Int} {l:List α} {j:Nat} {x:α} (h:l[j]? =some x) (ha:∀ y∈l.take j,f y=0) (h0:f x=0):∀ y∈l.take (j+1),f y=0:=by
 intro y hy
 rw[List.take_add_one,h] at hy
 rcases List.mem_append.mp hy with h1|h1
 ·exact ha y h1
 ·simp at h1;rw[h1];exact h0
theorem yu:∀ (n:Nat) (e:Ex) (level:Int),SizeOf.sizeOf e<n→-100≤level→level≤100→Pure Tryz.prog 307 [.agg (exC e),.c (sI level)] (.c (sI (cP level e)))
 |0,_,_,h,_,_=>absurd h (Nat.not_lt_zero _)
 |n+1,e,level,h,h0,h1=>by
  have ih:∀ x∈e.kids,level≤12→Pure Tryz.prog 307 [.agg (exC x),.c (sI (level+1))] (.c (sI (cP (level+1) x))):=fun x hx k0=>
   yu n x (level+1) (by have:=gi hx;omega) (by omega) (by omega)
  have hl:eQ e level=0→level≤12:=by
   intro hb;unfold eQ at hb;split at hb <;> omega
  rw[lK]
  refine fn2 (fn:=Tryz.f307) Tryz.call307 Tryz.func307 rfl Tryz.ntmps307 Tryz.results307 rfl (by rfl) ?_
  repeat'(first|(with_reducible first|apply AW.seq|apply AW.block|apply AW.skip|apply AW.ret|apply ae|apply aq|apply y_e|refine ah ?_)|((with_reducible apply ak);first|refine t_v AS.v ?_|refine t_v (by exact ag (hP:=Fm _ _)) ?_|refine t_w AS.w ?_)|((with_reducible refine au ?_);((refine aj (fun hc=>?_) (fun hc=>?_))))|((with_reducible refine aA ?_);refine k_i ?_)|fail)
  ·rw[if_neg (by simpa using hc)]
  have hb:eQ e level=0:=by simpa using hc
  rw[if_pos hb]
  have hv:=hl hb
  refine AW.fact (t:=16) rfl (fun κ w x hr=>dq hr) fun hn=>?_
  refine AW.loop (fun n σ=>∃ j,n=e.kids.length - j∧j≤e.kids.length∧(∀ y∈e.kids.take j,cP (level+1) y=0)∧σ=mk [(1,.c (sI level)),(16,.c (.lst none 10 (e.kids.map exC))),(17,.c (sI (e.kids.map exC).length)),(18,.c (sI j))] []) e.kids.length ?_ ?_
  ·exact⟨_,wkA,0,rfl,Nat.zero_le _,by simp,rfl⟩
  rintro n σ ⟨j,rfl,hj,ha,rfl⟩
  by_cases hlt:j<e.kids.length
  ·obtain ⟨x,hx⟩:∃ x,e.kids[j]? =some x:=⟨_,List.getElem?_eq_getElem hlt⟩
   have hp:=ih x (List.mem_of_getElem? hx) hv
   repeat'(first|(with_reducible first|apply AW.seq|apply AW.block|apply AW.skip|apply AW.ret|apply ae|apply aq|apply aw|apply aG|apply y_e|refine ah ?_)|((with_reducible apply ak);first|refine t_v AS.v ?_|refine t_v (by exact ag (hP:=hp)) ?_|refine t_w AS.w ?_)|((with_reducible apply aV);refine t_s AS.s ?_)|((with_reducible refine au ?_);((refine aj (fun hc=>?_) (fun hc=>?_);all_goals(try(exfalso;simp[*] at hc;done)))))|((with_reducible refine aA ?_);refine k_i ?_)|fail)
   ·rw[uC hx ha (by simpa using hc)]
   ·exact⟨_,_,(show e.kids.length - (j+1)<e.kids.length - j by omega),wkA,j+1,rfl,hlt,AX hx ha (by simpa using hc),rfl⟩
  ·repeat'(first|(with_reducible first|apply AW.seq|apply AW.ret|apply AW.exit|apply ae|apply aJ|apply aW|apply y_e|refine ah ?_)|((with_reducible apply ak);refine t_v AS.v ?_)|((with_reducible refine au ?_);((refine aj (fun hc=>?_) (fun hc=>?_);all_goals(try(exfalso;simp[*] at hc;done)))))|((with_reducible refine aA ?_);refine k_i ?_)|fail)
   rw[qZ ha (by omega)]
theorem yv (e:Ex):Pure Tryz.prog 233 [.agg (exC e)] (.c (sI (cP 1 e))):=by
 refine fn1 (fn:=Tryz.f233) Tryz.call233 Tryz.func233 rfl Tryz.ntmps233 Tryz.results233 rfl (by rfl) ?_
 repeat'(first|(with_reducible first|apply AW.seq|apply AW.ret|apply ae|apply y_e|refine ah ?_)|((with_reducible apply ak);first|refine t_v AS.v ?_|refine t_v (by exact ag (hP:=yu _ e 1 (Nat.lt_succ_self _) (by omega) (by omega))) ?_|refine t_w AS.w ?_)|((with_reducible refine aA ?_);refine k_i ?_)|fail)
 rfl
end Am
namespace Am
set_option maxRecDepth 100000
def tlB (sep:ByteArray):List ByteArray→ByteArray
 |[]=>⟨#[]⟩
 |x :: l=>sep++x++tlB sep l
def bC (sep:ByteArray):List ByteArray→ByteArray
 |[]=>⟨#[]⟩
 |x :: l=>x++tlB sep l
def brT (l:List ByteArray):ByteArray:=⟨#[123,32]⟩++bC ⟨#[32]⟩ l++⟨#[32,125]⟩
def spT (s:Sp):ByteArray:=if s.to=⟨#[]⟩ then s.frm else s.frm++⟨#[46]⟩++s.to
def lvT (l:Lv):ByteArray:=if l.cats.length=0 then l.sens else l.sens++⟨#[58]⟩++bC ⟨#[44]⟩ (l.cats.map spT)
def rgT (r:Rg):ByteArray:=if iN r.hi then lvT r.lo else lvT r.lo++⟨#[45]⟩++lvT r.hi
def cxT (c:Ct):ByteArray:=c.user++⟨#[58]⟩++c.role++⟨#[58]⟩++c.type++⟨#[58]⟩++rgT c.rng
def ti (n:Int):ByteArray:=if n=0 then⟨#[61,61]⟩ else if n=1 then⟨#[33,61]⟩ else if n=2 then⟨#[100,111,109]⟩ else if n=3 then⟨#[100,111,109,98,121]⟩ else⟨#[105,110,99,111,109,112]⟩
def lq (n:NS):List ByteArray:=(if n.all then[⟨#[42]⟩] else[])++n.names
def sP (n:NS):List ByteArray:=lq n++n.except.map (⟨#[45,32]⟩++ ·)
def nsL (n:NS):List ByteArray:=sP n++(if n.self then[⟨#[115,101,108,102]⟩] else[])
def nsT (n:NS):ByteArray:=
 if n.nt=true∧(nsL n).length=1∧n.except.length=0∧n.names.length=1 then⟨#[126,32]⟩++(nsL n).getD 0 ⟨#[]⟩
 else if n.nt then⟨#[126,32]⟩++brT (nsL n)
 else if(nsL n).length=1∧n.except.length=0 then(nsL n).getD 0 ⟨#[]⟩
 else brT (nsL n)
def GM (s:ByteArray) (c:Nat):ByteArray:=⟨(Lib.repeatL s.data.toList c).toArray⟩
def j5 (n:Nat):ByteArray:=GM ⟨#[32,32]⟩ n
def iM (n:Nat):ByteArray:=(⟨#[117,114,116,108,104]⟩:ByteArray).extract (n % 5) (n % 5+1)++⟨(Lib.decDigits (n / 5+1)).toArray⟩
def fY (p:Bool) (s:ByteArray):ByteArray:=if p then⟨#[40]⟩++s++⟨#[41]⟩ else s
def exH (op a rel b:Int) (names:List ByteArray) (ts:List ByteArray) (ops:List Int):ByteArray:=
 if op=2 then⟨#[33]⟩++fY (decide (ops.getD 0 0≠2)) (ts.getD 0 ⟨#[]⟩)
 else if op=3 then fY (decide (ops.getD 0 0=4)) (ts.getD 0 ⟨#[]⟩)++⟨#[32,38,38,32]⟩++fY (decide (ops.getD 1 0=4) || decide (ops.getD 1 0=3)) (ts.getD 1 ⟨#[]⟩)
 else if op=4 then ts.getD 0 ⟨#[]⟩++⟨#[32,124,124,32]⟩++fY (decide (ops.getD 1 0=4)) (ts.getD 1 ⟨#[]⟩)
 else if op=9 then iM a.toNat++⟨#[32,105,110,32]⟩++nsT ⟨false,false,false,names,[]⟩
 else iM a.toNat++⟨#[32]⟩++ti rel++⟨#[32]⟩++iM b.toNat
mutual
def exT:Ex→ByteArray
 |⟨op,a,rel,b,names,_,kids⟩=>exH op a rel b names (uz kids) (kids.map (·.op))
def uz:List Ex→List ByteArray
 |[]=>[]
 |x :: l=>exT x :: uz l
end
def kW (op:Int):ByteArray:=if op=6 then⟨#[61,61]⟩ else if op=7 then⟨#[33,61]⟩ else if op=3 then⟨#[38,38]⟩ else if op=5 then⟨#[94]⟩ else⟨#[124,124]⟩
def dK (op:Int):Int:=if op=6 then 4 else if op=7 then 4 else if op=3 then 3 else if op=5 then 2 else 1
def gQ (op:Int):Int:=if dh op<2 then 5 else dK op
def ia (st least:Int) (s:ByteArray):ByteArray:=if st<least then⟨#[40]⟩++s++⟨#[41]⟩ else s
def btH (op:Int) (names ts:List ByteArray) (ops:List Int):ByteArray:=
 if dh op=0 then names.getD 0 ⟨#[]⟩
 else if dh op=1 then⟨#[33]⟩++ia (gQ (ops.getD 0 0)) 5 (ts.getD 0 ⟨#[]⟩)
 else ia (gQ (ops.getD 0 0)) (dK op) (ts.getD 0 ⟨#[]⟩)++⟨#[32]⟩++kW op++⟨#[32]⟩++ia (gQ (ops.getD 1 0)) (dK op+1) (ts.getD 1 ⟨#[]⟩)
mutual
def btI:Ex→ByteArray
 |⟨op,_,_,_,names,_,kids⟩=>btH op names (ue kids) (kids.map (·.op))
def ue:List Ex→List ByteArray
 |[]=>[]
 |x :: l=>btI x :: ue l
end
def btT (e:Ex) (least:Int):ByteArray:=ia (gQ e.op) least (btI e)
def kwT (l:List ByteArray) (n:Int):ByteArray:=l.getD (n - 1).toNat ⟨#[]⟩
def kwR:List ByteArray:=[⟨#[97,108,108,111,119]⟩,⟨#[97,117,100,105,116,97,108,108,111,119]⟩,⟨#[100,111,110,116,97,117,100,105,116]⟩,⟨#[110,101,118,101,114,97,108,108,111,119]⟩]
def kwX:List ByteArray:=[⟨#[116,121,112,101,95,116,114,97,110,115,105,116,105,111,110]⟩,⟨#[116,121,112,101,95,99,104,97,110,103,101]⟩,⟨#[116,121,112,101,95,109,101,109,98,101,114]⟩]
def kwQ:List ByteArray:=[⟨#[99,108,97,115,115]⟩,⟨#[116,121,112,101]⟩,⟨#[97,116,116,114,105,98,117,116,101]⟩,⟨#[114,111,108,101]⟩,⟨#[117,115,101,114]⟩,⟨#[98,111,111,108]⟩,⟨#[115,101,110,115,105,116,105,118,105,116,121]⟩,⟨#[99,97,116,101,103,111,114,121]⟩]
def kwF:List ByteArray:=[⟨#[97,110,121]⟩,⟨#[114,101,103,117,108,97,114]⟩,⟨#[100,105,114,101,99,116,111,114,121]⟩,⟨#[108,105,110,107]⟩,⟨#[115,111,99,107,101,116]⟩]
def kwA:List ByteArray:=[⟨#[110,111,102,108,111,119]⟩,⟨#[110,111,100,111,109,97,105,110]⟩,⟨#[115,101,112,97,114,97,116,101]⟩]
def fU (s:Stm):ByteArray:=nsT s.source++⟨#[32]⟩++nsT s.target
def eK (s:Stm):ByteArray:=
 if s.kind=6 then⟨#[114,111,108,101,97,108,108,111,119,32]⟩++fU s
 else if s.kind=7 then⟨#[114,111,108,101,95,116,114,97,110,115,105,116,105,111,110,32]⟩++fU s++⟨#[32,58,32]⟩++nsT s.cls++⟨#[32]⟩++s.result
 else if s.kind=12 then kwT kwR s.op++⟨#[32]⟩++fU s++⟨#[32,58,32]⟩++nsT s.cls++⟨#[32]⟩++nsT s.perms
 else if s.kind=13 then
  (if s.text=⟨#[]⟩ then kwT kwX s.op++⟨#[32]⟩++fU s++⟨#[32,58,32]⟩++nsT s.cls++⟨#[32]⟩++s.result
   else kwT kwX s.op++⟨#[32]⟩++fU s++⟨#[32,58,32]⟩++nsT s.cls++⟨#[32]⟩++s.result++(⟨#[32,34]⟩++s.text++⟨#[34]⟩))
 else if s.kind=14 then⟨#[114,97,110,103,101,95,116,114,97,110,115,105,116,105,111,110,32]⟩++fU s++⟨#[32,58,32]⟩++nsT s.cls++⟨#[32]⟩++rgT s.range
 else if s.kind=15 then⟨#[99,111,110,115,116,114,97,105,110,32]⟩++nsT s.cls++⟨#[32]⟩++nsT s.perms++⟨#[32]⟩++exT s.cond
 else if s.kind=16 then⟨#[118,97,108,105,100,97,116,101,116,114,97,110,115,32]⟩++nsT s.cls++⟨#[32]⟩++exT s.cond
 else if s.kind=19 then(if s.op=1 then⟨#[114,101,113,117,105,114,101,32,99,108,97,115,115,32]⟩++s.name++⟨#[32]⟩++brT s.list else⟨#[114,101,113,117,105,114,101,32]⟩++kwT kwQ s.op++⟨#[32]⟩++bC ⟨#[44,32]⟩ s.list)
 else if s.kind=20 then⟨#[115,105,100,32]⟩++s.name++⟨#[32]⟩++cxT s.ctx
 else if s.kind=21 then⟨#[102,105,108,101,99,111,110,32,34]⟩++s.text++⟨#[34,32]⟩++kwT kwF (s.op+1)++⟨#[32]⟩++cxT s.ctx
 else if s.kind=22 then⟨#[112,101,114,109,105,115,115,105,118,101,32]⟩++nsT s.source
 else⟨#[97,115,115,101,114,116,32]⟩++s.name++⟨#[32]⟩++kwT kwA s.op++⟨#[32]⟩++fU s
def u6 (b:Bool):ByteArray:=⟨(Lib.formatBool b).toArray⟩
def bz (s:Stm):ByteArray:=
 if s.kind=1 then⟨#[99,108,97,115,115,32]⟩++s.name++⟨#[32]⟩++brT s.list
 else if s.kind=2 then
  (if 0<s.aliases.length then(if 0<s.list.length then⟨#[116,121,112,101,32]⟩++s.name++(⟨#[32,97,108,105,97,115,32]⟩++brT s.aliases)++(⟨#[44,32]⟩++bC ⟨#[44,32]⟩ s.list) else⟨#[116,121,112,101,32]⟩++s.name++(⟨#[32,97,108,105,97,115,32]⟩++brT s.aliases))
   else(if 0<s.list.length then⟨#[116,121,112,101,32]⟩++s.name++(⟨#[44,32]⟩++bC ⟨#[44,32]⟩ s.list) else⟨#[116,121,112,101,32]⟩++s.name))
 else if s.kind=3 then⟨#[97,116,116,114,105,98,117,116,101,32]⟩++s.name
 else if s.kind=4 then⟨#[116,121,112,101,97,116,116,114,105,98,117,116,101,32]⟩++s.name++⟨#[32]⟩++bC ⟨#[44,32]⟩ s.list
 else if s.kind=5 then(if av s.source false then⟨#[114,111,108,101,32]⟩++s.name++⟨#[32,116,121,112,101,115,32]⟩++nsT s.source else⟨#[114,111,108,101,32]⟩++s.name)
 else if s.kind=8 then⟨#[117,115,101,114,32]⟩++s.name++⟨#[32,114,111,108,101,115,32]⟩++brT s.list++⟨#[32,108,101,118,101,108,32]⟩++lvT s.level++⟨#[32,114,97,110,103,101,32]⟩++rgT s.range
 else if s.kind=9 then⟨#[98,111,111,108,32]⟩++s.name++⟨#[32]⟩++u6 s.value
 else if s.kind=10 then⟨#[115,101,110,115,105,116,105,118,105,116,121,32]⟩++s.name
 else if s.kind=11 then⟨#[99,97,116,101,103,111,114,121,32]⟩++s.name
 else eK s
def j4 (s:Stm):ByteArray:=if s.kind=17 then bC ⟨#[32]⟩ [⟨#[105,102]⟩,btT s.cond 0,⟨#[123,10]⟩] else bC ⟨#[32]⟩ [⟨#[111,112,116,105,111,110,97,108]⟩,⟨#[123,10]⟩]
def stH (lv:Nat) (s:Stm) (tb eb:ByteArray):ByteArray:=
 if s.kind≠17∧s.kind≠18 then j5 lv++(bz s++⟨#[59]⟩)
 else j5 lv++j4 s++tb++j5 lv++⟨#[125]⟩++(if 0<s.els.length then⟨#[32,101,108,115,101,32,123,10]⟩++eb++j5 lv++⟨#[125]⟩ else⟨#[]⟩)
mutual
def stT (lv:Nat):Stm→ByteArray
 |⟨a1,a2,a3,a4,a5,a6,a7,a8,a9,a10,a11,a12,a13,a14,a15,a16,a17,t,e⟩=>stH lv ⟨a1,a2,a3,a4,a5,a6,a7,a8,a9,a10,a11,a12,a13,a14,a15,a16,a17,t,e⟩ (cJ (lv+1) t) (cJ (lv+1) e)
def cJ (lv:Nat):List Stm→ByteArray
 |[]=>⟨#[]⟩
 |x :: l=>stT lv x++⟨#[10]⟩++cJ lv l
end
def itT (n:Int):ByteArray:=⟨(Lib.itoa n).toArray⟩
def jx (m:Mo):ByteArray:=bC ⟨#[32]⟩ [⟨#[109,111,100,117,108,101]⟩,m.name,itT m.version++⟨#[59,10]⟩]++cJ 0 m.stmts
end Am
namespace Am
set_option maxRecDepth 100000
set_option maxHeartbeats 1000000
def opB (n m:Int):Bool:=decide (1≤n)&&decide (n≤m)
def ml (c:UInt8):Bool:=!(decide (c.toNat<33) || decide (126<c.toNat) || decide (c.toNat=47) || decide (c.toNat=34))
def mj (s:ByteArray):Bool:=s.data.toList.all ml&&(decide (s≠⟨#[]⟩)&&decide (s.size≤32))
theorem bZ (s:ByteArray):s.size=s.data.toList.length:=by cases s;simp[ByteArray.size]
theorem xI (s:ByteArray):Pure Tryz.prog 254 [.c (sS s)] (.c (sB (mj s))):=by
 refine fn1 (fn:=Tryz.f254) Tryz.call254 Tryz.func254 rfl Tryz.ntmps254 Tryz.results254 rfl (by rfl) ?_
 refine AW.fact (t:=0) rfl (fun κ w x hr=>lD hr) fun hn=>?_
 repeat'(first|(with_reducible first|apply AW.seq|apply AW.block|apply AW.skip|apply AW.ret|apply AW.exit|apply ae|apply aq|apply aJ|apply aw|apply aG|apply aW|apply y_e|refine ah ?_)|((with_reducible apply ak);refine t_v AS.v ?_)|((with_reducible apply bc);refine t_m (hs:=fun hg=>AS.v) (k:=?_))|((with_reducible refine au ?_);((refine aj (fun hc=>?_) (fun hc=>?_);all_goals(try(exfalso;simp[*] at hc;done)))))|((with_reducible refine aA ?_);refine k_b ?_)|fail)
 refine AW.loop (fun n σ=>∃ j,n=s.size - j∧j≤s.size∧(s.data.toList.take j).all ml=true∧σ=mk [(0,.c (sS s)),(5,.c (sI s.size)),(6,.c (sI j))] []) s.size ?_ ?_
 ·exact⟨_,wkA,0,rfl,Nat.zero_le _,rfl,rfl⟩
 rintro n σ ⟨j,rfl,hj,ha,rfl⟩
 by_cases hlt:j<s.size
 ·obtain ⟨x,hx⟩:∃ x,s.data.toList[j]? =some x:=⟨_,List.getElem?_eq_getElem (by have:=bZ s;omega)⟩
  repeat'(first|(with_reducible first|apply AW.seq|apply AW.block|apply AW.skip|apply AW.ret|apply AW.exit|apply ae|apply aq|apply aJ|apply aw|apply aG|apply aW|apply y_e|refine ah ?_)|((with_reducible apply ak);refine t_v AS.v ?_)|((with_reducible apply bc);refine t_m (hs:=fun hg=>AS.v) (k:=?_))|((with_reducible refine au ?_);((refine aj (fun hc=>?_) (fun hc=>?_);all_goals(try(exfalso;simp[*] at hc;done)))))|((with_reducible refine aA ?_);refine k_b ?_)|fail)
  ·have e:ml x=false:=by simp only[ml];simp at hc ⊢;omega
   rw[mj,fF hx e,Bool.false_and]
  ·have e:ml x=true:=by simp only[ml];simp at hc ⊢;omega
   exact⟨_,_,(show s.size - (j+1)<s.size - j by omega),wkA,j+1,rfl,hlt,dv hx ha e,rfl⟩
 ·have e:=fD ha (by have:=bZ s;omega)
  repeat'(first|(with_reducible first|apply AW.seq|apply AW.block|apply AW.skip|apply AW.ret|apply AW.exit|apply ae|apply aq|apply aJ|apply aw|apply aG|apply aW|apply y_e|refine ah ?_)|((with_reducible apply ak);refine t_v AS.v ?_)|((with_reducible apply bc);refine t_m (hs:=fun hg=>AS.v) (k:=?_))|((with_reducible refine au ?_);((refine aj (fun hc=>?_) (fun hc=>?_);all_goals(try(exfalso;simp[*] at hc;done)))))|((with_reducible refine aA ?_);refine k_b ?_)|fail)
  rw[mj,e,Bool.true_and,show decide ((s.size:Int)≤32)=decide (s.size≤32) from decide_eq_decide.2 (by omega)]
  simp
end Am
namespace Am
open Tk
theorem aa {ε α β:Type} (a:α) (f:α→Except ε β):(Except.ok a>>=f)=f a:=rfl
theorem ar {ε α β:Type} (e:ε) (f:α→Except ε β):((Except.error e:Except ε α)>>=f)= .error e:=rfl
abbrev Ix (l:List Tok):=Fin l.length
section
variable {l:List Tok}
def tk (k:Ix l):Tok:=l[k.1]
def nx (k:Ix l):Ix l:=if h:k.1+1<l.length then⟨k.1+1,h⟩ else k
def uJ (k:Ix l) (m:Nat):Ix l:=if h:m<l.length then⟨m,h⟩ else k
def fuel (l:List Tok):Nat:=8*l.length+16
def flt (c:Int) (t:Tok):Fa:=⟨c,t.pos,t.text⟩
def isM (s:ByteArray) (k:Ix l):Bool:=decide ((tk k).kind=4)&&decide ((tk k).text=s)
def isW (s:ByteArray) (k:Ix l):Bool:=decide ((tk k).kind=1)&&decide ((tk k).text=s)
def adv (b:Bool) (k:Ix l):Ix l:=if b then nx k else k
def eD (s:ByteArray) (k:Ix l):Except Fa (Unit×Ix l):=if isM s k then .ok ((),nx k) else .error (flt 9 (tk k))
def eS (s:ByteArray) (k:Ix l):Except Fa (Unit×Ix l):=if isW s k then .ok ((),nx k) else .error (flt 9 (tk k))
def eg (k:Ix l):Bool:=decide ((tk k).kind=1)&&idB (tk k).text
def bY (k:Ix l):Except Fa (ByteArray×Ix l):=if eg k then .ok ((tk k).text,nx k) else .error (flt 9 (tk k))
def cA:Nat→List ByteArray→Ix l→Except Fa (List ByteArray×Ix l)
 |0,_,k=>.error (flt 9 (tk k))
 |n+1,acc,k=>if isM ⟨#[125]⟩ k then .ok (acc,nx k) else bY k>>=fun x=>cA n (acc++[x.1]) x.2
def cH (k:Ix l):Except Fa (List ByteArray×Ix l):=eD ⟨#[123]⟩ k>>=fun x=>bY x.2>>=fun y=>cA (fuel l) [y.1] y.2
def br:Nat→List ByteArray→Ix l→Except Fa (List ByteArray×Ix l)
 |0,_,k=>.error (flt 9 (tk k))
 |n+1,acc,k=>if isM ⟨#[44]⟩ k then bY (nx k)>>=fun x=>br n (acc++[x.1]) x.2 else .ok (acc,k)
def dN (k:Ix l):Except Fa (List ByteArray×Ix l):=bY k>>=fun y=>br (fuel l) [y.1] y.2
def fH (self minus:Bool) (n:NS) (k:Ix l):Except Fa (NS×Ix l):=
 if isM ⟨#[42]⟩ k then .ok ({n with all:=true},nx k)
 else if self&&isW ⟨#[115,101,108,102]⟩ k then .ok ({n with self:=true},nx k)
 else if minus&&isM ⟨#[45]⟩ k then bY (nx k)>>=fun x=>.ok ({n with except:=n.except++[x.1]},x.2)
 else bY k>>=fun x=>.ok ({n with names:=n.names++[x.1]},x.2)
def ir (self:Bool):Nat→NS→Ix l→Except Fa (NS×Ix l)
 |0,_,k=>.error (flt 9 (tk k))
 |m+1,n,k=>if isM ⟨#[125]⟩ k then .ok (n,nx k) else fH self true n k>>=fun x=>ir self m x.1 x.2
def ns0 (b:Bool):NS:=⟨false,b,false,[],[]⟩
def ff (self:Bool) (k:Ix l):Except Fa (NS×Ix l):=
 if isM ⟨#[123]⟩ (adv (isM ⟨#[126]⟩ k) k) then fH self true (ns0 (isM ⟨#[126]⟩ k)) (nx (adv (isM ⟨#[126]⟩ k) k))>>=fun x=>ir self (fuel l) x.1 x.2
 else if isM ⟨#[126]⟩ k then bY (nx k)>>=fun x=>.ok (⟨false,true,false,[x.1],[]⟩,x.2)
 else fH self false (ns0 false) k
def fu (k:Ix l):Except Fa (Sp×Ix l):=bY k>>=fun x=>if isM ⟨#[46]⟩ x.2 then bY (nx x.2)>>=fun y=>.ok (⟨x.1,y.1⟩,y.2) else .ok (⟨x.1,⟨#[]⟩⟩,x.2)
def cU:Nat→Lv→Ix l→Except Fa (Lv×Ix l)
 |0,_,k=>.error (flt 9 (tk k))
 |n+1,v,k=>fu k>>=fun x=>if isM ⟨#[44]⟩ x.2 then cU n {v with cats:=v.cats++[x.1]} (nx x.2) else .ok ({v with cats:=v.cats++[x.1]},x.2)
def eI (k:Ix l):Except Fa (Lv×Ix l):=bY k>>=fun x=>if isM ⟨#[58]⟩ x.2 then cU (fuel l) ⟨x.1,[]⟩ (nx x.2) else .ok (⟨x.1,[]⟩,x.2)
def fr (k:Ix l):Except Fa (Rg×Ix l):=eI k>>=fun x=>if isM ⟨#[45]⟩ x.2 then eI (nx x.2)>>=fun y=>.ok (⟨x.1,y.1⟩,y.2) else .ok (⟨x.1,Lv.zero⟩,x.2)
def db (k:Ix l):Except Fa (Ct×Ix l):=bY k>>=fun u=>eD ⟨#[58]⟩ u.2>>=fun a=>bY a.2>>=fun r=>eD ⟨#[58]⟩ r.2>>=fun b=>bY b.2>>=fun t=>eD ⟨#[58]⟩ t.2>>=fun c=>fr c.2>>=fun g=>.ok (⟨u.1,r.1,t.1,g.1⟩,g.2)
def cY (ws:List ByteArray) (k:Ix l):Except Fa (Int×Ix l):=match ws.findIdx? (fun s=>isW s k) with|some i=>.ok ((i:Int),nx k)|none=>.error (flt 9 (tk k))
def inB (ws:List UInt8) (c:UInt8):Option Nat:=ws.findIdx? (fun d=>d == c)
def qJ:Option Nat→Option Nat→Option Int
 |some i,some j=>some (((j*5+i:Nat)):Int)
 |_,_=>none
def nr (v:Bool) (s:ByteArray):Option Int:=match s.data.toList with
 |[a,b]=>qJ (inB [117,114,116,108,104] a) (inB (if v then[49,50,51] else[49,50]) b)
 |_=>none
def gG (v:Bool) (k:Ix l):Except Fa (Int×Ix l):=match nr v (tk k).text with
 |some n=>if(tk k).kind=1 then .ok (n,nx k) else .error (flt 9 (tk k))
 |none=>.error (flt 9 (tk k))
def jO (k:Ix l):Except Fa (Int×Ix l):=if isM ⟨#[61,61]⟩ k then .ok (0,nx k) else if isM ⟨#[33,61]⟩ k then .ok (1,nx k) else cY [⟨#[100,111,109]⟩,⟨#[100,111,109,98,121]⟩,⟨#[105,110,99,111,109,112]⟩] k>>=fun x=>.ok (2+x.1,x.2)
def kL (v:Bool) (k:Ix l):Except Fa (Ex×Ix l):=gG v k>>=fun a=>
 if isW ⟨#[105,110]⟩ a.2 then(if isM ⟨#[123]⟩ (nx a.2) then cH (nx a.2)>>=fun x=>.ok ({Ex.zero with op:=9,a:=a.1,names:=x.1},x.2) else bY (nx a.2)>>=fun x=>.ok ({Ex.zero with op:=9,a:=a.1,names:=[x.1]},x.2))
 else jO a.2>>=fun r=>gG v r.2>>=fun b=>.ok ({Ex.zero with op:=8,a:=a.1,rel:=r.1,b:=b.1},b.2)
mutual
def dH (v:Bool):Nat→Ix l→Except Fa (Ex×Ix l)
 |0,k=>.error (flt 9 (tk k))
 |n+1,k=>if isM ⟨#[33]⟩ k then dH v n (nx k)>>=fun x=>.ok ({Ex.zero with op:=2,kids:=[x.1]},x.2)
  else if isM ⟨#[40]⟩ k then fj v n (nx k)>>=fun x=>eD ⟨#[41]⟩ x.2>>=fun y=>.ok (x.1,y.2)
  else kL v k
def fi (v:Bool):Nat→Ix l→Except Fa (Ex×Ix l)
 |0,k=>.error (flt 9 (tk k))
 |n+1,k=>dH v n k>>=fun x=>cL v n x.1 x.2
def cL (v:Bool):Nat→Ex→Ix l→Except Fa (Ex×Ix l)
 |0,_,k=>.error (flt 9 (tk k))
 |n+1,e,k=>if isM ⟨#[38,38]⟩ k then dH v n (nx k)>>=fun x=>cL v n {Ex.zero with op:=3,kids:=[e,x.1]} x.2 else .ok (e,k)
def fj (v:Bool):Nat→Ix l→Except Fa (Ex×Ix l)
 |0,k=>.error (flt 9 (tk k))
 |n+1,k=>fi v n k>>=fun x=>cM v n x.1 x.2
def cM (v:Bool):Nat→Ex→Ix l→Except Fa (Ex×Ix l)
 |0,_,k=>.error (flt 9 (tk k))
 |n+1,e,k=>if isM ⟨#[124,124]⟩ k then fi v n (nx k)>>=fun x=>cM v n {Ex.zero with op:=4,kids:=[e,x.1]} x.2 else .ok (e,k)
end
mutual
def cD:Ex→Nat
 |⟨_,_,_,_,_,_,kids⟩=>cW kids+1
def cW:List Ex→Nat
 |[]=>0
 |x :: l=>max (cD x) (cW l)
end
def dL (v:Bool) (k:Ix l):Except Fa (Ex×Ix l):=fj v (fuel l) k>>=fun x=>if 12<cD x.1 then .error (flt 4 (tk k)) else .ok x
def ga (cnd:List Tok→Except Fa (Ex×Nat)) (k:Ix l):Except Fa (Ex×Ix l):=cnd (l.drop k.1)>>=fun x=>.ok (x.1,uJ k (k.1+x.2))
def iJ (k:Ix l):Except Fa (ByteArray×Ix l):=if(tk k).kind=3 then(if(tk k).text=⟨#[]⟩ then .error (flt 10 (tk k)) else .ok ((tk k).text,nx k)) else .error (flt 9 (tk k))
def beginW:List ByteArray:=[⟨#[99,108,97,115,115]⟩,⟨#[116,121,112,101]⟩,⟨#[97,116,116,114,105,98,117,116,101]⟩,⟨#[116,121,112,101,97,116,116,114,105,98,117,116,101]⟩,⟨#[114,111,108,101]⟩,⟨#[114,111,108,101,97,108,108,111,119]⟩,⟨#[114,111,108,101,95,116,114,97,110,115,105,116,105,111,110]⟩,⟨#[117,115,101,114]⟩,⟨#[98,111,111,108]⟩,⟨#[115,101,110,115,105,116,105,118,105,116,121]⟩,⟨#[99,97,116,101,103,111,114,121]⟩,⟨#[97,108,108,111,119]⟩,⟨#[97,117,100,105,116,97,108,108,111,119]⟩,⟨#[100,111,110,116,97,117,100,105,116]⟩,⟨#[110,101,118,101,114,97,108,108,111,119]⟩,⟨#[116,121,112,101,95,116,114,97,110,115,105,116,105,111,110]⟩,⟨#[116,121,112,101,95,99,104,97,110,103,101]⟩,⟨#[116,121,112,101,95,109,101,109,98,101,114]⟩,⟨#[114,97,110,103,101,95,116,114,97,110,115,105,116,105,111,110]⟩,⟨#[99,111,110,115,116,114,97,105,110]⟩,⟨#[118,97,108,105,100,97,116,101,116,114,97,110,115]⟩,⟨#[105,102]⟩,⟨#[111,112,116,105,111,110,97,108]⟩,⟨#[114,101,113,117,105,114,101]⟩,⟨#[115,105,100]⟩,⟨#[102,105,108,101,99,111,110]⟩,⟨#[112,101,114,109,105,115,115,105,118,101]⟩,⟨#[97,115,115,101,114,116]⟩]
def rQ (s:ByteArray):Bool:=beginW.any fun x=>decide (s=x)
def bR (w:ByteArray) (s:Stm) (k:Ix l):Except Fa (Bool×(Stm×Ix l)):=
 if w=⟨#[99,108,97,115,115]⟩ then bY k>>=fun x=>cH x.2>>=fun y=>.ok (true,({s with kind:=1,name:=x.1,list:=y.1},y.2))
 else if w=⟨#[116,121,112,101]⟩ then bY k>>=fun x=>if isW ⟨#[97,108,105,97,115]⟩ x.2 then cH (nx x.2)>>=fun y=>br (fuel l) s.list y.2>>=fun z=>.ok (true,({s with kind:=2,name:=x.1,aliases:=y.1,list:=z.1},z.2))
  else br (fuel l) s.list x.2>>=fun z=>.ok (true,({s with kind:=2,name:=x.1,list:=z.1},z.2))
 else if w=⟨#[97,116,116,114,105,98,117,116,101]⟩ then bY k>>=fun x=>.ok (true,({s with kind:=3,name:=x.1},x.2))
 else if w=⟨#[116,121,112,101,97,116,116,114,105,98,117,116,101]⟩ then bY k>>=fun x=>dN x.2>>=fun y=>.ok (true,({s with kind:=4,name:=x.1,list:=y.1},y.2))
 else if w=⟨#[114,111,108,101]⟩ then bY k>>=fun x=>if isW ⟨#[116,121,112,101,115]⟩ x.2 then ff false (nx x.2)>>=fun y=>.ok (true,({s with kind:=5,name:=x.1,source:=y.1},y.2)) else .ok (true,({s with kind:=5,name:=x.1},x.2))
 else if w=⟨#[117,115,101,114]⟩ then bY k>>=fun x=>eS ⟨#[114,111,108,101,115]⟩ x.2>>=fun a=>cH a.2>>=fun y=>eS ⟨#[108,101,118,101,108]⟩ y.2>>=fun b=>eI b.2>>=fun v=>eS ⟨#[114,97,110,103,101]⟩ v.2>>=fun c=>fr c.2>>=fun g=>.ok (true,({s with kind:=8,name:=x.1,list:=y.1,level:=v.1,range:=g.1},g.2))
 else if w=⟨#[98,111,111,108]⟩ then bY k>>=fun x=>cY [⟨#[102,97,108,115,101]⟩,⟨#[116,114,117,101]⟩] x.2>>=fun y=>.ok (true,({s with kind:=9,name:=x.1,value:=decide (y.1=1)},y.2))
 else if w=⟨#[115,101,110,115,105,116,105,118,105,116,121]⟩ then bY k>>=fun x=>.ok (true,({s with kind:=10,name:=x.1},x.2))
 else if w=⟨#[99,97,116,101,103,111,114,121]⟩ then bY k>>=fun x=>.ok (true,({s with kind:=11,name:=x.1},x.2))
 else .ok (false,(s,k))
def gB (self:Bool) (s:Stm) (k:Ix l):Except Fa (Unit×(Stm×Ix l)):=ff false k>>=fun x=>ff self x.2>>=fun y=>eD ⟨#[58]⟩ y.2>>=fun a=>ff false a.2>>=fun z=>.ok ((),({s with source:=x.1,target:=y.1,cls:=z.1},z.2))
def kg (s:ByteArray) (ws:List ByteArray):Int:=match ws.findIdx? (fun x=>decide (x=s)) with|some i=>(i:Int)+1|none=>0
def nL:List ByteArray:=[⟨#[97,108,108,111,119]⟩,⟨#[97,117,100,105,116,97,108,108,111,119]⟩,⟨#[100,111,110,116,97,117,100,105,116]⟩,⟨#[110,101,118,101,114,97,108,108,111,119]⟩]
def jH:List ByteArray:=[⟨#[116,121,112,101,95,116,114,97,110,115,105,116,105,111,110]⟩,⟨#[116,121,112,101,95,99,104,97,110,103,101]⟩,⟨#[116,121,112,101,95,109,101,109,98,101,114]⟩]
def dj (w:ByteArray) (s:Stm) (k:Ix l):Except Fa (Bool×(Stm×Ix l)):=
 if 0<kg w nL then gB true {s with kind:=12,op:=kg w nL} k>>=fun x=>ff false x.2.2>>=fun y=>.ok (true,({x.2.1 with perms:=y.1},y.2))
 else if 0<kg w jH then gB false {s with kind:=13,op:=kg w jH} k>>=fun x=>bY x.2.2>>=fun y=>
  if kg w jH=1∧(tk y.2).kind=3 then(if mj (tk y.2).text then .ok (true,({x.2.1 with result:=y.1,text:=(tk y.2).text},nx y.2)) else .error (flt 10 (tk y.2)))
  else .ok (true,({x.2.1 with result:=y.1},y.2))
 else if w=⟨#[114,97,110,103,101,95,116,114,97,110,115,105,116,105,111,110]⟩ then gB false {s with kind:=14} k>>=fun x=>fr x.2.2>>=fun y=>.ok (true,({x.2.1 with range:=y.1},y.2))
 else if w=⟨#[114,111,108,101,95,116,114,97,110,115,105,116,105,111,110]⟩ then gB false {s with kind:=7} k>>=fun x=>bY x.2.2>>=fun y=>.ok (true,({x.2.1 with result:=y.1},y.2))
 else if w=⟨#[114,111,108,101,97,108,108,111,119]⟩ then ff false k>>=fun x=>ff false x.2>>=fun y=>.ok (true,({s with kind:=6,source:=x.1,target:=y.1},y.2))
 else if w=⟨#[99,111,110,115,116,114,97,105,110]⟩ then ff false k>>=fun x=>ff false x.2>>=fun y=>dL false y.2>>=fun z=>.ok (true,({s with kind:=15,cls:=x.1,perms:=y.1,cond:=z.1},z.2))
 else if w=⟨#[118,97,108,105,100,97,116,101,116,114,97,110,115]⟩ then ff false k>>=fun x=>dL true x.2>>=fun z=>.ok (true,({s with kind:=16,cls:=x.1,cond:=z.1},z.2))
 else .ok (false,(s,k))
def symW:List ByteArray:=[⟨#[99,108,97,115,115]⟩,⟨#[116,121,112,101]⟩,⟨#[97,116,116,114,105,98,117,116,101]⟩,⟨#[114,111,108,101]⟩,⟨#[117,115,101,114]⟩,⟨#[98,111,111,108]⟩,⟨#[115,101,110,115,105,116,105,118,105,116,121]⟩,⟨#[99,97,116,101,103,111,114,121]⟩]
def fileW:List ByteArray:=[⟨#[97,110,121]⟩,⟨#[114,101,103,117,108,97,114]⟩,⟨#[100,105,114,101,99,116,111,114,121]⟩,⟨#[108,105,110,107]⟩,⟨#[115,111,99,107,101,116]⟩]
def asrW:List ByteArray:=[⟨#[110,111,102,108,111,119]⟩,⟨#[110,111,100,111,109,97,105,110]⟩,⟨#[115,101,112,97,114,97,116,101]⟩]
def cZ (w:ByteArray) (s:Stm) (k:Ix l):Except Fa (Unit×(Stm×Ix l)):=
 if w=⟨#[114,101,113,117,105,114,101]⟩ then cY symW k>>=fun x=>if x.1=0 then bY x.2>>=fun y=>cH y.2>>=fun z=>.ok ((),({s with kind:=19,op:=1,name:=y.1,list:=z.1},z.2))
  else dN x.2>>=fun y=>.ok ((),({s with kind:=19,op:=1+x.1,list:=y.1},y.2))
 else if w=⟨#[115,105,100]⟩ then bY k>>=fun x=>db x.2>>=fun y=>.ok ((),({s with kind:=20,name:=x.1,ctx:=y.1},y.2))
 else if w=⟨#[102,105,108,101,99,111,110]⟩ then iJ k>>=fun x=>cY fileW x.2>>=fun y=>db y.2>>=fun z=>.ok ((),({s with kind:=21,text:=x.1,op:=y.1,ctx:=z.1},z.2))
 else if w=⟨#[112,101,114,109,105,115,115,105,118,101]⟩ then ff false k>>=fun x=>.ok ((),({s with kind:=22,source:=x.1},x.2))
 else if w=⟨#[97,115,115,101,114,116]⟩ then bY k>>=fun x=>cY asrW x.2>>=fun y=>ff false y.2>>=fun z=>ff false z.2>>=fun u=>.ok ((),({s with kind:=23,name:=x.1,op:=1+y.1,source:=z.1,target:=u.1},u.2))
 else .ok ((),(s,k))
def bp (w:ByteArray) (s:Stm) (k:Ix l):Except Fa (Stm×Ix l):=
 bR w s k>>=fun x=>(if x.1 then .ok x.2 else dj w x.2.1 x.2.2>>=fun y=>if y.1 then .ok y.2 else cZ w y.2.1 y.2.2>>=fun z=>.ok z.2)>>=fun y=>eD ⟨#[59]⟩ y.2>>=fun z=>.ok (y.1,z.2)
mutual
def cX (cnd:List Tok→Except Fa (Ex×Nat)):Nat→Nat→Ix l→Nat→Except Fa (Stm×(Ix l×Nat))
 |0,_,k,_=>.error (flt 9 (tk k))
 |n+1,d,k,c=>
  if(tk k).kind=1∧rQ (tk k).text=true then
   if 1024≤c then .error (flt 4 (tk k))
   else if(tk k).text=⟨#[105,102]⟩∨(tk k).text=⟨#[111,112,116,105,111,110,97,108]⟩ then
    if 12≤d then .error (flt 4 (tk k))
    else cq cnd n d (decide ((tk k).text=⟨#[105,102]⟩)) {Stm.zero with pos:=(tk k).pos} (nx k) (c+1)>>=fun x=>.ok (x.2.1,x.2.2)
   else bp (tk k).text {Stm.zero with pos:=(tk k).pos} (nx k)>>=fun x=>.ok (x.1,(x.2,c+1))
  else .error (flt 9 (tk k))
def cq (cnd:List Tok→Except Fa (Ex×Nat)):Nat→Nat→Bool→Stm→Ix l→Nat→Except Fa (Unit×(Stm×(Ix l×Nat)))
 |0,_,_,_,k,_=>.error (flt 9 (tk k))
 |n+1,d,i,s,k,c=>
  (if i then ga cnd k>>=fun x=>.ok ({s with kind:=17,cond:=x.1},x.2) else .ok ({s with kind:=18},k))>>=fun y=>
  cK cnd n d y.2 c>>=fun z=>if isW ⟨#[101,108,115,101]⟩ z.2.1 then cK cnd n d (nx z.2.1) z.2.2>>=fun u=>.ok ((),({y.1 with thn:=z.1,els:=u.1},u.2)) else .ok ((),({y.1 with thn:=z.1},z.2))
def cK (cnd:List Tok→Except Fa (Ex×Nat)):Nat→Nat→Ix l→Nat→Except Fa (List Stm×(Ix l×Nat))
 |0,_,k,_=>.error (flt 9 (tk k))
 |n+1,d,k,c=>eD ⟨#[123]⟩ k>>=fun a=>if isM ⟨#[125]⟩ a.2 then .error (flt 9 (tk a.2)) else cy cnd n (d+1) [] a.2 c>>=fun x=>eD ⟨#[125]⟩ x.2.1>>=fun y=>.ok (x.1,(y.2,x.2.2))
def cy (cnd:List Tok→Except Fa (Ex×Nat)):Nat→Nat→List Stm→Ix l→Nat→Except Fa (List Stm×(Ix l×Nat))
 |0,_,_,k,_=>.error (flt 9 (tk k))
 |n+1,d,acc,k,c=>if(tk k).kind=0∨(0<d∧isM ⟨#[125]⟩ k=true) then .ok (acc,(k,c)) else cX cnd n d k c>>=fun x=>cy cnd n d (acc++[x.1]) x.2.1 x.2.2
end
def lf (s:ByteArray):Nat:=s.data.toList.foldl (fun n c=>10*n+(c.toNat - 48)) 0
def gx (k:Ix l):Except Fa (Mo×Ix l):=eS ⟨#[109,111,100,117,108,101]⟩ k>>=fun a=>bY a.2>>=fun x=>
 if(tk x.2).kind=2 then(if 9999<lf (tk x.2).text then .error (flt 3 (tk x.2)) else eD ⟨#[59]⟩ (nx x.2)>>=fun y=>.ok (⟨x.1,(lf (tk x.2).text:Int),[]⟩,y.2)) else .error (flt 9 (tk x.2))
structure Fine (l:List Tok):Prop where
 pos:0<l.length
 le:l.length≤4294967296
 en:∀ k:Ix l,(tk k).kind≠0→k.1+1<l.length
 nm:∀ k:Ix l,(tk k).kind=2→0<(tk k).text.data.toList.length∧(tk k).text.data.toList.length≤9∧(tk k).text.data.toList.all dgB=true
theorem hC (hf:Fine l) {k:Ix l} (h:(tk k).kind≠0):((nx k).1:Nat)=k.1+1:=by unfold nx;rw[dif_pos (hf.en k h)]
theorem Lk (k:Ix l):k.1≤(nx k).1:=by unfold nx;split <;> simp
end
end Am
end Go.Proofs.YtkpodagbefnebaaGreatDoor
