import Derived.Test.YtkpodagbefnebaaGreatDoorYh9
import Derived.Lib.ItoaLen
set_option linter.unusedSimpArgs false
set_option linter.unusedVariables false
set_option linter.unusedSectionVars false
namespace Go.Proofs.YtkpodagbefnebaaGreatDoor
namespace Am
set_option maxRecDepth 100000
set_option maxHeartbeats 4000000
mutual
def jZ:Stm→Nat
 |⟨_,_,_,_,_,_,_,_,_,_,_,_,_,_,_,_,_,t,e⟩=>eB t+eB e
def eB:List Stm→Nat
 |[]=>0
 |x :: l=>1+jZ x+eB l
end
theorem oc (s:Stm):jZ s=eB s.thn+eB s.els:=by cases s;rw[jZ]
theorem yx:∀ l:List Stm,eB l=l.length+(l.map jZ).sum
 |[]=>by rw[eB];rfl
 |x :: l=>by rw[eB,yx l];simp only[List.length_cons,List.map_cons,List.sum_cons];omega
theorem DT {α:Type} {f:α→Nat} {l:List α} {j:Nat} {x:α} (h:l[j]? =some x):((l.take (j+1)).map f).sum=((l.take j).map f).sum+f x:=by
 rw[List.take_succ_eq_append_getElem (List.getElem?_eq_some_iff.1 h).1,(List.getElem?_eq_some_iff.1 h).2,List.map_append,List.sum_append];simp
theorem ou (s:Stm):SizeOf.sizeOf s.thn<SizeOf.sizeOf s:=by
 cases s;simp only[Stm.mk.sizeOf_spec];omega
theorem ot (s:Stm):SizeOf.sizeOf s.els<SizeOf.sizeOf s:=by
 cases s;simp only[Stm.mk.sizeOf_spec];omega
def gX (l:List Stm):Int:=IntKind.i64.wrap (eB l:Int)
theorem AV (a b c:Int):IntKind.i64.wrap (IntKind.i64.wrap a+IntKind.i64.wrap (IntKind.i64.wrap b+IntKind.i64.wrap c))=IntKind.i64.wrap (a+(b+c)):=by
 simp only[IntKind.wrap_i64];omega
theorem rZ:∀ (n:Nat) (l:List Stm),SizeOf.sizeOf l<n→Pure Tryz.prog 74 [.c (.lst none 55 (l.map stC))] (.c (sI (gX l)))
 |0,_,h=>absurd h (Nat.not_lt_zero _)
 |n+1,l,h=>by
  have ht:∀ x∈l,Pure Tryz.prog 74 [.c (.lst none 55 (x.thn.map stC))] (.c (sI (gX x.thn))):=fun x hx=>rZ n x.thn (by have:=List.sizeOf_lt_of_mem hx;have:=ou x;omega)
  have he:∀ x∈l,Pure Tryz.prog 74 [.c (.lst none 55 (x.els.map stC))] (.c (sI (gX x.els))):=fun x hx=>rZ n x.els (by have:=List.sizeOf_lt_of_mem hx;have:=ot x;omega)
  have hq:=yx l
  unfold gX
  rw[hq]
  clear hq
  refine fn1 (fn:=Tryz.f74) Tryz.call74 Tryz.func74 rfl Tryz.ntmps74 Tryz.results74 rfl (by rfl) ?_
  refine AW.fact (t:=0) rfl (fun κ w x hr=>dq hr) fun hn=>?_
  repeat'(first|(with_reducible first|apply AW.seq|apply AW.block|apply AW.ret|apply AW.exit|apply ae|apply aJ|apply aW|apply y_e|refine ah ?_)|((with_reducible apply ak);refine t_v AS.v ?_)|((with_reducible refine au ?_);((refine aj (fun hc=>?_) (fun hc=>?_);all_goals(try(exfalso;simp[*] at hc;done)))))|((with_reducible refine aA ?_);refine k_i ?_)|fail)
  refine AW.loop (fun n σ=>∃ j,n=l.length - j∧j≤l.length∧σ=mk [(3,.c (sI (IntKind.i64.wrap ((l.length+((l.take j).map jZ).sum:Nat):Int)))),(8,.c (.lst none 55 (l.map stC))),(9,.c (sI (l.map stC).length)),(10,.c (sI j))] []) l.length ?_ ?_
  ·have e:((l.map stC).length:Int)=IntKind.i64.wrap ((l.length+((l.take 0).map jZ).sum:Nat):Int):=by
    simp only[List.length_map,List.take_zero,List.map_nil,List.sum_nil,Nat.add_zero]
    rw[wrap64 (by omega) (by omega)]
   rw[e]
   refine⟨_,?_,0,rfl,Nat.zero_le _,rfl⟩
   rw[← e]
   exact wkA
  rintro m σ ⟨j,rfl,hj,rfl⟩
  by_cases hlt:j<l.length
  ·obtain ⟨x,hx⟩:∃ x,l[j]? =some x:=⟨_,List.getElem?_eq_getElem hlt⟩
   have hm:=List.mem_of_getElem? hx
   have hs:=DT (f:=jZ) hx
   have hx2:=oc x
   have ht:=ht x hm
   have he:=he x hm
   generalize hS:((l.take j).map jZ).sum=S at *
   repeat'(first|(with_reducible first|apply AW.seq|apply AW.block|apply AW.skip|apply ae|apply aw|apply y_e|refine ah ?_|refine bb ?_)|((with_reducible apply ak);first|refine t_v AS.v ?_|refine t_v (by first|exact ag (hP:=ht)|exact ag (hP:=he)) ?_|refine t_w AS.w ?_)|((with_reducible apply aV);refine t_s AS.s ?_)|((with_reducible refine au ?_);((refine aj (fun hc=>?_) (fun hc=>?_);all_goals(try(exfalso;simp[*] at hc;done)))))|(refine⟨by decide +kernel,?_⟩)|fail)
   have e:IntKind.i64.wrap (IntKind.i64.wrap ((l.length+S:Nat):Int)+IntKind.i64.wrap (gX x.thn+gX x.els))=IntKind.i64.wrap ((l.length+((l.take (j+1)).map jZ).sum:Nat):Int):=by
    unfold gX
    rw[AV,hs];congr 1;omega
   rw[e]
   exact⟨_,_,(show l.length - (j+1)<l.length - j by omega),wkA,j+1,rfl,hlt,rfl⟩
  ·rw[List.take_of_length_le (by omega)]
   repeat'(first|(with_reducible first|apply AW.seq|apply AW.block|apply AW.ret|apply AW.exit|apply ae|apply aJ|apply aW|apply y_e|refine ah ?_)|((with_reducible apply ak);refine t_v AS.v ?_)|((with_reducible refine au ?_);((refine aj (fun hc=>?_) (fun hc=>?_);all_goals(try(exfalso;simp[*] at hc;done)))))|((with_reducible refine aA ?_);refine k_i ?_)|fail)
   rfl
theorem Fz (l:List Stm):Pure Tryz.prog 74 [.c (.lst none 55 (l.map stC))] (.c (sI (gX l))):=rZ _ l (Nat.lt_succ_self _)
theorem yc (m:Mo):Pure Tryz.prog 29 [.agg (moC m)] (.c (sI (gX m.stmts))):=by
 refine fn1 (fn:=Tryz.f29) Tryz.call29 Tryz.func29 rfl Tryz.ntmps29 Tryz.results29 rfl (by rfl) ?_
 repeat'(first|(with_reducible first|apply AW.seq|apply AW.ret|apply ae|apply y_e|refine ah ?_)|((with_reducible apply ak);first|refine t_v AS.v ?_|refine t_v (by exact ag (hP:=Fz _)) ?_|refine t_w AS.w ?_)|((with_reducible refine aA ?_);refine k_i ?_)|fail)
 rfl
mutual
def dpS:Stm→Nat
 |⟨_,_,_,_,_,_,_,_,_,_,_,_,_,_,_,_,_,t,e⟩=>if 0<t.length∨0<e.length then max (1+dpL t) (1+dpL e) else 0
def dpL:List Stm→Nat
 |[]=>0
 |x :: l=>max (dpS x) (dpL l)
end
theorem s7 (s:Stm):dpS s=if 0<s.thn.length∨0<s.els.length then max (1+dpL s.thn) (1+dpL s.els) else 0:=by cases s;rw[dpS]
theorem yD:∀ {l:List Stm} {j:Nat} {x:Stm},l[j]? =some x→dpL (l.take (j+1))=max (dpL (l.take j)) (dpS x)
 |[],j,x,h=>by simp at h
 |y :: l,0,x,h=>by
  obtain rfl:y=x:=by simpa using h
  simp[dpL]
 |y :: l,j+1,x,h=>by
  simp only[List.take_succ_cons,dpL]
  rw[yD (l:=l) (j:=j) (x:=x) (by simpa using h)]
  omega
theorem HI:∀ (l:List Stm) (j:Nat),dpL (l.take j)≤dpL l
 |[],j=>by simp
 |x :: l,0=>by simp[dpL]
 |x :: l,j+1=>by
  have:=HI l j
  simp only[List.take_succ_cons,dpL]
  omega
theorem s5:∀ (n:Nat) (l:List Stm),SizeOf.sizeOf l<n→dpL l≤4611686018427387904→Pure Tryz.prog 42 [.c (.lst none 55 (l.map stC))] (.c (sI (dpL l)))
 |0,_,h,_=>absurd h (Nat.not_lt_zero _)
 |n+1,l,h,hb=>by
  have ht:∀ x∈l,dpL x.thn≤4611686018427387904→Pure Tryz.prog 42 [.c (.lst none 55 (x.thn.map stC))] (.c (sI (dpL x.thn))):=fun x hx=>s5 n x.thn (by have:=List.sizeOf_lt_of_mem hx;have:=ou x;omega)
  have he:∀ x∈l,dpL x.els≤4611686018427387904→Pure Tryz.prog 42 [.c (.lst none 55 (x.els.map stC))] (.c (sI (dpL x.els))):=fun x hx=>s5 n x.els (by have:=List.sizeOf_lt_of_mem hx;have:=ot x;omega)
  refine fn1 (fn:=Tryz.f42) Tryz.call42 Tryz.func42 rfl Tryz.ntmps42 Tryz.results42 rfl (by rfl) ?_
  refine AW.fact (t:=0) rfl (fun κ w x hr=>dq hr) fun hn=>?_
  repeat'(first|(with_reducible first|apply AW.seq|apply AW.block|apply AW.skip|apply AW.ret|apply AW.exit|apply ae|apply aJ|apply aw|apply aW|apply y_e|refine ah ?_)|((with_reducible apply ak);first|refine t_v AS.v ?_|refine t_w AS.w ?_)|((with_reducible apply bc);refine t_m (hs:=fun hg=>AS.v) (k:=?_))|((with_reducible apply aV);refine t_s AS.s ?_)|((with_reducible refine au ?_);((refine aj (fun hc=>?_) (fun hc=>?_);all_goals(try(exfalso;simp[*] at hc;done)))))|((with_reducible refine aA ?_);refine k_i ?_)|fail)
  refine AW.loop (fun n σ=>∃ j,n=l.length - j∧j≤l.length∧σ=mk [(3,.c (sI (dpL (l.take j):Nat))),(6,.c (.lst none 55 (l.map stC))),(7,.c (sI (l.map stC).length)),(8,.c (sI j))] []) l.length ?_ ?_
  ·exact⟨_,wkA,0,rfl,Nat.zero_le _,rfl⟩
  rintro m σ ⟨j,rfl,hj,rfl⟩
  by_cases hlt:j<l.length
  ·obtain ⟨x,hx⟩:∃ x,l[j]? =some x:=⟨_,List.getElem?_eq_getElem hlt⟩
   have hm:=List.mem_of_getElem? hx
   have hs:=yD hx
   have hle:=HI l (j+1)
   have hx2:=s7 x
   by_cases hk:0<x.thn.length∨0<x.els.length
   ·rw[if_pos hk] at hx2
    have b1:dpL x.thn≤4611686018427387904:=by omega
    have b2:dpL x.els≤4611686018427387904:=by omega
    have ht:=ht x hm b1
    have he:=he x hm b2
    have e:max (max ((dpL (l.take j):Nat):Int) (1+(dpL x.thn:Int))) (1+(dpL x.els:Int))=(dpL (l.take (j+1)):Nat):=by omega
    clear hs hx2 hle
    repeat'(first|(with_reducible first|apply AW.seq|apply AW.block|apply AW.skip|apply ae|apply aw|apply y_e|refine ah ?_|refine bb ?_)|((with_reducible apply ak);first|refine t_v AS.v ?_|refine t_v (by first|exact ag (hP:=ht)|exact ag (hP:=he)) ?_|refine t_w AS.w ?_)|((with_reducible apply bc);refine t_m (hs:=fun hg=>AS.v) (k:=?_))|((with_reducible apply aV);refine t_s AS.s ?_)|((with_reducible refine au ?_);((refine aj (fun hc=>?_) (fun hc=>?_);all_goals(try(exfalso;simp[*] at hc;done)))))|(refine⟨by decide +kernel,?_⟩)|fail)
    ·exact⟨_,_,(show l.length - (j+1)<l.length - j by omega),wkA,j+1,rfl,hlt,rfl⟩
    ·exfalso;simp only[List.length_map,Bool.or_eq_false_iff,decide_eq_false_iff_not] at hc;omega
   ·rw[if_neg hk] at hx2
    have e:dpL (l.take (j+1))=dpL (l.take j):=by omega
    clear hs hx2 hle
    have h1:x.thn.length=0:=by omega
    have h2:x.els.length=0:=by omega
    repeat'(first|(with_reducible first|apply AW.seq|apply AW.block|apply AW.skip|apply AW.ret|apply AW.exit|apply ae|apply aJ|apply aw|apply aW|apply y_e|refine ah ?_)|((with_reducible apply ak);first|refine t_v AS.v ?_|refine t_w AS.w ?_)|((with_reducible apply bc);refine t_m (hs:=fun hg=>AS.v) (k:=?_))|((with_reducible apply aV);refine t_s AS.s ?_)|((with_reducible refine au ?_);((refine aj (fun hc=>?_) (fun hc=>?_);all_goals(try(exfalso;simp[*] at hc;done)))))|((with_reducible refine aA ?_);refine k_i ?_)|fail)
    ·rw[← e]
     exact⟨_,_,(show l.length - (j+1)<l.length - j by omega),wkA,j+1,rfl,hlt,rfl⟩
  ·rw[List.take_of_length_le (by omega)]
   repeat'(first|(with_reducible first|apply AW.seq|apply AW.block|apply AW.skip|apply AW.ret|apply AW.exit|apply ae|apply aJ|apply aw|apply aW|apply y_e|refine ah ?_)|((with_reducible apply ak);first|refine t_v AS.v ?_|refine t_w AS.w ?_)|((with_reducible apply bc);refine t_m (hs:=fun hg=>AS.v) (k:=?_))|((with_reducible apply aV);refine t_s AS.s ?_)|((with_reducible refine au ?_);((refine aj (fun hc=>?_) (fun hc=>?_);all_goals(try(exfalso;simp[*] at hc;done)))))|((with_reducible refine aA ?_);refine k_i ?_)|fail)
   rfl
theorem yC {l:List Stm} (hb:dpL l≤4611686018427387904):Pure Tryz.prog 42 [.c (.lst none 55 (l.map stC))] (.c (sI (dpL l))):=s5 _ l (Nat.lt_succ_self _) hb
end Am
namespace Am
set_option maxRecDepth 100000
set_option maxHeartbeats 1000000
def fw {α β:Type} (p:α→β→Bool):List α→List β→Bool
 |[],[]=>true
 |x :: l,y :: m=>p x y&&fw p l m
 |[],_ :: _=>false
 |_ :: _,[]=>false
section
variable {α β:Type} {p:α→β→Bool}
theorem jS:∀ {l:List α} {m:List β},l.length≠m.length→fw p l m=false
 |[],[],h=>absurd rfl h
 |x :: l,y :: m,h=>by rw[fw,jS (l:=l) (m:=m) (by simpa using h),Bool.and_false]
 |[],_ :: _,_=>rfl
 |_ :: _,[],_=>rfl
def nJ (p:α→β→Bool) (l:List α) (m:List β) (j:Nat):Prop:=∀ i x y,i<j→l[i]? =some x→m[i]? =some y→p x y=true
theorem kz {l:List α} {m:List β}:nJ p l m 0:=fun i x y h=>absurd h (Nat.not_lt_zero _)
theorem ky {l:List α} {m:List β} {j:Nat} {x:α} {y:β} (h:nJ p l m j) (hx:l[j]? =some x) (hy:m[j]? =some y) (e:p x y=true):nJ p l m (j+1):=by
 intro i u v hi hu hv
 rcases Nat.lt_or_ge i j with h1|h1
 ·exact h i u v h1 hu hv
 ·obtain rfl:i=j:=by omega
  rw[hx] at hu;rw[hy] at hv;cases hu;cases hv;exact e
theorem lJ:∀ {l:List α} {m:List β} {j:Nat} {x:α} {y:β},l[j]? =some x→m[j]? =some y→p x y=false→fw p l m=false
 |[],_,_,_,_,h,_,_=>by simp at h
 |_ :: _,[],_,_,_,_,h,_=>by simp at h
 |a :: l,b :: m,0,x,y,hx,hy,e=>by
  obtain rfl:a=x:=by simpa using hx
  obtain rfl:b=y:=by simpa using hy
  rw[fw,e,Bool.false_and]
 |a :: l,b :: m,j+1,x,y,hx,hy,e=>by
  rw[fw,lJ (j:=j) (by simpa using hx) (by simpa using hy) e,Bool.and_false]
theorem jR:∀ {l:List α} {m:List β} {j:Nat},nJ p l m j→l.length≤j→l.length=m.length→fw p l m=true
 |[],[],_,_,_,_=>rfl
 |x :: l,y :: m,0,_,h,_=>by simp at h
 |x :: l,y :: m,j+1,h,h1,h2=>by
  rw[fw,h 0 x y (Nat.succ_pos _) rfl rfl,jR (l:=l) (m:=m) (j:=j) (fun i u v hi hu hv=>h (i+1) u v (by omega) (by simpa using hu) (by simpa using hv)) (by simpa using h1) (by simpa using h2)]
  rfl
 |[],_ :: _,_,_,_,h=>by simp at h
 |_ :: _,[],_,_,_,h=>by simp at h
end
def jJ (a b:Ex):Bool:=decide (a.op=b.op)&&decide (a.a=b.a)&&decide (a.rel=b.rel)&&decide (a.b=b.b)&&Se.eqB a.set b.set&&decide (a.names=b.names)
mutual
def eG:Ex→Ex→Bool
 |⟨op,a,rel,b,names,set,kids⟩,⟨op',a',rel',b',names',set',kids'⟩=>jJ ⟨op,a,rel,b,names,set,kids⟩ ⟨op',a',rel',b',names',set',kids'⟩&&iS kids kids'
def iS:List Ex→List Ex→Bool
 |[],[]=>true
 |x :: l,y :: m=>eG x y&&iS l m
 |[],_ :: _=>false
 |_ :: _,[]=>false
end
theorem qb:∀ l m:List Ex,iS l m=fw eG l m
 |[],[]=>by rw[iS];rfl
 |x :: l,y :: m=>by rw[iS,qb l m];rfl
 |[],_ :: _=>by rw[iS];rfl
 |_ :: _,[]=>by rw[iS];rfl
theorem jg (a b:Ex):eG a b=(jJ a b&&fw eG a.kids b.kids):=by
 cases a;cases b;rw[eG,qb]
theorem zf:∀ (n:Nat) (a b:Ex),SizeOf.sizeOf a<n→Pure Tryz.prog 238 [.agg (exC a),.agg (exC b)] (.c (sB (eG a b)))
 |0,_,_,h=>absurd h (Nat.not_lt_zero _)
 |n+1,a,b,h=>by
  have ih:∀ x∈a.kids,∀ y,Pure Tryz.prog 238 [.agg (exC x),.agg (exC y)] (.c (sB (eG x y))):=fun x hx y=>
   zf n x y (by have:=gi hx;omega)
  rw[jg]
  refine fn2 (fn:=Tryz.f238) Tryz.call238 Tryz.func238 rfl Tryz.ntmps238 Tryz.results238 rfl (by rfl) ?_
  repeat'(first|(with_reducible first|apply AW.seq|apply AW.block|apply AW.skip|apply AW.ret|apply ae|apply aq|apply y_e|refine ah ?_)|((with_reducible apply ak);first|refine t_v AS.v ?_|refine t_w AS.w ?_)|((with_reducible apply bc);first|refine t_m (hs:=fun hg=>AS.v) (k:=?_)|refine t_m (hs:=fun hg=>(by exact ag (hP:=s8 _ _))) (k:=?_))|((with_reducible refine au ?_);((refine aj (fun hc=>?_) (fun hc=>?_))))|((with_reducible refine aA ?_);refine k_b ?_)|fail)
  ·simp only[List.length_map] at hc
   rcases Nat.decEq a.kids.length b.kids.length with hn|hn
   ·rw[jS hn,Bool.and_false]
   ·unfold jJ
    rw[eq_comm,Bool.and_eq_false_iff];left
    revert hc;simp[hn]
    grind
  have hlen:a.kids.length=b.kids.length∧jJ a b=true:=by
   simp only[List.length_map] at hc
   unfold jJ
   grind
  rw[hlen.2,Bool.true_and]
  refine AW.fact (t:=57) rfl (fun κ w x hr=>dq hr) fun hn=>?_
  refine AW.loop (fun n σ=>∃ j,n=a.kids.length - j∧j≤a.kids.length∧nJ eG a.kids b.kids j∧σ=mk [(2,.c (.ptr 2 0)),(3,.c (.ptr 3 0)),(58,.c (sI (a.kids.map exC).length)),(59,.c (sI j))] [(3,.obj 49 (exC b)),(2,.obj 49 (exC a))]) a.kids.length ?_ ?_
  ·exact⟨_,wkA,0,rfl,Nat.zero_le _,kz,rfl⟩
  rintro n σ ⟨j,rfl,hj,ha,rfl⟩
  by_cases hlt:j<a.kids.length
  ·obtain ⟨x,hx⟩:∃ x,a.kids[j]? =some x:=⟨_,List.getElem?_eq_getElem hlt⟩
   obtain ⟨y,hy⟩:∃ y,b.kids[j]? =some y:=⟨_,List.getElem?_eq_getElem (by omega)⟩
   have hp:=ih x (List.mem_of_getElem? hx) y
   repeat'(first|(with_reducible first|apply AW.seq|apply AW.block|apply AW.skip|apply AW.ret|apply ae|apply aq|apply aw|apply aG|apply y_e|refine ah ?_|refine bb ?_)|((with_reducible apply ak);first|refine t_v AS.v ?_|refine t_v (by exact ag (hP:=hp)) ?_)|((with_reducible refine au ?_);((refine aj (fun hc=>?_) (fun hc=>?_);all_goals(try(exfalso;revert hc;simp;omega)))))|((with_reducible refine aA ?_);refine k_b ?_)|(refine⟨by decide +kernel,?_⟩)|fail)
   ·rw[lJ hx hy (by simpa using hc)]
   ·exact⟨_,_,(show a.kids.length - (j+1)<a.kids.length - j by omega),wkA,j+1,rfl,hlt,ky ha hx hy (by simpa using hc),rfl⟩
  ·repeat'(first|(with_reducible first|apply AW.seq|apply AW.ret|apply AW.exit|apply ae|apply aJ|apply aW|apply y_e|refine ah ?_)|((with_reducible apply ak);refine t_v AS.v ?_)|((with_reducible refine au ?_);((refine aj (fun hc=>?_) (fun hc=>?_);all_goals(try(exfalso;revert hc;simp;omega)))))|((with_reducible refine aA ?_);refine k_b ?_)|fail)
   rw[jR ha (by omega) hlen.1]
theorem GU (a b:Ex):Pure Tryz.prog 238 [.agg (exC a),.agg (exC b)] (.c (sB (eG a b))):=zf _ a b (Nat.lt_succ_self _)
end Am
namespace Am
set_option maxRecDepth 100000
set_option maxHeartbeats 1000000
theorem FF {l m:List Stm} {p:Stm→Stm→Bool} {f:Nat} (h:∀ x∈l,∀ y,Pure Tryz.prog f [.agg (stC x),.agg (stC y)] (.c (sB (p x y)))):Pure Tryz.prog 174 [.c (.lst none 55 (l.map stC)),.c (.lst none 55 (m.map stC)),.c (.fn f [])] (.c (sB (fw p l m))):=by
 refine fn3 (fn:=Tryz.f174) Tryz.call174 Tryz.func174 rfl Tryz.ntmps174 Tryz.results174 rfl (by rfl) ?_
 refine AW.fact (t:=0) rfl (fun κ w x hr=>dq hr) fun hn=>?_
 repeat'(first|(with_reducible first|apply AW.seq|apply AW.block|apply AW.skip|apply AW.ret|apply ae|apply aq|apply y_e|refine ah ?_)|((with_reducible apply ak);refine t_v AS.v ?_)|((with_reducible refine au ?_);((refine aj (fun hc=>?_) (fun hc=>?_))))|((with_reducible refine aA ?_);refine k_b ?_)|fail)
 ·rw[jS (by have h1:¬((l.length:Int)=m.length):=by simpa using hc
            omega)]
 have hlen:l.length=m.length:=by
  have:(l.length:Int)=m.length:=by simpa using hc
  omega
 refine AW.loop (fun n σ=>∃ j,n=l.length - j∧j≤l.length∧nJ p l m j∧σ=mk [(1,.c (.lst none 55 (m.map stC))),(2,.c (.fn f [])),(15,.c (.lst none 55 (l.map stC))),(16,.c (sI (l.map stC).length)),(17,.c (sI j))] []) l.length ?_ ?_
 ·exact⟨_,wkA,0,rfl,Nat.zero_le _,kz,rfl⟩
 rintro n σ ⟨j,rfl,hj,ha,rfl⟩
 by_cases hlt:j<l.length
 ·obtain ⟨x,hx⟩:∃ x,l[j]? =some x:=⟨_,List.getElem?_eq_getElem hlt⟩
  obtain ⟨y,hy⟩:∃ y,m[j]? =some y:=⟨_,List.getElem?_eq_getElem (by omega)⟩
  have hp:=h x (List.mem_of_getElem? hx) y
  repeat'(first|(with_reducible first|apply AW.seq|apply AW.block|apply AW.skip|apply AW.ret|apply ae|apply aq|apply aw|apply aG|apply y_e|refine ah ?_)|((with_reducible apply ak);first|refine t_v AS.v ?_|refine t_v (by exact ag (hP:=hp)) ?_|refine t_w AS.w ?_)|((with_reducible apply aV);refine t_s AS.s ?_)|((with_reducible refine au ?_);((refine aj (fun hc=>?_) (fun hc=>?_);all_goals(try(exfalso;revert hc;simp;omega)))))|((with_reducible refine aA ?_);refine k_b ?_)|fail)
  ·rw[lJ hx hy (by simpa using hc)]
  ·exact⟨_,_,(show l.length - (j+1)<l.length - j by omega),wkA,j+1,rfl,hlt,ky ha hx hy (by simpa using hc),rfl⟩
 ·repeat'(first|(with_reducible first|apply AW.seq|apply AW.ret|apply AW.exit|apply ae|apply aJ|apply aW|apply y_e|refine ah ?_)|((with_reducible apply ak);refine t_v AS.v ?_)|((with_reducible refine au ?_);((refine aj (fun hc=>?_) (fun hc=>?_);all_goals(try(exfalso;revert hc;simp;omega)))))|((with_reducible refine aA ?_);refine k_b ?_)|fail)
  rw[jR ha (by omega) hlen]
theorem iU {s x:Stm} (h:x∈s.thn):SizeOf.sizeOf x<SizeOf.sizeOf s:=by
 cases s
 have:=List.sizeOf_lt_of_mem h
 simp only[Stm.mk.sizeOf_spec] at this ⊢
 omega
theorem iP {s x:Stm} (h:x∈s.els):SizeOf.sizeOf x<SizeOf.sizeOf s:=by
 cases s
 have:=List.sizeOf_lt_of_mem h
 simp only[Stm.mk.sizeOf_spec] at this ⊢
 omega
def iH (a b:Stm):Bool:=decide (a.kind=b.kind)&&decide (a.op=b.op)&&decide (a.name=b.name)&&decide (a.result=b.result)&&decide (a.text=b.text)&&(a.value == b.value)&&decide (a.list=b.list)&&decide (a.aliases=b.aliases)&&cu a.source b.source&&cu a.target b.target&&cu a.cls b.cls&&cu a.perms b.perms&&eG a.cond b.cond&&dB a.level b.level&&dR a.range b.range&&decide (a.ctx.user=b.ctx.user)&&decide (a.ctx.role=b.ctx.role)&&decide (a.ctx.type=b.ctx.type)&&dR a.ctx.rng b.ctx.rng
mutual
def cE:Stm→Stm→Bool
 |⟨a1,a2,a3,a4,a5,a6,a7,a8,a9,a10,a11,a12,a13,a14,a15,a16,a17,t,e⟩,b=>iH ⟨a1,a2,a3,a4,a5,a6,a7,a8,a9,a10,a11,a12,a13,a14,a15,a16,a17,t,e⟩ b&&il t b.thn&&il e b.els
def il:List Stm→List Stm→Bool
 |[],[]=>true
 |x :: l,y :: m=>cE x y&&il l m
 |[],_ :: _=>false
 |_ :: _,[]=>false
end
theorem jF:∀ l m:List Stm,il l m=fw cE l m
 |[],[]=>by rw[il];rfl
 |x :: l,y :: m=>by rw[il,jF l m];rfl
 |[],_ :: _=>by rw[il];rfl
 |_ :: _,[]=>by rw[il];rfl
theorem jf (a b:Stm):cE a b=(iH a b&&fw cE a.thn b.thn&&fw cE a.els b.els):=by
 cases a;rw[cE,jF,jF]
theorem qa {l m:List Stm} (h:∀ x∈l,∀ y,Pure Tryz.prog 173 [.agg (stC x),.agg (stC y)] (.c (sB (cE x y)))):Pure Tryz.prog 100 [.c (.lst none 55 (l.map stC)),.c (.lst none 55 (m.map stC))] (.c (sB (fw cE l m))):=by
 refine fn2 (fn:=Tryz.f100) Tryz.call100 Tryz.func100 rfl Tryz.ntmps100 Tryz.results100 rfl (by rfl) ?_
 repeat'(first|(with_reducible first|apply AW.seq|apply AW.ret|apply ae|apply y_e|refine ah ?_)|((with_reducible apply ak);first|refine t_v AS.v ?_|refine t_v (by exact ag (hP:=FF h)) ?_)|((with_reducible refine aA ?_);refine k_b ?_)|fail)
 rfl
theorem tp:∀ (n:Nat) (a b:Stm),SizeOf.sizeOf a<n→Pure Tryz.prog 173 [.agg (stC a),.agg (stC b)] (.c (sB (cE a b)))
 |0,_,_,h=>absurd h (Nat.not_lt_zero _)
 |n+1,a,b,h=>by
  have i1:∀ x∈a.thn,∀ y,Pure Tryz.prog 173 [.agg (stC x),.agg (stC y)] (.c (sB (cE x y))):=fun x hx y=>
   tp n x y (by have:=iU hx;omega)
  have i2:∀ x∈a.els,∀ y,Pure Tryz.prog 173 [.agg (stC x),.agg (stC y)] (.c (sB (cE x y))):=fun x hx y=>
   tp n x y (by have:=iP hx;omega)
  rw[jf]
  refine fn2 (fn:=Tryz.f173) Tryz.call173 Tryz.func173 rfl Tryz.ntmps173 Tryz.results173 rfl (by rfl) ?_
  repeat'(first|(with_reducible first|apply AW.seq|apply AW.ret|apply ae|apply y_e|refine ah ?_|refine bb ?_)|((with_reducible apply ak);first|refine t_v AS.v ?_|refine t_w AS.w ?_)|((with_reducible apply bc);first|refine t_m (hs:=fun hg=>AS.v) (k:=?_)|refine t_m (hs:=fun hg=>(by first|exact ag (hP:=s8 _ _)|exact ag (hP:=vv _ _)|exact ag (hP:=GU _ _)|exact ag (hP:=pX _ _)|exact ag (hP:=DB _ _)|exact ag (hP:=qa i1)|exact ag (hP:=qa i2))) (k:=?_))|((with_reducible apply aV);refine t_s AS.s ?_)|((with_reducible refine aA ?_);refine k_b ?_)|((with_reducible apply Nf);dsimp only[List.append])|(refine⟨by decide +kernel,?_⟩)|fail)
  rfl
theorem ze (a b:Stm):Pure Tryz.prog 173 [.agg (stC a),.agg (stC b)] (.c (sB (cE a b))):=tp _ a b (Nat.lt_succ_self _)
theorem DD (l m:List Stm):Pure Tryz.prog 100 [.c (.lst none 55 (l.map stC)),.c (.lst none 55 (m.map stC))] (.c (sB (fw cE l m))):=qa fun x _ y=>ze x y
theorem JO (a b:Mo):Pure Tryz.prog 47 [.agg (moC a),.agg (moC b)] (.c (sB (decide (a.name=b.name)&&decide (a.version=b.version)&&fw cE a.stmts b.stmts))):=by
 refine fn2 (fn:=Tryz.f47) Tryz.call47 Tryz.func47 rfl Tryz.ntmps47 Tryz.results47 rfl (by rfl) ?_
 repeat'(first|(with_reducible first|apply AW.seq|apply AW.ret|apply ae|apply y_e|refine ah ?_)|((with_reducible apply ak);first|refine t_v AS.v ?_|refine t_w AS.w ?_)|((with_reducible apply bc);first|refine t_m (hs:=fun hg=>AS.v) (k:=?_)|refine t_m (hs:=fun hg=>(by exact ag (hP:=DD _ _))) (k:=?_))|((with_reducible refine aA ?_);refine k_b ?_)|fail)
 rfl
end Am
namespace Am
set_option maxRecDepth 100000
set_option maxHeartbeats 4000000
theorem gZ (s:ByteArray):(⟨#[]⟩:ByteArray)++s=s:=ByteArray.empty_append
theorem jV (s:ByteArray):s++(⟨#[]⟩:ByteArray)=s:=ByteArray.append_empty
theorem zo {sep y:ByteArray}:∀ {m:List ByteArray} {j:Nat},m[j]? =some y→tlB sep (m.take (j+1))=tlB sep (m.take j)++sep++y
 |x :: m,0,h=>by
  obtain rfl:x=y:=by simpa using h
  simp only[List.take_succ_cons,List.take_zero,tlB,jV,gZ]
 |x :: m,j+1,h=>by
  simp only[List.take_succ_cons,tlB]
  rw[zo (m:=m) (j:=j) (by simpa using h)]
  simp only[ByteArray.append_assoc]
theorem jl {sep y:ByteArray} {l:List ByteArray} (h:l[0]? =some y):bC sep (l.take 1)=y:=by
 match l,h with
 |x :: l,h=>
  obtain rfl:x=y:=by simpa using h
  simp[bC,tlB,jV]
theorem jk {sep y:ByteArray} {l:List ByteArray} {j:Nat} (h:l[j]? =some y) (hj:0<j):bC sep (l.take (j+1))=bC sep (l.take j)++sep++y:=by
 match l,j,h,hj with
 |x :: l,j+1,h,_=>
  simp only[List.take_succ_cons,bC]
  rw[zo (m:=l) (j:=j) (by simpa using h)]
  simp only[ByteArray.append_assoc]
theorem I6 {sep:ByteArray}:∀ (l:List ByteArray) (j:Nat),(tlB sep (l.take j)).size≤(tlB sep l).size
 |[],j=>by simp
 |x :: l,0=>Nat.zero_le _
 |x :: l,j+1=>by
  have:=I6 (sep:=sep) l j
  simp only[List.take_succ_cons,tlB,ByteArray.size_append]
  omega
theorem xF {sep:ByteArray} (l:List ByteArray) (j:Nat):(bC sep (l.take j)).size≤(bC sep l).size:=by
 match l,j with
 |[],j=>simp
 |x :: l,0=>exact Nat.zero_le _
 |x :: l,j+1=>
  have:=I6 (sep:=sep) l j
  simp only[List.take_succ_cons,bC,ByteArray.size_append]
  omega
theorem uY (l:List ByteArray):l.map (fun x=>x)=l:=List.map_id' l
theorem E0 {sep x:ByteArray}:∀ {l:List ByteArray},x∈l→x.size≤(tlB sep l).size
 |y :: l,h=>by
  simp only[tlB,ByteArray.size_append]
  rcases List.mem_cons.1 h with rfl|h
  ·omega
  ·have:=E0 (sep:=sep) h;omega
theorem tr {sep x:ByteArray} {l:List ByteArray} (h:x∈l):x.size≤(bC sep l).size:=by
 match l,h with
 |y :: l,h=>
  simp only[bC,ByteArray.size_append]
  rcases List.mem_cons.1 h with rfl|h
  ·omega
  ·have:=E0 (sep:=sep) h;omega
def exL (n:NS) (j:Nat):List ByteArray:=lq n++(n.except.take j).map (⟨#[45,32]⟩++ ·)
theorem C7 (n:NS):exL n 0=lq n:=by simp[exL]
theorem C6 {n:NS} {j:Nat} {x:ByteArray} (h:n.except[j]? =some x):exL n j++[⟨#[45,32]⟩++x]=exL n (j+1):=by
 rw[exL,exL,List.take_add_one,h];simp
theorem yH {n:NS} {j:Nat} (h:n.except.length≤j):exL n j=sP n:=by rw[exL,List.take_of_length_le h];rfl
theorem FI {n:NS} {j:Nat} (h:j≤n.except.length):(exL n j).length=(lq n).length+j:=by simp[exL];omega
def fz (s:Stm):Bool×Stm:=
 if s.kind=1∨s.kind=4 then(idB s.name&&kX s.list,{s with name:=⟨#[]⟩,list:=[]})
 else if s.kind=2 then(idB s.name&&s.list.all idB&&s.aliases.all idB,{s with name:=⟨#[]⟩,list:=[],aliases:=[]})
 else if s.kind=3∨s.kind=10∨s.kind=11 then(idB s.name,{s with name:=⟨#[]⟩})
 else if s.kind=5 then(idB s.name&&(cu s.source NS.zero || av s.source false),{s with name:=⟨#[]⟩,source:=NS.zero})
 else if s.kind=8 then(idB s.name&&kX s.list&&lvB s.level&&rgB s.range,{s with name:=⟨#[]⟩,list:=[],level:=Lv.zero,range:=Rg.zero})
 else if s.kind=9 then(idB s.name,{s with name:=⟨#[]⟩,value:=false})
 else(false,{s with name:=⟨#[]⟩})
def kY (s:Stm):Stm:={s with source:=NS.zero,target:=NS.zero,cls:=NS.zero}
def hZ (s:Stm):Bool:=av s.source false&&av s.target (decide (s.kind=12))
def iR (s:Stm):Bool×Stm:=
 if s.kind=6 then(hZ s,{kY s with cls:=s.cls})
 else if s.kind=7 then(hZ s&&av s.cls false&&idB s.result,{kY s with result:=⟨#[]⟩})
 else if s.kind=12 then(hZ s&&av s.cls false&&av s.perms false&&opB s.op 4,{kY s with op:=0,perms:=NS.zero})
 else if s.kind=13 then(hZ s&&av s.cls false&&idB s.result&&(decide (s.text=⟨#[]⟩) || (decide (s.op=1)&&mj s.text))&&opB s.op 3,{kY s with op:=0,result:=⟨#[]⟩,text:=⟨#[]⟩})
 else if s.kind=14 then(hZ s&&av s.cls false&&rgB s.range,{kY s with range:=Rg.zero})
 else if s.kind=23 then(hZ s&&idB s.name&&opB s.op 3,{kY s with cls:=s.cls,op:=0,name:=⟨#[]⟩})
 else(false,kY s)
def Dj (c:UInt8):Bool:=decide (32≤c.toNat)&&decide (c.toNat≤126)&&decide (c.toNat≠34)
def quoB (s:ByteArray):Bool:=decide (s.size≤256)&&s.data.toList.all Dj
def jo (tb eb:Bool) (s:Stm):Bool×Stm:=
 if s.kind=15 then(av s.cls false&&av s.perms false&&fy s.cond false,{s with cls:=NS.zero,perms:=NS.zero,cond:=Ex.zero})
 else if s.kind=16 then(av s.cls false&&fy s.cond true,{s with cls:=NS.zero,cond:=Ex.zero})
 else if s.kind=17 then(decide (cP 1 s.cond=0)&&decide (0<s.thn.length)&&tb&&eb,{s with cond:=Ex.zero,thn:=[],els:=[]})
 else if s.kind=18 then(decide (0<s.thn.length)&&tb&&eb,{s with thn:=[],els:=[]})
 else if s.kind=19 then(if s.op=1 then(idB s.name&&kX s.list,{s with op:=0,list:=[],name:=⟨#[]⟩}) else(kX s.list&&opB s.op 8,{s with op:=0,list:=[]}))
 else if s.kind=20 then(idB s.name&&cxB s.ctx,{s with name:=⟨#[]⟩,ctx:=Ct.zero})
 else if s.kind=21 then(decide (s.text≠⟨#[]⟩)&&quoB s.text&&decide (0≤s.op)&&decide (s.op≤4)&&cxB s.ctx,{s with text:=⟨#[]⟩,op:=0,ctx:=Ct.zero})
 else if s.kind=22 then(av s.source false,{s with source:=NS.zero})
 else(false,s)
def kU (r:Stm):Bool:=cE {r with kind:=0,pos:=Po.zero} Stm.zero
def fmH (tb eb:Bool) (s:Stm):Bool:=
 if(fz s).1 then kU (fz s).2 else if(iR s).1 then kU (iR s).2 else if(jo tb eb s).1 then kU (jo tb eb s).2 else false
mutual
def fmB:Stm→Bool
 |⟨a1,a2,a3,a4,a5,a6,a7,a8,a9,a10,a11,a12,a13,a14,a15,a16,a17,t,e⟩=>fmH (qw t) (qw e) ⟨a1,a2,a3,a4,a5,a6,a7,a8,a9,a10,a11,a12,a13,a14,a15,a16,a17,t,e⟩
def qw:List Stm→Bool
 |[]=>true
 |x :: l=>fmB x&&qw l
end
theorem kc:∀ l:List Stm,qw l=l.all fmB
 |[]=>by rw[qw];rfl
 |x :: l=>by rw[qw,kc l];rfl
theorem Cc (s:Stm):fmB s=fmH (s.thn.all fmB) (s.els.all fmB) s:=by
 cases s;rw[fmB,kc,kc]
def eo (m:Mo):Int:=
 if idB m.name=false then 10
 else if m.version<0∨9999<m.version then 3
 else if 1024<gX m.stmts∨12<dpL m.stmts then 4
 else if m.stmts.all fmB=false then 2 else 0
theorem KR {S:Nat→Nat→Prop} {w:World} {v u:Value} {vs:Array Value} (h:RepVs (cz S) w [.c (.sc v),.c (.sc u)] vs.toList):vs= #[v,u]:=by
 apply Array.ext'
 match hl:vs.toList,h with
 |[x,y],h=>
  have h0:=h.2 0 _ x rfl rfl
  have h1:=h.2 1 _ y rfl rfl
  cases h0 with|c h0=>cases h0;cases h1 with|c h1=>cases h1;rfl
 |[],h=>exact absurd h.1 (by simp)
 |[_],h=>exact absurd h.1 (by simp)
 |_ :: _ :: _ :: _,h=>exact absurd h.1 (by simp)
theorem rp (s:ByteArray) (c:Nat):(GM s c).size=c*s.size:=by
 show(Lib.repeatL s.data.toList c).toArray.size=_
 rw[List.size_toArray,Lib.repeatL_length,bZ]
theorem mQ (n:Nat):(j5 n).size=n*2:=rp _ n
theorem L1 (n:Nat):(n:Int)+1=((n+1:Nat):Int):=rfl
abbrev xh:Nat:=4398046511104
theorem vP {sep:ByteArray}:∀ (l:List ByteArray),l.length*sep.size≤(tlB sep l).size
 |[]=>by simp
 |x :: l=>by
  have:=vP (sep:=sep) l
  simp only[tlB,ByteArray.size_append,List.length_cons,Nat.add_mul]
  omega
theorem Ar {sep:ByteArray}:∀ (l:List ByteArray),l.length*sep.size≤(bC sep l).size+sep.size
 |[]=>by simp
 |x :: l=>by
  have:=vP (sep:=sep) l
  simp only[bC,ByteArray.size_append,List.length_cons,Nat.add_mul]
  omega
theorem xm (n:NS):(brT (nsL n)).size≤(nsT n).size+4∧(nsL n).length≤(nsT n).size+1:=by
 have hs:ByteArray.size ⟨#[32]⟩=1:=rfl
 have hc:=Ar (sep:=⟨#[32]⟩) (nsL n)
 rw[hs,Nat.mul_one] at hc
 have hb:(brT (nsL n)).size=(bC ⟨#[32]⟩ (nsL n)).size+4:=by
  simp only[brT,ByteArray.size_append,aM,List.size_toArray,List.length_cons,List.length_nil];omega
 have h2:ByteArray.size ⟨#[126,32]⟩=2:=rfl
 have h1:(nsL n).length=1→(brT (nsL n)).size=((nsL n).getD 0 ⟨#[]⟩).size+4:=fun h=>by
  match hl:nsL n,h with
  |[x],_=>
   simp only[brT,bC,tlB,ByteArray.size_append,aM,List.size_toArray,List.length_cons,List.length_nil,List.getD_cons_zero];omega
 unfold nsT
 split
 ·rename_i h
  have:=h1 h.2.1
  rw[ByteArray.size_append,h2]
  omega
 ·split
  ·rw[ByteArray.size_append,h2];omega
  ·split
   ·rename_i h
    have:=h1 h.1
    omega
   ·omega
theorem mr (p:Bool) (s:ByteArray):s.size≤(fY p s).size:=by
 unfold fY;split
 ·simp only[ByteArray.size_append];omega
 ·omega
theorem uA:∀ l:List Ex,uz l=l.map exT
 |[]=>by rw[uz];rfl
 |x :: l=>by rw[uz,uA l];rfl
theorem C8 (e:Ex):exT e=exH e.op e.a e.rel e.b e.names (e.kids.map exT) (e.kids.map (·.op)):=by
 cases e;rw[exT,uA]
theorem wk {n:Nat} (hn:n<15):(iM n).size≤2:=by
 have:∀ i:Fin 15,(iM i.val).size≤2:=by decide +kernel
 exact this ⟨n,hn⟩
theorem JG (n:Int):(ti n).size≤6:=by
 unfold ti
 repeat' split
 all_goals decide
theorem lH {α:Type} {l:List α} (h:(l.length:Int)=2):∃ a b,l=[a,b]:=by
 match l,h with
 |[a,b],_=>exact⟨a,b,rfl⟩
 |[],h=>simp at h
 |[_],h=>simp at h
 |_ :: _ :: _ :: _,h=>simp only[List.length_cons] at h;omega
theorem kj {α:Type} {l:List α} (h:(l.length:Int)=1):∃ a,l=[a]:=by
 match l,h with
 |[a],_=>exact⟨a,rfl⟩
 |[],h=>simp at h
 |_ :: _ :: _,h=>simp only[List.length_cons] at h;omega
theorem GC (st least:Int) (s:ByteArray):s.size≤(ia st least s).size:=by
 unfold ia;split
 ·simp only[ByteArray.size_append];omega
 ·omega
theorem uf:∀ l:List Ex,ue l=l.map btI
 |[]=>by rw[ue];rfl
 |x :: l=>by rw[ue,uf l];rfl
theorem l9 (e:Ex):btI e=btH e.op e.names (e.kids.map btI) (e.kids.map (·.op)):=by
 cases e;rw[btI,uf]
theorem nA:∀ {l:List Int},gF l=0→∀ x∈l,x=0
 |[],_,x,hx=>by cases hx
 |y :: l,h,x,hx=>by
  unfold gF at h
  split at h
  ·rename_i h0
   rcases List.mem_cons.1 hx with rfl|hx
   ·exact h0
   ·exact nA h x hx
  ·rename_i h0;exact absurd h h0
theorem qK {e:Ex} {level:Int} (h:cP level e=0):0≤dh e.op∧(e.kids.length:Int)=dh e.op∧(dh e.op=0→e.names.length=1)∧∀ x∈e.kids,cP (level+1) x=0:=by
 rw[lK] at h
 split at h
 ·rename_i h0
  unfold eQ at h0
  by_cases p:12<level
  ·rw[if_pos p] at h0;exact absurd h0 (by decide)
  rw[if_neg p] at h0
  by_cases q:dh e.op<0∨e.a≠0∨e.b≠0∨e.rel≠0∨Se.eqB e.set Se.zero=false∨(e.kids.length:Int)≠dh e.op∨(e.names.length:Int)≠(if dh e.op=0 then 1 else 0)
  ·rw[if_pos q] at h0;exact absurd h0 (by decide)
  simp only[not_or] at q
  obtain ⟨q1,-,-,-,-,q2,q3⟩:=q
  refine⟨by omega,by omega,fun e0=>?_,fun x hx=>nA h _ (List.mem_map_of_mem hx)⟩
  rw[if_pos e0] at q3
  omega
 ·rename_i h0;exact absurd h h0
structure Bd (s:Stm):Prop where
 name:s.name.size≤268435456
 result:s.result.size≤268435456
 text:s.text.size≤268435456
 list:(brT s.list).size≤268435456
 comm:(bC ⟨#[44,32]⟩ s.list).size≤268435456
 aliases:(brT s.aliases).size≤268435456
 source:(nsT s.source).size≤268435456
 target:(nsT s.target).size≤268435456
 cls:(nsT s.cls).size≤268435456
 perms:(nsT s.perms).size≤268435456
 cond:fy s.cond false=true∨fy s.cond true=true→(exT s.cond).size≤268435456
 cond2:cP 1 s.cond=0→(btT s.cond 0).size≤268435456
 level:(lvT s.level).size≤268435456
 range:(rgT s.range).size≤268435456
 ctx:(cxT s.ctx).size≤268435456
structure Rok (s:Stm):Prop where
 r12:s.kind=12→1≤s.op∧s.op≤4
 r13:s.kind=13→1≤s.op∧s.op≤3
 r15:s.kind=15→fy s.cond false=true
 r16:s.kind=16→fy s.cond true=true
 r19:s.kind=19→1≤s.op∧s.op≤8
 r21:s.kind=21→0≤s.op∧s.op≤4
 r23:s.kind=23→1≤s.op∧s.op≤3
 rk:1≤s.kind∧s.kind≤23
theorem kT {l:List ByteArray} (h:∀ x∈l,x.size≤100) (n:Int):(kwT l n).size≤100:=by
 unfold kwT
 rw[List.getD_eq_getElem?_getD]
 cases hx:l[(n - 1).toNat]? with
 |none=>exact Nat.zero_le _
 |some x=>exact h x (List.mem_of_getElem? hx)
theorem u7 (b:Bool):(u6 b).size≤5:=by cases b <;> decide
theorem DP (lv:Nat) (s:Stm):stT lv s=stH lv s (cJ (lv+1) s.thn) (cJ (lv+1) s.els):=by cases s;rw[stT]
theorem yh (a:ByteArray):a++(⟨#[]⟩:ByteArray)=a:=jV a
theorem tZ {lv:Nat}:∀ {l:List Stm} {j:Nat} {x:Stm},l[j]? =some x→cJ lv (l.take (j+1))=cJ lv (l.take j)++stT lv x++⟨#[10]⟩
 |[],j,x,h=>by simp at h
 |y :: l,0,x,h=>by
  obtain rfl:y=x:=by simpa using h
  simp only[List.take_succ_cons,List.take_zero,cJ,gZ,jV]
 |y :: l,j+1,x,h=>by
  simp only[List.take_succ_cons,cJ]
  rw[tZ (l:=l) (j:=j) (x:=x) (by simpa using h)]
  simp only[ByteArray.append_assoc]
theorem BG {lv:Nat}:∀ (l:List Stm) (j:Nat),(cJ lv (l.take j)).size≤(cJ lv l).size
 |[],j=>by simp
 |x :: l,0=>by simp only[List.take_zero,cJ,ByteArray.size_append];exact Nat.zero_le _
 |x :: l,j+1=>by
  have:=BG (lv:=lv) l j
  simp only[List.take_succ_cons,cJ,ByteArray.size_append]
  omega
structure WH (s:Stm):Prop where
 r:s.kind≠17→s.kind≠18→Rok s
 b:Bd s
 c:s.kind=17→cP 1 s.cond=0
mutual
def stW:Stm→Prop
 |⟨a1,a2,a3,a4,a5,a6,a7,a8,a9,a10,a11,a12,a13,a14,a15,a16,a17,t,e⟩=>WH ⟨a1,a2,a3,a4,a5,a6,a7,a8,a9,a10,a11,a12,a13,a14,a15,a16,a17,t,e⟩∧Az t∧Az e
def Az:List Stm→Prop
 |[]=>True
 |x :: l=>stW x∧Az l
end
theorem qh:∀ {l:List Stm},Az l↔∀ x∈l,stW x
 |[]=>by rw[Az];simp
 |x :: l=>by rw[Az,qh (l:=l)];simp
theorem xO (s:Stm):stW s↔WH s∧(∀ x∈s.thn,stW x)∧(∀ x∈s.els,stW x):=by cases s;rw[stW,qh,qh]
theorem J9 {b:ByteArray} {lv:Nat} (h:b.size+(j5 lv).size≤70368744177664):lv≤70368744177664:=by rw[mQ] at h;omega
def rJ (n:NS):ByteArray×Int:=if av n true then(nsT n,0) else(⟨#[]⟩,2)
def gv (e:Ex) (v:Bool):ByteArray×Int:=if fy e v then(exT e,0) else(⟨#[]⟩,2)
def jr (m:Mo):ByteArray×Int:=if eo m≠0 then(⟨#[]⟩,eo m) else if 65536<(jx m).size then(⟨#[]⟩,4) else(jx m,0)
def gV (s:Stm) (lv:Int):ByteArray×Int:=
 if lv<0∨12<lv then(⟨#[]⟩,2) else if 12<dpL [s] then(⟨#[]⟩,4) else if fmB s=false then(⟨#[]⟩,2)
 else if 65536<(stT lv.toNat s).size then(⟨#[]⟩,4) else(stT lv.toNat s,0)
theorem HP (n:Int) (h0:0≤n) (h1:n≤9999):(itT n).size≤100:=by
 have:=Lib.itoa_length_le n (by omega) (by omega)
 show(Lib.itoa n).toArray.size≤_
 rw[List.size_toArray];omega
def bF (s:Stm):Stm:=
 if s.kind=1∨s.kind=4 then {Stm.zero with kind:=s.kind,name:=s.name,list:=s.list}
 else if s.kind=2 then {Stm.zero with kind:=s.kind,name:=s.name,aliases:=s.aliases,list:=s.list}
 else if s.kind=3∨s.kind=10∨s.kind=11 then {Stm.zero with kind:=s.kind,name:=s.name}
 else if s.kind=5 then {Stm.zero with kind:=s.kind,name:=s.name,source:=s.source}
 else if s.kind=6 then {Stm.zero with kind:=s.kind,source:=s.source,target:=s.target}
 else if s.kind=7 then {Stm.zero with kind:=s.kind,source:=s.source,target:=s.target,cls:=s.cls,result:=s.result}
 else if s.kind=8 then {Stm.zero with kind:=s.kind,name:=s.name,list:=s.list,level:=s.level,range:=s.range}
 else if s.kind=9 then {Stm.zero with kind:=s.kind,name:=s.name,value:=s.value}
 else if s.kind=12 then {Stm.zero with kind:=s.kind,op:=s.op,source:=s.source,target:=s.target,cls:=s.cls,perms:=s.perms}
 else if s.kind=13 then {Stm.zero with kind:=s.kind,op:=s.op,source:=s.source,target:=s.target,cls:=s.cls,result:=s.result,text:=s.text}
 else if s.kind=14 then {Stm.zero with kind:=s.kind,source:=s.source,target:=s.target,cls:=s.cls,range:=s.range}
 else if s.kind=15 then {Stm.zero with kind:=s.kind,cls:=s.cls,perms:=s.perms,cond:=s.cond}
 else if s.kind=16 then {Stm.zero with kind:=s.kind,cls:=s.cls,cond:=s.cond}
 else if s.kind=17 then {Stm.zero with kind:=s.kind,cond:=s.cond,thn:=s.thn,els:=s.els}
 else if s.kind=18 then {Stm.zero with kind:=s.kind,thn:=s.thn,els:=s.els}
 else if s.kind=19 then {Stm.zero with kind:=s.kind,op:=s.op,name:=s.name,list:=s.list}
 else if s.kind=20 then {Stm.zero with kind:=s.kind,name:=s.name,ctx:=s.ctx}
 else if s.kind=21 then {Stm.zero with kind:=s.kind,text:=s.text,op:=s.op,ctx:=s.ctx}
 else if s.kind=22 then {Stm.zero with kind:=s.kind,source:=s.source}
 else if s.kind=23 then {Stm.zero with kind:=s.kind,name:=s.name,op:=s.op,source:=s.source,target:=s.target}
 else {Stm.zero with kind:=s.kind}
def mb (l:List ByteArray) (least:Int):Bool:=l.all idB&&decide (least≤l.length)
def oY (n:NS):Bool:=!n.all&& !n.nt&& !n.self&&decide (n.names.length=0)&&decide (n.except.length=0)
def dI (s:Stm):Bool:=
 if s.kind=1∨s.kind=4 then idB s.name&&mb s.list 1
 else if s.kind=2 then idB s.name&&mb s.list 0&&mb s.aliases 0
 else if s.kind=5 then idB s.name&&(oY s.source || av s.source false)
 else if s.kind=8 then idB s.name&&mb s.list 1&&lvB s.level&&rgB s.range
 else if s.kind=19 then(if s.op=1 then idB s.name&&mb s.list 1 else decide (s.name=⟨#[]⟩)&&decide (2≤s.op)&&decide (s.op≤8)&&mb s.list 1)
 else if s.kind=20 then idB s.name&&cxB s.ctx
 else if s.kind=23 then idB s.name&&decide (1≤s.op)&&decide (s.op≤3)&&av s.source false&&av s.target false
 else idB s.name
def ql (s:Stm):Bool:=s.text.data.toList.all ml&&(decide (s.text=⟨#[]⟩) || (decide (s.op=1)&&decide (s.text.size≤32)))
def eF (s:Stm):Bool:=
 if s.kind=6 then hZ s
 else if s.kind=7 then hZ s&&av s.cls false&&idB s.result
 else if s.kind=12 then hZ s&&av s.cls false&&av s.perms false&&decide (1≤s.op)&&decide (s.op≤4)
 else if s.kind=13 then hZ s&&av s.cls false&&idB s.result&&decide (1≤s.op)&&decide (s.op≤3)&&ql s
 else if s.kind=14 then hZ s&&av s.cls false&&rgB s.range
 else if s.kind=15 then av s.cls false&&av s.perms false&&fy s.cond false
 else if s.kind=16 then av s.cls false&&fy s.cond true
 else if s.kind=22 then av s.source false
 else decide (s.text≠⟨#[]⟩)&&quoB s.text&&decide (0≤s.op)&&decide (s.op≤4)&&cxB s.ctx
def bE (tb eb:Bool) (s:Stm):Bool:=
 (if s.kind=1∨s.kind=2∨s.kind=3∨s.kind=4∨s.kind=5∨s.kind=8∨s.kind=9∨s.kind=10∨s.kind=11∨s.kind=19∨s.kind=20∨s.kind=23 then dI s
  else if s.kind=6∨s.kind=7∨s.kind=12∨s.kind=13∨s.kind=14∨s.kind=15∨s.kind=16∨s.kind=21∨s.kind=22 then eF s
  else if s.kind=17 then decide (cP 1 s.cond=0)&&decide (0<s.thn.length)&&tb&&eb
  else if s.kind=18 then decide (0<s.thn.length)&&tb&&eb else false)&&cE (bF s) s
theorem FG (l:List ByteArray):decide ([]=l)=decide (l=[]):=by simp only[eq_comm]
theorem Ms (x:ByteArray):decide ((⟨#[]⟩:ByteArray)=x)=decide (x=⟨#[]⟩):=by simp only[eq_comm]
theorem Mr (x:Int):decide (0=x)=decide (x=0):=by simp only[eq_comm]
theorem Kv (x:Bool):(false == x)=(x == false):=by cases x <;> rfl
theorem At (a:Se):Se.eqB a a=true:=by simp[Se.eqB]
theorem As (a b:Se):Se.eqB a b=Se.eqB b a:=by simp only[Se.eqB,eq_comm]
mutual
theorem lE:∀ a:Ex,eG a a=true
 |⟨op,a,rel,b,names,set,kids⟩=>by rw[eG,nP kids];simp[jJ,At]
theorem nP:∀ l:List Ex,iS l l=true
 |[]=>by rw[iS]
 |x :: l=>by rw[iS,lE x,nP l];rfl
end
theorem oJ {α β:Type} {p:α→β→Bool} (l:List α):fw p l []=decide (l.length=0):=by cases l <;> rfl
theorem pz {α β:Type} {p:α→β→Bool} (l:List β):fw p [] l=decide (l.length=0):=by cases l <;> rfl
theorem xD (x:Ex):eG Ex.zero x=eG x Ex.zero:=by
 rw[jg,jg]
 simp only[jJ,Ex.zero,oJ,pz,As ⟨0,0,0,0⟩ x.set]
 rw[Bool.eq_iff_iff]
 simp only[Bool.and_eq_true,decide_eq_true_eq]
 grind
theorem nN (a:NS):cu a a=true:=by simp[cu]
theorem vu (a b:NS):cu a b=cu b a:=by
 unfold cu
 have h:∀ p q:Bool,(p == q)=(q == p):=by decide
 rw[h a.all,h a.nt,h a.self]
 simp only[eq_comm]
theorem km (a:Lv):dB a a=true:=by simp[dB]
theorem kl (a b:Lv):dB a b=dB b a:=by simp only[dB,eq_comm]
theorem nO (a:Rg):dR a a=true:=by simp[dR,km]
theorem vw (a b:Rg):dR a b=dR b a:=by unfold dR;rw[kl a.lo,kl a.hi]
mutual
theorem xC:∀ a:Stm,cE a a=true
 |⟨a1,a2,a3,a4,a5,a6,a7,a8,a9,a10,a11,a12,a13,a14,a15,a16,a17,t,e⟩=>by rw[cE,iG t,iG e];simp[iH,lE,nN,km,nO]
theorem iG:∀ l:List Stm,il l l=true
 |[]=>by rw[il]
 |x :: l=>by rw[il,xC x,iG l];rfl
end
theorem zG (l:List Stm):fw cE l l=true:=by rw[← jF];exact iG l
def Z (s:Stm):Nat→Bool
 |0=>decide (s.op=0)
 |1=>decide (s.name=⟨#[]⟩)
 |2=>decide (s.result=⟨#[]⟩)
 |3=>decide (s.text=⟨#[]⟩)
 |4=>s.value == false
 |5=>decide (s.list=[])
 |6=>decide (s.aliases=[])
 |7=>cu s.source NS.zero
 |8=>cu s.target NS.zero
 |9=>cu s.cls NS.zero
 |10=>cu s.perms NS.zero
 |11=>eG s.cond Ex.zero
 |12=>dB s.level Lv.zero
 |13=>dR s.range Rg.zero
 |14=>decide (s.ctx.user=⟨#[]⟩)&&decide (s.ctx.role=⟨#[]⟩)&&decide (s.ctx.type=⟨#[]⟩)&&dR s.ctx.rng Rg.zero
 |15=>decide (s.thn.length=0)
 |_=>decide (s.els.length=0)
theorem tn (r:Stm):kU r=(Z r 0&&Z r 1&&Z r 2&&Z r 3&&Z r 4&&Z r 5&&Z r 6&&Z r 7&&Z r 8&&Z r 9&&Z r 10&&Z r 11&&Z r 12&&Z r 13&&Z r 14&&Z r 15&&Z r 16):=by
 unfold kU
 rw[jf]
 simp only[iH,Stm.zero,Z,oJ,Ct.zero]
 simp only[Bool.and_assoc,decide_true,Bool.true_and]
 rfl
theorem zd (k s:Stm) (hk:k.kind=s.kind):cE k s=((decide (k.op=s.op)&&decide (k.name=s.name)&&decide (k.result=s.result)&&decide (k.text=s.text)&&(k.value == s.value)&&decide (k.list=s.list)&&decide (k.aliases=s.aliases)&&cu k.source s.source&&cu k.target s.target&&cu k.cls s.cls&&cu k.perms s.perms&&eG k.cond s.cond&&dB k.level s.level&&dR k.range s.range &&
 (decide (k.ctx.user=s.ctx.user)&&decide (k.ctx.role=s.ctx.role)&&decide (k.ctx.type=s.ctx.type)&&dR k.ctx.rng s.ctx.rng)&&fw cE k.thn s.thn&&fw cE k.els s.els)):=by
 rw[jf]
 simp only[iH,hk,decide_true,Bool.true_and,Bool.and_assoc]
theorem Cm (l:List ByteArray):mb l 0=l.all idB:=by simp[mb]
theorem G1 (l:List ByteArray):mb l 1=kX l:=by
 simp only[mb,kX]
 rw[Bool.and_comm]
 congr 1
 exact decide_eq_decide.2 (by omega)
theorem wD (n:NS):oY n=cu n NS.zero:=by
 obtain ⟨a,b,c,d,e⟩:=n
 cases a <;> cases b <;> cases c <;> cases d <;> cases e <;> simp[oY,cu,NS.zero]
theorem DY (s:Stm):(decide (s.text=⟨#[]⟩) || (decide (s.op=1)&&mj s.text))=ql s:=by
 unfold ql mj
 by_cases h:s.text=⟨#[]⟩
 ·rw[h];simp
 ·rw[decide_eq_false h]
  simp only[Bool.false_or,h,decide_true,ne_eq,not_false_eq_true,Bool.true_and]
  cases decide (s.op=1) <;> simp
theorem nz (x:NS):cu ⟨false,false,false,[],[]⟩ x=cu x NS.zero:=vu _ _
theorem xz (x:Ex):eG ⟨0,0,0,0,[],⟨0,0,0,0⟩,[]⟩ x=eG x Ex.zero:=xD x
theorem lz (x:Lv):dB ⟨⟨#[]⟩,[]⟩ x=dB x Lv.zero:=kl _ _
theorem rz (x:Rg):dR ⟨⟨⟨#[]⟩,[]⟩,⟨⟨#[]⟩,[]⟩⟩ x=dR x Rg.zero:=vw _ _
theorem r5 (s:Stm):(bF s).kind=s.kind:=by
 unfold bF
 simp only[apply_ite Stm.kind,ite_self]
theorem Hv (tb eb:Bool) (s:Stm):bE tb eb s=fmH tb eb s:=by
 have hx:(s.kind=1∨s.kind=2∨s.kind=3∨s.kind=4∨s.kind=5∨s.kind=6∨s.kind=7∨s.kind=8∨s.kind=9∨s.kind=10∨s.kind=11∨s.kind=12∨s.kind=13∨s.kind=14∨s.kind=15∨s.kind=16∨s.kind=17∨s.kind=18∨s.kind=19∨s.kind=20∨s.kind=21∨s.kind=22∨s.kind=23)∨¬(s.kind=1∨s.kind=2∨s.kind=3∨s.kind=4∨s.kind=5∨s.kind=6∨s.kind=7∨s.kind=8∨s.kind=9∨s.kind=10∨s.kind=11∨s.kind=12∨s.kind=13∨s.kind=14∨s.kind=15∨s.kind=16∨s.kind=17∨s.kind=18∨s.kind=19∨s.kind=20∨s.kind=21∨s.kind=22∨s.kind=23):=Decidable.em _
 rcases hx with hx|hx
 ·unfold bE
  rw[zd _ _ (r5 s)]
  unfold fmH
  simp only[tn]
  rcases hx with k|k|k|k|k|k|k|k|k|k|k|k|k|k|k|k|k|k|k|k|k|k|k
  all_goals
   simp only[bF,dI,eF,fz,iR,jo,kY,hZ,opB,k,Int.reduceEq,or_true,true_or,or_self,or_false,false_or,if_true,if_false,↓reduceIte,Z,Stm.zero,Ct.zero,nN,lE,km,nO,zG,oJ,pz,nz,xz,lz,rz,FG,Ms,Mr,Kv,Cm,G1,wD,decide_true,beq_self_eq_true,Bool.and_true,Bool.true_and,Bool.false_and,Bool.false_eq_true,List.length_nil]
  all_goals
   rw[Bool.eq_iff_iff]
   simp only[Bool.and_eq_true,Bool.or_eq_true,decide_eq_true_eq,beq_iff_eq,←DY]
   grind
 ·simp only[not_or] at hx
  obtain ⟨h1,h2,h3,h4,h5,h6,h7,h8,h9,h10,h11,h12,h13,h14,h15,h16,h17,h18,h19,h20,h21,h22,h23⟩:=hx
  simp[bE,fmH,fz,iR,jo, *]
theorem yL (s:Stm):fmB s=bE (s.thn.all fmB) (s.els.all fmB) s:=by rw[Cc,Hv]
theorem JL {tb eb:Bool} {s:Stm} (h:bE tb eb s=true):Rok s:=by
 unfold bE at h
 rw[Bool.and_eq_true] at h
 obtain ⟨h,-⟩:=h
 refine⟨fun k=>?_,fun k=>?_,fun k=>?_,fun k=>?_,fun k=>?_,fun k=>?_,fun k=>?_,?_⟩
 ·simp[k,eF] at h;omega
 ·simp[k,eF] at h;omega
 ·simp[k,eF] at h;exact h.2
 ·simp[k,eF] at h;exact h.2
 ·simp[k,dI] at h
  split at h
  ·omega
  ·omega
 ·simp[k,eF] at h;omega
 ·simp[k,dI] at h;omega
 ·split at h
  ·omega
  ·split at h
   ·omega
   ·split at h
    ·omega
    ·split at h
     ·omega
     ·cases h
theorem Cs {s:Stm} (h1:s.kind≠17) (h2:s.kind≠18):(bF s).thn=[]∧(bF s).els=[]:=by
 unfold bF
 simp only[apply_ite Stm.thn,apply_ite Stm.els,h1,h2,if_false,ite_self,Stm.zero,and_self]
theorem yo {tb eb:Bool} {s:Stm} (h:bE tb eb s=true) (h1:s.kind≠17) (h2:s.kind≠18):s.thn=[]∧s.els=[]:=by
 unfold bE at h
 rw[Bool.and_eq_true] at h
 obtain ⟨-,h⟩:=h
 rw[zd _ _ (r5 s)] at h
 obtain ⟨k1,k2⟩:=Cs h1 h2
 simp only[Bool.and_eq_true,k1,k2,pz] at h
 exact⟨List.length_eq_zero_iff.1 (of_decide_eq_true h.1.2),List.length_eq_zero_iff.1 (of_decide_eq_true h.2)⟩
theorem Al {s:Stm} (hr:Rok s) (hb:Bd s):(eK s).size≤2000000000:=by
 obtain ⟨r12,r13,r15,r16,r19,r21,r23,r1,r2⟩:=hr
 obtain ⟨b1,b2,b3,b4,b5,b6,b7,b8,b9,b10,b11,b12,b13,b14,b15⟩:=hb
 have u4:=kT (l:=kwR) (by decide) s.op
 have u3:=kT (l:=kwX) (by decide) s.op
 have u8:=kT (l:=kwQ) (by decide) s.op
 have u5:=kT (l:=kwF) (by decide) (s.op+1)
 have u9:=kT (l:=kwA) (by decide) s.op
 by_cases k15:s.kind=15
 ·have:=b11 (.inl (r15 k15))
  simp only[eK,k15,Int.reduceEq,if_false,if_true,ByteArray.size_append,aM,List.size_toArray,List.length_cons,List.length_nil]
  omega
 by_cases k16:s.kind=16
 ·have:=b11 (.inr (r16 k16))
  simp only[eK,k16,Int.reduceEq,if_false,if_true,ByteArray.size_append,aM,List.size_toArray,List.length_cons,List.length_nil]
  omega
 unfold eK
 rw[if_neg k15,if_neg k16]
 clear r12 r13 r15 r16 r19 r21 r23 b11 b12
 repeat' split
 all_goals
  simp only[fU,ByteArray.size_append,aM,List.size_toArray,List.length_cons,List.length_nil]
  omega
theorem Cz {s:Stm} (hr:Rok s) (hb:Bd s):(bz s).size≤2000000000:=by
 have hl:=Al hr hb
 obtain ⟨b1,b2,b3,b4,b5,b6,b7,b8,b9,b10,b11,b12,b13,b14,b15⟩:=hb
 have f2:=u7 s.value
 clear hr b11 b12
 unfold bz
 repeat' split
 all_goals
  try simp only[ByteArray.size_append,aM,List.size_toArray,List.length_cons,List.length_nil]
  omega
theorem Cj {s:Stm} (hb:Bd s) (hc:s.kind=17→cP 1 s.cond=0):(j4 s).size≤300000000:=by
 unfold j4
 split
 ·rename_i k
  have:=hb.cond2 (hc k)
  simp only[bC,tlB,ByteArray.size_append,aM,List.size_toArray,List.length_cons,List.length_nil]
  omega
 ·simp only[bC,tlB,ByteArray.size_append,aM,List.size_toArray,List.length_cons,List.length_nil]
  omega
theorem tY {lv:Nat} {l:List Stm} (h:∀ x∈l,(stT lv x).size+1≤(1+jZ x)*4294967296):(cJ lv l).size≤eB l*4294967296:=by
 induction l with
 |nil=>rw[cJ];exact Nat.zero_le _
 |cons x l ih=>
  have h1:=ih fun y hy=>h y (.tail _ hy)
  have h2:=h x (.head _)
  have h3:ByteArray.size ⟨#[10]⟩=1:=rfl
  rw[cJ,ByteArray.size_append,ByteArray.size_append,h3,eB]
  omega
end Am
end Go.Proofs.YtkpodagbefnebaaGreatDoor
