import Derived.Test.YtkpodagbefnebaaGreatDoorYg8
import Derived.Test.YtkpodagbefnebaaGreatDoorYg9
import Derived.Test.YtkpodagbefnebaaGreatDoorYg21
import Derived.Test.YtkpodagbefnebaaGreatDoorYg18
import Derived.Test.YtkpodagbefnebaaGreatDoorYg19
import Derived.WalkLawsBesides
import Derived.Test.YtkpodagbefnebaaGreatDoorYg22
import Derived.Test.YtkpodagbefnebaaGreatDoorYg17
set_option linter.unusedSimpArgs false
set_option linter.unusedVariables false
set_option linter.unusedSectionVars false
namespace Go.Proofs.YtkpodagbefnebaaGreatDoor
namespace Am
open Tk
set_option maxRecDepth 100000
set_option maxHeartbeats 4000000
mutual
def lfS:Stm→Int→Int
 |⟨_,_,_,_,_,_,_,_,_,_,_,_,_,_,_,_,_,t,e⟩,n=>if 0≤lfR t (n - t.length) then lfR e (lfR t (n - t.length) - e.length) else lfR t (n - t.length)
def lfR:List Stm→Int→Int
 |[],n=>n
 |x :: l,n=>if 0≤n then lfR l (lfS x n) else n
end
def lfL (l:List Stm) (n:Int):Int:=lfR l (n - l.length)
theorem HR (s:Stm) (n:Int):lfS s n=if 0≤lfL s.thn n then lfL s.els (lfL s.thn n) else lfL s.thn n:=by cases s;rw[lfS];rfl
mutual
theorem HU:∀ (s:Stm) (n:Int),lfS s n≤n∧(0≤lfS s n→lfS s n=n - gk s)
 |⟨a1,a2,a3,a4,a5,a6,a7,a8,a9,a10,a11,a12,a13,a14,a15,a16,a17,t,e⟩,n=>by
  have h1:=oD t (n - t.length)
  have h2:=oD e (lfR t (n - t.length) - e.length)
  rw[lfS,gk]
  split
  ·rename_i h0
   have:=h1.2 h0
   refine⟨by omega,fun h=>?_⟩
   have:=h2.2 h
   omega
  ·rename_i h0
   exact⟨by omega,fun h=>absurd h h0⟩
theorem oD:∀ (l:List Stm) (n:Int),lfR l n≤n∧(0≤lfR l n→lfR l n=n+l.length - eo l)
 |[],n=>by rw[lfR,eo];exact⟨Int.le_refl _,fun _=>by simp⟩
 |x :: l,n=>by
  have h1:=HU x n
  have h2:=oD l (lfS x n)
  rw[lfR,eo]
  split
  ·refine⟨by omega,fun h=>?_⟩
   have h3:=h2.2 h
   have h4:=h1.2 (by omega)
   simp only[List.length_cons]
   omega
  ·rename_i h0
   exact⟨Int.le_refl _,fun h=>absurd h h0⟩
end
theorem HQ {l:List Stm} {n:Int} (h:0≤lfL l n):(eo l:Int)≤n:=by
 have:=(oD l (n - l.length)).2 h
 unfold lfL at h
 omega
theorem Bc (l:List Stm) (n:Int):lfL l n≤n:=by
 have:=(oD l (n - l.length)).1
 unfold lfL
 omega
theorem sb:∀ (N:Nat) (l:List Stm) (n:Int),SizeOf.sizeOf l<N→0≤n→n≤1000→Pure Tryz.prog 68 [.c (.lst none 55 (l.map stC)),.c (sI n)] (.c (sI (lfL l n)))
 |0,_,_,h,_,_=>absurd h (Nat.not_lt_zero _)
 |N+1,l,n,h,h0,h1=>by
  have ht:∀ x∈l,∀ m:Int,0≤m→m≤1000→Pure Tryz.prog 68 [.c (.lst none 55 (x.thn.map stC)),.c (sI m)] (.c (sI (lfL x.thn m))):=fun x hx m a b=>sb N x.thn m (by have:=List.sizeOf_lt_of_mem hx;have:=ka x;omega) a b
  have he:∀ x∈l,∀ m:Int,0≤m→m≤1000→Pure Tryz.prog 68 [.c (.lst none 55 (x.els.map stC)),.c (sI m)] (.c (sI (lfL x.els m))):=fun x hx m a b=>sb N x.els m (by have:=List.sizeOf_lt_of_mem hx;have:=jZ x;omega) a b
  refine fn2 (fn:=Tryz.f68) Tryz.call68 Tryz.func68 rfl Tryz.ntmps68 Tryz.results68 rfl (by rfl) ?_
  refine AW.fact (t:=0) rfl (fun κ w x hr=>gB hr) fun hn=>?_
  have hv:lfR l (n - l.length)=lfL l n:=rfl
  generalize lfL l n=v at *
  have hlm:(l.map stC).length=l.length:=List.length_map _
  repeat'(first|(with_reducible first|apply AW.seq|apply AW.block|apply AW.ret|apply AW.exit|apply ae|apply aG|apply aT|apply y_e|refine ag ?_)|((with_reducible apply ak);refine t_v AS.v ?_)|((with_reducible apply bt);first|refine t_f ?_|refine t_m (hs:=fun hg=>AS.v) (k:=?_))|((with_reducible refine av ?_);first|refine cg ?_|(refine aj (fun hc=>?_) (fun hc=>?_);all_goals(try(exfalso;simp[*] at hc;done))))|((with_reducible refine aF ?_);refine k_i ?_)|fail)
  refine AW.loop (fun k σ=>∃ (j:Nat) (m:Int),k=l.length - j∧j≤l.length∧m≤1000∧lfR (l.drop j) m=v∧σ=mk [(0,.c (.lst none 55 (l.map stC))),(1,.c (sI m)),(5,.c (sI (j:Int)))] []) l.length ?_ ?_
  ·have e:n - ((l.map stC).length:Int)=n - (l.length:Int):=by rw[List.length_map]
   rw[e]
   exact⟨_,wkA,0,n - l.length,rfl,Nat.zero_le _,by omega,hv,rfl⟩
  clear hv
  rintro k σ ⟨j,m,rfl,hj,hm,hv,rfl⟩
  by_cases hlt:j<l.length
  ·obtain ⟨x,hx⟩:∃ x,l[j]? =some x:=⟨_,List.getElem?_eq_getElem hlt⟩
   have hdr:l.drop j=x :: l.drop (j+1):=by
    obtain ⟨h1,h2⟩:=List.getElem?_eq_some_iff.1 hx
    rw[← h2];exact List.drop_eq_getElem_cons h1
   rw[hdr,lfR,HR] at hv
   have hmem:=List.mem_of_getElem? hx
   by_cases hm0:0≤m
   ·rw[if_pos hm0] at hv
    have ht:=ht x hmem m hm0 hm
    have hle:=Bc x.thn m
    generalize lfL x.thn m=a at *
    by_cases ha:0≤a
    ·rw[if_pos ha] at hv
     have he:=he x hmem a ha (by omega)
     have hle2:=Bc x.els a
     generalize lfL x.els a=b at *
     clear hdr
     repeat'(first|(with_reducible first|apply AW.seq|apply AW.block|apply AW.skip|apply ae|apply ay|apply y_e|refine ag ?_)|((with_reducible apply ak);first|refine t_v AS.v ?_|refine t_v (by first|exact ah (hP:=ht)|exact ah (hP:=he)) ?_)|((with_reducible apply bt);refine t_m (hs:=fun hg=>AS.v) (k:=?_))|((with_reducible refine av ?_);((refine aj (fun hc=>?_) (fun hc=>?_);all_goals(try(exfalso;simp[*] at hc;done)))))|fail)
     all_goals(exact⟨_,_,(show l.length - (j+1)<l.length - j by omega),wkA,j+1,b,rfl,hlt,by omega,hv,rfl⟩)
    ·rw[if_neg ha] at hv
     clear hdr he
     repeat'(first|(with_reducible first|apply AW.seq|apply AW.block|apply AW.skip|apply ae|apply ay|apply y_e|refine ag ?_)|((with_reducible apply ak);first|refine t_v AS.v ?_|refine t_v (by exact ah (hP:=ht)) ?_)|((with_reducible apply bt);refine t_m (hs:=fun hg=>AS.v) (k:=?_))|((with_reducible refine av ?_);((refine aj (fun hc=>?_) (fun hc=>?_);all_goals(try(exfalso;simp[*] at hc;done)))))|fail)
     all_goals(exact⟨_,_,(show l.length - (j+1)<l.length - j by omega),wkA,j+1,a,rfl,hlt,by omega,hv,rfl⟩)
   ·rw[if_neg hm0] at hv
    subst hv
    clear hdr ht he
    repeat'(first|(with_reducible first|apply AW.seq|apply AW.block|apply AW.ret|apply AW.exit|apply ae|apply aG|apply aT|apply y_e|refine ag ?_)|((with_reducible apply ak);refine t_v AS.v ?_)|((with_reducible apply bt);first|refine t_f ?_|refine t_m (hs:=fun hg=>AS.v) (k:=?_))|((with_reducible refine av ?_);first|refine cg ?_|(refine aj (fun hc=>?_) (fun hc=>?_);all_goals(try(exfalso;simp[*] at hc;done))))|((with_reducible refine aF ?_);refine k_i ?_)|fail)
    all_goals rfl
  ·have e:l.drop j=[]:=List.drop_eq_nil_of_le (by omega)
   rw[e,lfR] at hv
   subst hv
   clear e ht he
   repeat'(first|(with_reducible first|apply AW.seq|apply AW.block|apply AW.ret|apply AW.exit|apply ae|apply aG|apply aT|apply y_e|refine ag ?_)|((with_reducible apply ak);refine t_v AS.v ?_)|((with_reducible apply bt);first|refine t_f ?_|refine t_m (hs:=fun hg=>AS.v) (k:=?_))|((with_reducible refine av ?_);first|refine cg ?_|(refine aj (fun hc=>?_) (fun hc=>?_);all_goals(try(exfalso;simp[*] at hc;done))))|((with_reducible refine aF ?_);refine k_i ?_)|fail)
   all_goals rfl
theorem za (l:List Stm):Pure Tryz.prog 26 [.c (.lst none 55 (l.map stC)),.c (sI 60)] (.c (sB (decide (0≤lfL l 60)))):=by
 have p:=sb _ l 60 (Nat.lt_succ_self _) (by decide) (by decide)
 refine fn2 (fn:=Tryz.f26) Tryz.call26 Tryz.func26 rfl Tryz.ntmps26 Tryz.results26 rfl (by rfl) ?_
 repeat'(first|(with_reducible first|apply AW.seq|apply AW.ret|apply ae|apply y_e|refine ag ?_)|((with_reducible apply ak);first|refine t_v AS.v ?_|refine t_v (by exact ah (hP:=p)) ?_)|((with_reducible refine aF ?_);refine k_b ?_)|fail)
 all_goals rfl
end Am
namespace Am
open Tk
set_option maxRecDepth 100000
theorem pY {α:Type} {p:α→α→Bool}:∀ l:List α,(∀ x∈l,p x x=true)→fN p l l=true
 |[],_=>rfl
 |x :: l,h=>by rw[fN,h x (.head _),pY l fun y hy=>h y (.tail _ hy)];rfl
theorem uJ:∀ (n:Nat) (a:Ex),SizeOf.sizeOf a<n→fq a a=true
 |0,_,h=>absurd h (Nat.not_lt_zero _)
 |n+1,a,h=>by
  rw[jQ,pY a.kids fun x hx=>uJ n x (by have:=fW hx;omega)]
  simp[lL,Se.eqB]
theorem Fx (a:Ex):fq a a=true:=uJ _ a (Nat.lt_succ_self _)
theorem rO {p:Stm→Stm→Bool}:∀ l m:List Stm,(∀ x∈l,∀ y,npS x=npS y→p x y=true)→l.map npS=m.map npS→fN p l m=true
 |[],[],_,_=>rfl
 |[],_ :: _,_,h=>by cases h
 |_ :: _,[],_,h=>by cases h
 |x :: l,y :: m,hp,h=>by
  injection h with h1 h2
  rw[fN,hp x (.head _) y h1,rO l m (fun z hz=>hp z (.tail _ hz)) h2];rfl
theorem pr:∀ (n:Nat) (a b:Stm),SizeOf.sizeOf a<n→npS a=npS b→du a b=true
 |0,_,_,h,_=>absurd h (Nat.not_lt_zero _)
 |n+1,a,b,h,e=>by
  have e':=e
  rw[aw,aw] at e'
  injection e' with e1 e2 _ e4 e5 e6 e7 e8 e9 e10 e11 e12 e13 e14 e15 e16 e17 e18 e19
  rw[jP,rO a.thn b.thn (fun x hx y hy=>pr n x y (by have:=mH hx;omega) hy) e18,rO a.els b.els (fun x hx y hy=>pr n x y (by have:=ma hx;omega) hy) e19]
  unfold iH
  rw[e1,e2,e4,e5,e6,e7,e8,e9,e10,e11,e12,e13,e14,e15,e16,e17,Fx]
  simp[cA,eg,eF]
theorem Ci {a b:Stm} (h:npS a=npS b):du a b=true:=pr _ a b (Nat.lt_succ_self _) h
theorem Cg {a b:Mo} (h:npM a=npM b):(decide (a.name=b.name)&&decide (a.version=b.version)&&fN du a.stmts b.stmts)=true:=by
 unfold npM at h
 injection h with h1 h2 h3
 rw[decide_eq_true h1,decide_eq_true h2,rO a.stmts b.stmts (fun x _ y hy=>Ci hy) h3];rfl
end Am
namespace Am
open Tk Go.RowKit
set_option maxRecDepth 100000
set_option maxHeartbeats 4000000
section
variable {ρ:Operand→Option V} {H:Nat→Option HO} {d:Option Nat} {ty:TypeId} {pos:String} {af:Array Edge} {gu:Option (Nat×Bool)} {x:Operand}
theorem yn {T:TypeId} {u:Value} (hx:Ev ρ x (.c (.sc (.iface T u))):=by exact .pl rfl) (hy:Ev ρ (.const .nilIface) (.c (.sc .nilIface)):=by exact .pl rfl):AS Tryz.prog ρ H ⟨d,.binOp .neq 20 x (.const .nilIface) 20,ty,pos,af,gu⟩ ⟨.c (sB true),[],[]⟩:=by
 refine .still (x:=.bool true) (fun r hr w=>?_) fun _=>.sc rfl
 have h1:=hr x (by simp[Op.operands]) _ _ hx .sc
 have h2:=hr (.const .nilIface) (by simp[Op.operands]) (.c (.sc .nilIface)) _ hy .sc
 have hb:(binOp BinOp.neq 20 (.iface T u) Value.nilIface).run Tryz.prog w= .ok (.bool true) w:=by kernel_rfl
 unfold execOp
 simp[h1,h2,eqGuard,hb]
theorem GR (hx:Ev ρ x (.c (.sc .nilIface)):=by exact .pl rfl) (hy:Ev ρ (.const .nilIface) (.c (.sc .nilIface)):=by exact .pl rfl):AS Tryz.prog ρ H ⟨d,.binOp .neq 20 x (.const .nilIface) 20,ty,pos,af,gu⟩ ⟨.c (sB false),[],[]⟩:=by
 refine .still (x:=.bool false) (fun r hr w=>?_) fun _=>.sc rfl
 have h1:=hr x (by simp[Op.operands]) _ _ hx .sc
 have h2:=hr (.const .nilIface) (by simp[Op.operands]) (.c (.sc .nilIface)) _ hy .sc
 have hb:(binOp BinOp.neq 20 .nilIface Value.nilIface).run Tryz.prog w= .ok (.bool false) w:=by kernel_rfl
 unfold execOp
 simp[h1,h2,eqGuard,hb]
theorem Kk {f:Fa} (hx:Ev ρ x (.c (.sc (pvF 158 f))):=by exact .pl rfl) (hs:(f.name.size≤9223372036854775807):=by assumption):AS Tryz.prog ρ H ⟨d,.typeAssert x 20 158 true,ty,pos,af,gu⟩ ⟨.tup [.agg (faC f),.c (sB true)],[],[]⟩:=
 sO (us:=[.int .i64 f.code,.int .i64 f.pos.line,.int .i64 f.pos.col,.string f.name]) hx (by simp[jt,hs]) (fun w=>by kernel_rfl)
end
abbrev tkB (x:Ex) (n:Int) (f:Fa):List (Nat×HO):=[(2002,.obj 49 (exC x)),(2003,.obj 3 [sI n]),(2004,.obj 30 (faC f))]
theorem v7 (x:Ex) (n:Int) (f g:Fa) (hs:f.name.size≤9223372036854775807):MD Tryz.prog 147 [2002,2003,2004] (look (tkB x n g)) (.panicking [{v:=pvF 158 f,recovered:=false}]) (.panicking [{v:=pvF 158 f,recovered:=true}]) (look (tkB Ex.zero 0 f)):=by
 refine MD.of (fn:=Tryz.f147) (t:=6) (s:=3) (.inl ⟨rfl,rfl⟩) Tryz.func147 rfl Tryz.ntmps147 (fun _ _=>rfl) rfl rfl (fun _ _=>rfl) rfl rfl (by decide) (by decide) (by decide) rfl rfl (by simp[jt,hs]) ?_
 repeat'(first|(with_reducible first|apply AW.seq|apply AW.skip|apply ae|apply y_e|refine ag ?_|refine bh ?_)|((with_reducible apply ak);first|refine t_v yn ?_|refine t_v Kk ?_|refine t_v AS.v ?_|refine t_w AS.w ?_)|((with_reducible apply aX);refine t_s AS.s ?_)|((with_reducible refine av ?_);first|refine cO ?_|refine cg ?_)|(refine⟨by decide +kernel,?_⟩)|fail)
 all_goals(refine⟨.inr rfl,fun n hn=>?_⟩;simp only[List.mem_cons,List.not_mem_nil,or_false] at hn;rcases hn with rfl|rfl|rfl <;> rfl)
theorem CC (x:Ex) (n:Int) (g:Fa):MD Tryz.prog 147 [2002,2003,2004] (look (tkB x n g)) .returning .returning (look (tkB x n g)):=by
 refine MD.of (fn:=Tryz.f147) (t:=6) (s:=3) (older:=[]) (.inr ⟨rfl,rfl,rfl⟩) Tryz.func147 rfl Tryz.ntmps147 (fun _ _=>rfl) rfl rfl (fun _ _=>rfl) rfl rfl (by decide) (by decide) (by decide) rfl rfl rfl ?_
 repeat'(first|(with_reducible first|apply AW.seq|apply AW.skip|apply ae|apply y_e|refine ag ?_)|((with_reducible apply ak);first|refine t_v GR ?_|refine t_v AS.v ?_)|((with_reducible refine av ?_);refine cg ?_)|fail)
 all_goals(refine⟨.inr rfl,fun n hn=>?_⟩;simp only[List.mem_cons,List.not_mem_nil,or_false] at hn;rcases hn with rfl|rfl|rfl <;> rfl)
theorem sA {x:Ex} {n:Int} {f:Fa} {h:List (Nat×HO)} (e:∀ m∈[2002,2003,2004],look h m=look (tkB x n f) m):∀ m∈[2002,2003,2004],∃ ob,look h m=some ob∧fj ob=true∧look (tkB x n f) m=some ob:=fun m hn=>by
 rw[e m hn]
 simp only[List.mem_cons,List.not_mem_nil,or_false] at hn
 rcases hn with rfl|rfl|rfl
 ·exact⟨_,rfl,by simp[fj,okA],rfl⟩
 ·exact⟨_,rfl,rfl,rfl⟩
 ·exact⟨_,rfl,by simp[fj,okA],rfl⟩
theorem wG {x:Ex} {n:Int} {f:Fa}:∀ m∈[2002,2003,2004],∃ ob,look (tkB x n f) m=some ob∧fj ob=true:=fun m hm=>by
 obtain ⟨ob,h1,h2,_⟩:=sA (x:=x) (n:=n) (f:=f) (fun n hn=>rfl) m hm
 exact⟨ob,h1,h2⟩
theorem CI (ts:List Tok) (hl:ts.length≤4294967296):Pure Tryz.prog 78 [.c (.lst none 4 (ts.map tkC))] (wI (tksK ts)):=by
 have hb:=(As hl (8*ts.length+16) (8*ts.length+16) (Nat.le_refl _)).bi 1 0 0 (by decide) (by decide) (Nat.zero_le _) (by decide) (by omega)
 have ht:tksK ts=dX ts (8*ts.length+16) 1 0 0>>=fun x=>if 12<cz x.1 then .error (flK 4 ts 0) else .ok x:=rfl
 rw[ht]
 refine Pure.of_mn ?_ (by unfold wI;split <;> simp[V.ok,okV,okA,C.ok])
 refine MNL.ofD (fn:=Tryz.f78) (fc:=147) (Nc:=[2002,2003,2004]) (sl:=[(0,.c (.lst none 4 (ts.map tkC)))]) Tryz.call78 Tryz.call147 Tryz.func78 rfl Tryz.ntmps78 Tryz.results78 rfl rfl (by decide) ?_
 refine AWD.seq ?_
 repeat'(first|(with_reducible first|apply ae|apply y_e|refine ag ?_)|((with_reducible apply ak);first|refine t_w (gS 2002 (by rfl) (by exact bo rfl)) ?_|refine t_w (gS 2003 (by rfl) (by exact bo rfl)) ?_|refine t_w (gS 2004 (by rfl) (by exact bo rfl)) ?_)|fail)
 refine AWD.defer (l:=[_]) (by decide) rfl (by decide) ?_
 repeat'(first|(with_reducible apply y_e)|((with_reducible apply ak);refine t_v AS.v ?_)|fail)
 refine⟨.pl rfl,?_⟩
 repeat'((fail_if_success (with_reducible refine ch 4 ?_));(first|(with_reducible first|apply AW.seq|apply ae|apply aD|apply y_e|refine ag ?_)|((with_reducible apply ak);first|refine t_v AS.v ?_|refine t_w AS.w ?_|refine GN (hP:=hb) (k1:=fun x k h=>?_) (k2:=fun e h=>?_))|((with_reducible apply aX);refine t_s AS.s ?_)|fail))
 ·have hv:=(xi ts _).2.1 h
  have hx:=(kW ts _).2.1 h
  have fl:=om (ts:=ts) (i:=0) (d:=0) hl (Nat.zero_le _) 4
  rw[h,aa]
  clear hb ht h
  repeat'(first|(with_reducible first|apply AW.seq|apply AW.skip|apply AW.ret|apply ae|apply aD|apply y_e|refine ag ?_|refine bh ?_)|((with_reducible apply ak);first|refine t_v AS.v ?_|refine t_v (by exact ah (hP:=yA x (by omega))) ?_|refine GN (hP:=fl) (k1:=fun x k h=>?_) (k2:=fun e h=>?_))|((with_reducible apply aX);refine t_s AS.s ?_)|((with_reducible refine av ?_);((refine aj (fun hc=>?_) (fun hc=>?_))))|(refine⟨by decide +kernel,?_⟩)|fail)
  ·cases h
  ·injection h with h
   subst h
   have hc:12<cz x:=by have:=of_decide_eq_true hc;omega
   dsimp only
   rw[if_pos hc]
   refine RetD.mk (bx:=tkB x 0 Fa.zero) (bx':=tkB Ex.zero 0 (flK 4 ts 0)) (.inr ⟨_,rfl,rfl⟩) rfl (v7 _ _ _ _ (show(0:Nat)≤9223372036854775807 by decide)) rfl (sA fun n hn=>?_) wG (Bv ?_ fun n hn=>by cases hn)
   ·simp only[List.mem_cons,List.not_mem_nil,or_false] at hn
    rcases hn with rfl|rfl|rfl <;> rfl
   ·simp only[one,V.un,unV,unA,C.un,wI]
  ·have hc:¬ 12<cz x:=by have:=of_decide_eq_false hc;omega
   dsimp only
   rw[if_neg hc]
   refine RetD.mk (bx:=tkB x k Fa.zero) (bx':=tkB x k Fa.zero) (.inl ⟨.inl rfl,rfl⟩) rfl (CC _ _ _) rfl (sA fun n hn=>?_) wG (Bv ?_ fun n hn=>by cases hn)
   ·simp only[List.mem_cons,List.not_mem_nil,or_false] at hn
    rcases hn with rfl|rfl|rfl <;> rfl
   ·simp only[one,V.un,unV,unA,C.un,wI]
 ·have hs:=(vu ts _).2.1 h
  rw[h]
  refine RetD.mk (bx:=tkB Ex.zero 0 Fa.zero) (bx':=tkB Ex.zero 0 e) (.inr ⟨_,rfl,rfl⟩) rfl (v7 _ _ _ _ (by rw[hs];decide)) rfl (sA fun n hn=>?_) wG (Bv ?_ fun n hn=>by cases hn)
  ·simp only[List.mem_cons,List.not_mem_nil,or_false] at hn
   rcases hn with rfl|rfl|rfl <;> rfl
  ·rw[aq];simp only[one,V.un,unV,unA,C.un,wI]
theorem Hs {l:List Tok} (hf:Fine l):CndOk l tksK:=⟨fun k=>CI _ (by have:=hf.le;rw[List.length_drop];omega),fun k e n h=>zx hf k h,fun k f h=>v8 h⟩
end Am
namespace Am
open Tk Go.RowKit
set_option maxRecDepth 100000
set_option maxHeartbeats 4000000
section
variable {ρ:Operand→Option V} {H:Nat→Option HO} {d:Option Nat} {ty:TypeId} {pos:String} {af:Array Edge} {gu:Option (Nat×Bool)} {x:Operand}
theorem Kl {f:Fa} (hx:Ev ρ x (.c (.sc (pvF 127 f))):=by exact .pl rfl) (hs:(f.name.size≤9223372036854775807):=by assumption):AS Tryz.prog ρ H ⟨d,.typeAssert x 20 127 true,ty,pos,af,gu⟩ ⟨.tup [.agg (faC f),.c (sB true)],[],[]⟩:=
 sO (us:=[.int .i64 f.code,.int .i64 f.pos.line,.int .i64 f.pos.col,.string f.name]) hx (by simp[jt,hs]) (fun w=>by kernel_rfl)
end
abbrev ftB (f:Fa):List (Nat×HO):=[(2004,.obj 30 (faC f))]
theorem uC (f g:Fa) (hs:f.name.size≤9223372036854775807):MD Tryz.prog 101 [2004] (look (ftB g)) (.panicking [{v:=pvS f,recovered:=false}]) (.panicking [{v:=pvS f,recovered:=true}]) (look (ftB f)):=by
 refine MD.of (fn:=Tryz.f101) (t:=4) (s:=1) (.inl ⟨rfl,rfl⟩) Tryz.func101 rfl Tryz.ntmps101 (fun _ _=>rfl) rfl rfl (fun _ _=>rfl) rfl rfl (by decide) (by decide) (by decide) rfl rfl (by simp[jt,hs]) ?_
 repeat'(first|(with_reducible first|apply AW.seq|apply AW.skip|apply ae|apply y_e|refine ag ?_)|((with_reducible apply ak);first|refine t_v yn ?_|refine t_v Kl ?_|refine t_v AS.v ?_|refine t_w AS.w ?_)|((with_reducible apply aX);refine t_s AS.s ?_)|((with_reducible refine av ?_);first|refine cO ?_|refine cg ?_)|fail)
 all_goals(refine⟨.inr rfl,fun n hn=>?_⟩;simp only[List.mem_cons,List.not_mem_nil,or_false] at hn;subst hn;rfl)
theorem C6 (g:Fa):MD Tryz.prog 101 [2004] (look (ftB g)) .returning .returning (look (ftB g)):=by
 refine MD.of (fn:=Tryz.f101) (t:=4) (s:=1) (older:=[]) (.inr ⟨rfl,rfl,rfl⟩) Tryz.func101 rfl Tryz.ntmps101 (fun _ _=>rfl) rfl rfl (fun _ _=>rfl) rfl rfl (by decide) (by decide) (by decide) rfl rfl rfl ?_
 repeat'(first|(with_reducible first|apply AW.seq|apply AW.skip|apply ae|apply y_e|refine ag ?_)|((with_reducible apply ak);first|refine t_v GR ?_|refine t_v AS.v ?_)|((with_reducible refine av ?_);refine cg ?_)|fail)
 all_goals(refine⟨.inr rfl,fun n hn=>?_⟩;simp only[List.mem_cons,List.not_mem_nil,or_false] at hn;subst hn;rfl)
theorem vD {f:Fa} {h:List (Nat×HO)} (e:look h 2004=some (.obj 30 (faC f))):∀ m∈[2004],∃ ob,look h m=some ob∧fj ob=true∧look (ftB f) m=some ob:=fun m hn=>by
 simp only[List.mem_cons,List.not_mem_nil,or_false] at hn
 subst hn
 exact⟨_,e,by simp[fj,okA],rfl⟩
theorem vE {f:Fa}:∀ m∈[2004],∃ ob,look (ftB f) m=some ob∧fj ob=true:=fun m hn=>by
 simp only[List.mem_cons,List.not_mem_nil,or_false] at hn
 subst hn
 exact⟨_,rfl,by simp[fj,okA]⟩
theorem rW (f:Fa):(one [V.agg (faC f)]).un= .agg (faC f):=n8 f
section
variable {α:Type} {bx:HO} {B:α→HO} {sp:∀ l:List Tok,Ix l→Except Fa (α×(Ix l×Nat))} {g:Nat} {src:ByteArray}
def pX (g:Nat) (bx:HO) (B:α→HO) (sp:∀ l:List Tok,Ix l→Except Fa (α×(Ix l×Nat))):Prop:=
 ∀ (l:List Tok) (_:Fine l) (h:0<l.length),MX Tryz.prog g [(0,psO (⟨0,h⟩:Ix l) 0 0),(1001,bx)] [.c (.ptr 0 0),.c (.ptr 1001 0)] (sp l ⟨0,h⟩>>=fun x=>.ok ((),x):Except Fa (Unit×(α×(Ix l×Nat)))) (fun _=>.tup []) (fun b=>[(0,psO b.2.1 b.2.2 0),(1001,B b.1)]) pvS
theorem Ce {f:Fa} (hsc:fS src= .error f):MNL Tryz.prog 48 [(1001,bx)] [.c (sS src),.c (.fn g [.ptr 1001 0])] (.agg (faC f)) [(1001,bx)]:=by
 have sc:=su src
 rw[hsc] at sc
 have sc:Pure Tryz.prog 77 [.c (sS src)] (.tup [.c .nil,.agg (faC f)]):=sc
 have h0:=(uP src f hsc).1
 refine MNL.ofD (fn:=Tryz.f48) (fc:=101) (Nc:=[2004]) (sl:=[(0,.c (sS src)),(1,.c (.fn g [.ptr 1001 0]))]) Tryz.call48 Tryz.call101 Tryz.func48 rfl Tryz.ntmps48 Tryz.results48 rfl rfl (by decide) ?_
 refine AWD.seq ?_
 repeat'(first|(with_reducible first|apply ae|apply y_e|refine ag ?_)|((with_reducible apply ak);refine t_w (gS 2004 (by rfl) (by exact bo rfl)) ?_)|fail)
 refine AWD.seq ?_
 repeat'(first|(with_reducible first|apply ae|apply y_e|refine ag ?_)|((with_reducible apply ak);first|refine t_v AS.v ?_|refine t_v (by exact ah (hP:=sc)) ?_)|((with_reducible apply aX);refine t_s AS.s ?_)|fail)
 refine AWD.seq ?_
 repeat'(first|(with_reducible first|apply AW.seq|apply AW.ret|apply ae|apply ar|apply y_e|refine ag ?_)|((with_reducible apply ak);refine t_v AS.v ?_)|((with_reducible apply aX);refine t_s AS.s ?_)|((with_reducible refine av ?_);((refine aj (fun hc=>?_) (fun hc=>?_);all_goals(try(exfalso;simp[*] at hc;done)))))|fail)
 exact n_c (rW _) (fun n hn=>by rw[List.mem_singleton.1 hn];rfl)
theorem Iv {l:List Tok} (hsc:fS src= .ok l) (hbx:bx.one=true) (hg:pX g bx B sp) (h:0<l.length) {a:α} {k':Ix l} {c':Nat} (hsp:sp l ⟨0,h⟩= .ok (a,(k',c'))) (h0:(tk k').kind=0) :
 MNL Tryz.prog 48 [(1001,bx)] [.c (sS src),.c (.fn g [.ptr 1001 0])] (.agg (faC Fa.zero)) [(1001,B a)]:=by
 have hf:=j3 hsc
 have sc:=su src
 rw[hsc] at sc
 have sc:Pure Tryz.prog 77 [.c (sS src)] (.tup [.c (.lst none 4 (l.map tkC)),.agg (faC Fa.zero)]):=sc
 have hG:=hg l hf h
 have hsp':(sp l ⟨0,h⟩>>=fun x=>.ok ((),x):Except Fa (Unit×(α×(Ix l×Nat))))= .ok ((),(a,(k',c'))):=by rw[hsp];rfl
 generalize (sp l ⟨0,h⟩>>=fun x=>.ok ((),x):Except Fa (Unit×(α×(Ix l×Nat))))=q at hG hsp'
 subst hsp'
 clear hsp
 refine MNL.ofD (fn:=Tryz.f48) (fc:=101) (Nc:=[2004]) (sl:=[(0,.c (sS src)),(1,.c (.fn g [.ptr 1001 0]))]) Tryz.call48 Tryz.call101 Tryz.func48 rfl Tryz.ntmps48 Tryz.results48 rfl rfl (by decide) ?_
 refine AWD.seq ?_
 repeat'(first|(with_reducible first|apply ae|apply y_e|refine ag ?_)|((with_reducible apply ak);refine t_w (gS 2004 (by rfl) (by exact bo rfl)) ?_)|fail)
 refine AWD.seq ?_
 repeat'(first|(with_reducible first|apply ae|apply y_e|refine ag ?_)|((with_reducible apply ak);first|refine t_v AS.v ?_|refine t_v (by exact ah (hP:=sc)) ?_)|((with_reducible apply aX);refine t_s AS.s ?_)|fail)
 refine AWD.seq ?_
 repeat'(first|(with_reducible first|apply AW.seq|apply AW.skip|apply ae|apply y_e|refine ag ?_)|((with_reducible apply ak);refine t_v AS.v ?_)|((with_reducible refine av ?_);refine cg ?_)|fail)
 refine AWD.defer (l:=[_]) (by decide) rfl (by decide) ?_
 repeat'(first|(with_reducible first|apply AW.seq|apply AW.skip|apply ae|apply y_e|refine ag ?_)|((with_reducible apply ak);refine t_v AS.v ?_)|((with_reducible refine av ?_);refine cg ?_)|fail)
 refine⟨.pl rfl,?_⟩
 repeat'((fail_if_success (with_reducible refine ch 7 ?_));(first|(with_reducible first|apply AW.seq|apply ae|apply aD|apply y_e|refine ag ?_)|((with_reducible apply ak);first|refine t_v AS.v ?_|refine t_w AS.w ?_|refine IF (hP:=hG) (k1:=fun x k h=>?_) (k2:=fun e h=>?_))|fail))
 ·injection h with h
  injection h with h1 h2
  subst h2
  repeat'(first|(with_reducible first|apply AW.seq|apply AW.skip|apply AW.ret|apply ae|apply y_e|refine ag ?_)|((with_reducible apply ak);first|refine t_v AS.v ?_|refine t_v (by exact bm (hP:=cr)) ?_)|((with_reducible apply aX);refine t_s AS.s ?_)|((with_reducible refine av ?_);((refine aj (fun hc=>?_) (fun hc=>?_);all_goals(try(exfalso;simp[*] at hc;done)))))|fail)
  exact RetD.mk (bx:=ftB Fa.zero) (bx':=ftB Fa.zero) (.inl ⟨.inl rfl,rfl⟩) rfl (C6 _) rfl (vD rfl) vE (n_c (rW _) fun n hn=>by rw[List.mem_singleton.1 hn];rfl)
 ·cases h
theorem Fv {l:List Tok} (hsc:fS src= .ok l) (hbx:bx.one=true) (hg:pX g bx B sp) (h:0<l.length) {a:α} {k':Ix l} {c':Nat} (hsp:sp l ⟨0,h⟩= .ok (a,(k',c'))) (h0:¬ (tk k').kind=0) :
 MNL Tryz.prog 48 [(1001,bx)] [.c (sS src),.c (.fn g [.ptr 1001 0])] (.agg (faC (flt 9 (tk k')))) [(1001,B a)]:=by
 have hf:=j3 hsc
 have ht:=yf hsc (tk k') (List.getElem_mem _)
 have sc:=su src
 rw[hsc] at sc
 have sc:Pure Tryz.prog 77 [.c (sS src)] (.tup [.c (.lst none 4 (l.map tkC)),.agg (faC Fa.zero)]):=sc
 have hG:=hg l hf h
 have hsp':(sp l ⟨0,h⟩>>=fun x=>.ok ((),x):Except Fa (Unit×(α×(Ix l×Nat))))= .ok ((),(a,(k',c'))):=by rw[hsp];rfl
 generalize (sp l ⟨0,h⟩>>=fun x=>.ok ((),x):Except Fa (Unit×(α×(Ix l×Nat))))=q at hG hsp'
 subst hsp'
 clear hsp
 refine MNL.ofD (fn:=Tryz.f48) (fc:=101) (Nc:=[2004]) (sl:=[(0,.c (sS src)),(1,.c (.fn g [.ptr 1001 0]))]) Tryz.call48 Tryz.call101 Tryz.func48 rfl Tryz.ntmps48 Tryz.results48 rfl rfl (by decide) ?_
 refine AWD.seq ?_
 repeat'(first|(with_reducible first|apply ae|apply y_e|refine ag ?_)|((with_reducible apply ak);refine t_w (gS 2004 (by rfl) (by exact bo rfl)) ?_)|fail)
 refine AWD.seq ?_
 repeat'(first|(with_reducible first|apply ae|apply y_e|refine ag ?_)|((with_reducible apply ak);first|refine t_v AS.v ?_|refine t_v (by exact ah (hP:=sc)) ?_)|((with_reducible apply aX);refine t_s AS.s ?_)|fail)
 refine AWD.seq ?_
 repeat'(first|(with_reducible first|apply AW.seq|apply AW.skip|apply ae|apply y_e|refine ag ?_)|((with_reducible apply ak);refine t_v AS.v ?_)|((with_reducible refine av ?_);refine cg ?_)|fail)
 refine AWD.defer (l:=[_]) (by decide) rfl (by decide) ?_
 repeat'(first|(with_reducible first|apply AW.seq|apply AW.skip|apply ae|apply y_e|refine ag ?_)|((with_reducible apply ak);refine t_v AS.v ?_)|((with_reducible refine av ?_);refine cg ?_)|fail)
 refine⟨.pl rfl,?_⟩
 repeat'((fail_if_success (with_reducible refine ch 7 ?_));(first|(with_reducible first|apply AW.seq|apply ae|apply aD|apply y_e|refine ag ?_)|((with_reducible apply ak);first|refine t_v AS.v ?_|refine t_w AS.w ?_|refine IF (hP:=hG) (k1:=fun x k h=>?_) (k2:=fun e h=>?_))|fail))
 ·injection h with h
  injection h with h1 h2
  subst h2
  repeat'(first|(with_reducible first|apply AW.seq|apply ae|apply aD|apply y_e|refine ag ?_)|((with_reducible apply ak);first|refine t_v AS.v ?_|refine t_v (by exact bm (hP:=cr)) ?_|refine Lm (hP:=eC _ _) (k:=?_))|((with_reducible refine av ?_);((refine aj (fun hc=>?_) (fun hc=>?_);all_goals(try(exfalso;simp[*] at hc;done)))))|fail)
  exact RetD.mk (bx:=ftB Fa.zero) (bx':=ftB (flt 9 (tk k'))) (.inr ⟨_,rfl,rfl⟩) rfl (uC _ _ (show(tk k').text.size≤_ by omega)) rfl (vD rfl) vE (n_c (rW _) fun n hn=>by rw[List.mem_singleton.1 hn];rfl)
 ·cases h
theorem Fw {l:List Tok} (hsc:fS src= .ok l) (hbx:bx.one=true) (hg:pX g bx B sp) (h:0<l.length) {f:Fa} (hsp:sp l ⟨0,h⟩= .error f) (hs:f.name.size≤9223372036854775807) :
 MNL Tryz.prog 48 [(1001,bx)] [.c (sS src),.c (.fn g [.ptr 1001 0])] (.agg (faC f)) [(1001,.lost)]:=by
 have hf:=j3 hsc
 have sc:=su src
 rw[hsc] at sc
 have sc:Pure Tryz.prog 77 [.c (sS src)] (.tup [.c (.lst none 4 (l.map tkC)),.agg (faC Fa.zero)]):=sc
 have hG:=hg l hf h
 have hsp':(sp l ⟨0,h⟩>>=fun x=>.ok ((),x):Except Fa (Unit×(α×(Ix l×Nat))))= .error f:=by rw[hsp];rfl
 generalize (sp l ⟨0,h⟩>>=fun x=>.ok ((),x):Except Fa (Unit×(α×(Ix l×Nat))))=q at hG hsp'
 subst hsp'
 clear hsp
 refine MNL.ofD (fn:=Tryz.f48) (fc:=101) (Nc:=[2004]) (sl:=[(0,.c (sS src)),(1,.c (.fn g [.ptr 1001 0]))]) Tryz.call48 Tryz.call101 Tryz.func48 rfl Tryz.ntmps48 Tryz.results48 rfl rfl (by decide) ?_
 refine AWD.seq ?_
 repeat'(first|(with_reducible first|apply ae|apply y_e|refine ag ?_)|((with_reducible apply ak);refine t_w (gS 2004 (by rfl) (by exact bo rfl)) ?_)|fail)
 refine AWD.seq ?_
 repeat'(first|(with_reducible first|apply ae|apply y_e|refine ag ?_)|((with_reducible apply ak);first|refine t_v AS.v ?_|refine t_v (by exact ah (hP:=sc)) ?_)|((with_reducible apply aX);refine t_s AS.s ?_)|fail)
 refine AWD.seq ?_
 repeat'(first|(with_reducible first|apply AW.seq|apply AW.skip|apply ae|apply y_e|refine ag ?_)|((with_reducible apply ak);refine t_v AS.v ?_)|((with_reducible refine av ?_);refine cg ?_)|fail)
 refine AWD.defer (l:=[_]) (by decide) rfl (by decide) ?_
 repeat'(first|(with_reducible first|apply AW.seq|apply AW.skip|apply ae|apply y_e|refine ag ?_)|((with_reducible apply ak);refine t_v AS.v ?_)|((with_reducible refine av ?_);refine cg ?_)|fail)
 refine⟨.pl rfl,?_⟩
 repeat'((fail_if_success (with_reducible refine ch 7 ?_));(first|(with_reducible first|apply AW.seq|apply ae|apply aD|apply y_e|refine ag ?_)|((with_reducible apply ak);first|refine t_v AS.v ?_|refine t_w AS.w ?_|refine IF (hP:=hG) (k1:=fun x k h=>?_) (k2:=fun e h=>?_))|fail))
 ·cases h
 ·injection h with h
  subst h
  refine RetD.mk (bx:=ftB Fa.zero) (bx':=ftB f) (.inr ⟨_,rfl,rfl⟩) rfl (uC _ _ hs) rfl (vD rfl) vE (n_c (rW _) fun n hn=>by rw[List.mem_singleton.1 hn];rfl)
theorem Cd (hbx:bx.one=true) (hg:pX g bx B sp) (hz:NZs sp):(∀ a,sr src sp= .ok a→MNL Tryz.prog 48 [(1001,bx)] [.c (sS src),.c (.fn g [.ptr 1001 0])] (.agg (faC Fa.zero)) [(1001,B a)])∧
 ∀ f,sr src sp= .error f→f.code≠0∧∃ o:HO,((∀ d,o.within d=true)∧∀ ns,o.ren ns=o)∧MNL Tryz.prog 48 [(1001,bx)] [.c (sS src),.c (.fn g [.ptr 1001 0])] (.agg (faC f)) [(1001,o)]:=by
 refine⟨fun a ha=>?_,fun f hf=>⟨Fu src hz hf,?_⟩⟩
 ·unfold sr at ha
  obtain ⟨l,hsc,ha⟩:=az.1 ha
  split at ha
  ·rename_i h
   obtain ⟨⟨a',k',c'⟩,hsp,ha⟩:=az.1 ha
   dsimp only at ha
   split at ha
   ·rename_i h0
    injection ha with ha
    subst ha
    exact Iv hsc hbx hg h hsp h0
   ·cases ha
  ·cases ha
 ·unfold sr at hf
  rcases dr hf with hsc|⟨l,hsc,hf⟩
  ·exact⟨_,⟨fun d=>eS hbx,fun ns=>iE hbx⟩,Ce hsc⟩
  ·split at hf
   ·rename_i h
    rcases dr hf with hsp|⟨⟨a',k',c'⟩,hsp,hf⟩
    ·refine⟨_,⟨fun d=>rfl,fun ns=>rfl⟩,Fw hsc hbx hg h hsp ?_⟩
     rcases (hz l ⟨0,h⟩ f hsp).2 with e|⟨t,ht,e⟩
     ·rw[e];decide
     ·rw[e];have:=yf hsc t ht;omega
    ·dsimp only at hf
     split at hf
     ·cases hf
     ·rename_i h0
      injection hf with hf
      subst hf
      have ho:(B a').one=true:=by
       have:=((hg l (j3 hsc) h).hO (a',(k',c'))).2
       simp only[List.all_cons,List.all_nil,Bool.and_true,Bool.and_eq_true] at this
       exact this.2
      exact⟨_,⟨fun d=>eS ho,fun ns=>iE ho⟩,Fv hsc hbx hg h hsp h0⟩
   ·rename_i h
    exact absurd (j3 hsc).pos h
end
section
variable {P:Program} {ρ:Operand→Option V} {H:Nat→Option HO} {d:Option Nat} {ty:TypeId} {pos:String} {af:Array Edge} {gu:Option (Nat×Bool)} {x:Operand} {args:Array Operand} {ats:Array TypeId}
theorem ym {f g n:Nat} {bx o:HO} {src:ByteArray} {r:V} (hP:MNL P f [(1001,bx)] [.c (sS src),.c (.fn g [.ptr 1001 0])] r [(1001,o)]) (hw:(∀ d,o.within d=true)∧∀ ns,o.ren ns=o) (hb:bx.one=true) (hr:V.ok noN r=true) (hx:Ev ρ x (.c (.fn f [])):=by exact aB) (hv:EvL ρ args.toList [.c (sS src),.c (.fn g [.ptr n 0])]:=by(first|((repeat(first|exact .nil|((apply EvL.cons);(· (first|(refine .wh rfl ?_;first|assumption|(rw[hp];rfl)|(simp_all;done))|exact .pl rfl)))));done)|fail)) (hn:H n=some bx:=by rfl) :
 AS P ρ H ⟨d,.call {callee:=.value x,args:=args,argTypes:=ats},ty,pos,af,gu⟩ ⟨r,[(n,o)],[n]⟩:=by
 have hk:okB [1001] [(1001,n)]=true:=by simp[okB,byT,swT]
 have hu:RnL [(1001,n)] [1001] ([.c (sS src),.c (.fn g [.ptr n 0])]++([]:List C).map V.c) [.c (sS src),.c (.fn g [.ptr 1001 0])]:=.cl rfl (.fn1 rfl rfl .nil)
 obtain ⟨k1,k2⟩:=hu.ok hk
 have hg:GvL [(1001,n)] H [(1001,bx)]:=.cons hn hb .nil
 exact H8 [(1001,n)] hx hv hP hk rfl k1 k2 hg.giv hg.within rfl (by simp[hw.1]) (lD _ hr) (lK _ hr) (by simp[tak,byT,hw.2]) rfl
end
end Am
end Go.Proofs.YtkpodagbefnebaaGreatDoor
