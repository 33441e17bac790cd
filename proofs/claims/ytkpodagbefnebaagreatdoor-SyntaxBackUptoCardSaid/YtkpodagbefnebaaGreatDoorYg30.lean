import Derived.Test.YtkpodagbefnebaaGreatDoorYg29
import Derived.Test.YtkpodagbefnebaaGreatDoorYg26
set_option linter.unusedSimpArgs false
set_option linter.unusedVariables false
set_option linter.unusedSectionVars false
namespace Go.Proofs.YtkpodagbefnebaaGreatDoor
namespace Am
open Tk
set_option maxRecDepth 100000
set_option maxHeartbeats 4000000
theorem xb (a b:Int):IntKind.i64.wrap (IntKind.i64.wrap a+b)=IntKind.i64.wrap (a+b):=by
 simp only[IntKind.wrap_i64];omega
theorem Ja (a b:Int):IntKind.i64.wrap (a+IntKind.i64.wrap b)=IntKind.i64.wrap (a+b):=by
 simp only[IntKind.wrap_i64];omega
theorem pf:∀ (n:Nat) (l:List Stm),SizeOf.sizeOf l<n→Pure Tryz.prog 75 [.c (.lst none 55 (l.map stC))] (.c (sI (gV l)))
 |0,_,h=>absurd h (Nat.not_lt_zero _)
 |n+1,l,h=>by
  have ht:∀ x∈l,Pure Tryz.prog 75 [.c (.lst none 55 (x.thn.map stC))] (.c (sI (gV x.thn))):=fun x hx=>pf n x.thn (by have:=List.sizeOf_lt_of_mem hx;have:=ka x;omega)
  have he:∀ x∈l,Pure Tryz.prog 75 [.c (.lst none 55 (x.els.map stC))] (.c (sI (gV x.els))):=fun x hx=>pf n x.els (by have:=List.sizeOf_lt_of_mem hx;have:=jZ x;omega)
  have hq:=qY l
  unfold gV
  rw[hq]
  clear hq
  refine fn1 (fn:=Tryz.f75) Tryz.call75 Tryz.func75 rfl Tryz.ntmps75 Tryz.results75 rfl (by rfl) ?_
  refine AW.fact (t:=0) rfl (fun κ w x hr=>gB hr) fun hn=>?_
  repeat'(first|(with_reducible first|apply AW.seq|apply AW.block|apply AW.ret|apply AW.exit|apply ae|apply aG|apply aT|apply y_e|refine ag ?_)|((with_reducible apply ak);refine t_v AS.v ?_)|((with_reducible refine av ?_);((refine aj (fun hc=>?_) (fun hc=>?_);all_goals(try(exfalso;simp[*] at hc;done)))))|((with_reducible refine aF ?_);refine k_i ?_)|fail)
  refine AW.loop (fun n σ=>∃ j,n=l.length - j∧j≤l.length∧σ=mk [(0,.c (.lst none 55 (l.map stC))),(3,.c (sI (IntKind.i64.wrap ((l.length+((l.take j).map gk).sum:Nat):Int)))),(4,.c (sI j))] []) l.length ?_ ?_
  ·have e:((l.map stC).length:Int)=IntKind.i64.wrap ((l.length+((l.take 0).map gk).sum:Nat):Int):=by
    simp only[List.length_map,List.take_zero,List.map_nil,List.sum_nil,Nat.add_zero]
    rw[wrap64 (by omega) (by omega)]
   rw[e]
   refine⟨_,?_,0,rfl,Nat.zero_le _,rfl⟩
   rw[← e]
   exact wkA
  rintro m σ ⟨j,rfl,hj,rfl⟩
  by_cases hlt:j<l.length
  ·obtain ⟨x,hx⟩:∃ x,l[j]? =some x:=⟨_,List.getElem?_eq_getElem hlt⟩
   have hm:=List.mem_of_getElem? hx
   have hs:=uY (f:=gk) hx
   have hx2:=la x
   have ht:=ht x hm
   have he:=he x hm
   generalize hS:((l.take j).map gk).sum=S at *
   repeat'(first|(with_reducible first|apply AW.seq|apply AW.block|apply AW.skip|apply ae|apply ay|apply y_e|refine ag ?_|refine bh ?_)|((with_reducible apply ak);first|refine t_v AS.v ?_|refine t_v (by first|exact ah (hP:=ht)|exact ah (hP:=he)) ?_)|((with_reducible refine av ?_);((refine aj (fun hc=>?_) (fun hc=>?_);all_goals(try(exfalso;simp[*] at hc;done)))))|(refine⟨by decide +kernel,?_⟩)|fail)
   have e:IntKind.i64.wrap (IntKind.i64.wrap (IntKind.i64.wrap ((l.length+S:Nat):Int)+gV x.thn)+gV x.els)=IntKind.i64.wrap ((l.length+((l.take (j+1)).map gk).sum:Nat):Int):=by
    unfold gV
    rw[Ja,xb,Int.add_assoc,xb,Int.add_left_comm,xb,hs]
    congr 1
    omega
   rw[e]
   exact⟨_,_,(show l.length - (j+1)<l.length - j by omega),wkA,j+1,rfl,hlt,rfl⟩
  ·rw[List.take_of_length_le (by omega)]
   repeat'(first|(with_reducible first|apply AW.seq|apply AW.block|apply AW.ret|apply AW.exit|apply ae|apply aG|apply aT|apply y_e|refine ag ?_)|((with_reducible apply ak);refine t_v AS.v ?_)|((with_reducible refine av ?_);((refine aj (fun hc=>?_) (fun hc=>?_);all_goals(try(exfalso;simp[*] at hc;done)))))|((with_reducible refine aF ?_);refine k_i ?_)|fail)
   rfl
theorem C0 (l:List Stm):Pure Tryz.prog 75 [.c (.lst none 55 (l.map stC))] (.c (sI (gV l))):=pf _ l (Nat.lt_succ_self _)
theorem um (m:Mo):Pure Tryz.prog 30 [.agg (moC m)] (.c (sI (gV m.stmts))):=by
 refine fn1 (fn:=Tryz.f30) Tryz.call30 Tryz.func30 rfl Tryz.ntmps30 Tryz.results30 rfl (by rfl) ?_
 repeat'(first|(with_reducible first|apply AW.seq|apply AW.ret|apply ae|apply y_e|refine ag ?_)|((with_reducible apply ak);first|refine t_v AS.v ?_|refine t_v (by exact ah (hP:=C0 _)) ?_|refine t_w AS.w ?_)|((with_reducible refine aF ?_);refine k_i ?_)|fail)
 rfl
theorem pg:∀ (n:Nat) (l:List Stm),SizeOf.sizeOf l<n→dpL l≤4611686018427387904→Pure Tryz.prog 70 [.c (.lst none 55 (l.map stC))] (.c (sI (dpL l)))
 |0,_,h,_=>absurd h (Nat.not_lt_zero _)
 |n+1,l,h,hb=>by
  have ht:∀ x∈l,dpL x.thn≤4611686018427387904→Pure Tryz.prog 70 [.c (.lst none 55 (x.thn.map stC))] (.c (sI (dpL x.thn))):=fun x hx=>pg n x.thn (by have:=List.sizeOf_lt_of_mem hx;have:=ka x;omega)
  have he:∀ x∈l,dpL x.els≤4611686018427387904→Pure Tryz.prog 70 [.c (.lst none 55 (x.els.map stC))] (.c (sI (dpL x.els))):=fun x hx=>pg n x.els (by have:=List.sizeOf_lt_of_mem hx;have:=jZ x;omega)
  refine fn1 (fn:=Tryz.f70) Tryz.call70 Tryz.func70 rfl Tryz.ntmps70 Tryz.results70 rfl (by rfl) ?_
  refine AW.fact (t:=0) rfl (fun κ w x hr=>gB hr) fun hn=>?_
  repeat'(first|(with_reducible first|apply AW.seq|apply AW.block|apply AW.skip|apply AW.ret|apply AW.exit|apply ae|apply aG|apply ay|apply aT|apply y_e|refine ag ?_)|((with_reducible apply ak);refine t_v AS.v ?_)|((with_reducible apply bt);refine t_m (hs:=fun hg=>AS.v) (k:=?_))|((with_reducible refine av ?_);((refine aj (fun hc=>?_) (fun hc=>?_);all_goals(try(exfalso;simp[*] at hc;done)))))|((with_reducible refine aF ?_);refine k_i ?_)|fail)
  refine AW.loop (fun n σ=>∃ j,n=l.length - j∧j≤l.length∧σ=mk [(0,.c (.lst none 55 (l.map stC))),(3,.c (sI (dpL (l.take j):Nat))),(4,.c (sI j))] []) l.length ?_ ?_
  ·exact⟨_,wkA,0,rfl,Nat.zero_le _,rfl⟩
  rintro m σ ⟨j,rfl,hj,rfl⟩
  by_cases hlt:j<l.length
  ·obtain ⟨x,hx⟩:∃ x,l[j]? =some x:=⟨_,List.getElem?_eq_getElem hlt⟩
   have hm:=List.mem_of_getElem? hx
   have hs:=xw hx
   have hle:=Gt l (j+1)
   have hx2:=Ay x
   by_cases hk:0<x.thn.length∨0<x.els.length
   ·rw[if_pos hk] at hx2
    have b1:dpL x.thn≤4611686018427387904:=by omega
    have b2:dpL x.els≤4611686018427387904:=by omega
    have ht:=ht x hm b1
    have he:=he x hm b2
    have e:max (max ((dpL (l.take j):Nat):Int) (1+(dpL x.thn:Int))) (1+(dpL x.els:Int))=(dpL (l.take (j+1)):Nat):=by omega
    clear hs hx2 hle
    repeat'(first|(with_reducible first|apply AW.seq|apply AW.block|apply AW.skip|apply ae|apply ay|apply y_e|refine ag ?_|refine bh ?_)|((with_reducible apply ak);first|refine t_v AS.v ?_|refine t_v (by first|exact ah (hP:=ht)|exact ah (hP:=he)) ?_)|((with_reducible apply bt);refine t_m (hs:=fun hg=>AS.v) (k:=?_))|((with_reducible refine av ?_);((refine aj (fun hc=>?_) (fun hc=>?_);all_goals(try(exfalso;simp[*] at hc;done)))))|(refine⟨by decide +kernel,?_⟩)|fail)
    ·exact⟨_,_,(show l.length - (j+1)<l.length - j by omega),wkA,j+1,rfl,hlt,rfl⟩
    ·exfalso;simp only[List.length_map,Bool.or_eq_false_iff,decide_eq_false_iff_not] at hc;omega
   ·rw[if_neg hk] at hx2
    have e:dpL (l.take (j+1))=dpL (l.take j):=by omega
    clear hs hx2 hle
    have h1:x.thn.length=0:=by omega
    have h2:x.els.length=0:=by omega
    repeat'(first|(with_reducible first|apply AW.seq|apply AW.block|apply AW.skip|apply AW.ret|apply AW.exit|apply ae|apply aG|apply ay|apply aT|apply y_e|refine ag ?_)|((with_reducible apply ak);refine t_v AS.v ?_)|((with_reducible apply bt);refine t_m (hs:=fun hg=>AS.v) (k:=?_))|((with_reducible refine av ?_);((refine aj (fun hc=>?_) (fun hc=>?_);all_goals(try(exfalso;simp[*] at hc;done)))))|((with_reducible refine aF ?_);refine k_i ?_)|fail)
    ·rw[← e]
     exact⟨_,_,(show l.length - (j+1)<l.length - j by omega),wkA,j+1,rfl,hlt,rfl⟩
  ·rw[List.take_of_length_le (by omega)]
   repeat'(first|(with_reducible first|apply AW.seq|apply AW.block|apply AW.skip|apply AW.ret|apply AW.exit|apply ae|apply aG|apply ay|apply aT|apply y_e|refine ag ?_)|((with_reducible apply ak);refine t_v AS.v ?_)|((with_reducible apply bt);refine t_m (hs:=fun hg=>AS.v) (k:=?_))|((with_reducible refine av ?_);((refine aj (fun hc=>?_) (fun hc=>?_);all_goals(try(exfalso;simp[*] at hc;done)))))|((with_reducible refine aF ?_);refine k_i ?_)|fail)
   rfl
theorem C1 {l:List Stm} (hb:dpL l≤4611686018427387904):Pure Tryz.prog 70 [.c (.lst none 55 (l.map stC))] (.c (sI (dpL l))):=pg _ l (Nat.lt_succ_self _) hb
end Am
namespace Am
open Tk
set_option maxRecDepth 100000
set_option maxHeartbeats 4000000
theorem Fg (s:Stm):Pure Tryz.prog 140 [.agg (stC s)] (.agg (stC (bw s))):=by
 refine fn1 (fn:=Tryz.f140) Tryz.call140 Tryz.func140 rfl Tryz.ntmps140 Tryz.results140 rfl (by simp[V.ok,okL,C.ok,okA,okV]) ?_
 repeat'((fail_if_success (with_reducible refine ch 2 ?_));(first|(with_reducible first|apply AW.seq|apply ae|apply y_e|refine ag ?_)|((with_reducible apply ak);first|refine t_v AS.v ?_|refine t_w AS.w ?_)|((with_reducible apply aX);refine t_s AS.s ?_)|fail))
 refine AW.weak (σ':=mk [(1,.c (.ptr 1 0)),(2,.c (.ptr 2 0)),(3,.c (.ptr 3 0))] [(1,.obj 69 (stC s)),(2,.obj 69 (stC Stm.zero)),(3,.obj 69 (stC {Stm.zero with kind:=s.kind}))]) (wkA) ?_
 repeat'(first|(with_reducible first|apply AW.seq|apply AW.block|apply AW.skip|apply AW.ret|apply ae|apply ay|apply y_e|refine ag ?_|refine bh ?_)|((with_reducible apply ak);refine t_v AS.v ?_)|((with_reducible apply aX);refine t_s AS.s ?_)|((with_reducible refine av ?_);((refine aj (fun hc=>?_) (fun hc=>?_);all_goals(try(exfalso;simp[*] at hc;done)))))|((with_reducible refine aF ?_);refine k_c ?_)|(refine⟨by decide +kernel,?_⟩)|fail)
 all_goals
  simp only[decide_eq_true_eq,decide_eq_false_iff_not] at *
  simp[bw,unA, *]
theorem Ff (s:Stm):Pure Tryz.prog 137 [.agg (stC s)] (.c (sB (cY s))):=by
 refine fn1 (fn:=Tryz.f137) Tryz.call137 Tryz.func137 rfl Tryz.ntmps137 Tryz.results137 rfl (by rfl) ?_
 repeat'(first|(with_reducible first|apply AW.seq|apply AW.block|apply AW.skip|apply AW.ret|apply ae|apply ar|apply ay|apply aJ|apply y_e|refine ag ?_)|((with_reducible apply ak);first|refine t_v AS.v ?_|refine t_v (by exact ah (hP:=gv _)) ?_|refine t_w AS.w ?_)|((with_reducible apply bt);first|refine t_m (hs:=fun hg=>AS.v) (k:=?_)|refine t_m (hs:=fun hg=>(by first|exact ah (hP:=ph _ _)|exact ah (hP:=uu _)|exact ah (hP:=we _ _)|exact ah (hP:=pj _)|exact ah (hP:=jL _)|exact ah (hP:=pe _))) (k:=?_))|((with_reducible refine av ?_);((refine aj (fun hc=>?_) (fun hc=>?_);all_goals(try(exfalso;simp[*] at hc;done)))))|((with_reducible refine aF ?_);refine k_b ?_)|fail)
 all_goals
  simp only[decide_eq_true_eq,decide_eq_false_iff_not] at *
  simp[cY, *]
theorem Fb (e:Ex) (v:Bool):Pure Tryz.prog 200 [.agg (exC e),.c (sB v),.c (sI 12)] (.c (sB (gE e v))):=by
 have:=y5 v _ e 12 (Nat.lt_succ_self _) (by omega) (by omega)
 rwa [show(13:Int) - 12=1 by omega] at this
theorem Fj (s:Stm):Pure Tryz.prog 138 [.agg (stC s)] (.c (sB (dE s))):=by
 refine fn1 (fn:=Tryz.f138) Tryz.call138 Tryz.func138 rfl Tryz.ntmps138 Tryz.results138 rfl (by rfl) ?_
 repeat'(first|(with_reducible first|apply AW.seq|apply AW.block|apply AW.skip|apply AW.ret|apply ae|apply ar|apply ay|apply aJ|apply y_e|refine ag ?_)|((with_reducible apply ak);first|refine t_v AS.v ?_|refine t_v (by exact ah (hP:=we _ _)) ?_|refine t_w AS.w ?_)|((with_reducible apply bt);first|refine t_m (hs:=fun hg=>AS.v) (k:=?_)|refine t_m (hs:=fun hg=>(by first|exact ah (hP:=gv _)|exact ah (hP:=we _ _)|exact ah (hP:=Fb _ _)|exact ah (hP:=jL _)|exact ah (hP:=pe _)|exact ah (hP:=C5 _)|exact ah (hP:=zc _))) (k:=?_))|((with_reducible refine av ?_);((refine aj (fun hc=>?_) (fun hc=>?_))))|((with_reducible refine aF ?_);refine k_b ?_)|fail)
 all_goals
  simp only[decide_eq_true_eq,decide_eq_false_iff_not] at *
  simp[dE,gZ, *]
theorem yK (n:Nat):decide ((0:Int)<(n:Int))=decide (0<n):=decide_eq_decide.2 (by omega)
theorem sf:∀ (n:Nat) (l:List Stm),SizeOf.sizeOf l<n→Pure Tryz.prog 71 [.c (.lst none 55 (l.map stC))] (.c (sB (l.all fmB)))
 |0,_,h=>absurd h (Nat.not_lt_zero _)
 |n+1,l,h=>by
  have it:∀ x∈l,Pure Tryz.prog 71 [.c (.lst none 55 (x.thn.map stC))] (.c (sB (x.thn.all fmB))):=fun x hx=>sf n x.thn (by have:=List.sizeOf_lt_of_mem hx;have:=ka x;omega)
  have ie:∀ x∈l,Pure Tryz.prog 71 [.c (.lst none 55 (x.els.map stC))] (.c (sB (x.els.all fmB))):=fun x hx=>sf n x.els (by have:=List.sizeOf_lt_of_mem hx;have:=jZ x;omega)
  refine fn1 (fn:=Tryz.f71) Tryz.call71 Tryz.func71 rfl Tryz.ntmps71 Tryz.results71 rfl (by rfl) ?_
  refine AW.fact (t:=0) rfl (fun κ w x hr=>gB hr) fun hn=>?_
  repeat'(first|(with_reducible first|apply AW.seq|apply AW.block|apply ae|apply y_e|refine ag ?_)|((with_reducible apply ak);refine t_v AS.v ?_)|fail)
  refine AW.loop (fun m σ=>∃ j,m=l.length - j∧j≤l.length∧(l.take j).all fmB=true∧σ=mk [(0,.c (.lst none 55 (l.map stC))),(3,.c (sI j))] []) l.length ?_ ?_
  ·exact⟨_,wkA,0,rfl,Nat.zero_le _,rfl,rfl⟩
  rintro m σ ⟨j,rfl,hj,ha,rfl⟩
  by_cases hlt:j<l.length
  ·obtain ⟨x,hx⟩:∃ x,l[j]? =some x:=⟨_,List.getElem?_eq_getElem hlt⟩
   have hm:=List.mem_of_getElem? hx
   have it:=it x hm
   have ie:=ie x hm
   have hw:fmB x=((if x.kind=1∨x.kind=2∨x.kind=3∨x.kind=4∨x.kind=5∨x.kind=8∨x.kind=9∨x.kind=10∨x.kind=11∨x.kind=19∨x.kind=20∨x.kind=23 then cY x
    else if x.kind=6∨x.kind=7∨x.kind=12∨x.kind=13∨x.kind=14∨x.kind=15∨x.kind=16∨x.kind=21∨x.kind=22 then dE x
    else if x.kind=17 then decide (cB 1 x.cond=0)&&decide (0<x.thn.length)&&x.thn.all fmB&&x.els.all fmB
    else if x.kind=18 then decide (0<x.thn.length)&&x.thn.all fmB&&x.els.all fmB else false)&&du (bw x) x):=ll x
   repeat'(first|(with_reducible first|apply AW.seq|apply AW.block|apply AW.skip|apply AW.ret|apply ae|apply ar|apply ay|apply aJ|apply y_e|refine ag ?_|refine bh ?_)|((with_reducible apply ak);first|refine t_v AS.v ?_|refine t_v (by first|exact ah (hP:=Ff _)|exact ah (hP:=Fj _)|exact ah (hP:=uq _)) ?_|refine t_w AS.w ?_)|((with_reducible apply bt);first|refine t_f ?_|refine t_m (hs:=fun hg=>AS.v) (k:=?_)|refine t_m (hs:=fun hg=>(by first|exact ah (hP:=it)|exact ah (hP:=ie)|exact ah (hP:=Fg _)|exact ah (hP:=uy _ _))) (k:=?_))|((with_reducible apply aX);refine t_s AS.s ?_)|((with_reducible refine av ?_);first|refine cO ?_|(refine aj (fun hc=>?_) (fun hc=>?_);all_goals(try(exfalso;simp[*] at hc;done))))|((with_reducible refine aF ?_);refine k_b ?_)|(refine⟨by decide +kernel,?_⟩)|fail)
   all_goals
    clear it ie
    (try simp only[decide_eq_true_eq,decide_eq_false_iff_not,List.length_map,yK] at *)
    first
    |(rw[j8 hx (by simp[*] at hw ⊢ <;> grind)];done)
    |exact⟨_,_,(show l.length - (j+1)<l.length - j by omega),wkA,j+1,rfl,hlt,ek hx ha (by simp[*] at hw ⊢ <;> grind),rfl⟩
    |(rw[j8 hx (by simp[*] at hw;exact hw)];done)
  ·repeat'(first|(with_reducible first|apply AW.seq|apply AW.ret|apply AW.exit|apply ae|apply aG|apply aT|apply y_e|refine ag ?_)|((with_reducible apply ak);refine t_v AS.v ?_)|((with_reducible refine av ?_);((refine aj (fun hc=>?_) (fun hc=>?_);all_goals(try(exfalso;simp[*] at hc;done)))))|((with_reducible refine aF ?_);refine k_b ?_)|fail)
   rw[iu ha (by omega)]
theorem pc {m:Mo} (h2:dpL m.stmts≤4611686018427387904):Pure Tryz.prog 27 [.agg (moC m)] (.c (sI (fU m))):=by
 refine fn1 (fn:=Tryz.f27) Tryz.call27 Tryz.func27 rfl Tryz.ntmps27 Tryz.results27 rfl (by rfl) ?_
 repeat'(first|(with_reducible first|apply AW.seq|apply AW.block|apply AW.skip|apply AW.ret|apply ae|apply ar|apply ay|apply aJ|apply y_e|refine ag ?_)|((with_reducible apply ak);first|refine t_v AS.v ?_|refine t_v (by first|exact ah (hP:=gv _)|exact ah (hP:=um _)|exact ah (hP:=sf _ _ (Nat.lt_succ_self _))) ?_|refine t_w AS.w ?_)|((with_reducible apply bt);first|refine t_m (hs:=fun hg=>AS.v) (k:=?_)|refine t_m (hs:=fun hg=>(by exact ah (hP:=C1 h2))) (k:=?_))|((with_reducible refine av ?_);((refine aj (fun hc=>?_) (fun hc=>?_))))|((with_reducible refine aF ?_);refine k_i ?_)|fail)
 all_goals
  unfold fU
  grind
end Am
namespace Am
open Tk
set_option maxRecDepth 100000
set_option maxHeartbeats 4000000
theorem yL (n:Nat):jb (n+1)=jb n++⟨#[32,32]⟩:=by
 unfold jb Fp
 apply ByteArray.ext
 rw[ByteArray.data_append]
 apply Array.ext'
 rw[Array.toList_append]
 show Lib.repeatL [32,32] (n+1)=Lib.repeatL [32,32] n++[32,32]
 induction n with
 |zero=>rfl
 |succ n ih=>
  have h:∀ m,Lib.repeatL ([32,32]:List UInt8) (m+1)=[32,32]++Lib.repeatL [32,32] m:=fun m=>rfl
  rw[h (n+1),ih,←List.append_assoc,←h n,ih]
theorem zb {n:Nat} (hn:n≤70368744177664):Pure Tryz.prog 202 [.c (sI n)] (.c (sS (jb n))):=by
 refine fn1 (fn:=Tryz.f202) Tryz.call202 Tryz.func202 rfl Tryz.ntmps202 Tryz.results202 rfl (by rfl) ?_
 repeat'(first|(with_reducible first|apply AW.seq|apply AW.block|apply AW.skip|apply AW.ret|apply AW.exit|apply ae|apply aG|apply ay|apply aT|apply y_e|refine ag ?_)|((with_reducible apply ak);refine t_v AS.v ?_)|((with_reducible refine av ?_);((refine aj (fun hc=>?_) (fun hc=>?_);all_goals(try(exfalso;simp[*] at hc;done)))))|((with_reducible refine aF ?_);refine k_s ?_)|fail)
 refine AW.loop (fun m σ=>∃ j,m=n - j∧j≤n∧σ=mk [(0,.c (sI n)),(3,.c (sS (jb j))),(4,.c (sI j))] []) n ?_ ?_
 ·exact⟨_,wkA,0,rfl,Nat.zero_le _,rfl⟩
 rintro m σ ⟨j,rfl,hj,rfl⟩
 by_cases hlt:j<n
 ·have hs:=mf j
  have e:=yL j
  repeat'(first|(with_reducible first|apply AW.seq|apply AW.block|apply AW.skip|apply AW.ret|apply AW.exit|apply ae|apply aG|apply ay|apply aT|apply y_e|refine ag ?_)|((with_reducible apply ak);refine t_v AS.v ?_)|((with_reducible refine av ?_);((refine aj (fun hc=>?_) (fun hc=>?_);all_goals(try(exfalso;simp[*] at hc;done)))))|((with_reducible refine aF ?_);refine k_s ?_)|fail)
  rw[← e]
  exact⟨_,_,(show n - (j+1)<n - j by omega),wkA,j+1,rfl,hlt,rfl⟩
 ·obtain rfl:j=n:=by omega
  repeat'(first|(with_reducible first|apply AW.seq|apply AW.block|apply AW.skip|apply AW.ret|apply AW.exit|apply ae|apply aG|apply ay|apply aT|apply y_e|refine ag ?_)|((with_reducible apply ak);refine t_v AS.v ?_)|((with_reducible refine av ?_);((refine aj (fun hc=>?_) (fun hc=>?_);all_goals(try(exfalso;simp[*] at hc;done)))))|((with_reducible refine aF ?_);refine k_s ?_)|fail)
  rfl
theorem pd {l:List Stm} {lv:Nat} (h:∀ x∈l,(stT lv x).size≤70368744177664→Pure Tryz.prog 141 [.agg (stC x),.c (sI lv)] (.c (sS (stT lv x)))) (hb:(dj lv l).size≤70368744177664) :
 Pure Tryz.prog 73 [.c (.lst none 55 (l.map stC)),.c (sI lv)] (.c (sS (⟨#[10]⟩++dj lv l))):=by
 refine fn2 (fn:=Tryz.f73) Tryz.call73 Tryz.func73 rfl Tryz.ntmps73 Tryz.results73 rfl (by rfl) ?_
 refine AW.fact (t:=0) rfl (fun κ w x hr=>gB hr) fun hn=>?_
 repeat'(first|(with_reducible first|apply AW.seq|apply AW.block|apply AW.ret|apply AW.exit|apply ae|apply aG|apply aT|apply y_e|refine ag ?_)|((with_reducible apply ak);refine t_v AS.v ?_)|((with_reducible refine av ?_);((refine aj (fun hc=>?_) (fun hc=>?_);all_goals(try(exfalso;simp[*] at hc;done)))))|((with_reducible refine aF ?_);refine k_s ?_)|fail)
 refine AW.loop (fun n σ=>∃ j,n=l.length - j∧j≤l.length∧σ=mk [(0,.c (.lst none 55 (l.map stC))),(1,.c (sI lv)),(5,.c (sS (⟨#[10]⟩++dj lv (l.take j)))),(6,.c (sI j))] []) l.length ?_ ?_
 ·have e:(⟨#[10]⟩:ByteArray)++dj lv (l.take 0)=⟨#[10]⟩:=by rw[List.take_zero,dj,jv]
  refine⟨_,?_,0,rfl,Nat.zero_le _,rfl⟩
  rw[e]
  exact wkA
 rintro n σ ⟨j,rfl,hj,rfl⟩
 by_cases hlt:j<l.length
 ·obtain ⟨x,hx⟩:∃ x,l[j]? =some x:=⟨_,List.getElem?_eq_getElem hlt⟩
  have hle:=Ai (lv:=lv) l (j+1)
  have e1:=sW (lv:=lv) hx
  rw[e1,ByteArray.size_append,ByteArray.size_append] at hle
  have h1:ByteArray.size ⟨#[10]⟩=1:=rfl
  have hp:=h x (List.mem_of_getElem? hx) (by omega)
  repeat'(first|(with_reducible first|apply AW.seq|apply AW.block|apply AW.skip|apply ae|apply ay|apply y_e|refine ag ?_)|((with_reducible apply ak);first|refine t_v AS.v ?_|refine t_v (by exact ah (hP:=hp)) ?_)|((with_reducible refine av ?_);((refine aj (fun hc=>?_) (fun hc=>?_);all_goals(try(exfalso;simp[*] at hc;done)))))|fail)
  have e:(⟨#[10]⟩:ByteArray)++dj lv (l.take j)++stT lv x++⟨#[10]⟩=⟨#[10]⟩++dj lv (l.take (j+1)):=by rw[e1];simp only[ByteArray.append_assoc]
  rw[e]
  exact⟨_,_,(show l.length - (j+1)<l.length - j by omega),wkA,j+1,rfl,hlt,rfl⟩
 ·rw[List.take_of_length_le (by omega)]
  repeat'(first|(with_reducible first|apply AW.seq|apply AW.block|apply AW.ret|apply AW.exit|apply ae|apply aG|apply aT|apply y_e|refine ag ?_)|((with_reducible apply ak);refine t_v AS.v ?_)|((with_reducible refine av ?_);((refine aj (fun hc=>?_) (fun hc=>?_);all_goals(try(exfalso;simp[*] at hc;done)))))|((with_reducible refine aF ?_);refine k_s ?_)|fail)
  rfl
theorem yO (a b:List UInt8):(⟨a.toArray⟩:ByteArray)++⟨b.toArray⟩=⟨(a++b).toArray⟩:=by
 apply ByteArray.ext;simp[ByteArray.data_append]
theorem Eu {s:Stm} (k:s.kind=17):jC s=⟨#[105,102,32]⟩++btT s.cond 0++⟨#[32,123]⟩++⟨#[10]⟩:=by
 unfold jC
 rw[if_pos k]
 simp only[cq,tlB,jv,ByteArray.append_assoc]
 rw[show(⟨#[105,102,32]⟩:ByteArray)=⟨#[105,102]⟩++⟨#[32]⟩ from(yO [105,102] [32]).symm,show(⟨#[32,123]⟩:ByteArray)=⟨#[32]⟩++⟨#[123]⟩ from(yO [32] [123]).symm,show(⟨#[123,10]⟩:ByteArray)=⟨#[123]⟩++⟨#[10]⟩ from(yO [123] [10]).symm]
 simp only[ByteArray.append_assoc]
theorem B2 {s:Stm} (k:s.kind=18):jC s=⟨#[111,112,116,105,111,110,97,108,32,123]⟩++⟨#[10]⟩:=by
 unfold jC
 rw[if_neg (by omega)]
 simp only[cq,tlB,jv]
 rfl
theorem tp:(⟨#[32,101,108,115,101,32,123,10]⟩:ByteArray)=⟨#[32,101,108,115,101,32,123]⟩++⟨#[10]⟩:=(yO [32,101,108,115,101,32,123] [10]).symm
theorem Az {s:Stm} (h:fmB s=true) (k:s.kind=5):fV s.source= !au s.source false:=by
 rw[ll] at h
 unfold bz at h
 rw[Bool.and_eq_true] at h
 have h:=h.1
 simp only[k,Int.reduceEq,or_true,true_or,or_self,or_false,false_or,if_true,↓reduceIte,cY,if_false,Bool.and_eq_true] at h
 have h2:=h.2
 revert h2
 cases hn:au s.source false with
 |true=>
  intro _
  cases he:fV s.source with
  |false=>rfl
  |true=>
   exfalso
   simp[fV] at he
   simp[au,he] at hn
 |false=>
  intro h2
  simpa using h2
theorem jh:∀ (n:Nat) (s:Stm),SizeOf.sizeOf s<n→stW s→fmB s=true→∀ (lv:Nat),(stT lv s).size≤70368744177664→Pure Tryz.prog 141 [.agg (stC s),.c (sI lv)] (.c (sS (stT lv s)))
 |0,_,h,_,_,_,_=>absurd h (Nat.not_lt_zero _)
 |n+1,s,h,hW,hf,lv,hb=>by
  have hfw:=hf
  rw[ll] at hfw
  have hemp:=Az hf
  rw[wA] at hW
  obtain ⟨⟨hr,hbd,hc2⟩,w1,w2⟩:=hW
  rw[Cs] at hb ⊢
  have hlv:lv≤70368744177664:=by
   have:=mf lv
   unfold stH at hb
   split at hb <;> simp only[ByteArray.size_append] at hb <;> omega
  have hind:=zb hlv
  by_cases hp:s.kind≠17∧s.kind≠18
  ·have e1:stH lv s (dj (lv+1) s.thn) (dj (lv+1) s.els)=jb lv++(bk s++⟨#[59]⟩):=by unfold stH;rw[if_pos hp]
   rw[e1] at hb ⊢
   simp only[ByteArray.size_append,bC,List.size_toArray,List.length_cons,List.length_nil] at hb
   have hrk:=hr hp.1 hp.2
   have hkk:=hrk.rk
   obtain ⟨p1,p2⟩:=hp
   by_cases hrule:s.kind=6∨s.kind=7∨s.kind=12∨s.kind=13∨s.kind=14∨s.kind=15∨s.kind=16∨s.kind=21∨s.kind=22
   ·have hl:=C3 hrule hrk hbd
    clear hr hbd hc2 w1 w2 e1 h hfw hemp hrk
    rcases hrule with k|k|k|k|k|k|k|k|k
    all_goals
     refine fn2 (fn:=Tryz.f141) Tryz.call141 Tryz.func141 rfl Tryz.ntmps141 Tryz.results141 rfl (by rfl) ?_
     repeat'(first|(with_reducible first|apply AW.seq|apply AW.block|apply AW.skip|apply AW.ret|apply ae|apply ar|apply ay|apply aJ|apply y_e|refine ag ?_)|((with_reducible apply ak);first|refine t_v AS.v ?_|refine t_v (by first|exact ah (hP:=hind)|exact ah (hP:=hl)) ?_|refine t_w AS.w ?_)|((with_reducible refine av ?_);((refine aj (fun hc=>?_) (fun hc=>?_);all_goals(try(exfalso;simp[*] at hc;done)))))|((with_reducible refine aF ?_);refine k_s ?_)|fail)
     simp only[ByteArray.append_assoc]
   ·have hl:=ur (s:=s) (by unfold Aw;omega) hemp hrk hbd
    clear hr hbd hc2 w1 w2 e1 h hfw hemp hrk
    simp only[not_or] at hrule
    obtain ⟨k1,k2,k3,k4,k5,k6,k7,k8,k9⟩:=hrule
    refine fn2 (fn:=Tryz.f141) Tryz.call141 Tryz.func141 rfl Tryz.ntmps141 Tryz.results141 rfl (by rfl) ?_
    repeat'(first|(with_reducible first|apply AW.seq|apply AW.block|apply AW.skip|apply AW.ret|apply ae|apply ar|apply ay|apply aJ|apply y_e|refine ag ?_)|((with_reducible apply ak);first|refine t_v AS.v ?_|refine t_v (by first|exact ah (hP:=hind)|exact ah (hP:=hl)) ?_|refine t_w AS.w ?_)|((with_reducible refine av ?_);((refine aj (fun hc=>?_) (fun hc=>?_);all_goals(try(exfalso;simp[*] at hc;done)))))|((with_reducible refine aF ?_);refine k_s ?_)|fail)
    simp only[ByteArray.append_assoc]
  have hk:s.kind=17∨s.kind=18:=by omega
  have hall:s.thn.all fmB=true∧s.els.all fmB=true:=by
   unfold bz at hfw
   rw[Bool.and_eq_true] at hfw
   have hf:=hfw.1
   rcases hk with k|k
   ·simp only[k,Int.reduceEq,or_self,if_false,if_true,Bool.and_eq_true] at hf
    exact⟨hf.1.2,hf.2⟩
   ·simp only[k,Int.reduceEq,or_self,if_false,if_true,Bool.and_eq_true] at hf
    exact⟨hf.1.2,hf.2⟩
  have i1:(dj (lv+1) s.thn).size≤70368744177664→Pure Tryz.prog 73 [.c (.lst none 55 (s.thn.map stC)),.c (sI ((lv:Int)+1))] (.c (sS (⟨#[10]⟩++dj (lv+1) s.thn))):=fun hb=>
   pd (lv:=lv+1) (fun x hx hb'=>jh n x (by have:=mH hx;omega) (w1 x hx) (List.all_eq_true.1 hall.1 x hx) (lv+1) hb') hb
  have i2:(dj (lv+1) s.els).size≤70368744177664→Pure Tryz.prog 73 [.c (.lst none 55 (s.els.map stC)),.c (sI ((lv:Int)+1))] (.c (sS (⟨#[10]⟩++dj (lv+1) s.els))):=fun hb=>
   pd (lv:=lv+1) (fun x hx hb'=>jh n x (by have:=ma hx;omega) (w2 x hx) (List.all_eq_true.1 hall.2 x hx) (lv+1) hb') hb
  have hq:stH lv s (dj (lv+1) s.thn) (dj (lv+1) s.els)=jb lv++jC s++dj (lv+1) s.thn++jb lv++⟨#[125]⟩++(if 0<s.els.length then⟨#[32,101,108,115,101,32,123,10]⟩++dj (lv+1) s.els++jb lv++⟨#[125]⟩ else⟨#[]⟩):=by unfold stH;rw[if_neg hp]
  rw[hq,tp] at hb
  rw[hq,tp]
  have ht:s.kind=17→Pure Tryz.prog 203 [.agg (exC s.cond)] (.tup [.c (sS (btT s.cond 0)),.c (sI 0)]):=fun k=>Fc (hc2 k) (by have:=hbd.cond2 (hc2 k);omega)
  clear hq hr hbd hc2 w1 w2 h hp hfw hemp hf
  rcases hk with k|k
  ·rw[Eu k] at hb ⊢
   have ht:=ht k
   by_cases he:0<s.els.length
   ·rw[if_pos he] at hb ⊢
    simp only[ByteArray.size_append,bC,List.size_toArray,List.length_cons,List.length_nil] at hb
    have i1:=i1 (by omega)
    have i2:=i2 (by omega)
    refine fn2 (fn:=Tryz.f141) Tryz.call141 Tryz.func141 rfl Tryz.ntmps141 Tryz.results141 rfl (by rfl) ?_
    repeat'(first|(with_reducible first|apply AW.seq|apply AW.block|apply AW.skip|apply AW.ret|apply ae|apply ar|apply aJ|apply y_e|refine ag ?_)|((with_reducible apply ak);first|refine t_v AS.v ?_|refine t_v (by first|exact ah (hP:=hind)|exact ah (hP:=ht)|exact ah (hP:=i1)|exact ah (hP:=i2)) ?_|refine t_w AS.w ?_)|((with_reducible refine av ?_);((refine aj (fun hc=>?_) (fun hc=>?_);all_goals(try(exfalso;simp[*] at hc;done)))))|((with_reducible refine aF ?_);refine k_s ?_)|fail)
    all_goals(simp only[ByteArray.append_assoc])
   ·rw[if_neg he] at hb ⊢
    simp only[ByteArray.size_append,bC,List.size_toArray,List.length_cons,List.length_nil] at hb
    have i1:=i1 (by omega)
    clear i2
    refine fn2 (fn:=Tryz.f141) Tryz.call141 Tryz.func141 rfl Tryz.ntmps141 Tryz.results141 rfl (by rfl) ?_
    repeat'(first|(with_reducible first|apply AW.seq|apply AW.block|apply AW.skip|apply AW.ret|apply ae|apply ar|apply aJ|apply y_e|refine ag ?_)|((with_reducible apply ak);first|refine t_v AS.v ?_|refine t_v (by first|exact ah (hP:=hind)|exact ah (hP:=ht)|exact ah (hP:=i1)) ?_|refine t_w AS.w ?_)|((with_reducible refine av ?_);((refine aj (fun hc=>?_) (fun hc=>?_);all_goals(try(exfalso;simp[*] at hc;done)))))|((with_reducible refine aF ?_);refine k_s ?_)|fail)
    all_goals(simp only[ByteArray.append_assoc,xf])
  ·rw[B2 k] at hb ⊢
   clear ht
   by_cases he:0<s.els.length
   ·rw[if_pos he] at hb ⊢
    simp only[ByteArray.size_append,bC,List.size_toArray,List.length_cons,List.length_nil] at hb
    have i1:=i1 (by omega)
    have i2:=i2 (by omega)
    refine fn2 (fn:=Tryz.f141) Tryz.call141 Tryz.func141 rfl Tryz.ntmps141 Tryz.results141 rfl (by rfl) ?_
    repeat'(first|(with_reducible first|apply AW.seq|apply AW.block|apply AW.skip|apply AW.ret|apply ae|apply ar|apply aJ|apply y_e|refine ag ?_)|((with_reducible apply ak);first|refine t_v AS.v ?_|refine t_v (by first|exact ah (hP:=hind)|exact ah (hP:=i1)|exact ah (hP:=i2)) ?_|refine t_w AS.w ?_)|((with_reducible refine av ?_);((refine aj (fun hc=>?_) (fun hc=>?_);all_goals(try(exfalso;simp[*] at hc;done)))))|((with_reducible refine aF ?_);refine k_s ?_)|fail)
    all_goals(simp only[ByteArray.append_assoc])
   ·rw[if_neg he] at hb ⊢
    simp only[ByteArray.size_append,bC,List.size_toArray,List.length_cons,List.length_nil] at hb
    have i1:=i1 (by omega)
    clear i2
    refine fn2 (fn:=Tryz.f141) Tryz.call141 Tryz.func141 rfl Tryz.ntmps141 Tryz.results141 rfl (by rfl) ?_
    repeat'(first|(with_reducible first|apply AW.seq|apply AW.block|apply AW.skip|apply AW.ret|apply ae|apply ar|apply aJ|apply y_e|refine ag ?_)|((with_reducible apply ak);first|refine t_v AS.v ?_|refine t_v (by first|exact ah (hP:=hind)|exact ah (hP:=i1)) ?_|refine t_w AS.w ?_)|((with_reducible refine av ?_);((refine aj (fun hc=>?_) (fun hc=>?_);all_goals(try(exfalso;simp[*] at hc;done)))))|((with_reducible refine aF ?_);refine k_s ?_)|fail)
    all_goals(simp only[ByteArray.append_assoc,xf])
end Am
namespace Am
open Tk
set_option maxRecDepth 100000
set_option maxHeartbeats 4000000
theorem EA {n:Int} (h:0≤n):itT n=kl n.toNat:=by
 unfold itT kl Lib.itoa
 rw[if_neg (by omega)]
theorem xP {m:Mo} (h:0≤m.version):jE m=⟨#[109,111,100,117,108,101,32]⟩++m.name++⟨#[32]⟩++kl m.version.toNat++⟨#[59]⟩++(⟨#[10]⟩++dj 0 m.stmts):=by
 rw[jE,EA h]
 simp only[cq,tlB,jv,ByteArray.append_assoc]
 rw[show(⟨#[109,111,100,117,108,101,32]⟩:ByteArray)=⟨#[109,111,100,117,108,101]⟩++⟨#[32]⟩ from(yO [109,111,100,117,108,101] [32]).symm,show(⟨#[59,10]⟩:ByteArray)=⟨#[59]⟩++⟨#[10]⟩ from(yO [59] [10]).symm]
 simp only[ByteArray.append_assoc]
theorem z8 {m:Mo} (h2:dpL m.stmts≤4611686018427387904) (hw:fU m=0→(∀ x∈m.stmts,stW x)∧(jE m).size≤70368744177664):Pure Tryz.prog 28 [.agg (moC m)] (.tup [.c (sS (kU m).1),.c (sI (kU m).2)]):=by
 by_cases h:fU m=0
 ·obtain ⟨w1,w2⟩:=hw h
  have hv:0≤m.version∧m.version≤9999∧m.stmts.all fmB=true:=by
   unfold fU at h
   split at h
   ·omega
   ·split at h
    ·omega
    ·split at h
     ·omega
     ·split at h
      ·omega
      ·rename_i h1 h2 h3
       exact⟨by omega,by omega,by simpa using h3⟩
  have w3:=w2
  rw[xP hv.1] at w3
  have hdec:Pure Tryz.prog 72 [.c (sI m.version)] (.c (sS (kl m.version.toNat))):=by
   obtain ⟨n,hn⟩:∃ n:Nat,m.version=n:=⟨m.version.toNat,by omega⟩
   rw[show m.version.toNat=n by omega,hn]
   exact qj (by omega)
  simp only[ByteArray.size_append,bC,List.size_toArray,List.length_cons,List.length_nil] at w3
  have hp:Pure Tryz.prog 73 [.c (.lst none 55 (m.stmts.map stC)),.c (sI 0)] (.c (sS (⟨#[10]⟩++dj 0 m.stmts))):=
   pd (lv:=0) (fun x hx hb'=>jh _ x (Nat.lt_succ_self _) (w1 x hx) (List.all_eq_true.1 hv.2.2 x hx) 0 hb') (by omega)
  have e1:=xP hv.1
  clear hw
  refine fn1 (fn:=Tryz.f28) Tryz.call28 Tryz.func28 rfl Tryz.ntmps28 Tryz.results28 rfl (by rfl) ?_
  repeat'(first|(with_reducible first|apply AW.seq|apply AW.skip|apply AW.ret|apply ae|apply ar|apply y_e|refine ag ?_|refine bh ?_)|((with_reducible apply ak);first|refine t_v AS.v ?_|refine t_v (by first|exact ah (hP:=pc h2)|exact ah (hP:=hdec)|exact ah (hP:=hp)) ?_|refine t_w AS.w ?_)|((with_reducible refine av ?_);((refine aj (fun hc=>?_) (fun hc=>?_);all_goals(try(exfalso;simp[*] at hc;done)))))|((with_reducible refine aF ?_);(((refine k_2 ?_ ?_);all_goals(with_reducible (first|apply Gb|apply Gc)))))|(refine⟨by decide +kernel,?_⟩)|fail)
  all_goals
   rw[← e1] at hc
   try rw[← e1]
   unfold kU
   simp only[decide_eq_true_eq,decide_eq_false_iff_not] at hc
   rw[if_neg (by rw[h];decide)]
   first|rw[if_pos (by omega)]|rw[if_neg (by omega)]
 ·clear hw
  refine fn1 (fn:=Tryz.f28) Tryz.call28 Tryz.func28 rfl Tryz.ntmps28 Tryz.results28 rfl (by rfl) ?_
  repeat'(first|(with_reducible first|apply AW.seq|apply AW.ret|apply ae|apply ar|apply y_e|refine ag ?_)|((with_reducible apply ak);first|refine t_v AS.v ?_|refine t_v (by exact ah (hP:=pc h2)) ?_|refine t_w AS.w ?_)|((with_reducible refine av ?_);((refine aj (fun hc=>?_) (fun hc=>?_);all_goals(try(exfalso;simp[*] at hc;done)))))|((with_reducible refine aF ?_);(((refine k_2 ?_ ?_);all_goals(with_reducible (first|apply Gb|apply Gc)))))|fail)
  all_goals
   unfold kU
   rw[if_pos h]
end Am
end Go.Proofs.YtkpodagbefnebaaGreatDoor
