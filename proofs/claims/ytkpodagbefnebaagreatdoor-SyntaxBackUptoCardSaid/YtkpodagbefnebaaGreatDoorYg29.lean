import Derived.Test.YtkpodagbefnebaaGreatDoorYg27
import Derived.Test.YtkpodagbefnebaaGreatDoorYg28
set_option linter.unusedSimpArgs false
set_option linter.unusedVariables false
set_option linter.unusedSectionVars false
namespace Go.Proofs.YtkpodagbefnebaaGreatDoor
namespace Am
open Tk
set_option maxRecDepth 100000
set_option maxHeartbeats 4000000
theorem jM (op:Int):Pure Tryz.prog 268 [.c (sI op)] (.c (sI (cV op))):=by
 refine fn1 (fn:=Tryz.f268) Tryz.call268 Tryz.func268 rfl Tryz.ntmps268 Tryz.results268 rfl (by rfl) ?_
 repeat'(first|(with_reducible first|apply AW.seq|apply AW.skip|apply AW.ret|apply ae|apply ar|apply y_e|refine ag ?_)|((with_reducible apply ak);refine t_v AS.v ?_)|((with_reducible apply bt);refine t_m (hs:=fun hg=>AS.v) (k:=?_))|((with_reducible refine av ?_);((refine aj (fun hc=>?_) (fun hc=>?_))))|((with_reducible refine aF ?_);refine k_i ?_)|fail)
 all_goals
  simp only[decide_eq_true_eq,decide_eq_false_iff_not] at *
  try simp[cV, *]
  try grind
theorem uo:∀ (n:Nat) (e:Ex) (level:Int),SizeOf.sizeOf e<n→-100≤level→level≤100→Pure Tryz.prog 201 [.agg (exC e),.c (sI level)] (.c (sI (cB level e)))
 |0,_,_,h,_,_=>absurd h (Nat.not_lt_zero _)
 |n+1,e,level,h,h0,h1=>by
  have ih:∀ x∈e.kids,level≤12→Pure Tryz.prog 201 [.agg (exC x),.c (sI (level+1))] (.c (sI (cB (level+1) x))):=fun x hx k0=>
   uo n x (level+1) (by have:=fW hx;omega) (by omega) (by omega)
  rw[nQ]
  have hop:cV e.op=0∨cV e.op=1∨cV e.op=2∨cV e.op= -1:=by unfold cV;grind
  refine fn2 (fn:=Tryz.f201) Tryz.call201 Tryz.func201 rfl Tryz.ntmps201 Tryz.results201 rfl (by rfl) ?_
  refine AW.fact (t:=0) rfl (fun κ w x hr=>nL hr) fun hn=>?_
  have hnames:cV e.op=0→(e.names.length:Int)=1→∃ x,e.names[0]? =some x∧e.names.getD 0 ⟨#[]⟩=x:=fun _ h=>by
   obtain ⟨x,hx⟩:=oV h
   exact⟨x,by rw[hx];rfl,by rw[hx];rfl⟩
  have hbn:cZ e level=(if 12<level then 4
   else if cV e.op<0∨e.a≠0∨e.b≠0∨e.rel≠0∨Se.eqB e.set Se.zero=false∨(e.kids.length:Int)≠cV e.op∨(e.names.length:Int)≠(if cV e.op=0 then 1 else 0) then 2
   else if cV e.op=0∧idB (e.names.getD 0 ⟨#[]⟩)=false then 10 else 0):=rfl
  by_cases k0:cV e.op=0
  ·by_cases n1:e.names.length=1
   ·have hg:e.names[0]? =some (e.names.getD 0 ⟨#[]⟩):=by
     match hn:e.names,n1 with
     |[x],_=>rfl
    repeat'(first|(with_reducible first|apply AW.seq|apply AW.block|apply AW.skip|apply AW.ret|apply ae|apply ar|apply y_e|refine ag ?_)|((with_reducible apply ak);first|refine t_v AS.v ?_|refine t_v (by exact ah (hP:=jM _)) ?_|refine t_w AS.w ?_)|((with_reducible apply bt);first|refine t_f ?_|refine t_m (hs:=fun hg=>AS.v) (k:=?_)|refine t_m (hs:=fun hg=>(by exact ah (hP:=gv _))) (k:=?_))|((with_reducible refine av ?_);((refine aj (fun hc=>?_) (fun hc=>?_);all_goals(try(exfalso;simp[*] at hc;done)))))|((with_reducible refine aF ?_);refine k_i ?_)|fail)
    all_goals
     (try simp only[List.length_map] at *)
     first
     |(have hb:cZ e level=4:=by clear ih;grind
       rw[hb];rfl)
     |(have hb:cZ e level=2:=by clear ih;grind
       rw[hb];rfl)
     |(have hb:cZ e level=10:=by clear ih;grind
       rw[hb];rfl)
     |(have hb:cZ e level=0∧level≤12:=by clear ih;grind
       rw[if_pos hb.1]
       have hq:=hb.2
       clear hbn hb hc
       refine AW.loop (fun m σ=>∃ j,m=e.kids.length - j∧j≤e.kids.length∧(∀ y∈e.kids.take j,cB (level+1) y=0)∧σ=mk [(1,.c (sI level)),(2,.c (.ptr 2 0)),(6,.c (sI j))] [(2,.obj 49 (exC e))]) e.kids.length ?_ ?_
       ·exact⟨_,wkA,0,rfl,Nat.zero_le _,by simp,rfl⟩
       rintro m σ ⟨j,rfl,hj,ha,rfl⟩
       by_cases hlt:j<e.kids.length
       ·obtain ⟨x,hx⟩:∃ x,e.kids[j]? =some x:=⟨_,List.getElem?_eq_getElem hlt⟩
        have hp:=ih x (List.mem_of_getElem? hx) hq
        repeat'(first|(with_reducible first|apply AW.seq|apply AW.block|apply AW.skip|apply AW.ret|apply ae|apply ar|apply ay|apply aJ|apply y_e|refine ag ?_)|((with_reducible apply ak);first|refine t_v AS.v ?_|refine t_v (by exact ah (hP:=hp)) ?_)|((with_reducible refine av ?_);((refine aj (fun hc=>?_) (fun hc=>?_);all_goals(try(exfalso;simp[*] at hc;done)))))|((with_reducible refine aF ?_);refine k_i ?_)|fail)
        ·rw[lj hx ha (by simpa using hc)]
        ·exact⟨_,_,(show e.kids.length - (j+1)<e.kids.length - j by omega),wkA,j+1,rfl,hlt,mJ hx ha (by simpa using hc),rfl⟩
       ·repeat'(first|(with_reducible first|apply AW.seq|apply AW.ret|apply AW.exit|apply ae|apply aG|apply aT|apply y_e|refine ag ?_)|((with_reducible apply ak);refine t_v AS.v ?_)|((with_reducible refine av ?_);((refine aj (fun hc=>?_) (fun hc=>?_);all_goals(try(exfalso;simp[*] at hc;done)))))|((with_reducible refine aF ?_);refine k_i ?_)|fail)
        rw[jX ha (by omega)])
   ·repeat'(first|(with_reducible first|apply AW.seq|apply AW.block|apply AW.skip|apply AW.ret|apply ae|apply ar|apply y_e|refine ag ?_)|((with_reducible apply ak);first|refine t_v AS.v ?_|refine t_v (by exact ah (hP:=jM _)) ?_|refine t_w AS.w ?_)|((with_reducible apply bt);first|refine t_f ?_|refine t_m (hs:=fun hg=>AS.v) (k:=?_))|((with_reducible refine av ?_);first|refine cg ?_|(refine aj (fun hc=>?_) (fun hc=>?_);all_goals(try(exfalso;revert hc;simp;omega))))|((with_reducible refine aF ?_);refine k_i ?_)|fail)
    all_goals
     (try simp only[List.length_map] at *)
     first
     |(have hb:cZ e level=4:=by clear ih;grind
       rw[hb];rfl)
     |(have hb:cZ e level=2:=by clear ih;grind
       rw[hb];rfl)
     |(have hb:cZ e level=10:=by clear ih;grind
       rw[hb];rfl)
     |(have hb:cZ e level=0∧level≤12:=by clear ih;grind
       rw[if_pos hb.1]
       have hq:=hb.2
       clear hbn hb hc
       refine AW.loop (fun m σ=>∃ j,m=e.kids.length - j∧j≤e.kids.length∧(∀ y∈e.kids.take j,cB (level+1) y=0)∧σ=mk [(1,.c (sI level)),(2,.c (.ptr 2 0)),(6,.c (sI j))] [(2,.obj 49 (exC e))]) e.kids.length ?_ ?_
       ·exact⟨_,wkA,0,rfl,Nat.zero_le _,by simp,rfl⟩
       rintro m σ ⟨j,rfl,hj,ha,rfl⟩
       by_cases hlt:j<e.kids.length
       ·obtain ⟨x,hx⟩:∃ x,e.kids[j]? =some x:=⟨_,List.getElem?_eq_getElem hlt⟩
        have hp:=ih x (List.mem_of_getElem? hx) hq
        repeat'(first|(with_reducible first|apply AW.seq|apply AW.block|apply AW.skip|apply AW.ret|apply ae|apply ar|apply ay|apply aJ|apply y_e|refine ag ?_)|((with_reducible apply ak);first|refine t_v AS.v ?_|refine t_v (by exact ah (hP:=hp)) ?_)|((with_reducible refine av ?_);((refine aj (fun hc=>?_) (fun hc=>?_);all_goals(try(exfalso;simp[*] at hc;done)))))|((with_reducible refine aF ?_);refine k_i ?_)|fail)
        ·rw[lj hx ha (by simpa using hc)]
        ·exact⟨_,_,(show e.kids.length - (j+1)<e.kids.length - j by omega),wkA,j+1,rfl,hlt,mJ hx ha (by simpa using hc),rfl⟩
       ·repeat'(first|(with_reducible first|apply AW.seq|apply AW.ret|apply AW.exit|apply ae|apply aG|apply aT|apply y_e|refine ag ?_)|((with_reducible apply ak);refine t_v AS.v ?_)|((with_reducible refine av ?_);((refine aj (fun hc=>?_) (fun hc=>?_);all_goals(try(exfalso;simp[*] at hc;done)))))|((with_reducible refine aF ?_);refine k_i ?_)|fail)
        rw[jX ha (by omega)])
  ·repeat'(first|(with_reducible first|apply AW.seq|apply AW.block|apply AW.skip|apply AW.ret|apply ae|apply ar|apply y_e|refine ag ?_)|((with_reducible apply ak);first|refine t_v AS.v ?_|refine t_v (by exact ah (hP:=jM _)) ?_|refine t_w AS.w ?_)|((with_reducible apply bt);first|refine t_f ?_|refine t_m (hs:=fun hg=>AS.v) (k:=?_))|((with_reducible refine av ?_);first|refine cg ?_|(refine aj (fun hc=>?_) (fun hc=>?_);all_goals(try(exfalso;revert hc;simp;omega))))|((with_reducible refine aF ?_);refine k_i ?_)|fail)
   all_goals
    (try simp only[List.length_map] at *)
    first
    |(have hb:cZ e level=4:=by clear ih;grind
      rw[hb];rfl)
    |(have hb:cZ e level=2:=by clear ih;grind
      rw[hb];rfl)
    |(have hb:cZ e level=10:=by clear ih;grind
      rw[hb];rfl)
    |(have hb:cZ e level=0∧level≤12:=by clear ih;grind
      rw[if_pos hb.1]
      have hq:=hb.2
      clear hbn hb hc
      refine AW.loop (fun m σ=>∃ j,m=e.kids.length - j∧j≤e.kids.length∧(∀ y∈e.kids.take j,cB (level+1) y=0)∧σ=mk [(1,.c (sI level)),(2,.c (.ptr 2 0)),(6,.c (sI j))] [(2,.obj 49 (exC e))]) e.kids.length ?_ ?_
      ·exact⟨_,wkA,0,rfl,Nat.zero_le _,by simp,rfl⟩
      rintro m σ ⟨j,rfl,hj,ha,rfl⟩
      by_cases hlt:j<e.kids.length
      ·obtain ⟨x,hx⟩:∃ x,e.kids[j]? =some x:=⟨_,List.getElem?_eq_getElem hlt⟩
       have hp:=ih x (List.mem_of_getElem? hx) hq
       repeat'(first|(with_reducible first|apply AW.seq|apply AW.block|apply AW.skip|apply AW.ret|apply ae|apply ar|apply ay|apply aJ|apply y_e|refine ag ?_)|((with_reducible apply ak);first|refine t_v AS.v ?_|refine t_v (by exact ah (hP:=hp)) ?_)|((with_reducible refine av ?_);((refine aj (fun hc=>?_) (fun hc=>?_);all_goals(try(exfalso;simp[*] at hc;done)))))|((with_reducible refine aF ?_);refine k_i ?_)|fail)
       ·rw[lj hx ha (by simpa using hc)]
       ·exact⟨_,_,(show e.kids.length - (j+1)<e.kids.length - j by omega),wkA,j+1,rfl,hlt,mJ hx ha (by simpa using hc),rfl⟩
      ·repeat'(first|(with_reducible first|apply AW.seq|apply AW.ret|apply AW.exit|apply ae|apply aG|apply aT|apply y_e|refine ag ?_)|((with_reducible apply ak);refine t_v AS.v ?_)|((with_reducible refine av ?_);((refine aj (fun hc=>?_) (fun hc=>?_);all_goals(try(exfalso;simp[*] at hc;done)))))|((with_reducible refine aF ?_);refine k_i ?_)|fail)
       rw[jX ha (by omega)])
theorem uq (e:Ex):Pure Tryz.prog 139 [.agg (exC e)] (.c (sI (cB 1 e))):=by
 refine fn1 (fn:=Tryz.f139) Tryz.call139 Tryz.func139 rfl Tryz.ntmps139 Tryz.results139 rfl (by rfl) ?_
 repeat'(first|(with_reducible first|apply AW.seq|apply AW.ret|apply ae|apply y_e|refine ag ?_)|((with_reducible apply ak);first|refine t_v AS.v ?_|refine t_v (by exact ah (hP:=uo _ e 1 (Nat.lt_succ_self _) (by omega) (by omega))) ?_|refine t_w AS.w ?_)|((with_reducible refine aF ?_);refine k_i ?_)|fail)
 rfl
end Am
namespace Am
open Tk
set_option maxRecDepth 100000
set_option maxHeartbeats 4000000
def mG (op:Int):Int:=if op=4 then 1 else if op=5 then 2 else if op=3 then 3 else if op=6∨op=7 then 4 else if op=2 then 5 else 6
theorem gw (op:Int):Pure Tryz.prog 320 [.c (sI op)] (.c (sI (mG op))):=by
 refine fn1 (fn:=Tryz.f320) Tryz.call320 Tryz.func320 rfl Tryz.ntmps320 Tryz.results320 rfl (by rfl) ?_
 repeat'(first|(with_reducible first|apply AW.seq|apply AW.skip|apply AW.ret|apply ae|apply ar|apply y_e|refine ag ?_)|((with_reducible apply ak);refine t_v AS.v ?_)|((with_reducible apply bt);refine t_m (hs:=fun hg=>AS.v) (k:=?_))|((with_reducible refine av ?_);((refine aj (fun hc=>?_) (fun hc=>?_);all_goals(try(exfalso;revert hc;simp;omega)))))|((with_reducible refine aF ?_);refine k_i ?_)|fail)
 all_goals
  (try simp only[decide_eq_true_eq,decide_eq_false_iff_not] at *)
  unfold mG
  grind
def xO (op:Int):ByteArray:=if op=4 then⟨#[124,124]⟩ else if op=5 then⟨#[94]⟩ else if op=3 then⟨#[38,38]⟩ else if op=6 then⟨#[61,61]⟩ else⟨#[33,61]⟩
theorem Fi (op:Int):Pure Tryz.prog 322 [.c (sI op)] (.c (sS (xO op))):=by
 refine fn1 (fn:=Tryz.f322) Tryz.call322 Tryz.func322 rfl Tryz.ntmps322 Tryz.results322 rfl (by rfl) ?_
 repeat'(first|(with_reducible first|apply AW.seq|apply AW.skip|apply AW.ret|apply ae|apply ar|apply y_e|refine ag ?_)|((with_reducible apply ak);refine t_v AS.v ?_)|((with_reducible refine av ?_);((refine aj (fun hc=>?_) (fun hc=>?_))))|((with_reducible refine aF ?_);refine k_s ?_)|fail)
 all_goals
  (try simp only[decide_eq_true_eq,decide_eq_false_iff_not] at *)
  unfold xO
  grind
theorem Ik {e:Ex} {least:Int} (h:Pure Tryz.prog 269 [.agg (exC e)] (.c (sS (btI e)))) (hs:∀ n,n≤5→(mG e.op<n↔gz e.op<n)) (hl:least≤5) (hb:(btT e least).size≤4398046511000):Pure Tryz.prog 321 [.agg (exC e),.c (sI least)] (.c (sS (btT e least))):=by
 have hq:=hs least hl
 by_cases hlt:gz e.op<least
 ·have e0:btT e least=⟨#[40]⟩++btI e++⟨#[41]⟩:=by unfold btT ir;rw[if_pos hlt]
  rw[e0] at hb ⊢
  simp only[ByteArray.size_append,bC,List.size_toArray,List.length_cons,List.length_nil] at hb
  have hlt2:mG e.op<least:=hq.2 hlt
  clear hs hq
  refine fn2 (fn:=Tryz.f321) Tryz.call321 Tryz.func321 rfl Tryz.ntmps321 Tryz.results321 rfl (by rfl) ?_
  repeat'(first|(with_reducible first|apply AW.seq|apply AW.skip|apply AW.ret|apply ae|apply ar|apply y_e|refine ag ?_)|((with_reducible apply ak);first|refine t_v AS.v ?_|refine t_v (by first|exact ah (hP:=gw _)|exact ah (hP:=h)) ?_|refine t_w AS.w ?_)|((with_reducible refine av ?_);((refine aj (fun hc=>?_) (fun hc=>?_);all_goals(try(exfalso;simp[*] at hc;done)))))|((with_reducible refine aF ?_);refine k_s ?_)|fail)
  all_goals(rfl)
 ·have e0:btT e least=btI e:=by unfold btT ir;rw[if_neg hlt]
  rw[e0] at hb ⊢
  have hlt2:¬ mG e.op<least:=fun h=>hlt (hq.1 h)
  clear hs hq
  refine fn2 (fn:=Tryz.f321) Tryz.call321 Tryz.func321 rfl Tryz.ntmps321 Tryz.results321 rfl (by rfl) ?_
  repeat'(first|(with_reducible first|apply AW.seq|apply AW.skip|apply AW.ret|apply ae|apply ar|apply y_e|refine ag ?_)|((with_reducible apply ak);first|refine t_v AS.v ?_|refine t_v (by first|exact ah (hP:=gw _)|exact ah (hP:=h)) ?_|refine t_w AS.w ?_)|((with_reducible refine av ?_);((refine aj (fun hc=>?_) (fun hc=>?_);all_goals(try(exfalso;simp[*] at hc;done)))))|((with_reducible refine aF ?_);refine k_s ?_)|fail)
  all_goals(rfl)
theorem Cy {op:Int} (h:0≤cV op):∀ n,n≤5→(mG op<n↔gz op<n):=by
 intro n hn
 unfold cV at h
 unfold mG gz cV eA
 grind
theorem uB:∀ (n:Nat) (e:Ex) (level:Int),SizeOf.sizeOf e<n→cB level e=0→(btI e).size≤4398046511000→Pure Tryz.prog 269 [.agg (exC e)] (.c (sS (btI e)))
 |0,_,_,h,_,_=>absurd h (Nat.not_lt_zero _)
 |n+1,e,level,h,hn,hb=>by
  obtain ⟨h0,h1,h2,h3⟩:=qa hn
  have ih:∀ x∈e.kids,∀ least,least≤5→(btT x least).size≤4398046511000→Pure Tryz.prog 321 [.agg (exC x),.c (sI least)] (.c (sS (btT x least))):=fun x hx least hl hs=>by
   have hle:=F5 (gz x.op) least (btI x)
   unfold btT at hs
   exact Ik (uB n x (level+1) (by have:=fW hx;omega) (h3 x hx) (by omega)) (Cy (qa (h3 x hx)).1) hl hs
  by_cases k0:cV e.op=0
  ·obtain ⟨x,hx⟩:=oV (l:=e.names) (by have:=h2 k0;omega)
   have hx0:e.names[0]? =some x:=by rw[hx];rfl
   have e1:btI e=x:=by rw[vw];simp[btH,k0,hx]
   have hs:mG e.op=6:=by unfold cV at k0;unfold mG;grind
   have hst:Pure Tryz.prog 320 [.c (sI e.op)] (.c (sI 6)):=hs▸gw e.op
   rw[e1] at hb ⊢
   clear ih h1 h2 h3 hx h e1 hn h0 hs
   refine fn1 (fn:=Tryz.f269) Tryz.call269 Tryz.func269 rfl Tryz.ntmps269 Tryz.results269 rfl (by rfl) ?_
   repeat'(first|(with_reducible first|apply AW.seq|apply AW.ret|apply ae|apply ar|apply y_e|refine ag ?_)|((with_reducible apply ak);first|refine t_v AS.v ?_|refine t_v (by exact ah (hP:=hst)) ?_|refine t_w AS.w ?_)|((with_reducible refine av ?_);refine cO ?_)|((with_reducible refine aF ?_);refine k_s ?_)|fail)
   rfl
  by_cases k1:cV e.op=1
  ·obtain ⟨k,hk⟩:=oV (l:=e.kids) (by omega)
   have hx0:e.kids[0]? =some k:=by rw[hk];rfl
   have e1:btI e=⟨#[33]⟩++btT k 5:=by rw[vw];simp[btH,k1,hk,btT]
   have hs:mG e.op=5:=by unfold cV at k1;unfold mG;grind
   have hst:Pure Tryz.prog 320 [.c (sI e.op)] (.c (sI 5)):=hs▸gw e.op
   rw[e1] at hb ⊢
   simp only[ByteArray.size_append,bC,List.size_toArray,List.length_cons,List.length_nil] at hb
   have hp:=ih k (List.mem_of_getElem? hx0) 5 (by omega) (by omega)
   clear ih h1 h2 h3 hk h e1 hn h0 hs
   refine fn1 (fn:=Tryz.f269) Tryz.call269 Tryz.func269 rfl Tryz.ntmps269 Tryz.results269 rfl (by rfl) ?_
   repeat'(first|(with_reducible first|apply AW.seq|apply AW.skip|apply AW.ret|apply ae|apply ar|apply y_e|refine ag ?_)|((with_reducible apply ak);first|refine t_v AS.v ?_|refine t_v (by first|exact ah (hP:=hst)|exact ah (hP:=hp)) ?_|refine t_w AS.w ?_)|((with_reducible refine av ?_);first|refine cO ?_|refine cg ?_)|((with_reducible refine aF ?_);refine k_s ?_)|fail)
   rfl
  ·have k2:cV e.op=2:=by
    have:cV e.op=0∨cV e.op=1∨cV e.op=2∨cV e.op= -1:=by unfold cV;grind
    omega
   obtain ⟨k,m,hk⟩:=wO (l:=e.kids) (by omega)
   have hx0:e.kids[0]? =some k:=by rw[hk];rfl
   have hy0:e.kids[1]? =some m:=by rw[hk];rfl
   have e1:btI e=btT k (eA e.op)++⟨#[32]⟩++jR e.op++⟨#[32]⟩++btT m (eA e.op+1):=by rw[vw];simp[btH,k2,hk,btT]
   have hsn:1≤eA e.op∧eA e.op≤4:=by unfold eA;grind
   have hs:mG e.op=eA e.op:=by unfold cV at k2;unfold mG eA;grind
   have hm:xO e.op=jR e.op:=by unfold cV at k2;unfold xO jR;grind
   have hst:Pure Tryz.prog 320 [.c (sI e.op)] (.c (sI (eA e.op))):=hs▸gw e.op
   have hmk:Pure Tryz.prog 322 [.c (sI e.op)] (.c (sS (jR e.op))):=hm▸Fi e.op
   rw[e1] at hb ⊢
   simp only[ByteArray.size_append,bC,List.size_toArray,List.length_cons,List.length_nil] at hb
   have hp:=ih k (List.mem_of_getElem? hx0) (eA e.op) (by omega) (by omega)
   have hq:=ih m (List.mem_of_getElem? hy0) (eA e.op+1) (by omega) (by omega)
   generalize eA e.op=sn at *
   generalize jR e.op=sm at *
   have n6:¬ sn=6:=by omega
   have n5:¬ sn=5:=by omega
   clear ih h1 h2 h3 hk h e1 hn h0 hs hm
   refine fn1 (fn:=Tryz.f269) Tryz.call269 Tryz.func269 rfl Tryz.ntmps269 Tryz.results269 rfl (by rfl) ?_
   repeat'(first|(with_reducible first|apply AW.seq|apply AW.skip|apply AW.ret|apply ae|apply y_e|refine ag ?_|refine bh ?_)|((with_reducible apply ak);first|refine t_v AS.v ?_|refine t_v (by first|exact ah (hP:=hst)|exact ah (hP:=hmk)|exact ah (hP:=hp)|exact ah (hP:=hq)) ?_|refine t_w AS.w ?_)|((with_reducible refine av ?_);((refine aj (fun hc=>?_) (fun hc=>?_);all_goals(try(exfalso;simp[*] at hc;done)))))|((with_reducible refine aF ?_);refine k_s ?_)|(refine⟨by decide +kernel,?_⟩)|fail)
   rfl
theorem Fc {e:Ex} (h:cB 1 e=0) (hb:(btT e 0).size≤4398046511000):Pure Tryz.prog 203 [.agg (exC e)] (.tup [.c (sS (btT e 0)),.c (sI 0)]):=by
 have hst:¬ gz e.op<0:=by unfold gz eA;grind
 have e0:btT e 0=btI e:=by unfold btT ir;rw[if_neg hst]
 rw[e0] at hb ⊢
 have hw:=uB _ e 1 (Nat.lt_succ_self _) h hb
 refine fn1 (fn:=Tryz.f203) Tryz.call203 Tryz.func203 rfl Tryz.ntmps203 Tryz.results203 rfl (by rfl) ?_
 repeat'(first|(with_reducible first|apply AW.seq|apply AW.skip|apply AW.ret|apply ae|apply y_e|refine ag ?_)|((with_reducible apply ak);first|refine t_v AS.v ?_|refine t_v (by first|exact ah (hP:=uq _)|exact ah (hP:=hw)) ?_|refine t_w AS.w ?_)|((with_reducible refine av ?_);((refine aj (fun hc=>?_) (fun hc=>?_);all_goals(try(exfalso;simp[*] at hc;done)))))|((with_reducible refine aF ?_);(((refine k_2 ?_ ?_);all_goals(with_reducible (first|apply Gb|apply Gc)))))|fail)
 all_goals(rfl)
end Am
namespace Am
open Tk
set_option maxRecDepth 100000
set_option maxHeartbeats 4000000
theorem rJ (l:Lv):l.cats.length≤(lvT l).size+1:=by
 have hs:ByteArray.size ⟨#[44]⟩=1:=rfl
 unfold lvT
 split
 ·omega
 ·have:=qH (sep:=⟨#[44]⟩) (l.cats.map spT)
  rw[hs,List.length_map] at this
  rw[ByteArray.size_append]
  omega
theorem ya (r:Rg):r.lo.cats.length≤(rgT r).size+1∧r.hi.cats.length≤(rgT r).size+1:=by
 have h1:=rJ r.lo
 have h2:=rJ r.hi
 unfold rgT
 split
 ·rename_i h
  simp[gU] at h
  rw[h.2]
  exact⟨h1,Nat.zero_le _⟩
 ·simp only[ByteArray.size_append]
  omega
theorem E5 (c:Ct):c.rng.lo.cats.length≤(cxT c).size+1∧c.rng.hi.cats.length≤(cxT c).size+1:=by
 have h:=ya c.rng
 simp only[cxT,ByteArray.size_append]
 omega
theorem sd {l:Lv} (hb:(lvT l).size≤4398046511000):Pure Tryz.prog 276 [.agg (lvC l)] (.c (sS (lvT l))):=by
 have:=rJ l
 exact gL (by omega) (by omega)
theorem ux {r:Rg} (hb:(rgT r).size≤4398046511000):Pure Tryz.prog 271 [.agg (rgC r)] (.c (sS (rgT r))):=by
 have:=ya r
 exact uw (by omega) (by omega) (by omega)
theorem y6 {c:Ct} (hb:(cxT c).size≤4398046511000):Pure Tryz.prog 273 [.agg (cxC c)] (.c (sS (cxT c))):=by
 have:=E5 c
 exact Fe (by omega) (by omega) (by omega)
theorem tH {l:List ByteArray} {n:Int} (h1:1≤n) (h2:n≤l.length):∃ (j:Nat) (x:ByteArray),n - 1=j∧l[j]? =some x∧kwT l n=x:=by
 obtain ⟨j,hj⟩:∃ j:Nat,n - 1=j:=⟨(n - 1).toNat,by omega⟩
 have hl:j<l.length:=by omega
 refine⟨j,l[j],hj,List.getElem?_eq_getElem hl,?_⟩
 have:(n - 1).toNat=j:=by omega
 unfold kwT
 rw[this,List.getD_eq_getElem?_getD,List.getElem?_eq_getElem hl];rfl
theorem Fh {n:Int} (h1:1≤n) (h2:n≤8):Pure Tryz.prog 277 [.c (sI n)] (.c (sS (kwT kwQ n))):=by
 obtain ⟨j,x,hj,hx,hxe⟩:=tH (l:=kwQ) h1 (by unfold kwQ;exact h2)
 unfold kwQ at hx
 rw[hxe]
 clear hxe
 refine fn1 (fn:=Tryz.f277) Tryz.call277 Tryz.func277 rfl Tryz.ntmps277 Tryz.results277 rfl (by rfl) ?_
 repeat'(first|(with_reducible first|apply AW.seq|apply AW.ret|apply ae|apply y_e|refine ag ?_)|((with_reducible apply ak);refine t_v AS.v ?_)|((with_reducible refine aF ?_);refine k_s ?_)|fail)
 rfl
def B8:List ByteArray:=[⟨#[97,108,108,111,119,32]⟩,⟨#[97,117,100,105,116,97,108,108,111,119,32]⟩,⟨#[100,111,110,116,97,117,100,105,116,32]⟩,⟨#[110,101,118,101,114,97,108,108,111,119,32]⟩]
def B9:List ByteArray:=[⟨#[116,121,112,101,95,116,114,97,110,115,105,116,105,111,110,32]⟩,⟨#[116,121,112,101,95,99,104,97,110,103,101,32]⟩,⟨#[116,121,112,101,95,109,101,109,98,101,114,32]⟩]
theorem HJ {n:Int} (h1:1≤n) (h2:n≤4):kwT B8 n=kwT kwR n++⟨#[32]⟩:=by
 have:n=1∨n=2∨n=3∨n=4:=by omega
 rcases this with rfl|rfl|rfl|rfl <;> rfl
theorem HL {n:Int} (h1:1≤n) (h2:n≤3):kwT B9 n=kwT kwX n++⟨#[32]⟩:=by
 have:n=1∨n=2∨n=3:=by omega
 rcases this with rfl|rfl|rfl <;> rfl
theorem Hq:⟨#[32]⟩++nX true=⟨#[32,116,114,117,101]⟩:=rfl
theorem Hp:⟨#[32]⟩++nX false=⟨#[32,102,97,108,115,101]⟩:=rfl
def Aw (s:Stm):Prop:=s.kind=1∨s.kind=2∨s.kind=3∨s.kind=4∨s.kind=5∨s.kind=8∨s.kind=9∨s.kind=10∨s.kind=11∨s.kind=19∨s.kind=20∨s.kind=23
def Ca (s:Stm):Prop:=s.kind=6∨s.kind=7∨s.kind=12∨s.kind=13∨s.kind=14∨s.kind=15∨s.kind=16∨s.kind=21∨s.kind=22
theorem C3 {s:Stm} (hk:Ca s) (hr:Rok s) (hb:Bd s):Pure Tryz.prog 204 [.agg (stC s)] (.c (sS (bk s))):=by
 have hl:bk s=ef s:=by
  unfold Ca at hk
  unfold bk
  repeat'((rw[if_neg (by omega)]))
 rw[hl]
 obtain ⟨r12,r13,r15,r16,r19,r21,r23,r1,r2⟩:=hr
 obtain ⟨b1,b2,b3,b4,b5,b6,b7,b8,b9,b10,b11,b12,b13,b14,b15⟩:=hb
 have n1:=iZ (n:=s.source) (by omega)
 have n2:=iZ (n:=s.target) (by omega)
 have n3:=iZ (n:=s.cls) (by omega)
 have n4:=iZ (n:=s.perms) (by omega)
 have c1:=y6 (c:=s.ctx) (by omega)
 have s1:=ux (r:=s.range) (by omega)
 unfold Ca at hk
 clear b4 b5 b6 b13 r1 r2 hl
 rcases hk with k|k|k|k|k|k|k|k|k
 case inl|inr.inl|inr.inr.inr.inr.inl|inr.inr.inr.inr.inr.inr.inr.inr=>
  all_goals
   clear r12 r13 r15 r16 r19 r21 r23 b11 b12
   refine fn1 (fn:=Tryz.f204) Tryz.call204 Tryz.func204 rfl Tryz.ntmps204 Tryz.results204 rfl (by rfl) ?_
   repeat'(first|(with_reducible first|apply AW.seq|apply AW.block|apply AW.ret|apply ae|apply ar|apply aJ|apply y_e|refine ag ?_|refine bh ?_)|((with_reducible apply ak);first|refine t_v AS.v ?_|refine t_v (by first|exact ah (hP:=n1)|exact ah (hP:=n2)|exact ah (hP:=n3)|exact ah (hP:=s1)) ?_|refine t_w AS.w ?_)|((with_reducible refine av ?_);((refine aj (fun hc=>?_) (fun hc=>?_);all_goals(try(exfalso;simp[*] at hc;done)))))|((with_reducible refine aF ?_);refine k_s ?_)|(refine⟨by decide +kernel,?_⟩)|fail)
   all_goals simp[ef,fR,k,ByteArray.append_assoc]
 ·have r:=r12 k
  obtain ⟨j,x,hj,hx,hxe⟩:=tH (l:=B8) r.1 (by unfold B8;exact r.2)
  have hsz:x.size≤100:=by rw[← hxe];exact kr (l:=B8) (by decide) _
  have hsp:=HJ r.1 r.2
  rw[hxe] at hsp
  unfold B8 at hx
  clear r12 r13 r15 r16 r19 r21 r23 b11 b12 hxe
  refine fn1 (fn:=Tryz.f204) Tryz.call204 Tryz.func204 rfl Tryz.ntmps204 Tryz.results204 rfl (by rfl) ?_
  repeat'(first|(with_reducible first|apply AW.seq|apply AW.block|apply AW.skip|apply AW.ret|apply ae|apply ar|apply aJ|apply y_e|refine ag ?_|refine bh ?_)|((with_reducible apply ak);first|refine t_v AS.v ?_|refine t_v (by first|exact ah (hP:=n1)|exact ah (hP:=n2)|exact ah (hP:=n3)|exact ah (hP:=n4)) ?_|refine t_w AS.w ?_)|((with_reducible refine av ?_);((refine aj (fun hc=>?_) (fun hc=>?_);all_goals(try(exfalso;simp[*] at hc;done)))))|((with_reducible refine aF ?_);refine k_s ?_)|(refine⟨by decide +kernel,?_⟩)|fail)
  simp[ef,fR,k,hsp,ByteArray.append_assoc]
 ·have r:=r13 k
  obtain ⟨j,x,hj,hx,hxe⟩:=tH (l:=B9) r.1 (by unfold B9;exact r.2)
  have hsz:x.size≤100:=by rw[← hxe];exact kr (l:=B9) (by decide) _
  have hsp:=HL r.1 r.2
  rw[hxe] at hsp
  unfold B9 at hx
  clear r12 r13 r15 r16 r19 r21 r23 b11 b12 hxe
  refine fn1 (fn:=Tryz.f204) Tryz.call204 Tryz.func204 rfl Tryz.ntmps204 Tryz.results204 rfl (by rfl) ?_
  repeat'(first|(with_reducible first|apply AW.seq|apply AW.block|apply AW.skip|apply AW.ret|apply ae|apply ar|apply aJ|apply y_e|refine ag ?_|refine bh ?_)|((with_reducible apply ak);first|refine t_v AS.v ?_|refine t_v (by first|exact ah (hP:=n1)|exact ah (hP:=n2)|exact ah (hP:=n3)|exact ah (hP:=n4)) ?_|refine t_w AS.w ?_)|((with_reducible refine av ?_);((refine aj (fun hc=>?_) (fun hc=>?_);all_goals(try(exfalso;simp[*] at hc;done)))))|((with_reducible refine aF ?_);refine k_s ?_)|(refine⟨by decide +kernel,?_⟩)|fail)
  all_goals
   simp only[Bool.not_eq_true',Bool.not_eq_false',decide_eq_true_eq,decide_eq_false_iff_not] at hc
   simp[ef,fR,k,hsp,hc,ByteArray.append_assoc]
 ·have r:=r15 k
  have b:=b11 (.inl r)
  have q:=kt r (by omega)
  clear r12 r13 r15 r16 r19 r21 r23 b11 b12
  refine fn1 (fn:=Tryz.f204) Tryz.call204 Tryz.func204 rfl Tryz.ntmps204 Tryz.results204 rfl (by rfl) ?_
  repeat'(first|(with_reducible first|apply AW.seq|apply AW.block|apply AW.ret|apply ae|apply ar|apply aJ|apply y_e|refine ag ?_|refine bh ?_)|((with_reducible apply ak);first|refine t_v AS.v ?_|refine t_v (by first|exact ah (hP:=n1)|exact ah (hP:=n2)|exact ah (hP:=n3)|exact ah (hP:=n4)|exact ah (hP:=q)) ?_|refine t_w AS.w ?_)|((with_reducible refine av ?_);((refine aj (fun hc=>?_) (fun hc=>?_);all_goals(try(exfalso;simp[*] at hc;done)))))|((with_reducible refine aF ?_);refine k_s ?_)|(refine⟨by decide +kernel,?_⟩)|fail)
  simp[ef,fR,k,ByteArray.append_assoc]
 ·have r:=r16 k
  have b:=b11 (.inr r)
  have q:=kt r (by omega)
  clear r12 r13 r15 r16 r19 r21 r23 b11 b12
  refine fn1 (fn:=Tryz.f204) Tryz.call204 Tryz.func204 rfl Tryz.ntmps204 Tryz.results204 rfl (by rfl) ?_
  repeat'(first|(with_reducible first|apply AW.seq|apply AW.block|apply AW.ret|apply ae|apply ar|apply aJ|apply y_e|refine ag ?_|refine bh ?_)|((with_reducible apply ak);first|refine t_v AS.v ?_|refine t_v (by first|exact ah (hP:=n1)|exact ah (hP:=n2)|exact ah (hP:=n3)|exact ah (hP:=n4)|exact ah (hP:=q)) ?_|refine t_w AS.w ?_)|((with_reducible refine av ?_);((refine aj (fun hc=>?_) (fun hc=>?_);all_goals(try(exfalso;simp[*] at hc;done)))))|((with_reducible refine aF ?_);refine k_s ?_)|(refine⟨by decide +kernel,?_⟩)|fail)
  simp[ef,fR,k,ByteArray.append_assoc]
 ·have r:=r21 k
  obtain ⟨j,x,hj,hx,hxe⟩:=tH (l:=kwF) (n:=s.op+1) (by omega) (by unfold kwF;have:=r.2;show _≤(5:Int);omega)
  have hsz:x.size≤100:=by rw[← hxe];exact kr (l:=kwF) (by decide) _
  have hj2:s.op=j:=by omega
  unfold kwF at hx
  clear r12 r13 r15 r16 r19 r21 r23 b11 b12 hj
  refine fn1 (fn:=Tryz.f204) Tryz.call204 Tryz.func204 rfl Tryz.ntmps204 Tryz.results204 rfl (by rfl) ?_
  repeat'(first|(with_reducible first|apply AW.seq|apply AW.block|apply AW.skip|apply AW.ret|apply ae|apply ay|apply y_e|refine ag ?_|refine bh ?_)|((with_reducible apply ak);first|refine t_v AS.v ?_|refine t_v (by first|exact ah (hP:=n1)|exact ah (hP:=n2)|exact ah (hP:=n3)|exact ah (hP:=c1)) ?_|refine t_w AS.w ?_)|((with_reducible refine av ?_);((refine aj (fun hc=>?_) (fun hc=>?_);all_goals(try(exfalso;simp[*] at hc;done)))))|((with_reducible refine aF ?_);refine k_s ?_)|(refine⟨by decide +kernel,?_⟩)|fail)
  simp[ef,fR,k,hxe,ByteArray.append_assoc]
theorem ur {s:Stm} (hk:Aw s) (h5:s.kind=5→fV s.source= !au s.source false) (hr:Rok s) (hb:Bd s):Pure Tryz.prog 205 [.agg (stC s)] (.c (sS (bk s))):=by
 obtain ⟨r12,r13,r15,r16,r19,r21,r23,r1,r2⟩:=hr
 obtain ⟨b1,b2,b3,b4,b5,b6,b7,b8,b9,b10,b11,b12,b13,b14,b15⟩:=hb
 have n1:=iZ (n:=s.source) (by omega)
 have n2:=iZ (n:=s.target) (by omega)
 have l1:=iY (l:=s.list) (by omega)
 have l2:=sa (l:=s.list) (sep:=⟨#[44,32]⟩) (by omega)
 have l3:=iY (l:=s.aliases) (by omega)
 have v1:=sd (l:=s.level) (by omega)
 have s1:=ux (r:=s.range) (by omega)
 have c1:=y6 (c:=s.ctx) (by omega)
 have f2:=sX s.value
 clear r12 r13 r15 r16 r21 b11 b12
 unfold Aw at hk
 by_cases k19:s.kind=19
 ·have r:=r19 k19
  have q:=Fh r.1 r.2
  have hsz:=kr (l:=kwQ) (by decide) s.op
  clear r19 r23
  refine fn1 (fn:=Tryz.f205) Tryz.call205 Tryz.func205 rfl Tryz.ntmps205 Tryz.results205 rfl (by rfl) ?_
  repeat'(first|(with_reducible first|apply AW.seq|apply AW.block|apply AW.skip|apply AW.ret|apply ae|apply ar|apply aJ|apply y_e|refine ag ?_|refine bh ?_)|((with_reducible apply ak);first|refine t_v AS.v ?_|refine t_v (by first|exact ah (hP:=l1)|exact ah (hP:=l2)|exact ah (hP:=q)) ?_|refine t_w AS.w ?_)|((with_reducible refine av ?_);((refine aj (fun hc=>?_) (fun hc=>?_);all_goals(try(exfalso;simp[*] at hc;done)))))|((with_reducible refine aF ?_);refine k_s ?_)|(refine⟨by decide +kernel,?_⟩)|fail)
  all_goals
   simp only[decide_eq_true_eq,decide_eq_false_iff_not] at hc
   simp[bk,ef,k19,hc]
 by_cases k23:s.kind=23
 ·have r:=r23 k23
  obtain ⟨j,x,hj,hx,hxe⟩:=tH (l:=kwA) r.1 (by unfold kwA;exact r.2)
  have hsz:x.size≤100:=by rw[← hxe];exact kr (l:=kwA) (by decide) _
  unfold kwA at hx
  clear r19 r23
  refine fn1 (fn:=Tryz.f205) Tryz.call205 Tryz.func205 rfl Tryz.ntmps205 Tryz.results205 rfl (by rfl) ?_
  repeat'(first|(with_reducible first|apply AW.seq|apply AW.block|apply AW.skip|apply AW.ret|apply ae|apply ay|apply y_e|refine ag ?_|refine bh ?_)|((with_reducible apply ak);first|refine t_v AS.v ?_|refine t_v (by first|exact ah (hP:=n1)|exact ah (hP:=n2)) ?_|refine t_w AS.w ?_)|((with_reducible refine av ?_);((refine aj (fun hc=>?_) (fun hc=>?_);all_goals(try(exfalso;simp[*] at hc;done)))))|((with_reducible refine aF ?_);refine k_s ?_)|(refine⟨by decide +kernel,?_⟩)|fail)
  simp[bk,ef,fR,k23,hxe,ByteArray.append_assoc]
 clear r19 r23
 refine fn1 (fn:=Tryz.f205) Tryz.call205 Tryz.func205 rfl Tryz.ntmps205 Tryz.results205 rfl (by rfl) ?_
 repeat'(first|(with_reducible first|apply AW.seq|apply AW.block|apply AW.skip|apply AW.ret|apply ae|apply ar|apply ay|apply aJ|apply y_e|refine ag ?_|refine bh ?_)|((with_reducible apply ak);first|refine t_v AS.v ?_|refine t_v (by first|exact ah (hP:=n1)|exact ah (hP:=l1)|exact ah (hP:=l2)|exact ah (hP:=l3)|exact ah (hP:=v1)|exact ah (hP:=s1)|exact ah (hP:=c1)|exact ah (hP:=uu _)) ?_|refine t_w AS.w ?_)|((with_reducible refine av ?_);((refine aj (fun hc=>?_) (fun hc=>?_);all_goals(try(exfalso;simp[*] at hc;done)))))|((with_reducible refine aF ?_);refine k_s ?_)|(refine⟨by decide +kernel,?_⟩)|fail)
 all_goals
  simp only[decide_eq_true_eq,decide_eq_false_iff_not,List.length_map] at *
  clear n1 n2 l1 l2 l3 v1 s1 c1 b1 b2 b3 b4 b5 b6 b7 b8 b9 b10 b13 b14 b15 f2
  first
  |(exfalso;omega)
  |(simp[bk, *,ByteArray.append_assoc];done)
  |(have e2:s.kind=2:=by assumption
    unfold bk
    rw[if_neg (by omega),if_pos e2]
    first|rw[if_pos (by omega),if_pos (by omega)]|rw[if_pos (by omega),if_neg (by omega)]|rw[if_neg (by omega),if_pos (by omega)]|rw[if_neg (by omega),if_neg (by omega)]
    try simp only[ByteArray.append_assoc]
    done)
  |(have e5:s.kind=5:=by assumption
    have h6:=h5 e5
    unfold bk
    rw[if_neg (by omega),if_neg (by omega),if_neg (by omega),if_neg (by omega),if_pos e5]
    first
    |(have h7:fV s.source=true:=by assumption
      rw[h7] at h6
      rw[show au s.source false=false by revert h6;cases au s.source false <;> simp]
      rfl)
    |(have h7:fV s.source=false:=by assumption
      rw[h7] at h6
      rw[show au s.source false=true by revert h6;cases au s.source false <;> simp]
      rfl))
  |(have e9:s.kind=9:=by assumption
    unfold bk
    rw[if_neg (by omega),if_neg (by omega),if_neg (by omega),if_neg (by omega),if_neg (by omega),if_neg (by omega),if_pos e9]
    rw[ByteArray.append_assoc (b:=⟨#[32]⟩) (c:=nX s.value)]
    first
    |(have h7:s.value=true:=by assumption
      rw[h7,Hq];done)
    |(have h7:s.value=false:=by assumption
      rw[h7,Hp];done))
  |(have e20:s.kind=20:=by omega
    have hl:bk s=ef s:=by
     unfold bk
     repeat'((rw[if_neg (by omega)]))
    rw[hl]
    unfold ef
    rw[if_neg (by omega),if_neg (by omega),if_neg (by omega),if_neg (by omega),if_neg (by omega),if_neg (by omega),if_neg (by omega),if_neg (by omega),if_pos e20];done)
end Am
end Go.Proofs.YtkpodagbefnebaaGreatDoor
