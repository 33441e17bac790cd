import Derived.Test.YtkpodagbefnebaaGreatDoorYg27
set_option linter.unusedSimpArgs false
set_option linter.unusedVariables false
set_option linter.unusedSectionVars false
namespace Go.Proofs.YtkpodagbefnebaaGreatDoor
namespace Am
open Tk
set_option maxRecDepth 100000
set_option maxHeartbeats 4000000
theorem sa {l:List ByteArray} {sep:ByteArray} (hb:(cq sep l).size≤140737488355328):Pure Tryz.prog 275 [.c (bW l),.c (sS sep)] (.c (sS (cq sep l))):=by
 refine fn2 (fn:=Tryz.f275) Tryz.call275 Tryz.func275 rfl Tryz.ntmps275 Tryz.results275 rfl (by rfl) ?_
 refine AW.fact (t:=0) rfl (fun κ w x hr=>gB hr) fun hn=>?_
 repeat'(first|(with_reducible first|apply AW.seq|apply AW.block|apply AW.skip|apply AW.ret|apply AW.exit|apply ae|apply aG|apply ay|apply aT|apply y_e|refine ag ?_)|((with_reducible apply ak);refine t_v AS.v ?_)|((with_reducible refine av ?_);first|refine cg ?_|(refine aj (fun hc=>?_) (fun hc=>?_);all_goals(try(exfalso;simp[*] at hc;done))))|((with_reducible refine aF ?_);refine k_s ?_)|fail)
 refine AW.loop (fun n σ=>∃ j,n=l.length - j∧j≤l.length∧σ=mk [(0,.c (bW l)),(1,.c (sS sep)),(5,.c (sS (cq sep (l.take j)))),(6,.c (sI j))] []) l.length ?_ ?_
 ·exact⟨_,wkA,0,rfl,Nat.zero_le _,rfl⟩
 rintro n σ ⟨j,rfl,hj,rfl⟩
 by_cases hlt:j<l.length
 ·obtain ⟨x,hx⟩:∃ x,l[j]? =some x:=⟨_,List.getElem?_eq_getElem hlt⟩
  have hle:=Iy (sep:=sep) l (j+1)
  by_cases h0:0<j
  ·rw[uQ hx h0,ByteArray.size_append,ByteArray.size_append] at hle
   have e:=uQ (sep:=sep) hx h0
   repeat'(first|(with_reducible first|apply AW.seq|apply AW.block|apply AW.skip|apply AW.ret|apply AW.exit|apply ae|apply aG|apply ay|apply aT|apply y_e|refine ag ?_)|((with_reducible apply ak);refine t_v AS.v ?_)|((with_reducible refine av ?_);first|refine cg ?_|(refine aj (fun hc=>?_) (fun hc=>?_);all_goals(try(exfalso;simp[*] at hc;done))))|((with_reducible refine aF ?_);refine k_s ?_)|fail)
   rw[← e]
   exact⟨_,_,(show l.length - (j+1)<l.length - j by omega),wkA,j+1,rfl,hlt,rfl⟩
  ·obtain rfl:j=0:=by omega
   rw[uR hx] at hle
   have hz:ByteArray.size (cq sep (l.take 0))=0:=rfl
   have e:cq sep (l.take 0)++x=cq sep (l.take (0+1)):=by rw[uR hx,List.take_zero,cq,w4]
   repeat'(first|(with_reducible first|apply AW.seq|apply AW.block|apply AW.skip|apply AW.ret|apply AW.exit|apply ae|apply aG|apply ay|apply aT|apply y_e|refine ag ?_)|((with_reducible apply ak);refine t_v AS.v ?_)|((with_reducible refine av ?_);first|refine cg ?_|(refine aj (fun hc=>?_) (fun hc=>?_);all_goals(try(exfalso;simp[*] at hc;done))))|((with_reducible refine aF ?_);refine k_s ?_)|fail)
   rw[e]
   exact⟨_,_,(show l.length - (0+1)<l.length - 0 by omega),wkA,1,rfl,hlt,rfl⟩
 ·rw[List.take_of_length_le (by omega)]
  repeat'(first|(with_reducible first|apply AW.seq|apply AW.block|apply AW.skip|apply AW.ret|apply AW.exit|apply ae|apply aG|apply ay|apply aT|apply y_e|refine ag ?_)|((with_reducible apply ak);refine t_v AS.v ?_)|((with_reducible refine av ?_);first|refine cg ?_|(refine aj (fun hc=>?_) (fun hc=>?_);all_goals(try(exfalso;simp[*] at hc;done))))|((with_reducible refine aF ?_);refine k_s ?_)|fail)
  rfl
theorem iY {l:List ByteArray} (hb:(brT l).size≤140737488355328):Pure Tryz.prog 274 [.c (bW l)] (.c (sS (brT l))):=by
 have hb2:=hb
 simp only[brT,ByteArray.size_append,bC,List.size_toArray,List.length_cons,List.length_nil] at hb2
 refine fn1 (fn:=Tryz.f274) Tryz.call274 Tryz.func274 rfl Tryz.ntmps274 Tryz.results274 rfl (by rfl) ?_
 repeat'(first|(with_reducible first|apply AW.seq|apply AW.ret|apply ae|apply y_e|refine ag ?_)|((with_reducible apply ak);first|refine t_v AS.v ?_|refine t_v (by exact ah (hP:=sa (by omega))) ?_)|((with_reducible refine aF ?_);refine k_s ?_)|fail)
 rfl
theorem C2 {n:NS} (hb:(brT (nsL n)).size≤70368744177664) (hl:(nsL n).length≤4398046511104):Pure Tryz.prog 270 [.agg (nsC n)] (.c (sS (nsT n))):=by
 have hl2:(ko n).length+n.except.length≤4398046511104:=by simp[nsL,pR] at hl;omega
 have hl1:n.names.length≤4398046511104:=by simp[ko] at hl2;omega
 have hes:∀ x∈n.except,x.size≤70368744177664:=fun x hx=>by
  have h1:⟨#[45,32]⟩++x∈nsL n:=by simp only[nsL,pR];exact List.mem_append_left _ (List.mem_append_right _ (List.mem_map_of_mem hx))
  have h2:=sv (sep:=⟨#[32]⟩) h1
  simp only[brT,ByteArray.size_append] at hb h2
  omega
 refine fn1 (fn:=Tryz.f270) Tryz.call270 Tryz.func270 rfl Tryz.ntmps270 Tryz.results270 rfl (by rfl) ?_
 repeat'((fail_if_success (with_reducible refine ch 2 ?_));(first|(with_reducible first|apply AW.seq|apply ae|apply y_e|refine ag ?_)|((with_reducible apply ak);first|refine t_v AS.v ?_|refine t_w AS.w ?_)|fail))
 apply xR 3 3 rfl rfl
 repeat'((fail_if_success (with_reducible refine ch 5 ?_));(first|(with_reducible first|apply AW.seq|apply AW.skip|apply ae|apply y_e|refine ag ?_)|((with_reducible apply ak);first|refine t_v AS.v ?_|refine t_w AS.w ?_)|((with_reducible refine av ?_);((refine aj (fun hc=>?_) (fun hc=>?_))))|fail))
 all_goals
  first
   |rw[show([]:List ByteArray)++[(⟨#[42]⟩:ByteArray)]++n.names=ko n by simp[ko,hc]]
   |rw[show([]:List ByteArray)++n.names=ko n by simp[ko,hc]]
  refine AW.weak (σ':=mk [(1,.c (.ptr 1 0)),(2,.c (sS ⟨#[]⟩)),(3,.c (.lst (some 3) 1 ((ko n).map oneS)))] [(3,.row 9 1 (ko n).length),(1,.obj 60 (nsC n))]) (wkA) ?_
  clear hc
  repeat'(first|(with_reducible first|apply AW.seq|apply AW.block|apply AW.skip|apply ae|apply ay|apply y_e|refine ag ?_)|((with_reducible apply ak);first|refine t_v AS.v ?_|refine t_w AS.w ?_)|((with_reducible refine av ?_);((refine aj (fun hc=>?_) (fun hc=>?_);all_goals(try(exfalso;simp[*] at hc;done)))))|fail)
  refine AW.loop (fun m σ=>∃ j,m=n.except.length - j∧j≤n.except.length∧σ=mk [(1,.c (.ptr 1 0)),(3,.c (.lst (some 3) 1 ((exL n j).map oneS))),(4,.c (sI j))] [(3,.row 9 1 (exL n j).length),(1,.obj 60 (nsC n))]) n.except.length ?_ ?_
  ·rw[← AK n]
   exact⟨_,wkA,0,rfl,Nat.zero_le _,rfl⟩
  rintro m σ ⟨j,rfl,hj,rfl⟩
  have hlj:=Ec hj
  by_cases hlt:j<n.except.length
  ·obtain ⟨x,hx⟩:∃ x,n.except[j]? =some x:=⟨_,List.getElem?_eq_getElem hlt⟩
   have hxs:=hes x (List.mem_of_getElem? hx)
   repeat'(first|(with_reducible first|apply AW.seq|apply AW.block|apply AW.skip|apply ae|apply ay|apply y_e|refine ag ?_)|((with_reducible apply ak);first|refine t_v AS.v ?_|refine t_w AS.w ?_)|((with_reducible refine av ?_);((refine aj (fun hc=>?_) (fun hc=>?_);all_goals(try(exfalso;simp[*] at hc;done)))))|fail)
   rw[AJ hx]
   exact⟨_,_,(show n.except.length - (j+1)<n.except.length - j by omega),wkA,j+1,rfl,hlt,rfl⟩
  ·rw[xC (by omega)]
   rw[xC (by omega)] at hlj
   repeat'((fail_if_success (with_reducible refine ch 11 ?_));(first|(with_reducible first|apply AW.seq|apply AW.skip|apply AW.exit|apply ae|apply aG|apply aT|apply y_e|refine ag ?_)|((with_reducible apply ak);first|refine t_v AS.v ?_|refine t_w AS.w ?_)|((with_reducible refine av ?_);((refine aj (fun hc=>?_) (fun hc=>?_);all_goals(try(exfalso;simp[*] at hc;done)))))|fail))
   all_goals
    first
     |rw[show pR n++[(⟨#[115,101,108,102]⟩:ByteArray)]=nsL n by simp[nsL,hc]]
     |rw[show pR n=nsL n by simp[nsL,hc]]
    refine AW.weak (σ':=mk [(1,.c (.ptr 1 0)),(3,.c (.lst (some 3) 1 ((nsL n).map oneS)))] [(3,.row 9 1 (nsL n).length),(1,.obj 60 (nsC n))]) (wkA) ?_
    clear hc
    by_cases h1:(nsL n).length=1
    ·obtain ⟨x,hx⟩:∃ x,(nsL n)[0]? =some x:=⟨_,List.getElem?_eq_getElem (by omega)⟩
     have hg:(nsL n).getD 0 ⟨#[]⟩=x:=by rw[List.getD_eq_getElem?_getD,hx];rfl
     have hxs:x.size≤70368744177664:=by
      have:=sv (sep:=⟨#[32]⟩) (List.mem_of_getElem? hx)
      simp only[brT,ByteArray.size_append] at hb
      omega
     repeat'(first|(with_reducible first|apply AW.seq|apply AW.block|apply AW.skip|apply AW.ret|apply ae|apply ar|apply ay|apply aJ|apply y_e|refine ag ?_)|((with_reducible apply ak);first|refine t_v AS.v ?_|refine t_v (by exact ah (hP:=iY (by omega))) ?_)|((with_reducible apply bt);refine t_m (hs:=fun hg=>AS.v) (k:=?_))|((with_reducible refine av ?_);((refine aj (fun hc=>?_) (fun hc=>?_))))|((with_reducible refine aF ?_);refine k_s ?_)|fail)
     all_goals(simp only[List.length_map] at *;unfold nsT;grind)
    ·repeat'(first|(with_reducible first|apply AW.seq|apply AW.block|apply AW.skip|apply AW.ret|apply ae|apply ar|apply ay|apply aJ|apply y_e|refine ag ?_)|((with_reducible apply ak);first|refine t_v AS.v ?_|refine t_v (by exact ah (hP:=iY (by omega))) ?_)|((with_reducible apply bt);refine t_m (hs:=fun hg=>AS.v) (k:=?_))|((with_reducible refine av ?_);((refine aj (fun hc=>?_) (fun hc=>?_);all_goals(try(exfalso;revert hc;simp;omega)))))|((with_reducible refine aF ?_);refine k_s ?_)|fail)
     all_goals(simp only[List.length_map] at *;unfold nsT;grind)
theorem iZ {n:NS} (hb:(nsT n).size≤4398046511000):Pure Tryz.prog 270 [.agg (nsC n)] (.c (sS (nsT n))):=by
 have:=w7 n
 exact C2 (by omega) (by omega)
theorem gL {l:Lv} (hb:(lvT l).size≤140737488355328) (hl:l.cats.length≤4398046511104):Pure Tryz.prog 276 [.agg (lvC l)] (.c (sS (lvT l))):=by
 have hs:0<l.cats.length→(l.sens++⟨#[58]⟩).size+(cq ⟨#[44]⟩ (l.cats.map spT)).size≤140737488355328:=fun h=>by
  have hb2:=hb
  rw[lvT,if_neg (by omega),ByteArray.size_append] at hb2
  exact hb2
 have hx:∀ x∈l.cats,(spT x).size≤140737488355328:=fun x hx=>by
  have:=sv (sep:=⟨#[44]⟩) (List.mem_map_of_mem (f:=spT) hx)
  have:=hs (List.length_pos_of_mem hx)
  omega
 refine fn1 (fn:=Tryz.f276) Tryz.call276 Tryz.func276 rfl Tryz.ntmps276 Tryz.results276 rfl (by rfl) ?_
 repeat'((fail_if_success (with_reducible refine ch 2 ?_));(first|(with_reducible first|apply AW.seq|apply ae|apply y_e|refine ag ?_)|((with_reducible apply ak);first|refine t_v AS.v ?_|refine t_w AS.w ?_)|fail))
 apply xR 3 3 rfl rfl
 repeat'(first|(with_reducible first|apply AW.seq|apply AW.block|apply AW.skip|apply ae|apply ay|apply y_e|refine ag ?_)|((with_reducible apply ak);first|refine t_v AS.v ?_|refine t_w AS.w ?_)|((with_reducible refine av ?_);((refine aj (fun hc=>?_) (fun hc=>?_);all_goals(try(exfalso;simp[*] at hc;done)))))|fail)
 refine AW.loop (fun m σ=>∃ j,m=l.cats.length - j∧j≤l.cats.length∧σ=mk [(1,.c (.ptr 1 0)),(3,.c (.lst (some 3) 1 (((l.cats.take j).map spT).map oneS))),(4,.c (sI j))] [(3,.row 9 1 ((l.cats.take j).map spT).length),(1,.obj 63 (lvC l))]) l.cats.length ?_ ?_
 ·exact⟨_,wkA,0,rfl,Nat.zero_le _,rfl⟩
 rintro m σ ⟨j,rfl,hj,rfl⟩
 by_cases hlt:j<l.cats.length
 ·obtain ⟨x,hx2⟩:∃ x,l.cats[j]? =some x:=⟨_,List.getElem?_eq_getElem hlt⟩
  have hxs:=hx x (List.mem_of_getElem? hx2)
  have hlj:(l.cats.take j).length=j:=by rw[List.length_take];omega
  have e:(l.cats.take j).map spT++[spT x]=(l.cats.take (j+1)).map spT:=(map_take hx2).symm
  by_cases h0:x.to=⟨#[]⟩
  ·have e0:spT x=x.frm:=by unfold spT;rw[if_pos h0]
   rw[e0] at e hxs
   repeat'(first|(with_reducible first|apply AW.seq|apply AW.block|apply AW.skip|apply ae|apply ay|apply y_e|refine ag ?_)|((with_reducible apply ak);first|refine t_v AS.v ?_|refine t_w AS.w ?_)|((with_reducible refine av ?_);((refine aj (fun hc=>?_) (fun hc=>?_);all_goals(try(exfalso;simp[*] at hc;done)))))|fail)
   rw[e]
   exact⟨_,_,(show l.cats.length - (j+1)<l.cats.length - j by omega),wkA,j+1,rfl,hlt,rfl⟩
  ·have e0:spT x=x.frm++⟨#[46]⟩++x.to:=by unfold spT;rw[if_neg h0]
   rw[e0] at e hxs
   simp only[ByteArray.size_append,bC,List.size_toArray,List.length_cons,List.length_nil] at hxs
   repeat'(first|(with_reducible first|apply AW.seq|apply AW.block|apply AW.skip|apply ae|apply ay|apply y_e|refine ag ?_)|((with_reducible apply ak);first|refine t_v AS.v ?_|refine t_w AS.w ?_)|((with_reducible refine av ?_);((refine aj (fun hc=>?_) (fun hc=>?_);all_goals(try(exfalso;simp[*] at hc;done)))))|fail)
   rw[e]
   exact⟨_,_,(show l.cats.length - (j+1)<l.cats.length - j by omega),wkA,j+1,rfl,hlt,rfl⟩
 ·rw[List.take_of_length_le (by omega)]
  by_cases h0:l.cats.length=0
  ·repeat'(first|(with_reducible first|apply AW.seq|apply AW.ret|apply AW.exit|apply ae|apply ar|apply aG|apply aT|apply y_e|refine ag ?_)|((with_reducible apply ak);refine t_v AS.v ?_)|((with_reducible refine av ?_);((refine aj (fun hc=>?_) (fun hc=>?_);all_goals(try(exfalso;simp[*] at hc;done));all_goals(try(exfalso;revert hc;simp;omega)))))|((with_reducible refine aF ?_);refine k_s ?_)|fail)
   ·unfold lvT;rw[if_pos h0]
  ·have h2:=hs (by omega)
   rw[ByteArray.size_append] at h2
   repeat'(first|(with_reducible first|apply AW.seq|apply AW.skip|apply AW.ret|apply AW.exit|apply ae|apply aG|apply aT|apply y_e|refine ag ?_|refine bh ?_)|((with_reducible apply ak);first|refine t_v AS.v ?_|refine t_v (by exact ah (hP:=sa (by omega))) ?_)|((with_reducible refine av ?_);((refine aj (fun hc=>?_) (fun hc=>?_);all_goals(try(exfalso;simp[*] at hc;done)))))|((with_reducible refine aF ?_);refine k_s ?_)|(refine⟨by decide +kernel,?_⟩)|fail)
   unfold lvT;rw[if_neg h0]
theorem uw {r:Rg} (hb:(rgT r).size≤140737488355328) (h1:r.lo.cats.length≤4398046511104) (h2:r.hi.cats.length≤4398046511104):Pure Tryz.prog 271 [.agg (rgC r)] (.c (sS (rgT r))):=by
 cases h0:gU r.hi with
 |true=>
  have hb2:=hb
  rw[rgT,h0,if_pos rfl] at hb2
  refine fn1 (fn:=Tryz.f271) Tryz.call271 Tryz.func271 rfl Tryz.ntmps271 Tryz.results271 rfl (by rfl) ?_
  repeat'(first|(with_reducible first|apply AW.seq|apply AW.ret|apply ae|apply ar|apply y_e|refine ag ?_)|((with_reducible apply ak);first|refine t_v AS.v ?_|refine t_v (by first|exact ah (hP:=mA _)|exact ah (hP:=gL (by omega) h1)) ?_|refine t_w AS.w ?_)|((with_reducible refine av ?_);((refine aj (fun hc=>?_) (fun hc=>?_);all_goals(try(exfalso;simp[*] at hc;done)))))|((with_reducible refine aF ?_);refine k_s ?_)|fail)
  all_goals(unfold rgT;simp_all)
 |false=>
  have hb2:=hb
  rw[rgT,h0,if_neg (by decide)] at hb2
  simp only[ByteArray.size_append,bC,List.size_toArray,List.length_cons,List.length_nil] at hb2
  refine fn1 (fn:=Tryz.f271) Tryz.call271 Tryz.func271 rfl Tryz.ntmps271 Tryz.results271 rfl (by rfl) ?_
  repeat'(first|(with_reducible first|apply AW.seq|apply AW.skip|apply AW.ret|apply ae|apply y_e|refine ag ?_|refine bh ?_)|((with_reducible apply ak);first|refine t_v AS.v ?_|refine t_v (by first|exact ah (hP:=mA _)|exact ah (hP:=gL (by omega) h1)|exact ah (hP:=gL (by omega) h2)) ?_|refine t_w AS.w ?_)|((with_reducible refine av ?_);((refine aj (fun hc=>?_) (fun hc=>?_);all_goals(try(exfalso;simp[*] at hc;done)))))|((with_reducible refine aF ?_);refine k_s ?_)|(refine⟨by decide +kernel,?_⟩)|fail)
  all_goals(unfold rgT;simp_all)
theorem Fe {c:Ct} (hb:(cxT c).size≤140737488355328) (h1:c.rng.lo.cats.length≤4398046511104) (h2:c.rng.hi.cats.length≤4398046511104):Pure Tryz.prog 273 [.agg (cxC c)] (.c (sS (cxT c))):=by
 have hb2:=hb
 simp only[cxT,ByteArray.size_append,bC,List.size_toArray,List.length_cons,List.length_nil] at hb2
 refine fn1 (fn:=Tryz.f273) Tryz.call273 Tryz.func273 rfl Tryz.ntmps273 Tryz.results273 rfl (by rfl) ?_
 repeat'(first|(with_reducible first|apply AW.seq|apply AW.ret|apply ae|apply y_e|refine ag ?_|refine bh ?_)|((with_reducible apply ak);first|refine t_v AS.v ?_|refine t_v (by exact ah (hP:=uw (by omega) h1 h2)) ?_|refine t_w AS.w ?_)|((with_reducible refine aF ?_);refine k_s ?_)|(refine⟨by decide +kernel,?_⟩)|fail)
 rfl
theorem qj {n:Nat} (h:n≤9223372036854775807):Pure Tryz.prog 72 [.c (sI n)] (.c (sS (kl n))):=qi _ n (Nat.lt_succ_self _) h
def attL:List ByteArray:=[⟨#[117]⟩,⟨#[114]⟩,⟨#[116]⟩,⟨#[108]⟩,⟨#[104]⟩]
theorem jg {n:Nat} (hn:n<15):Pure Tryz.prog 323 [.c (sI n)] (.c (sS (gT n))):=by
 have hr:Int.tmod (n:Int) 5=((n % 5:Nat):Int):=by
  have:∀ i:Fin 15,Int.tmod (i.val:Int) 5=((i.val % 5:Nat):Int):=by decide +kernel
  exact this ⟨n,hn⟩
 have hd:Int.tdiv (n:Int) 5=((n / 5:Nat):Int):=by
  have:∀ i:Fin 15,Int.tdiv (i.val:Int) 5=((i.val / 5:Nat):Int):=by decide +kernel
  exact this ⟨n,hn⟩
 obtain ⟨x,hx,hxe,hxs⟩:∃ x,attL[n % 5]? =some x∧gT n=x++kl (n / 5+1)∧x.size≤5:=by
  have:∀ i:Fin 15,∃ x,attL[i.val % 5]? =some x∧gT i.val=x++kl (i.val / 5+1)∧x.size≤5:=by
   intro i
   have h5:i.val % 5<attL.length:=Nat.mod_lt _ (by decide)
   refine⟨attL[i.val % 5],List.getElem?_eq_getElem h5,?_,?_⟩
   ·unfold gT kl
    congr 1
    have:∀ j:Fin 5,(⟨#[117,114,116,108,104]⟩:ByteArray).extract j.val (j.val+1)=attL[j.val]'(by have:=j.2;exact this):=by decide +kernel
    exact this ⟨i.val % 5,Nat.mod_lt _ (by decide)⟩
   ·have:∀ y∈attL,y.size≤5:=by decide
    exact this _ (List.getElem_mem h5)
  exact this ⟨n,hn⟩
 unfold attL at hx
 have hdl:=xu (n / 5+1) (by omega)
 have hi:Pure Tryz.prog 72 [.c (sI (1+((n / 5:Nat):Int)))] (.c (sS (kl (n / 5+1)))):=by
  have:=qj (n:=n / 5+1) (by omega)
  rwa [show(((n / 5+1:Nat)):Int)=1+((n / 5:Nat):Int) by omega] at this
 rw[hxe]
 refine fn1 (fn:=Tryz.f323) Tryz.call323 Tryz.func323 rfl Tryz.ntmps323 Tryz.results323 rfl (by rfl) ?_
 repeat'(first|(with_reducible first|apply AW.seq|apply AW.ret|apply ae|apply y_e|refine ag ?_|refine bh ?_)|((with_reducible apply ak);first|refine t_v AS.v ?_|refine t_v (by exact ah (hP:=hi)) ?_)|((with_reducible refine aF ?_);refine k_s ?_)|(refine⟨by decide +kernel,?_⟩)|fail)
 rfl
end Am
namespace Am
open Tk
set_option maxRecDepth 100000
set_option maxHeartbeats 4000000
theorem hZ {e:Ex} {p:Bool} (h:Pure Tryz.prog 272 [.agg (exC e)] (.c (sS (exT e)))) (hb:(fi p (exT e)).size≤vZ):Pure Tryz.prog 324 [.agg (exC e),.c (sB p)] (.c (sS (fi p (exT e)))):=by
 have hb2:=hb
 unfold fi vZ at hb2
 cases p with
 |true=>
  rw[if_pos rfl] at hb2
  simp only[ByteArray.size_append,bC,List.size_toArray,List.length_cons,List.length_nil] at hb2
  refine fn2 (fn:=Tryz.f324) Tryz.call324 Tryz.func324 rfl Tryz.ntmps324 Tryz.results324 rfl (by rfl) ?_
  repeat'(first|(with_reducible first|apply AW.seq|apply AW.skip|apply AW.ret|apply ae|apply ar|apply y_e|refine ag ?_)|((with_reducible apply ak);first|refine t_v AS.v ?_|refine t_v (by exact ah (hP:=h)) ?_|refine t_w AS.w ?_)|((with_reducible refine av ?_);first|refine cO ?_|refine cg ?_)|((with_reducible refine aF ?_);refine k_s ?_)|fail)
  rfl
 |false=>
  refine fn2 (fn:=Tryz.f324) Tryz.call324 Tryz.func324 rfl Tryz.ntmps324 Tryz.results324 rfl (by rfl) ?_
  repeat'(first|(with_reducible first|apply AW.seq|apply AW.skip|apply AW.ret|apply ae|apply ar|apply y_e|refine ag ?_)|((with_reducible apply ak);first|refine t_v AS.v ?_|refine t_v (by exact ah (hP:=h)) ?_|refine t_w AS.w ?_)|((with_reducible refine av ?_);first|refine cO ?_|refine cg ?_)|((with_reducible refine aF ?_);refine k_s ?_)|fail)
  rfl
def Il:List ByteArray:=[⟨#[61,61]⟩,⟨#[33,61]⟩,⟨#[100,111,109]⟩,⟨#[100,111,109,98,121]⟩,⟨#[105,110,99,111,109,112]⟩]
theorem Io {n:Int} (h0:0≤n) (h1:n<5):∃ (j:Nat) (x:ByteArray),n=j∧Il[j]? =some x∧si n=x:=by
 obtain ⟨j,rfl⟩:∃ j:Nat,n=j:=⟨n.toNat,by omega⟩
 have hj:j<5:=by omega
 have:∀ i:Fin 5,∃ x,Il[i.val]? =some x∧si (i.val:Int)=x:=by decide
 obtain ⟨x,h2,h3⟩:=this ⟨j,hj⟩
 exact⟨j,x,rfl,h2,h3⟩
theorem F1 {l:List ByteArray} {x:ByteArray} (h:l=[x]):nsT ⟨false,false,false,l,[]⟩=x:=by
 subst h;simp[nsT,nsL,ko,pR]
theorem BE {l:List ByteArray} (h:l.length≠1):nsT ⟨false,false,false,l,[]⟩=brT l:=by
 simp[nsT,nsL,ko,pR,h]
theorem ks:∀ (n:Nat) (e:Ex) (limit level:Int),SizeOf.sizeOf e<n→limit≤15→fy limit level e=true→(exT e).size≤4398046511000→Pure Tryz.prog 272 [.agg (exC e)] (.c (sS (exT e)))
 |0,_,_,_,h,_,_,_=>absurd h (Nat.not_lt_zero _)
 |n+1,e,limit,level,h,hl,hn,hb=>by
  have ih:∀ x∈e.kids,(exT x).size≤4398046511000→Pure Tryz.prog 272 [.agg (exC x)] (.c (sS (exT x))):=fun x hx hs=>
   ks n x limit (level+1) (by have:=fW hx;omega) hl (by
    rw[lA,Bool.and_eq_true] at hn
    exact List.all_eq_true.1 hn.2 x hx) hs
  rw[lA,Bool.and_eq_true] at hn
  have hn:=hn.1
  rw[Hz] at hb ⊢
  unfold mO at hn
  rw[Bool.and_eq_true] at hn
  have hn:=hn.2
  by_cases o2:e.op=2
  ·have hk:(e.kids.length:Int)=1:=by simp[o2] at hn;omega
   obtain ⟨k,hk⟩:=oV hk
   have hx:e.kids[0]? =some k:=by rw[hk];rfl
   have e1:exH e.op e.a e.rel e.b e.names (e.kids.map exT) (e.kids.map (·.op))=⟨#[33]⟩++fi (decide (k.op≠2)) (exT k):=by simp[exH,o2,hk]
   rw[e1] at hb ⊢
   simp only[ByteArray.size_append,bC,List.size_toArray,List.length_cons,List.length_nil] at hb
   have hs:=lH (decide (k.op≠2)) (exT k)
   have hp:=hZ (p:=decide (k.op≠2)) (ih k (List.mem_of_getElem? hx) (by omega)) (by unfold vZ;omega)
   rw[decide_not] at hp hb ⊢
   clear ih hn hk h e1 hs
   refine fn1 (fn:=Tryz.f272) Tryz.call272 Tryz.func272 rfl Tryz.ntmps272 Tryz.results272 rfl (by rfl) ?_
   repeat'(first|(with_reducible first|apply AW.seq|apply AW.block|apply AW.ret|apply ae|apply ar|apply aJ|apply y_e|refine ag ?_|refine bh ?_)|((with_reducible apply ak);first|refine t_v AS.v ?_|refine t_v (by exact ah (hP:=hp)) ?_|refine t_w AS.w ?_)|((with_reducible refine av ?_);((refine aj (fun hc=>?_) (fun hc=>?_);all_goals(try(exfalso;simp[*] at hc;done)))))|((with_reducible refine aF ?_);refine k_s ?_)|(refine⟨by decide +kernel,?_⟩)|fail)
   rfl
  by_cases o3:e.op=3
  ·have hk:(e.kids.length:Int)=2:=by simp[o3] at hn;omega
   obtain ⟨k,m,hk⟩:=wO hk
   have hx:e.kids[0]? =some k:=by rw[hk];rfl
   have hy:e.kids[1]? =some m:=by rw[hk];rfl
   have e1:exH e.op e.a e.rel e.b e.names (e.kids.map exT) (e.kids.map (·.op))=fi (decide (k.op=4)) (exT k)++⟨#[32,38,38,32]⟩++fi (decide (m.op=4) || decide (m.op=3)) (exT m):=by simp[exH,o3,hk]
   rw[e1] at hb ⊢
   simp only[ByteArray.size_append,bC,List.size_toArray,List.length_cons,List.length_nil] at hb
   have hs:=lH (decide (k.op=4)) (exT k)
   have ht:=lH (decide (m.op=4) || decide (m.op=3)) (exT m)
   have hp:=hZ (p:=decide (k.op=4)) (ih k (List.mem_of_getElem? hx) (by omega)) (by unfold vZ;omega)
   have hq:=hZ (p:=decide (m.op=4) || decide (m.op=3)) (ih m (List.mem_of_getElem? hy) (by omega)) (by unfold vZ;omega)
   have hp2:∀ b,b=decide (k.op=4)→Pure Tryz.prog 324 [.agg (exC k),.c (sB b)] (.c (sS (fi (decide (k.op=4)) (exT k)))):=fun b hb=>hb▸hp
   have hq2:∀ b,b=(decide (m.op=4) || decide (m.op=3))→Pure Tryz.prog 324 [.agg (exC m),.c (sB b)] (.c (sS (fi (decide (m.op=4) || decide (m.op=3)) (exT m)))):=fun b hb=>hb▸hq
   clear ih hn hk h e1 hs ht hp hq
   refine fn1 (fn:=Tryz.f272) Tryz.call272 Tryz.func272 rfl Tryz.ntmps272 Tryz.results272 rfl (by rfl) ?_
   repeat'(first|(with_reducible first|apply AW.seq|apply AW.block|apply AW.skip|apply AW.ret|apply ae|apply ay|apply y_e|refine ag ?_|refine bh ?_)|((with_reducible apply ak);first|refine t_v AS.v ?_|refine t_v (by first|exact ah (hP:=hp2 _ (by simp[o3];done))|exact ah (hP:=hq2 _ (by simp[o3];done))) ?_|refine t_w AS.w ?_)|((with_reducible apply bt);refine t_m (hs:=fun hg=>AS.v) (k:=?_))|((with_reducible apply aX);refine t_s AS.s ?_)|((with_reducible refine av ?_);((refine aj (fun hc=>?_) (fun hc=>?_);all_goals(try(exfalso;simp[*] at hc;done)))))|((with_reducible refine aF ?_);refine k_s ?_)|(refine⟨by decide +kernel,?_⟩)|fail)
   rfl
  by_cases o4:e.op=4
  ·have hk:(e.kids.length:Int)=2:=by simp[o4] at hn;omega
   obtain ⟨k,m,hk⟩:=wO hk
   have hx:e.kids[0]? =some k:=by rw[hk];rfl
   have hy:e.kids[1]? =some m:=by rw[hk];rfl
   have e1:exH e.op e.a e.rel e.b e.names (e.kids.map exT) (e.kids.map (·.op))=fi false (exT k)++⟨#[32,124,124,32]⟩++fi (decide (m.op=4)) (exT m):=by simp[exH,o4,hk,fi]
   rw[e1] at hb ⊢
   simp only[ByteArray.size_append,bC,List.size_toArray,List.length_cons,List.length_nil] at hb
   have hs:=lH false (exT k)
   have ht:=lH (decide (m.op=4)) (exT m)
   have hp:=hZ (p:=false) (ih k (List.mem_of_getElem? hx) (by omega)) (by unfold vZ;omega)
   have hq:=hZ (p:=decide (m.op=4)) (ih m (List.mem_of_getElem? hy) (by omega)) (by unfold vZ;omega)
   have hp2:∀ b,b=false→Pure Tryz.prog 324 [.agg (exC k),.c (sB b)] (.c (sS (fi false (exT k)))):=fun b hb=>hb▸hp
   have hq2:∀ b,b=decide (m.op=4)→Pure Tryz.prog 324 [.agg (exC m),.c (sB b)] (.c (sS (fi (decide (m.op=4)) (exT m)))):=fun b hb=>hb▸hq
   clear ih hn hk h e1 hs ht hp hq
   refine fn1 (fn:=Tryz.f272) Tryz.call272 Tryz.func272 rfl Tryz.ntmps272 Tryz.results272 rfl (by rfl) ?_
   repeat'(first|(with_reducible first|apply AW.seq|apply AW.block|apply AW.skip|apply AW.ret|apply ae|apply ay|apply y_e|refine ag ?_|refine bh ?_)|((with_reducible apply ak);first|refine t_v AS.v ?_|refine t_v (by first|exact ah (hP:=hp2 _ (by simp[o4];done))|exact ah (hP:=hq2 _ (by simp[o4];done))) ?_|refine t_w AS.w ?_)|((with_reducible apply bt);first|refine t_f ?_|refine t_m (hs:=fun hg=>AS.v) (k:=?_))|((with_reducible apply aX);refine t_s AS.s ?_)|((with_reducible refine av ?_);((refine aj (fun hc=>?_) (fun hc=>?_);all_goals(try(exfalso;simp[*] at hc;done)))))|((with_reducible refine aF ?_);refine k_s ?_)|(refine⟨by decide +kernel,?_⟩)|fail)
   rfl
  by_cases o9:e.op=9
  ·have ha:0≤e.a∧e.a<15:=by simp[o9] at hn;omega
   obtain ⟨a,ha2⟩:∃ a:Nat,e.a=a:=⟨e.a.toNat,by omega⟩
   have han:a<15:=by omega
   have e1:exH e.op e.a e.rel e.b e.names (e.kids.map exT) (e.kids.map (·.op))=gT a++⟨#[32,105,110,32]⟩++nsT ⟨false,false,false,e.names,[]⟩:=by simp[exH,o9,ha2]
   rw[e1] at hb ⊢
   have hp:Pure Tryz.prog 323 [.c (sI e.a)] (.c (sS (gT a))):=by rw[ha2];exact jg han
   by_cases n1:e.names.length=1
   ·obtain ⟨x,hx⟩:=oV (l:=e.names) (by omega)
    have hx0:e.names[0]? =some x:=by rw[hx];rfl
    rw[F1 hx] at hb ⊢
    simp only[ByteArray.size_append,bC,List.size_toArray,List.length_cons,List.length_nil] at hb
    clear ih hn h e1 ha ha2 hx
    refine fn1 (fn:=Tryz.f272) Tryz.call272 Tryz.func272 rfl Tryz.ntmps272 Tryz.results272 rfl (by rfl) ?_
    repeat'(first|(with_reducible first|apply AW.seq|apply AW.block|apply AW.ret|apply ae|apply ar|apply aJ|apply y_e|refine ag ?_|refine bh ?_)|((with_reducible apply ak);first|refine t_v AS.v ?_|refine t_v (by exact ah (hP:=hp)) ?_|refine t_w AS.w ?_)|((with_reducible refine av ?_);((refine aj (fun hc=>?_) (fun hc=>?_);all_goals(try(exfalso;simp[*] at hc;done)))))|((with_reducible refine aF ?_);refine k_s ?_)|(refine⟨by decide +kernel,?_⟩)|fail)
    rfl
   ·rw[BE n1] at hb ⊢
    simp only[ByteArray.size_append,bC,List.size_toArray,List.length_cons,List.length_nil] at hb
    have hq:=iY (l:=e.names) (by omega)
    clear ih hn h e1 ha ha2
    refine fn1 (fn:=Tryz.f272) Tryz.call272 Tryz.func272 rfl Tryz.ntmps272 Tryz.results272 rfl (by rfl) ?_
    repeat'(first|(with_reducible first|apply AW.seq|apply AW.block|apply AW.skip|apply AW.ret|apply ae|apply ar|apply aJ|apply y_e|refine ag ?_|refine bh ?_)|((with_reducible apply ak);first|refine t_v AS.v ?_|refine t_v (by first|exact ah (hP:=hp)|exact ah (hP:=hq)) ?_|refine t_w AS.w ?_)|((with_reducible refine av ?_);((refine aj (fun hc=>?_) (fun hc=>?_);all_goals(try(exfalso;simp[*] at hc;done));all_goals(try(exfalso;revert hc;simp;omega)))))|((with_reducible refine aF ?_);refine k_s ?_)|(refine⟨by decide +kernel,?_⟩)|fail)
    rfl
  ·have ha:e.op=8∧0≤e.a∧e.a<15∧0≤e.b∧e.b<15∧0≤e.rel∧e.rel<5:=by
    simp[o2,o3,o4,o9] at hn
    omega
   obtain ⟨o8,ha⟩:=ha
   obtain ⟨a,ha2⟩:∃ a:Nat,e.a=a:=⟨e.a.toNat,by omega⟩
   obtain ⟨b,hb2⟩:∃ b:Nat,e.b=b:=⟨e.b.toNat,by omega⟩
   obtain ⟨j,x,hj,hx,hxe⟩:=Io ha.2.2.2.2.1 ha.2.2.2.2.2
   unfold Il at hx
   have han:a<15:=by omega
   have hbn:b<15:=by omega
   have e1:exH e.op e.a e.rel e.b e.names (e.kids.map exT) (e.kids.map (·.op))=gT a++⟨#[32]⟩++si e.rel++⟨#[32]⟩++gT b:=by simp[exH,o8,ha2,hb2]
   rw[e1,hxe] at hb ⊢
   simp only[ByteArray.size_append,bC,List.size_toArray,List.length_cons,List.length_nil] at hb
   have hp:Pure Tryz.prog 323 [.c (sI e.a)] (.c (sS (gT a))):=by rw[ha2];exact jg han
   have hq:Pure Tryz.prog 323 [.c (sI e.b)] (.c (sS (gT b))):=by rw[hb2];exact jg hbn
   clear ih hn h e1 ha ha2 hb2 o2 o3 o4 o9 hxe
   refine fn1 (fn:=Tryz.f272) Tryz.call272 Tryz.func272 rfl Tryz.ntmps272 Tryz.results272 rfl (by rfl) ?_
   repeat'(first|(with_reducible first|apply AW.seq|apply AW.block|apply AW.skip|apply AW.ret|apply ae|apply ar|apply aJ|apply y_e|refine ag ?_|refine bh ?_)|((with_reducible apply ak);first|refine t_v AS.v ?_|refine t_v (by first|exact ah (hP:=hp)|exact ah (hP:=hq)) ?_|refine t_w AS.w ?_)|((with_reducible refine av ?_);((refine aj (fun hc=>?_) (fun hc=>?_);all_goals(try(exfalso;simp[*] at hc;done));all_goals(try(exfalso;revert hc;simp;omega)))))|((with_reducible refine aF ?_);refine k_s ?_)|(refine⟨by decide +kernel,?_⟩)|fail)
   rfl
theorem kt {e:Ex} {v:Bool} (h:gE e v=true) (hb:(exT e).size≤4398046511000):Pure Tryz.prog 272 [.agg (exC e)] (.c (sS (exT e))):=
 ks _ e (if v then 15 else 10) 1 (Nat.lt_succ_self _) (by split <;> decide) h hb
end Am
end Go.Proofs.YtkpodagbefnebaaGreatDoor
