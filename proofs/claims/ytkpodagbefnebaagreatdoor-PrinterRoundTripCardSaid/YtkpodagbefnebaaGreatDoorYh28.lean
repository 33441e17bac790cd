import Derived.Test.YtkpodagbefnebaaGreatDoorYh27
import Derived.Test.YtkpodagbefnebaaGreatDoorYh10
import Derived.Test.YtkpodagbefnebaaGreatDoorSi
import Derived.Lib.AppendIntMem
import Derived.Lib.ItoaLen
set_option linter.unusedSimpArgs false
set_option linter.unusedVariables false
set_option linter.unusedSectionVars false
namespace Go.Proofs.YtkpodagbefnebaaGreatDoor
namespace Am
set_option maxRecDepth 100000
set_option maxHeartbeats 1000000
theorem xL {r:Rg} (hb:(rgT r).size≤140737488355328):Pure Tryz.prog 290 [.agg (rgC r)] (.c (sS (rgT r))):=by
 cases h0:iN r.hi with
 |true=>
  have hb2:=hb
  rw[rgT,h0,if_pos rfl] at hb2
  refine fn1 (fn:=Tryz.f290) Tryz.call290 Tryz.func290 rfl Tryz.ntmps290 Tryz.results290 rfl (by rfl) ?_
  repeat'(first|(with_reducible first|apply AW.seq|apply AW.skip|apply AW.ret|apply ae|apply aq|apply y_e|refine ah ?_|refine bb ?_)|((with_reducible apply ak);first|refine t_v AS.v ?_|refine t_v (by first|exact ag (hP:=rT _)|exact ag (hP:=sf (by omega))) ?_|refine t_w AS.w ?_)|((with_reducible refine au ?_);((refine aj (fun hc=>?_) (fun hc=>?_);all_goals(try(exfalso;simp[*] at hc;done)))))|((with_reducible refine aA ?_);refine k_s ?_)|(refine⟨by decide +kernel,?_⟩)|fail)
  all_goals(unfold rgT;simp_all)
 |false=>
  have hb2:=hb
  rw[rgT,h0,if_neg (by decide)] at hb2
  simp only[ByteArray.size_append,aM,List.size_toArray,List.length_cons,List.length_nil] at hb2
  refine fn1 (fn:=Tryz.f290) Tryz.call290 Tryz.func290 rfl Tryz.ntmps290 Tryz.results290 rfl (by rfl) ?_
  repeat'(first|(with_reducible first|apply AW.seq|apply AW.skip|apply AW.ret|apply ae|apply aq|apply y_e|refine ah ?_|refine bb ?_)|((with_reducible apply ak);first|refine t_v AS.v ?_|refine t_v (by first|exact ag (hP:=rT _)|exact ag (hP:=sf (by omega))) ?_|refine t_w AS.w ?_)|((with_reducible refine au ?_);((refine aj (fun hc=>?_) (fun hc=>?_);all_goals(try(exfalso;simp[*] at hc;done)))))|((with_reducible refine aA ?_);refine k_s ?_)|(refine⟨by decide +kernel,?_⟩)|fail)
  all_goals(unfold rgT;simp_all)
theorem zM {c:Ct} (hb:(cxT c).size≤140737488355328):Pure Tryz.prog 333 [.agg (cxC c)] (.c (sS (cxT c))):=by
 have hb2:=hb
 simp only[cxT,ByteArray.size_append,aM,List.size_toArray,List.length_cons,List.length_nil] at hb2
 refine fn1 (fn:=Tryz.f333) Tryz.call333 Tryz.func333 rfl Tryz.ntmps333 Tryz.results333 rfl (by rfl) ?_
 repeat'(first|(with_reducible first|apply AW.seq|apply AW.ret|apply ae|apply y_e|refine ah ?_|refine bb ?_)|((with_reducible apply ak);first|refine t_v AS.v ?_|refine t_v (by exact ag (hP:=xL (by omega))) ?_|refine t_w AS.w ?_)|((with_reducible refine aA ?_);refine k_s ?_)|(refine⟨by decide +kernel,?_⟩)|fail)
 rfl
theorem xy (n:Int):Pure Tryz.prog 224 [.c (sI n)] (.c (sS (ti n))):=by
 refine fn1 (fn:=Tryz.f224) Tryz.call224 Tryz.func224 rfl Tryz.ntmps224 Tryz.results224 rfl (by rfl) ?_
 repeat'(first|(with_reducible first|apply AW.seq|apply AW.block|apply AW.skip|apply AW.ret|apply ae|apply aq|apply aw|apply aG|apply y_e|refine ah ?_)|((with_reducible apply ak);refine t_v AS.v ?_)|((with_reducible refine au ?_);((refine aj (fun hc=>?_) (fun hc=>?_))))|((with_reducible refine aA ?_);refine k_s ?_)|fail)
 all_goals(simp only[decide_eq_true_eq,decide_eq_false_iff_not] at *;simp[ti, *])
theorem Gf {n:NS} (hb:(brT (nsL n)).size≤70368744177664) (hl:(nsL n).length≤4398046511104):Pure Tryz.prog 164 [.agg (nsC n)] (.c (sS (nsT n))):=by
 have hl2:(lq n).length+n.except.length≤4398046511104:=by simp[nsL,sP] at hl;omega
 have hl1:n.names.length≤4398046511104:=by simp[lq] at hl2;omega
 have hes:∀ x∈n.except,x.size≤70368744177664:=fun x hx=>by
  have h1:⟨#[45,32]⟩++x∈nsL n:=by simp only[nsL,sP];exact List.mem_append_left _ (List.mem_append_right _ (List.mem_map_of_mem hx))
  have h2:=tr (sep:=⟨#[32]⟩) h1
  simp only[brT,ByteArray.size_append] at hb h2
  omega
 refine fn1 (fn:=Tryz.f164) Tryz.call164 Tryz.func164 rfl Tryz.ntmps164 Tryz.results164 rfl (by rfl) ?_
 repeat'((fail_if_success (with_reducible refine ct 2 ?_));(first|(with_reducible first|apply AW.seq|apply ae|apply y_e|refine ah ?_)|((with_reducible apply ak);first|refine t_v AS.v ?_|refine t_w AS.w ?_)|fail))
 apply Gh 3 3 rfl rfl
 repeat'((fail_if_success (with_reducible refine ct 5 ?_));(first|(with_reducible first|apply AW.seq|apply AW.skip|apply ae|apply y_e|refine ah ?_)|((with_reducible apply ak);first|refine t_v AS.v ?_|refine t_w AS.w ?_)|((with_reducible refine au ?_);((refine aj (fun hc=>?_) (fun hc=>?_))))|fail))
 all_goals
  first
   |rw[show([]:List ByteArray)++[(⟨#[42]⟩:ByteArray)]++n.names=lq n by simp[lq,hc]]
   |rw[show([]:List ByteArray)++n.names=lq n by simp[lq,hc]]
  refine AW.weak (σ':=mk [(1,.c (.ptr 1 0)),(2,.c (sS ⟨#[]⟩)),(3,.c (.lst (some 3) 1 ((lq n).map oneS)))] [(3,.row 9 1 (lq n).length),(1,.obj 60 (nsC n))]) (wkA) ?_
  clear hc
  repeat'(first|(with_reducible first|apply AW.seq|apply AW.block|apply AW.skip|apply ae|apply aw|apply y_e|refine ah ?_)|((with_reducible apply ak);first|refine t_v AS.v ?_|refine t_w AS.w ?_)|((with_reducible refine au ?_);((refine aj (fun hc=>?_) (fun hc=>?_);all_goals(try(exfalso;simp[*] at hc;done)))))|fail)
  refine AW.fact (t:=17) rfl (fun κ w x hr=>dq hr) fun hn=>?_
  refine AW.loop (fun m σ=>∃ j,m=n.except.length - j∧j≤n.except.length∧σ=mk [(1,.c (.ptr 1 0)),(3,.c (.lst (some 3) 1 ((exL n j).map oneS))),(17,.c (bA n.except)),(18,.c (sI (n.except.map oneS).length)),(19,.c (sI j))] [(3,.row 9 1 (exL n j).length),(1,.obj 60 (nsC n))]) n.except.length ?_ ?_
  ·rw[← C7 n]
   exact⟨_,wkA,0,rfl,Nat.zero_le _,rfl⟩
  rintro m σ ⟨j,rfl,hj,rfl⟩
  have hlj:=FI hj
  by_cases hlt:j<n.except.length
  ·obtain ⟨x,hx⟩:∃ x,n.except[j]? =some x:=⟨_,List.getElem?_eq_getElem hlt⟩
   have hxs:=hes x (List.mem_of_getElem? hx)
   repeat'(first|(with_reducible first|apply AW.seq|apply AW.block|apply AW.skip|apply ae|apply aw|apply y_e|refine ah ?_)|((with_reducible apply ak);first|refine t_v AS.v ?_|refine t_w AS.w ?_)|((with_reducible refine au ?_);((refine aj (fun hc=>?_) (fun hc=>?_);all_goals(try(exfalso;simp[*] at hc;done)))))|fail)
   rw[C6 hx]
   exact⟨_,_,(show n.except.length - (j+1)<n.except.length - j by omega),wkA,j+1,rfl,hlt,rfl⟩
  ·rw[yH (by omega)]
   rw[yH (by omega)] at hlj
   repeat'((fail_if_success (with_reducible refine ct 12 ?_));(first|(with_reducible first|apply AW.seq|apply AW.skip|apply AW.exit|apply ae|apply aJ|apply aW|apply y_e|refine ah ?_)|((with_reducible apply ak);first|refine t_v AS.v ?_|refine t_w AS.w ?_)|((with_reducible refine au ?_);((refine aj (fun hc=>?_) (fun hc=>?_);all_goals(try(exfalso;simp[*] at hc;done)))))|fail))
   all_goals
    first
     |rw[show sP n++[(⟨#[115,101,108,102]⟩:ByteArray)]=nsL n by simp[nsL,hc]]
     |rw[show sP n=nsL n by simp[nsL,hc]]
    refine AW.weak (σ':=mk [(1,.c (.ptr 1 0)),(3,.c (.lst (some 3) 1 ((nsL n).map oneS)))] [(3,.row 9 1 (nsL n).length),(1,.obj 60 (nsC n))]) (wkA) ?_
    clear hc
    by_cases h1:(nsL n).length=1
    ·obtain ⟨x,hx⟩:∃ x,(nsL n)[0]? =some x:=⟨_,List.getElem?_eq_getElem (by omega)⟩
     have hg:(nsL n).getD 0 ⟨#[]⟩=x:=by rw[List.getD_eq_getElem?_getD,hx];rfl
     have hxs:x.size≤70368744177664:=by
      have:=tr (sep:=⟨#[32]⟩) (List.mem_of_getElem? hx)
      simp only[brT,ByteArray.size_append] at hb
      omega
     repeat'(first|(with_reducible first|apply AW.seq|apply AW.block|apply AW.skip|apply AW.ret|apply ae|apply aq|apply aw|apply aG|apply y_e|refine ah ?_)|((with_reducible apply ak);first|refine t_v AS.v ?_|refine t_v (by exact ag (hP:=jY (by omega))) ?_)|((with_reducible apply bc);refine t_m (hs:=fun hg=>AS.v) (k:=?_))|((with_reducible refine au ?_);((refine aj (fun hc=>?_) (fun hc=>?_))))|((with_reducible refine aA ?_);refine k_s ?_)|fail)
     all_goals(simp only[List.length_map] at *;unfold nsT;grind)
    ·repeat'(first|(with_reducible first|apply AW.seq|apply AW.block|apply AW.skip|apply AW.ret|apply ae|apply aq|apply aw|apply aG|apply y_e|refine ah ?_)|((with_reducible apply ak);first|refine t_v AS.v ?_|refine t_v (by exact ag (hP:=jY (by omega))) ?_)|((with_reducible apply bc);refine t_m (hs:=fun hg=>AS.v) (k:=?_))|((with_reducible refine au ?_);((refine aj (fun hc=>?_) (fun hc=>?_);all_goals(try(exfalso;revert hc;simp;omega)))))|((with_reducible refine aA ?_);refine k_s ?_)|fail)
     all_goals(simp only[List.length_map] at *;unfold nsT;grind)
end Am
namespace Am
set_option maxRecDepth 100000
set_option maxHeartbeats 1000000
theorem wA (s:Stm):Pure Tryz.prog 170 [.agg (stC s)] (.tup [.c (sB (fz s).1),.agg (stC (fz s).2)]):=by
 refine fn1 (fn:=Tryz.f170) Tryz.call170 Tryz.func170 rfl Tryz.ntmps170 Tryz.results170 rfl (by simp[V.ok,okL,C.ok,okA,okV]) ?_
 repeat'(first|(with_reducible first|apply AW.seq|apply AW.block|apply AW.skip|apply AW.ret|apply ae|apply aq|apply aw|apply aG|apply y_e|refine ah ?_|refine bb ?_)|((with_reducible apply ak);first|refine t_v AS.v ?_|refine t_v (by exact ag (hP:=dM _)) ?_|refine t_w AS.w ?_)|((with_reducible apply bc);first|refine t_m (hs:=fun hg=>AS.v) (k:=?_)|refine t_m (hs:=fun hg=>(by first|exact ag (hP:=tu _)|exact ag (hP:=js (fun x _=>dM x))|exact ag (hP:=AU _)|exact ag (hP:=jy _ _)|exact ag (hP:=mV _)|exact ag (hP:=pV _))) (k:=?_))|((with_reducible apply aV);refine t_s AS.s ?_)|((with_reducible refine au ?_);((refine aj (fun hc=>?_) (fun hc=>?_);all_goals(try(exfalso;simp[*] at hc;done)))))|((with_reducible refine aA ?_);(((refine uL ?_ ?_);all_goals(with_reducible (first|apply Ko|apply ED)))))|(refine⟨by decide +kernel,?_⟩)|fail)
 all_goals
  simp only[decide_eq_true_eq,decide_eq_false_iff_not] at *
  simp[fz,unA, *]
theorem sQ (s:ByteArray):Pure Tryz.prog 232 [.c (sS s)] (.c (sB (mj s))):=by
 refine fn1 (fn:=Tryz.f232) Tryz.call232 Tryz.func232 rfl Tryz.ntmps232 Tryz.results232 rfl (by rfl) ?_
 refine AW.fact (t:=0) rfl (fun κ w x hr=>lD hr) fun hn=>?_
 repeat'(first|(with_reducible first|apply AW.seq|apply AW.block|apply AW.skip|apply AW.ret|apply AW.exit|apply ae|apply aq|apply aJ|apply aw|apply aG|apply aW|apply y_e|refine ah ?_)|((with_reducible apply ak);refine t_v AS.v ?_)|((with_reducible apply bc);refine t_m (hs:=fun hg=>AS.v) (k:=?_))|((with_reducible refine au ?_);((refine aj (fun hc=>?_) (fun hc=>?_);all_goals(try(exfalso;simp[*] at hc;done)))))|((with_reducible refine aA ?_);refine k_b ?_)|fail)
 refine AW.loop (fun n σ=>∃ j,n=s.size - j∧j≤s.size∧(s.data.toList.take j).all ml=true∧σ=mk [(0,.c (sS s)),(5,.c (sI s.size)),(6,.c (sI j))] []) s.size ?_ ?_
 ·exact⟨_,wkA,0,rfl,Nat.zero_le _,rfl,rfl⟩
 rintro n σ ⟨j,rfl,hj,ha,rfl⟩
 by_cases hlt:j<s.size
 ·obtain ⟨x,hx⟩:∃ x,s.data.toList[j]? =some x:=⟨_,List.getElem?_eq_getElem (by have:=bZ s;omega)⟩
  repeat'(first|(with_reducible first|apply AW.seq|apply AW.block|apply AW.skip|apply AW.ret|apply AW.exit|apply ae|apply aq|apply aJ|apply aw|apply aG|apply aW|apply y_e|refine ah ?_)|((with_reducible apply ak);refine t_v AS.v ?_)|((with_reducible apply bc);refine t_m (hs:=fun hg=>AS.v) (k:=?_))|((with_reducible refine au ?_);((refine aj (fun hc=>?_) (fun hc=>?_);all_goals(try(exfalso;simp[*] at hc;done)))))|((with_reducible refine aA ?_);refine k_b ?_)|fail)
  ·have e:ml x=false:=by simp only[ml];simp at hc ⊢;omega
   rw[mj,fF hx e,Bool.false_and]
  ·have e:ml x=true:=by simp only[ml];simp at hc ⊢;omega
   exact⟨_,_,(show s.size - (j+1)<s.size - j by omega),wkA,j+1,rfl,hlt,dv hx ha e,rfl⟩
 ·have e:=fD ha (by have:=bZ s;omega)
  repeat'(first|(with_reducible first|apply AW.seq|apply AW.block|apply AW.skip|apply AW.ret|apply AW.exit|apply ae|apply aq|apply aJ|apply aw|apply aG|apply aW|apply y_e|refine ah ?_)|((with_reducible apply ak);refine t_v AS.v ?_)|((with_reducible apply bc);refine t_m (hs:=fun hg=>AS.v) (k:=?_))|((with_reducible refine au ?_);((refine aj (fun hc=>?_) (fun hc=>?_);all_goals(try(exfalso;simp[*] at hc;done)))))|((with_reducible refine aA ?_);refine k_b ?_)|fail)
  rw[mj,e,Bool.true_and,show decide ((s.size:Int)≤32)=decide (s.size≤32) from decide_eq_decide.2 (by omega)]
  simp
end Am
namespace Am
set_option maxRecDepth 100000
set_option maxHeartbeats 4000000
theorem Aj (s:Stm):Pure Tryz.prog 171 [.agg (stC s)] (.tup [.c (sB (iR s).1),.agg (stC (iR s).2)]):=by
 refine fn1 (fn:=Tryz.f171) Tryz.call171 Tryz.func171 rfl Tryz.ntmps171 Tryz.results171 rfl (by simp[V.ok,okL,C.ok,okA,okV]) ?_
 repeat'(first|(with_reducible first|apply AW.seq|apply AW.block|apply AW.skip|apply AW.ret|apply ae|apply aq|apply aw|apply aG|apply y_e|refine ah ?_|refine bb ?_)|((with_reducible apply ak);first|refine t_v AS.v ?_|refine t_v (by exact ag (hP:=jy _ _)) ?_|refine t_w AS.w ?_)|((with_reducible apply bc);first|refine t_m (hs:=fun hg=>AS.v) (k:=?_)|refine t_m (hs:=fun hg=>(by first|exact ag (hP:=dM _)|exact ag (hP:=jy _ _)|exact ag (hP:=pV _)|exact ag (hP:=Ln _ _)|exact ag (hP:=sQ _))) (k:=?_))|((with_reducible apply aV);refine t_s AS.s ?_)|((with_reducible refine au ?_);((refine aj (fun hc=>?_) (fun hc=>?_))))|((with_reducible refine aA ?_);(((refine uL ?_ ?_);all_goals(with_reducible (first|apply Ko|apply ED)))))|(refine⟨by decide +kernel,?_⟩)|fail)
 all_goals
  simp only[decide_eq_true_eq,decide_eq_false_iff_not] at *
  simp[iR,kY,hZ,opB,unA, *]
end Am
namespace Am
set_option maxRecDepth 100000
set_option maxHeartbeats 4000000
theorem vn (c:UInt8):Pure Tryz.prog 281 [.c (.sc (.int .i32 c.toNat))] (.c (sB (Dj c))):=by
 refine fn1 (fn:=Tryz.f281) Tryz.call281 Tryz.func281 rfl Tryz.ntmps281 Tryz.results281 rfl (by rfl) ?_
 repeat'(first|(with_reducible first|apply AW.seq|apply AW.ret|apply ae|apply y_e|refine ah ?_)|((with_reducible apply ak);refine t_v AS.v ?_)|((with_reducible apply bc);refine t_m (hs:=fun hg=>AS.v) (k:=?_))|((with_reducible refine aA ?_);refine k_b ?_)|fail)
 rw[Dj,show decide ((32:Int)≤c.toNat)=decide (32≤c.toNat) from decide_eq_decide.2 (by omega),show decide ((c.toNat:Int)≤126)=decide (c.toNat≤126) from decide_eq_decide.2 (by omega),show decide ((c.toNat:Int)=34)=decide (c.toNat=34) from decide_eq_decide.2 (by omega)]
 simp
theorem xu (s:ByteArray):Pure Tryz.prog 309 [.c (sS s)] (.c (sB (quoB s))):=by
 refine fn1 (fn:=Tryz.f309) Tryz.call309 Tryz.func309 rfl Tryz.ntmps309 Tryz.results309 rfl (by rfl) ?_
 refine AW.fact (t:=0) rfl (fun κ w x hr=>lD hr) fun hn=>?_
 repeat'(first|(with_reducible first|apply AW.seq|apply AW.block|apply AW.skip|apply AW.ret|apply AW.exit|apply ae|apply aq|apply aJ|apply aW|apply y_e|refine ah ?_)|((with_reducible apply ak);refine t_v AS.v ?_)|((with_reducible refine au ?_);((refine aj (fun hc=>?_) (fun hc=>?_);all_goals(try(exfalso;simp[*] at hc;done)))))|((with_reducible refine aA ?_);refine k_b ?_)|fail)
 ·rw[quoB,decide_eq_false (by simp at hc;omega),Bool.false_and]
 rw[quoB,decide_eq_true (by simp at hc;omega),Bool.true_and]
 clear hc
 refine AW.loop (fun n σ=>∃ j,n=s.size - j∧j≤s.size∧(s.data.toList.take j).all Dj=true∧σ=mk [(0,.c (sS s)),(8,.c (sI s.size)),(9,.c (sI j))] []) s.size ?_ ?_
 ·exact⟨_,wkA,0,rfl,Nat.zero_le _,rfl,rfl⟩
 rintro n σ ⟨j,rfl,hj,ha,rfl⟩
 by_cases hlt:j<s.size
 ·obtain ⟨x,hx⟩:∃ x,s.data.toList[j]? =some x:=⟨_,List.getElem?_eq_getElem (by have:=bZ s;omega)⟩
  repeat'(first|(with_reducible first|apply AW.seq|apply AW.block|apply AW.skip|apply AW.ret|apply ae|apply aq|apply aw|apply aG|apply y_e|refine ah ?_)|((with_reducible apply ak);first|refine t_v AS.v ?_|refine t_v (by exact ag (hP:=vn x)) ?_)|((with_reducible refine au ?_);((refine aj (fun hc=>?_) (fun hc=>?_);all_goals(try(exfalso;simp[*] at hc;done)))))|((with_reducible refine aA ?_);refine k_b ?_)|fail)
  ·rw[fF hx (by simpa using hc)]
  ·exact⟨_,_,(show s.size - (j+1)<s.size - j by omega),wkA,j+1,rfl,hlt,dv hx ha (by simpa using hc),rfl⟩
 ·have e:=fD ha (by have:=bZ s;omega)
  rw[e]
  repeat'(first|(with_reducible first|apply AW.seq|apply AW.block|apply AW.skip|apply AW.ret|apply AW.exit|apply ae|apply aq|apply aJ|apply aW|apply y_e|refine ah ?_)|((with_reducible apply ak);refine t_v AS.v ?_)|((with_reducible refine au ?_);((refine aj (fun hc=>?_) (fun hc=>?_);all_goals(try(exfalso;simp[*] at hc;done)))))|((with_reducible refine aA ?_);refine k_b ?_)|fail)
  rfl
theorem Do (s:ByteArray):Pure Tryz.prog 235 [.agg (tkC ⟨3,s,Po.zero⟩)] (.c (sB (quoB s))):=by
 refine fn1 (fn:=Tryz.f235) Tryz.call235 Tryz.func235 rfl Tryz.ntmps235 Tryz.results235 rfl (by rfl) ?_
 repeat'(first|(with_reducible first|apply AW.seq|apply AW.block|apply AW.ret|apply ae|apply aq|apply aG|apply y_e|refine ah ?_)|((with_reducible apply ak);first|refine t_v AS.v ?_|refine t_v (by exact ag (hP:=xu s)) ?_|refine t_w AS.w ?_)|((with_reducible refine au ?_);first|refine cF ?_|refine cj ?_)|((with_reducible refine aA ?_);refine k_b ?_)|fail)
 rfl
end Am
namespace Am
set_option maxRecDepth 100000
set_option maxHeartbeats 4000000
theorem kZ {l:List Stm} {p:Stm→Bool} {f:Nat} (h:∀ s∈l,Pure Tryz.prog f [.agg (stC s)] (.c (sB (p s)))):Pure Tryz.prog 98 [.c (.lst none 55 (l.map stC)),.c (.fn f [])] (.c (sB (l.all p))):=by
 refine fn2 (fn:=Tryz.f98) Tryz.call98 Tryz.func98 rfl Tryz.ntmps98 Tryz.results98 rfl (by rfl) ?_
 refine AW.fact (t:=0) rfl (fun κ w x hr=>dq hr) fun hn=>?_
 repeat'(first|(with_reducible first|apply AW.seq|apply AW.block|apply ae|apply y_e|refine ah ?_)|((with_reducible apply ak);refine t_v AS.v ?_)|fail)
 refine AW.loop (fun n σ=>∃ j,n=l.length - j∧j≤l.length∧(l.take j).all p=true∧σ=mk [(1,.c (.fn f [])),(7,.c (.lst none 55 (l.map stC))),(8,.c (sI (l.map stC).length)),(9,.c (sI j))] []) l.length ?_ ?_
 ·exact⟨_,wkA,0,rfl,Nat.zero_le _,rfl,rfl⟩
 rintro n σ ⟨j,rfl,hj,ha,rfl⟩
 by_cases hlt:j<l.length
 ·obtain ⟨x,hx⟩:∃ x,l[j]? =some x:=⟨_,List.getElem?_eq_getElem hlt⟩
  have hp:=h x (List.mem_of_getElem? hx)
  repeat'(first|(with_reducible first|apply AW.seq|apply AW.block|apply AW.skip|apply AW.ret|apply ae|apply aq|apply aw|apply aG|apply y_e|refine ah ?_)|((with_reducible apply ak);first|refine t_v AS.v ?_|refine t_v (by exact ag (hP:=hp)) ?_|refine t_w AS.w ?_)|((with_reducible apply aV);refine t_s AS.s ?_)|((with_reducible refine au ?_);((refine aj (fun hc=>?_) (fun hc=>?_);all_goals(try(exfalso;simp[*] at hc;done)))))|((with_reducible refine aA ?_);refine k_b ?_)|fail)
  ·rw[fF hx (by simpa using hc)]
  ·exact⟨_,_,(show l.length - (j+1)<l.length - j by omega),wkA,j+1,rfl,hlt,dv hx ha (by simpa using hc),rfl⟩
 ·repeat'(first|(with_reducible first|apply AW.seq|apply AW.ret|apply AW.exit|apply ae|apply aJ|apply aW|apply y_e|refine ah ?_)|((with_reducible apply ak);refine t_v AS.v ?_)|((with_reducible refine au ?_);((refine aj (fun hc=>?_) (fun hc=>?_);all_goals(try(exfalso;simp[*] at hc;done)))))|((with_reducible refine aA ?_);refine k_b ?_)|fail)
  rw[fD ha (by omega)]
theorem Ay {s:Stm} {p:Stm→Bool} (h1:∀ x∈s.thn,Pure Tryz.prog 99 [.agg (stC x)] (.c (sB (p x)))) (h2:∀ x∈s.els,Pure Tryz.prog 99 [.agg (stC x)] (.c (sB (p x)))):Pure Tryz.prog 172 [.agg (stC s)] (.tup [.c (sB (jo (s.thn.all p) (s.els.all p) s).1),.agg (stC (jo (s.thn.all p) (s.els.all p) s).2)]):=by
 refine fn1 (fn:=Tryz.f172) Tryz.call172 Tryz.func172 rfl Tryz.ntmps172 Tryz.results172 rfl (by simp[V.ok,okL,C.ok,okA,okV]) ?_
 repeat'(first|(with_reducible first|apply AW.seq|apply AW.block|apply AW.skip|apply AW.ret|apply ae|apply aq|apply aw|apply aG|apply y_e|refine ah ?_|refine bb ?_)|((with_reducible apply ak);first|refine t_v AS.v ?_|refine t_v (by first|exact ag (hP:=dM _)|exact ag (hP:=jy _ _)|exact ag (hP:=tu _)|exact ag (hP:=yv _)) ?_|refine t_w AS.w ?_)|((with_reducible apply bc);first|refine t_m (hs:=fun hg=>AS.v) (k:=?_)|refine t_m (hs:=fun hg=>(by first|exact ag (hP:=jy _ _)|exact ag (hP:=tu _)|exact ag (hP:=Ln _ _)|exact ag (hP:=rY _)|exact ag (hP:=iO _ _)|exact ag (hP:=Do _)|exact ag (hP:=kZ h1)|exact ag (hP:=kZ h2))) (k:=?_))|((with_reducible apply aV);refine t_s AS.s ?_)|((with_reducible refine au ?_);((refine aj (fun hc=>?_) (fun hc=>?_))))|((with_reducible refine aA ?_);(((refine uL ?_ ?_);all_goals(with_reducible (first|apply Ko|apply ED)))))|(refine⟨by decide +kernel,?_⟩)|fail)
 all_goals
  simp only[decide_eq_true_eq,decide_eq_false_iff_not] at *
  simp[jo,opB,unA, *]
end Am
namespace Am
set_option maxRecDepth 100000
set_option maxHeartbeats 4000000
theorem p9:∀ (n:Nat) (s:Stm),SizeOf.sizeOf s<n→Pure Tryz.prog 99 [.agg (stC s)] (.c (sB (fmB s)))
 |0,_,h=>absurd h (Nat.not_lt_zero _)
 |n+1,s,h=>by
  have i1:∀ x∈s.thn,Pure Tryz.prog 99 [.agg (stC x)] (.c (sB (fmB x))):=fun x hx=>p9 n x (by have:=iU hx;omega)
  have i2:∀ x∈s.els,Pure Tryz.prog 99 [.agg (stC x)] (.c (sB (fmB x))):=fun x hx=>p9 n x (by have:=iP hx;omega)
  rw[Cc]
  refine fn1 (fn:=Tryz.f99) Tryz.call99 Tryz.func99 rfl Tryz.ntmps99 Tryz.results99 rfl (by rfl) ?_
  repeat'(first|(with_reducible first|apply AW.seq|apply AW.skip|apply AW.ret|apply ae|apply aq|apply y_e|refine ah ?_)|((with_reducible apply ak);first|refine t_v AS.v ?_|refine t_v (by first|exact ag (hP:=wA _)|exact ag (hP:=Aj _)|exact ag (hP:=Ay i1 i2)|exact ag (hP:=ze _ _)) ?_|refine t_w AS.w ?_)|((with_reducible apply aV);refine t_s AS.s ?_)|((with_reducible refine au ?_);((refine aj (fun hc=>?_) (fun hc=>?_))))|((with_reducible refine aA ?_);refine k_b ?_)|fail)
  all_goals
   simp only[Bool.not_eq_true',Bool.not_eq_false'] at *
   simp[fmH,kU, *]
theorem pb (s:Stm):Pure Tryz.prog 99 [.agg (stC s)] (.c (sB (fmB s))):=p9 _ s (Nat.lt_succ_self _)
end Am
namespace Am
set_option maxRecDepth 100000
set_option maxHeartbeats 4000000
theorem nX {m:Mo} (h2:dpL m.stmts≤4611686018427387904):Pure Tryz.prog 46 [.agg (moC m)] (.c (sI (eo m))):=by
 refine fn1 (fn:=Tryz.f46) Tryz.call46 Tryz.func46 rfl Tryz.ntmps46 Tryz.results46 rfl (by rfl) ?_
 repeat'(first|(with_reducible first|apply AW.seq|apply AW.block|apply AW.skip|apply AW.ret|apply ae|apply aq|apply aw|apply aG|apply y_e|refine ah ?_)|((with_reducible apply ak);first|refine t_v AS.v ?_|refine t_v (by first|exact ag (hP:=dM _)|exact ag (hP:=yc _)|exact ag (hP:=kZ fun x _=>pb x)) ?_|refine t_w AS.w ?_)|((with_reducible apply bc);first|refine t_m (hs:=fun hg=>AS.v) (k:=?_)|refine t_m (hs:=fun hg=>(by exact ag (hP:=yC h2))) (k:=?_))|((with_reducible refine au ?_);((refine aj (fun hc=>?_) (fun hc=>?_))))|((with_reducible refine aA ?_);refine k_i ?_)|fail)
 all_goals
  unfold eo
  grind
end Am
namespace Am
set_option maxRecDepth 100000
set_option maxHeartbeats 1000000
theorem Jb (n:Int) (h0:-9223372036854775808≤n) (h1:n≤9223372036854775807):Pure Tryz.prog 94 [.c (sI n)] (.c (sS ⟨(Lib.itoa n).toArray⟩)):=by
 refine⟨Tryz.call94,fun w S vs hT hS hv=>?_⟩
 rw[BB hv]
 refine(Tryz.strconv_Itoa n h0 h1 w hT).mono ?_
 rintro e w' ⟨rfl,k,os,rfl⟩
 refine⟨_,rfl,Keep.of_below (Lib.below_grow w.heap.size w (Nat.le_refl _) k os),.c (.sc (decide_eq_true ?_))⟩
 have:=Lib.itoa_length_le n h0 h1
 show(Lib.itoa n).toArray.size≤_
 rw[List.size_toArray]
 omega
theorem Dt {s:ByteArray} {c:Nat} (h0:c≤9223372036854775807) (h:s.size*c≤140737488355328):Pure Tryz.prog 287 [.c (sS s),.c (sI c)] (.c (sS (GM s c))):=by
 refine⟨Tryz.call287,fun w S vs hT hS hv=>?_⟩
 rw[KR hv]
 refine(Tryz.strings_Repeat s c w h0 h).mono ?_
 rintro e w' ⟨rfl,hb⟩
 exact⟨_,rfl,Keep.of_below hb,.c (.sc (decide_eq_true (by have:=rp s c;rw[Nat.mul_comm] at this;omega)))⟩
theorem Cn {s:ByteArray} {n:Nat} (h:s.size+(j5 n).size≤140737488355328):MC Tryz.prog 216 (cI s) [.c (sI n)] (.tup []) (cI (s++j5 n)):=by
 have h2:=mQ n
 have h3:ByteArray.size ⟨#[32,32]⟩=2:=rfl
 have hr:Pure Tryz.prog 287 [.c (sS ⟨#[32,32]⟩),.c (sI n)] (.c (sS (j5 n))):=Dt (by omega) (by rw[h3];omega)
 clear h3 h2
 refine fm2 (fn:=Tryz.f216) Tryz.call216 Tryz.func216 rfl Tryz.ntmps216 Tryz.results216 rfl (by rfl) rfl rfl ?_
 repeat'(first|(with_reducible first|apply y_e|refine m_b rfl ?_ ?_|refine bb ?_)|((with_reducible apply ak);first|refine t_v AS.v ?_|refine t_v (by exact ag (hP:=hr)) ?_|refine t_w (by exact cp (hP:=iW h)) ?_)|((with_reducible refine aA ?_);exact xv)|(refine⟨by decide +kernel,?_⟩)|fail)
 rfl
end Am
namespace Am
set_option maxRecDepth 100000
set_option maxHeartbeats 1000000
theorem jU {n:Nat} (hn:n<15):Pure Tryz.prog 223 [.c (sI n)] (.c (sS (iM n))):=by
 have hr:Int.tmod (n:Int) 5=((n % 5:Nat):Int):=by
  have:∀ i:Fin 15,Int.tmod (i.val:Int) 5=((i.val % 5:Nat):Int):=by decide +kernel
  exact this ⟨n,hn⟩
 have hd:Int.tdiv (n:Int) 5=((n / 5:Nat):Int):=by
  have:∀ i:Fin 15,Int.tdiv (i.val:Int) 5=((i.val / 5:Nat):Int):=by decide +kernel
  exact this ⟨n,hn⟩
 have hi:Pure Tryz.prog 94 [.c (sI (((n / 5:Nat):Int)+1))] (.c (sS ⟨(Lib.decDigits (n / 5+1)).toArray⟩)):=G3 (n / 5+1) (by omega)
 have hs:(Lib.decDigits (n / 5+1)).length≤21:=by
  have:∀ i:Fin 100,(Lib.decDigits i.val).length≤21:=by decide +kernel
  exact this ⟨n / 5+1,by omega⟩
 have he:((⟨#[117,114,116,108,104]⟩:ByteArray).extract (n % 5) (n % 5+1)).size≤5:=by
  have h5:ByteArray.size ⟨#[117,114,116,108,104]⟩=5:=rfl
  rw[ByteArray.size_extract,h5];omega
 refine fn1 (fn:=Tryz.f223) Tryz.call223 Tryz.func223 rfl Tryz.ntmps223 Tryz.results223 rfl (by rfl) ?_
 repeat'(first|(with_reducible first|apply AW.seq|apply AW.ret|apply ae|apply y_e|refine ah ?_|refine bb ?_)|((with_reducible apply ak);first|refine t_v AS.v ?_|refine t_v (by exact ag (hP:=hi)) ?_)|((with_reducible refine aA ?_);refine k_s ?_)|(refine⟨by decide +kernel,?_⟩)|fail)
 rfl
end Am
end Go.Proofs.YtkpodagbefnebaaGreatDoor
