import Derived.Test.YtkpodagbefnebaaGreatDoorYh29
set_option linter.unusedSimpArgs false
set_option linter.unusedVariables false
set_option linter.unusedSectionVars false
namespace Go.Proofs.YtkpodagbefnebaaGreatDoor
namespace Am
set_option maxRecDepth 100000
set_option maxHeartbeats 4000000
theorem rU {l:List Stm} {lv:Nat} {b:ByteArray} (h:∀ x∈l,∀ b:ByteArray,b.size+(stT lv x).size≤70368744177664→MC Tryz.prog 162 (cI b) [.agg (stC x),.c (sI lv)] (.tup []) (cI (b++stT lv x))) (hb:b.size+(cJ lv l).size≤70368744177664) :
 MC Tryz.prog 95 (cI b) [.c (.lst none 55 (l.map stC)),.c (sI lv)] (.tup []) (cI (b++cJ lv l)):=by
 refine fm3 (fn:=Tryz.f95) Tryz.call95 Tryz.func95 rfl Tryz.ntmps95 Tryz.results95 rfl (by rfl) rfl rfl ?_
 refine AW.fact (t:=1) rfl (fun κ w x hr=>dq hr) fun hn=>?_
 repeat'(first|(with_reducible first|apply AW.seq|apply AW.block|apply ae|apply y_e|refine ah ?_)|((with_reducible apply ak);refine t_v AS.v ?_)|fail)
 refine AW.loop (fun n σ=>∃ j,n=l.length - j∧j≤l.length∧σ=mk [(0,.c (.ptr 0 0)),(2,.c (sI lv)),(8,.c (.lst none 55 (l.map stC))),(9,.c (sI (l.map stC).length)),(10,.c (sI j))] [(0,cI (b++cJ lv (l.take j)))]) l.length ?_ ?_
 ·have e:cI b=cI (b++cJ lv (l.take 0)):=by rw[List.take_zero,cJ,jV]
  rw[e]
  exact⟨_,wkA,0,rfl,Nat.zero_le _,rfl⟩
 rintro n σ ⟨j,rfl,hj,rfl⟩
 by_cases hlt:j<l.length
 ·obtain ⟨x,hx⟩:∃ x,l[j]? =some x:=⟨_,List.getElem?_eq_getElem hlt⟩
  have hle:=BG (lv:=lv) l (j+1)
  have e1:=tZ (lv:=lv) hx
  rw[e1,ByteArray.size_append,ByteArray.size_append] at hle
  have h1:ByteArray.size ⟨#[10]⟩=1:=rfl
  have hp:=h x (List.mem_of_getElem? hx) (b++cJ lv (l.take j)) (by rw[ByteArray.size_append];omega)
  repeat'(first|(with_reducible first|apply AW.seq|apply AW.block|apply AW.skip|apply ae|apply aw|apply y_e|refine ah ?_)|((with_reducible apply ak);first|refine t_v AS.v ?_|refine t_w AS.w ?_|refine t_w (by first|exact cp (hP:=hp)|exact cp (hP:=kJ 10 rfl (by(try simp only[ByteArray.size_append]);omega))) ?_)|((with_reducible apply aV);refine t_s AS.s ?_)|((with_reducible refine au ?_);((refine aj (fun hc=>?_) (fun hc=>?_);all_goals(try(exfalso;simp[*] at hc;done)))))|fail)
  have e:cI (b++cJ lv (l.take j)++stT lv x++⟨#[10]⟩)=cI (b++cJ lv (l.take (j+1))):=by rw[e1];simp only[ByteArray.append_assoc]
  rw[e]
  exact⟨_,_,(show l.length - (j+1)<l.length - j by omega),wkA,j+1,rfl,hlt,rfl⟩
 ·repeat'(first|(with_reducible first|apply AW.seq|apply AW.exit|apply ae|apply aJ|apply aW|apply y_e|refine m_b rfl ?_ ?_|refine ah ?_)|((with_reducible apply ak);refine t_v AS.v ?_)|((with_reducible refine au ?_);((refine aj (fun hc=>?_) (fun hc=>?_);all_goals(try(exfalso;simp[*] at hc;done)))))|((with_reducible refine aA ?_);exact xv)|fail)
  rw[List.take_of_length_le (by omega)]
theorem iI:∀ (n:Nat) (s:Stm),SizeOf.sizeOf s<n→stW s→∀ (lv:Nat) (b:ByteArray),b.size+(stT lv s).size≤70368744177664→MC Tryz.prog 162 (cI b) [.agg (stC s),.c (sI lv)] (.tup []) (cI (b++stT lv s))
 |0,_,h,_,_,_,_=>absurd h (Nat.not_lt_zero _)
 |n+1,s,h,hW,lv,b,hb=>by
  rw[xO] at hW
  obtain ⟨⟨hr,hbd,hc2⟩,w1,w2⟩:=hW
  have i1:∀ b:ByteArray,b.size+(cJ (lv+1) s.thn).size≤70368744177664→MC Tryz.prog 95 (cI b) [.c (.lst none 55 (s.thn.map stC)),.c (sI ((lv:Int)+1))] (.tup []) (cI (b++cJ (lv+1) s.thn)):=fun b hb=>
   rU (lv:=lv+1) (fun x hx b' hb'=>iI n x (by have:=iU hx;omega) (w1 x hx) (lv+1) b' hb') hb
  have i2:∀ b:ByteArray,b.size+(cJ (lv+1) s.els).size≤70368744177664→MC Tryz.prog 95 (cI b) [.c (.lst none 55 (s.els.map stC)),.c (sI ((lv:Int)+1))] (.tup []) (cI (b++cJ (lv+1) s.els)):=fun b hb=>
   rU (lv:=lv+1) (fun x hx b' hb'=>iI n x (by have:=iP hx;omega) (w2 x hx) (lv+1) b' hb') hb
  rw[DP] at hb ⊢
  have hind:∀ b:ByteArray,b.size+(j5 lv).size≤140737488355328→MC Tryz.prog 216 (cI b) [.c (sI lv)] (.tup []) (cI (b++j5 lv)):=fun b h=>Cn h
  by_cases hp:s.kind≠17∧s.kind≠18
  ·have e1:stH lv s (cJ (lv+1) s.thn) (cJ (lv+1) s.els)=j5 lv++(bz s++⟨#[59]⟩):=by unfold stH;rw[if_pos hp]
   rw[e1] at hb ⊢
   simp only[ByteArray.size_append,aM,List.size_toArray,List.length_cons,List.length_nil] at hb
   have hl:=Je (by omega) (hr hp.1 hp.2) hbd
   obtain ⟨p1,p2⟩:=hp
   clear hr hbd hc2 w1 w2 i1 i2 e1 h
   refine fm3 (fn:=Tryz.f162) Tryz.call162 Tryz.func162 rfl Tryz.ntmps162 Tryz.results162 rfl (by rfl) rfl rfl ?_
   repeat'(first|(with_reducible first|apply AW.seq|apply AW.ret|apply ae|apply aq|apply y_e|refine m_b rfl ?_ ?_|refine ah ?_|refine bb ?_)|((with_reducible apply ak);first|refine t_v AS.v ?_|refine t_v (by exact ag (hP:=hl)) ?_|refine t_w AS.w ?_|refine t_w (by first|exact cp (hP:=hind _ (by(try simp only[ByteArray.size_append,aM,List.size_toArray,List.length_cons,List.length_nil]);omega))|exact cp (hP:=iW (by(try simp only[ByteArray.size_append,aM,List.size_toArray,List.length_cons,List.length_nil]);omega))) ?_)|((with_reducible apply bc);refine t_m (hs:=fun hg=>AS.v) (k:=?_))|((with_reducible refine au ?_);((refine aj (fun hc=>?_) (fun hc=>?_);all_goals(try(exfalso;simp[*] at hc;done)))))|((with_reducible refine aA ?_);exact r_0)|(refine⟨by decide +kernel,?_⟩)|fail)
   all_goals(simp only[ByteArray.append_assoc])
  have hq:stH lv s (cJ (lv+1) s.thn) (cJ (lv+1) s.els)=j5 lv++j4 s++cJ (lv+1) s.thn++j5 lv++⟨#[125]⟩++(if 0<s.els.length then⟨#[32,101,108,115,101,32,123,10]⟩++cJ (lv+1) s.els++j5 lv++⟨#[125]⟩ else⟨#[]⟩):=by unfold stH;rw[if_neg hp]
  rw[hq] at hb ⊢
  clear hq
  have hlv:lv≤70368744177664:=J9 (b:=b) (by simp only[ByteArray.size_append] at hb;omega)
  by_cases k:s.kind=17
  ·have hh:j4 s=bC ⟨#[32]⟩ [⟨#[105,102]⟩,btT s.cond 0,⟨#[123,10]⟩]:=by unfold j4;rw[if_pos k]
   rw[hh] at hb ⊢
   have bt:=hbd.cond2 (hc2 k)
   have ht:=Fe (hc2 k) (by omega)
   clear hr hbd hc2 w1 w2 h hp hh
   by_cases he:0<s.els.length
   ·rw[if_pos he] at hb ⊢
    simp only[ByteArray.size_append,aM,List.size_toArray,List.length_cons,List.length_nil] at hb
    refine fm3 (fn:=Tryz.f162) Tryz.call162 Tryz.func162 rfl Tryz.ntmps162 Tryz.results162 rfl (by rfl) rfl rfl ?_
    repeat'(first|(with_reducible first|apply AW.seq|apply AW.skip|apply ae|apply y_e|refine m_b rfl ?_ ?_|refine ah ?_)|((with_reducible apply ak);first|refine t_v AS.v ?_|refine t_v (by exact ag (hP:=ht)) ?_|refine t_w AS.w ?_|refine t_w (by first|exact cp (hP:=hind _ (by(try simp only[ByteArray.size_append,aM,List.size_toArray,List.length_cons,List.length_nil]);omega))|exact cp (hP:=mE (by(try simp only[ByteArray.size_append,aM,List.size_toArray,List.length_cons,List.length_nil]);omega))|exact cp (hP:=i1 _ (by(try simp only[ByteArray.size_append,aM,List.size_toArray,List.length_cons,List.length_nil]);omega))|exact cp (hP:=kJ 125 rfl (by(try simp only[ByteArray.size_append,aM,List.size_toArray,List.length_cons,List.length_nil]);omega))|exact cp (hP:=i2 _ (by(try simp only[ByteArray.size_append,aM,List.size_toArray,List.length_cons,List.length_nil]);omega))|exact cp (hP:=iW (by(try simp only[ByteArray.size_append,aM,List.size_toArray,List.length_cons,List.length_nil]);omega))) ?_)|((with_reducible apply bc);refine t_f ?_)|((with_reducible refine au ?_);first|refine cj ?_|(refine aj (fun hc=>?_) (fun hc=>?_);all_goals(try(exfalso;simp[*] at hc;done))))|((with_reducible refine aA ?_);exact xv)|fail)
    all_goals(simp only[ByteArray.append_assoc])
   ·rw[if_neg he] at hb ⊢
    simp only[ByteArray.size_append,aM,List.size_toArray,List.length_cons,List.length_nil] at hb
    refine fm3 (fn:=Tryz.f162) Tryz.call162 Tryz.func162 rfl Tryz.ntmps162 Tryz.results162 rfl (by rfl) rfl rfl ?_
    repeat'(first|(with_reducible first|apply AW.seq|apply AW.skip|apply ae|apply y_e|refine m_b rfl ?_ ?_|refine ah ?_)|((with_reducible apply ak);first|refine t_v AS.v ?_|refine t_v (by exact ag (hP:=ht)) ?_|refine t_w AS.w ?_|refine t_w (by first|exact cp (hP:=hind _ (by(try simp only[ByteArray.size_append,aM,List.size_toArray,List.length_cons,List.length_nil]);omega))|exact cp (hP:=mE (by(try simp only[ByteArray.size_append,aM,List.size_toArray,List.length_cons,List.length_nil]);omega))|exact cp (hP:=i1 _ (by(try simp only[ByteArray.size_append,aM,List.size_toArray,List.length_cons,List.length_nil]);omega))|exact cp (hP:=kJ 125 rfl (by(try simp only[ByteArray.size_append,aM,List.size_toArray,List.length_cons,List.length_nil]);omega))) ?_)|((with_reducible apply bc);refine t_f ?_)|((with_reducible refine au ?_);first|refine cj ?_|(refine aj (fun hc=>?_) (fun hc=>?_);all_goals(try(exfalso;simp[*] at hc;done))))|((with_reducible refine aA ?_);exact xv)|fail)
    all_goals(simp only[ByteArray.append_assoc,yh])
  ·have k8:s.kind=18:=by omega
   have hh:j4 s=bC ⟨#[32]⟩ [⟨#[111,112,116,105,111,110,97,108]⟩,⟨#[123,10]⟩]:=by unfold j4;rw[if_neg k]
   rw[hh] at hb ⊢
   clear hr hbd hc2 w1 w2 h hp hh
   by_cases he:0<s.els.length
   ·rw[if_pos he] at hb ⊢
    simp only[ByteArray.size_append,aM,List.size_toArray,List.length_cons,List.length_nil] at hb
    refine fm3 (fn:=Tryz.f162) Tryz.call162 Tryz.func162 rfl Tryz.ntmps162 Tryz.results162 rfl (by rfl) rfl rfl ?_
    repeat'(first|(with_reducible first|apply AW.seq|apply AW.skip|apply ae|apply y_e|refine m_b rfl ?_ ?_|refine ah ?_)|((with_reducible apply ak);first|refine t_v AS.v ?_|refine t_w AS.w ?_|refine t_w (by first|exact cp (hP:=hind _ (by(try simp only[ByteArray.size_append,aM,List.size_toArray,List.length_cons,List.length_nil]);omega))|exact cp (hP:=mE (by(try simp only[ByteArray.size_append,aM,List.size_toArray,List.length_cons,List.length_nil]);omega))|exact cp (hP:=i1 _ (by(try simp only[ByteArray.size_append,aM,List.size_toArray,List.length_cons,List.length_nil]);omega))|exact cp (hP:=kJ 125 rfl (by(try simp only[ByteArray.size_append,aM,List.size_toArray,List.length_cons,List.length_nil]);omega))|exact cp (hP:=i2 _ (by(try simp only[ByteArray.size_append,aM,List.size_toArray,List.length_cons,List.length_nil]);omega))|exact cp (hP:=iW (by(try simp only[ByteArray.size_append,aM,List.size_toArray,List.length_cons,List.length_nil]);omega))) ?_)|((with_reducible apply bc);refine t_m (hs:=fun hg=>AS.v) (k:=?_))|((with_reducible refine au ?_);((refine aj (fun hc=>?_) (fun hc=>?_);all_goals(try(exfalso;simp[*] at hc;done)))))|((with_reducible refine aA ?_);exact xv)|fail)
    all_goals(simp only[ByteArray.append_assoc])
   ·rw[if_neg he] at hb ⊢
    simp only[ByteArray.size_append,aM,List.size_toArray,List.length_cons,List.length_nil] at hb
    refine fm3 (fn:=Tryz.f162) Tryz.call162 Tryz.func162 rfl Tryz.ntmps162 Tryz.results162 rfl (by rfl) rfl rfl ?_
    repeat'(first|(with_reducible first|apply AW.seq|apply AW.skip|apply ae|apply y_e|refine m_b rfl ?_ ?_|refine ah ?_)|((with_reducible apply ak);first|refine t_v AS.v ?_|refine t_w AS.w ?_|refine t_w (by first|exact cp (hP:=hind _ (by(try simp only[ByteArray.size_append,aM,List.size_toArray,List.length_cons,List.length_nil]);omega))|exact cp (hP:=mE (by(try simp only[ByteArray.size_append,aM,List.size_toArray,List.length_cons,List.length_nil]);omega))|exact cp (hP:=i1 _ (by(try simp only[ByteArray.size_append,aM,List.size_toArray,List.length_cons,List.length_nil]);omega))|exact cp (hP:=kJ 125 rfl (by(try simp only[ByteArray.size_append,aM,List.size_toArray,List.length_cons,List.length_nil]);omega))) ?_)|((with_reducible apply bc);refine t_m (hs:=fun hg=>AS.v) (k:=?_))|((with_reducible refine au ?_);((refine aj (fun hc=>?_) (fun hc=>?_);all_goals(try(exfalso;simp[*] at hc;done)))))|((with_reducible refine aA ?_);exact xv)|fail)
    all_goals(simp only[ByteArray.append_assoc,yh])
end Am
namespace Am
set_option maxRecDepth 100000
set_option maxHeartbeats 4000000
theorem EX {n:NS} (hb:(nsT n).size≤4398046511000):Pure Tryz.prog 91 [.agg (nsC n)] (.tup [.c (sS (rJ n).1),.c (sI (rJ n).2)]):=by
 refine fn1 (fn:=Tryz.f91) Tryz.call91 Tryz.func91 rfl Tryz.ntmps91 Tryz.results91 rfl (by rfl) ?_
 repeat'(first|(with_reducible first|apply AW.seq|apply AW.skip|apply AW.ret|apply ae|apply aq|apply y_e|refine ah ?_)|((with_reducible apply ak);first|refine t_v AS.v ?_|refine t_v (by first|exact ag (hP:=jy _ _)|exact ag (hP:=jz hb)) ?_|refine t_w AS.w ?_)|((with_reducible refine au ?_);((refine aj (fun hc=>?_) (fun hc=>?_))))|((with_reducible refine aA ?_);(((refine k_2 ?_ ?_);all_goals(with_reducible (first|apply qG|apply qH)))))|fail)
 all_goals(unfold rJ;simp_all)
theorem rI {e:Ex} {v:Bool} (hb:fy e v=true→(exT e).size≤4398046511000):Pure Tryz.prog 92 [.agg (exC e),.c (sB v)] (.tup [.c (sS (gv e v).1),.c (sI (gv e v).2)]):=by
 cases h:fy e v with
 |true=>
  have hp:=ju h (hb h)
  refine fn2 (fn:=Tryz.f92) Tryz.call92 Tryz.func92 rfl Tryz.ntmps92 Tryz.results92 rfl (by rfl) ?_
  repeat'(first|(with_reducible first|apply AW.seq|apply AW.skip|apply AW.ret|apply ae|apply y_e|refine ah ?_)|((with_reducible apply ak);first|refine t_v AS.v ?_|refine t_v (by first|exact ag (hP:=iO _ _)|exact ag (hP:=hp)) ?_|refine t_w AS.w ?_)|((with_reducible refine au ?_);((refine aj (fun hc=>?_) (fun hc=>?_);all_goals(try(exfalso;simp[*] at hc;done)))))|((with_reducible refine aA ?_);(((refine k_2 ?_ ?_);all_goals(with_reducible (first|apply qG|apply qH)))))|fail)
  all_goals(unfold gv;simp_all)
 |false=>
  refine fn2 (fn:=Tryz.f92) Tryz.call92 Tryz.func92 rfl Tryz.ntmps92 Tryz.results92 rfl (by rfl) ?_
  repeat'(first|(with_reducible first|apply AW.seq|apply AW.ret|apply ae|apply aq|apply y_e|refine ah ?_)|((with_reducible apply ak);first|refine t_v AS.v ?_|refine t_v (by exact ag (hP:=iO _ _)) ?_|refine t_w AS.w ?_)|((with_reducible refine au ?_);((refine aj (fun hc=>?_) (fun hc=>?_);all_goals(try(exfalso;simp[*] at hc;done)))))|((with_reducible refine aA ?_);(((refine k_2 ?_ ?_);all_goals(with_reducible (first|apply qG|apply qH)))))|fail)
  all_goals(unfold gv;simp_all)
theorem oF {m:Mo} (h2:dpL m.stmts≤4611686018427387904) (hw:eo m=0→(∀ x∈m.stmts,stW x)∧(jx m).size≤70368744177664):Pure Tryz.prog 45 [.agg (moC m)] (.tup [.c (sS (jr m).1),.c (sI (jr m).2)]):=by
 by_cases h:eo m=0
 ·obtain ⟨w1,w2⟩:=hw h
  have hv:0≤m.version∧m.version≤9999:=by
   unfold eo at h
   split at h
   ·omega
   ·split at h
    ·omega
    ·omega
  have hi:Pure Tryz.prog 94 [.c (sI m.version)] (.c (sS (itT m.version))):=Jb m.version (by omega) (by omega)
  have hil:=HP m.version hv.1 hv.2
  have w3:=w2
  unfold jx at w3
  have hp:∀ b:ByteArray,b.size+(cJ 0 m.stmts).size≤70368744177664→MC Tryz.prog 95 (cI b) [.c (.lst none 55 (m.stmts.map stC)),.c (sI 0)] (.tup []) (cI (b++cJ 0 m.stmts)):=fun b hb=>
   rU (lv:=0) (fun x hx b' hb'=>iI _ x (Nat.lt_succ_self _) (w1 x hx) 0 b' hb') hb
  rw[ByteArray.size_append] at w3
  have hz:ByteArray.size ⟨#[]⟩=0:=rfl
  have e0:∀ (b c:ByteArray),(⟨#[]⟩:ByteArray)++b++c=b++c:=fun b c=>by rw[gZ]
  refine fn1 (fn:=Tryz.f45) Tryz.call45 Tryz.func45 rfl Tryz.ntmps45 Tryz.results45 rfl (by rfl) ?_
  repeat'(first|(with_reducible first|apply AW.seq|apply AW.skip|apply AW.ret|apply ae|apply aq|apply y_e|refine ah ?_|refine bb ?_)|((with_reducible apply ak);first|refine t_v AS.v ?_|refine t_v (by first|exact ag (hP:=nX h2)|exact ag (hP:=hi)) ?_|refine t_w AS.w ?_|refine t_w (by first|exact cp (hP:=mE (by rw[hz];omega))|exact cp (hP:=hp _ (by rw[gZ];omega))|exact cp (hP:=ET)|exact cp (hP:=oD (by rw[gZ];rw[ByteArray.size_append];omega))) ?_)|((with_reducible refine au ?_);((refine aj (fun hc=>?_) (fun hc=>?_);all_goals(try(exfalso;simp[*] at hc;done)))))|((with_reducible refine aA ?_);(((refine k_2 ?_ ?_);all_goals(with_reducible (first|apply qG|apply qH)))))|(refine⟨by decide +kernel,?_⟩)|fail)
  all_goals
   have e1:(⟨#[]⟩:ByteArray)++bC ⟨#[32]⟩ [⟨#[109,111,100,117,108,101]⟩,m.name,itT m.version++⟨#[59,10]⟩]++cJ 0 m.stmts=jx m:=by rw[gZ];rfl
   try rw[e1] at hc
   try rw[e1]
   unfold jr
   simp only[decide_eq_true_eq,decide_eq_false_iff_not] at hc
   rw[if_neg (by rw[h];decide)]
   first|rw[if_pos (by omega)]|rw[if_neg (by omega)]
 ·refine fn1 (fn:=Tryz.f45) Tryz.call45 Tryz.func45 rfl Tryz.ntmps45 Tryz.results45 rfl (by rfl) ?_
  repeat'(first|(with_reducible first|apply AW.seq|apply AW.ret|apply ae|apply aq|apply y_e|refine ah ?_)|((with_reducible apply ak);first|refine t_v AS.v ?_|refine t_v (by exact ag (hP:=nX h2)) ?_|refine t_w AS.w ?_)|((with_reducible refine au ?_);((refine aj (fun hc=>?_) (fun hc=>?_);all_goals(try(exfalso;simp[*] at hc;done)))))|((with_reducible refine aA ?_);(((refine k_2 ?_ ?_);all_goals(with_reducible (first|apply qG|apply qH)))))|fail)
  all_goals
   unfold jr
   rw[if_pos h]
theorem tQ {s:Stm} {lv:Int} (h2:dpL [s]≤4611686018427387904) (hw:0≤lv→lv≤12→dpL [s]≤12→fmB s=true→stW s∧(stT lv.toNat s).size≤70368744177664):Pure Tryz.prog 90 [.agg (stC s),.c (sI lv)] (.tup [.c (sS (gV s lv).1),.c (sI (gV s lv).2)]):=by
 have hd:=yC (l:=[s]) h2
 by_cases h:0≤lv∧lv≤12∧dpL [s]≤12∧fmB s=true
 ·obtain ⟨k1,k2,k3,k4⟩:=h
  obtain ⟨w1,w2⟩:=hw k1 k2 k3 k4
  obtain ⟨n,hn⟩:∃ n:Nat,lv=n:=⟨lv.toNat,by omega⟩
  have hz:ByteArray.size ⟨#[]⟩=0:=rfl
  have hnn:lv.toNat=n:=by omega
  rw[hnn] at w2
  have hp:MC Tryz.prog 162 (cI ⟨#[]⟩) [.agg (stC s),.c (sI lv)] (.tup []) (cI (⟨#[]⟩++stT n s)):=by
   rw[hn]
   exact iI _ s (Nat.lt_succ_self _) w1 n ⟨#[]⟩ (by rw[hz];omega)
  rw[gZ] at hp
  clear hw h2
  refine fn2 (fn:=Tryz.f90) Tryz.call90 Tryz.func90 rfl Tryz.ntmps90 Tryz.results90 rfl (by rfl) ?_
  repeat'(first|(with_reducible first|apply AW.seq|apply AW.block|apply AW.skip|apply AW.ret|apply ae|apply aq|apply aw|apply y_e|refine ah ?_)|((with_reducible apply ak);first|refine t_v AS.v ?_|refine t_v (by first|exact ag (hP:=hd)|exact ag (hP:=pb _)) ?_|refine t_w AS.w ?_|refine t_w (by first|exact cp (hP:=hp)|exact cp (hP:=ET)|exact cp (hP:=oD (by omega))) ?_)|((with_reducible apply bc);refine t_m (hs:=fun hg=>AS.v) (k:=?_))|((with_reducible refine au ?_);((refine aj (fun hc=>?_) (fun hc=>?_);all_goals(try(exfalso;simp[*] at hc;done));all_goals(try(exfalso;revert hc;simp;omega)))))|((with_reducible refine aA ?_);(((refine k_2 ?_ ?_);all_goals(with_reducible (first|apply qG|apply qH)))))|fail)
  all_goals
   simp only[decide_eq_true_eq,decide_eq_false_iff_not] at hc
   unfold gV
   rw[if_neg (by omega),if_neg (by omega),if_neg (by simp[k4]),hnn]
   first|rw[if_pos (by omega)]|rw[if_neg (by omega)]
 ·clear hw
  have e1:fmB s=false∨fmB s=true:=by cases fmB s <;> simp
  refine fn2 (fn:=Tryz.f90) Tryz.call90 Tryz.func90 rfl Tryz.ntmps90 Tryz.results90 rfl (by rfl) ?_
  repeat'(first|(with_reducible first|apply AW.seq|apply AW.block|apply AW.skip|apply AW.ret|apply ae|apply aq|apply aw|apply aG|apply y_e|refine ah ?_)|((with_reducible apply ak);first|refine t_v AS.v ?_|refine t_v (by first|exact ag (hP:=hd)|exact ag (hP:=pb _)) ?_|refine t_w AS.w ?_)|((with_reducible apply bc);refine t_m (hs:=fun hg=>AS.v) (k:=?_))|((with_reducible refine au ?_);((refine aj (fun hc=>?_) (fun hc=>?_))))|((with_reducible refine aA ?_);(((refine k_2 ?_ ?_);all_goals(with_reducible (first|apply qG|apply qH)))))|fail)
  all_goals
   unfold gV
   grind
end Am
namespace Am
set_option maxRecDepth 100000
set_option maxHeartbeats 4000000
def smL (l:List ByteArray):Bool:=decide (l.length≤40)&&l.all (fun s=>decide (s.size≤300))
def smN (n:NS):Bool:=smL n.names&&smL n.except
mutual
def smX (levels:Int):Ex→Bool
 |⟨_,_,_,_,names,_,kids⟩=>decide (0<levels)&&decide (kids.length≤4)&&smL names&&DL (levels - 1) kids
def DL (levels:Int):List Ex→Bool
 |[]=>true
 |x :: l=>smX levels x&&DL levels l
end
theorem vG (levels:Int):∀ l:List Ex,DL levels l=l.all (smX levels)
 |[]=>by rw[DL];rfl
 |x :: l=>by rw[DL,vG levels l];rfl
theorem xH (levels:Int) (e:Ex):smX levels e=(decide (0<levels)&&decide (e.kids.length≤4)&&smL e.names&&e.kids.all (smX (levels - 1))):=by
 cases e;rw[smX,vG]
def smV (l:Lv):Bool:=decide (l.sens.size≤300)&&decide (l.cats.length≤70)&&l.cats.all (fun s=>decide (s.frm.size≤300)&&decide (s.to.size≤300))
def smR (r:Rg):Bool:=smV r.lo&&smV r.hi
def smC (c:Ct):Bool:=smL [c.user,c.role,c.type]&&smR c.rng
def smH (s:Stm):Bool:=smL [s.name,s.result,s.text]&&smL s.list&&smL s.aliases&&smN s.source&&smN s.target&&smN s.cls&&smN s.perms&&(smX 16 s.cond&&smR s.range&&smR ⟨s.level,Lv.zero⟩&&smC s.ctx)
mutual
def kR (levels:Int):Stm→Bool
 |⟨a1,a2,a3,a4,a5,a6,a7,a8,a9,a10,a11,a12,a13,a14,a15,a16,a17,t,e⟩=>smH ⟨a1,a2,a3,a4,a5,a6,a7,a8,a9,a10,a11,a12,a13,a14,a15,a16,a17,t,e⟩ &&
  (decide (t.length=0) || (decide (0<levels - 1)&&decide (t.length≤12)&&ko (levels - 1) t))&&(decide (e.length=0) || (decide (0<levels - 1)&&decide (e.length≤12)&&ko (levels - 1) e))
def ko (levels:Int):List Stm→Bool
 |[]=>true
 |x :: l=>kR levels x&&ko levels l
end
theorem kF (levels:Int):∀ l:List Stm,ko levels l=l.all (kR levels)
 |[]=>by rw[ko];rfl
 |x :: l=>by rw[ko,kF levels l];rfl
def dn (l:List Stm) (most levels:Int):Bool:=decide (0<levels)&&decide ((l.length:Int)≤most)&&l.all (kR levels)
theorem mB (levels:Int) (s:Stm):kR levels s=(smH s&&(decide (s.thn.length=0) || dn s.thn 12 (levels - 1))&&(decide (s.els.length=0) || dn s.els 12 (levels - 1))):=by
 cases s
 rw[kR,kF,kF]
 simp only[dn]
 have e:∀ n:Nat,decide (n≤12)=decide ((n:Int)≤12):=fun n=>decide_eq_decide.2 (by omega)
 simp only[e]
def okM (l:List Stm):Bool:=dn l 40 14&&decide (gX l≤400)
theorem BV {l:List Stm} {x:Stm} (h:x∈l):dpS x≤dpL l:=by
 induction l with
 |nil=>cases h
 |cons y l ih=>
  rw[dpL]
  rcases List.mem_cons.1 h with rfl|h
  ·omega
  ·have:=ih h;omega
theorem BU {l:List Stm} {d:Nat} (h:∀ x∈l,dpS x≤d):dpL l≤d:=by
 induction l with
 |nil=>rw[dpL];omega
 |cons y l ih=>
  rw[dpL]
  have:=ih fun x hx=>h x (.tail _ hx)
  have:=h y (.head _)
  omega
theorem uv:∀ (n:Nat) (s:Stm) (levels:Int),SizeOf.sizeOf s<n→1≤levels→kR levels s=true→(dpS s:Int)≤levels - 1
 |0,_,_,h,_,_=>absurd h (Nat.not_lt_zero _)
 |n+1,s,levels,h,h1,hs=>by
  rw[mB,Bool.and_eq_true,Bool.and_eq_true] at hs
  obtain ⟨⟨_,ht⟩,he⟩:=hs
  have part:∀ l:List Stm,(∀ x∈l,SizeOf.sizeOf x<SizeOf.sizeOf s)→(decide (l.length=0) || dn l 12 (levels - 1))=true→l.length=0∨(2≤levels∧(dpL l:Int)≤levels - 2):=fun l hl hh=>by
   rw[Bool.or_eq_true] at hh
   rcases hh with hh|hh
   ·exact .inl (of_decide_eq_true hh)
   ·unfold dn at hh
    rw[Bool.and_eq_true,Bool.and_eq_true] at hh
    have h2:=of_decide_eq_true hh.1.1
    refine .inr ⟨by omega,?_⟩
    have:dpL l≤(levels - 2).toNat:=BU fun x hx=>by
     have:=uv n x (levels - 1) (by have:=hl x hx;omega) (by omega) (List.all_eq_true.1 hh.2 x hx)
     omega
    omega
  have p1:=part s.thn (fun x hx=>iU hx) ht
  have p2:=part s.els (fun x hx=>iP hx) he
  have e0:∀ l:List Stm,l.length=0→dpL l=0:=fun l h=>by
   have:l=[]:=List.length_eq_zero_iff.1 h
   rw[this,dpL]
  rw[s7]
  split
  ·rcases p1 with p1|p1
   ·have:=e0 _ p1
    rcases p2 with p2|p2
    ·rename_i hh;omega
    ·omega
   ·rcases p2 with p2|p2
    ·have:=e0 _ p2;omega
    ·omega
  ·omega
theorem zP {l:List Stm} {most levels:Int} (h:dn l most levels=true):(dpL l:Int)≤levels - 1:=by
 unfold dn at h
 rw[Bool.and_eq_true,Bool.and_eq_true] at h
 have h2:=of_decide_eq_true h.1.1
 have:dpL l≤(levels - 1).toNat:=BU fun x hx=>by
  have:=uv _ x levels (Nat.lt_succ_self _) (by omega) (List.all_eq_true.1 h.2 x hx)
  omega
 omega
def gr:Nat→Nat
 |0=>1
 |d+1=>1+24*gr d
theorem yy {l:List Stm} {g:Nat} (h:∀ x∈l,1+jZ x≤g):eB l≤l.length*g:=by
 induction l with
 |nil=>rw[eB];omega
 |cons y l ih=>
  rw[eB]
  have h1:=ih fun x hx=>h x (.tail _ hx)
  have h2:=h y (.head _)
  rw[List.length_cons,Nat.add_mul]
  omega
theorem qS:∀ (n:Nat) (s:Stm) (levels:Int) (d:Nat),SizeOf.sizeOf s<n→kR levels s=true→dpS s≤d→1+jZ s≤gr d
 |0,_,_,_,h,_,_=>absurd h (Nat.not_lt_zero _)
 |n+1,s,levels,d,h,hs,hd=>by
  rw[mB,Bool.and_eq_true,Bool.and_eq_true] at hs
  obtain ⟨⟨_,ht⟩,he⟩:=hs
  rw[oc]
  rw[s7] at hd
  have e0:∀ l:List Stm,l.length=0→eB l=0:=fun l h=>by
   have:l=[]:=List.length_eq_zero_iff.1 h
   rw[this,eB]
  split at hd
  ·cases d with
   |zero=>omega
   |succ d=>
    have part:∀ l:List Stm,(∀ x∈l,SizeOf.sizeOf x<SizeOf.sizeOf s)→dpL l≤d→(decide (l.length=0) || dn l 12 (levels - 1))=true→eB l≤12*gr d:=fun l hl hdl hh=>by
     rw[Bool.or_eq_true] at hh
     rcases hh with hh|hh
     ·rw[e0 l (of_decide_eq_true hh)];omega
     ·unfold dn at hh
      rw[Bool.and_eq_true,Bool.and_eq_true] at hh
      have h2:=of_decide_eq_true hh.1.2
      have h3:=yy (l:=l) (g:=gr d) fun x hx=>qS n x (levels - 1) d (by have:=hl x hx;omega) (List.all_eq_true.1 hh.2 x hx) (Nat.le_trans (BV hx) hdl)
      have h4:l.length*gr d≤12*gr d:=Nat.mul_le_mul_right _ (by omega)
      omega
    have p1:=part s.thn (fun x hx=>iU hx) (by omega) ht
    have p2:=part s.els (fun x hx=>iP hx) (by omega) he
    rw[gr]
    omega
  ·rename_i hh
   rw[e0 s.thn (by omega),e0 s.els (by omega)]
   cases d with
   |zero=>rw[gr];omega
   |succ d=>rw[gr];omega
theorem wx {l:List Stm} (h:okM l=true) (hd:dpL l≤12):eB l≤400∧gX l=eB l:=by
 unfold okM at h
 rw[Bool.and_eq_true] at h
 have h2:=of_decide_eq_true h.2
 have h1:=h.1
 unfold dn at h1
 rw[Bool.and_eq_true,Bool.and_eq_true] at h1
 have hl:=of_decide_eq_true h1.1.2
 have hg:gr 12=38106751489299841∨gr 12≤40000000000000000:=by right;decide
 have h3:=yy (l:=l) (g:=gr 12) fun x hx=>qS _ x 14 12 (Nat.lt_succ_self _) (List.all_eq_true.1 h1.2 x hx) (Nat.le_trans (BV hx) hd)
 have h4:l.length*gr 12≤40*gr 12:=Nat.mul_le_mul_right _ (by omega)
 have h5:gr 12≤40000000000000000:=by decide
 have h6:eB l≤40*40000000000000000:=Nat.le_trans h3 (Nat.le_trans h4 (Nat.mul_le_mul_left _ h5))
 have e:gX l=eB l:=by unfold gX;rw[wrap64 (by omega) (by omega)]
 exact⟨by omega,e⟩
theorem vQ {sep:ByteArray} {b:Nat}:∀ {l:List ByteArray},(∀ x∈l,x.size≤b)→(tlB sep l).size≤l.length*(sep.size+b)
 |[],_=>by rw[tlB];exact Nat.zero_le _
 |x :: l,h=>by
  have h1:=vQ (sep:=sep) (b:=b) (l:=l) fun y hy=>h y (.tail _ hy)
  have h2:=h x (.head _)
  rw[tlB,ByteArray.size_append,ByteArray.size_append,List.length_cons,Nat.add_mul]
  omega
theorem kD {sep:ByteArray} {b:Nat} {l:List ByteArray} (h:∀ x∈l,x.size≤b):(bC sep l).size≤l.length*(sep.size+b):=by
 match l,h with
 |[],_=>rw[bC];exact Nat.zero_le _
 |x :: l,h=>
  have h1:=vQ (sep:=sep) (b:=b) (l:=l) fun y hy=>h y (.tail _ hy)
  have h2:=h x (.head _)
  rw[bC,ByteArray.size_append,List.length_cons,Nat.add_mul]
  omega
theorem lF {l:List ByteArray} (h:smL l=true):l.length≤40∧∀ x∈l,x.size≤300:=by
 unfold smL at h
 rw[Bool.and_eq_true] at h
 exact⟨of_decide_eq_true h.1,fun x hx=>of_decide_eq_true (List.all_eq_true.1 h.2 x hx)⟩
theorem ua (l:List ByteArray):(brT l).size=(bC ⟨#[32]⟩ l).size+4:=by
 simp only[brT,ByteArray.size_append,aM,List.size_toArray,List.length_cons,List.length_nil];omega
theorem qQ {l:List ByteArray} (h:smL l=true):(brT l).size≤12100:=by
 obtain ⟨h1,h2⟩:=lF h
 have h3:=kD (sep:=⟨#[32]⟩) h2
 have h4:ByteArray.size ⟨#[32]⟩=1:=rfl
 rw[h4] at h3
 have h5:l.length*301≤40*301:=Nat.mul_le_mul_right _ h1
 rw[ua];omega
theorem ui {l:List ByteArray} (h:smL l=true):(bC ⟨#[44,32]⟩ l).size≤12100:=by
 obtain ⟨h1,h2⟩:=lF h
 have h3:=kD (sep:=⟨#[44,32]⟩) h2
 have h4:ByteArray.size ⟨#[44,32]⟩=2:=rfl
 rw[h4] at h3
 have h5:l.length*302≤40*302:=Nat.mul_le_mul_right _ h1
 omega
theorem A8 {n:NS} (h:smN n=true):(nsL n).length≤82∧∀ x∈nsL n,x.size≤302:=by
 unfold smN at h
 rw[Bool.and_eq_true] at h
 obtain ⟨a1,a2⟩:=lF h.1
 obtain ⟨b1,b2⟩:=lF h.2
 have hs:ByteArray.size ⟨#[45,32]⟩=2:=rfl
 constructor
 ·simp only[nsL,sP,lq,List.length_append,List.length_map]
  split <;> split <;> simp only[List.length_cons,List.length_nil] <;> omega
 ·intro x hx
  simp only[nsL,sP,lq,List.mem_append,List.mem_map] at hx
  rcases hx with((hx|hx)|⟨y,hy,rfl⟩)|hx
  ·split at hx
   ·simp at hx;rw[hx];decide
   ·cases hx
  ·have:=a2 x hx;omega
  ·have:=b2 y hy
   rw[ByteArray.size_append,hs];omega
  ·split at hx
   ·simp at hx;rw[hx];decide
   ·cases hx
theorem jc {n:NS} (h:smN n=true):(nsT n).size≤25000:=by
 obtain ⟨h1,h2⟩:=A8 h
 have h3:=kD (sep:=⟨#[32]⟩) h2
 have h4:ByteArray.size ⟨#[32]⟩=1:=rfl
 rw[h4] at h3
 have h5:(nsL n).length*303≤82*303:=Nat.mul_le_mul_right _ h1
 have hb:=ua (nsL n)
 have h6:ByteArray.size ⟨#[126,32]⟩=2:=rfl
 have hg:((nsL n).getD 0 ⟨#[]⟩).size≤302:=by
  rw[List.getD_eq_getElem?_getD]
  cases hx:(nsL n)[0]? with
  |none=>exact Nat.zero_le _
  |some x=>exact h2 x (List.mem_of_getElem? hx)
 unfold nsT
 split
 ·rw[ByteArray.size_append,h6];omega
 ·split
  ·rw[ByteArray.size_append,h6];omega
  ·split <;> omega
theorem JR {l:Lv} (h:smV l=true):l.sens.size≤300∧l.cats.length≤70∧∀ x∈l.cats,x.frm.size≤300∧x.to.size≤300:=by
 unfold smV at h
 rw[Bool.and_eq_true,Bool.and_eq_true] at h
 refine⟨of_decide_eq_true h.1.1,of_decide_eq_true h.1.2,fun x hx=>?_⟩
 have:=List.all_eq_true.1 h.2 x hx
 rw[Bool.and_eq_true] at this
 exact⟨of_decide_eq_true this.1,of_decide_eq_true this.2⟩
theorem Aw {x:Sp} (h:x.frm.size≤300∧x.to.size≤300):(spT x).size≤601:=by
 have h4:ByteArray.size ⟨#[46]⟩=1:=rfl
 unfold spT
 split
 ·omega
 ·rw[ByteArray.size_append,ByteArray.size_append,h4];omega
theorem mY {l:Lv} (h:smV l=true):(lvT l).size≤43000:=by
 obtain ⟨h1,h2,h3⟩:=JR h
 have h4:ByteArray.size ⟨#[58]⟩=1:=rfl
 have h5:ByteArray.size ⟨#[44]⟩=1:=rfl
 unfold lvT
 split
 ·omega
 ·have h6:=kD (sep:=⟨#[44]⟩) (b:=601) (l:=l.cats.map spT) fun y hy=>by
   obtain ⟨x,hx,rfl⟩:=List.mem_map.1 hy
   exact Aw (h3 x hx)
  rw[h5,List.length_map] at h6
  have h7:l.cats.length*602≤70*602:=Nat.mul_le_mul_right _ h2
  rw[ByteArray.size_append,ByteArray.size_append,h4];omega
theorem rr {r:Rg} (h:smR r=true):(rgT r).size≤90000:=by
 unfold smR at h
 rw[Bool.and_eq_true] at h
 have h1:=mY h.1
 have h2:=mY h.2
 have h4:ByteArray.size ⟨#[45]⟩=1:=rfl
 unfold rgT
 split
 ·omega
 ·rw[ByteArray.size_append,ByteArray.size_append,h4];omega
theorem zO {c:Ct} (h:smC c=true):(cxT c).size≤91000:=by
 unfold smC at h
 rw[Bool.and_eq_true] at h
 have h1:=rr h.2
 obtain ⟨_,h2⟩:=lF h.1
 have a:=h2 c.user (by simp)
 have b:=h2 c.role (by simp)
 have d:=h2 c.type (by simp)
 have h4:ByteArray.size ⟨#[58]⟩=1:=rfl
 simp only[cxT,ByteArray.size_append,h4];omega
theorem ku (p:Bool) (s:ByteArray):(fY p s).size≤s.size+2:=by
 unfold fY;split
 ·simp only[ByteArray.size_append,aM,List.size_toArray,List.length_cons,List.length_nil];omega
 ·omega
theorem kv (p q:Int) (s:ByteArray):(ia p q s).size≤s.size+2:=by
 unfold ia;split
 ·simp only[ByteArray.size_append,aM,List.size_toArray,List.length_cons,List.length_nil];omega
 ·omega
theorem qW:∀ (k:Nat) (e:Ex) (limit level levels:Int),level+k=13→limit≤15→fA limit level e=true→smX levels e=true→(exT e).size+10≤2 ^ k*25100
 |0,e,limit,level,levels,hk,hl,h,hs=>by
  rw[j9,Bool.and_eq_true] at h
  have:=h.1
  unfold nB at this
  rw[Bool.and_eq_true,Bool.and_eq_true] at this
  have:=of_decide_eq_true this.1.1
  omega
 |k+1,e,limit,level,levels,hk,hl,h,hs=>by
  rw[j9,Bool.and_eq_true] at h
  obtain ⟨h,hkids⟩:=h
  rw[xH,Bool.and_eq_true,Bool.and_eq_true] at hs
  have ih:∀ x∈e.kids,(exT x).size+10≤2 ^ k*25100:=fun x hx=>qW k x limit (level+1) (levels - 1) (by omega) hl (List.all_eq_true.1 hkids x hx) (List.all_eq_true.1 hs.2 x hx)
  have hp:1≤2 ^ k:=Nat.one_le_two_pow
  rw[Nat.pow_succ]
  generalize 2 ^ k=P at *
  unfold nB at h
  rw[Bool.and_eq_true] at h
  have hn:=h.2
  rw[C8]
  have s4:ByteArray.size ⟨#[32,38,38,32]⟩=4:=rfl
  have t4:ByteArray.size ⟨#[32,124,124,32]⟩=4:=rfl
  have u4:ByteArray.size ⟨#[32,105,110,32]⟩=4:=rfl
  have s1:ByteArray.size ⟨#[33]⟩=1:=rfl
  have s2:ByteArray.size ⟨#[32]⟩=1:=rfl
  by_cases o2:e.op=2
  ·obtain ⟨a,ha⟩:=kj (l:=e.kids) (by simp[o2] at hn;omega)
   have i1:=ih a (by rw[ha];simp)
   have j1:=ku (decide (a.op≠2)) (exT a)
   simp only[exH,o2,ha,if_true,List.map_cons,List.map_nil,List.getD_cons_zero,ByteArray.size_append,s1]
   omega
  by_cases o3:e.op=3
  ·obtain ⟨a,b,ha⟩:=lH (l:=e.kids) (by simp[o3] at hn;omega)
   have i1:=ih a (by rw[ha];simp)
   have i2:=ih b (by rw[ha];simp)
   have j1:=ku (decide (a.op=4)) (exT a)
   have j2:=ku (decide (b.op=4) || decide (b.op=3)) (exT b)
   have e1:exH e.op e.a e.rel e.b e.names (e.kids.map exT) (e.kids.map (·.op))=fY (decide (a.op=4)) (exT a)++⟨#[32,38,38,32]⟩++fY (decide (b.op=4) || decide (b.op=3)) (exT b):=by simp[exH,o3,ha]
   rw[e1,ByteArray.size_append,ByteArray.size_append,s4]
   omega
  by_cases o4:e.op=4
  ·obtain ⟨a,b,ha⟩:=lH (l:=e.kids) (by simp[o4] at hn;omega)
   have i1:=ih a (by rw[ha];simp)
   have i2:=ih b (by rw[ha];simp)
   have j2:=ku (decide (b.op=4)) (exT b)
   have e1:exH e.op e.a e.rel e.b e.names (e.kids.map exT) (e.kids.map (·.op))=exT a++⟨#[32,124,124,32]⟩++fY (decide (b.op=4)) (exT b):=by simp[exH,o4,ha]
   rw[e1,ByteArray.size_append,ByteArray.size_append,t4]
   omega
  by_cases o9:e.op=9
  ·have ha:0≤e.a∧e.a<15:=by simp[o9] at hn;omega
   have i1:=wk (n:=e.a.toNat) (by omega)
   have i2:=jc (n:=⟨false,false,false,e.names,[]⟩) (by simp only[smN,hs.1.2];rfl)
   have e1:exH e.op e.a e.rel e.b e.names (e.kids.map exT) (e.kids.map (·.op))=iM e.a.toNat++⟨#[32,105,110,32]⟩++nsT ⟨false,false,false,e.names,[]⟩:=by simp[exH,o9]
   rw[e1,ByteArray.size_append,ByteArray.size_append,u4]
   omega
  ·have ha:e.op=8∧0≤e.a∧e.a<15∧0≤e.b∧e.b<15:=by
    simp[o2,o3,o4,o9] at hn
    omega
   have i1:=wk (n:=e.a.toNat) (by omega)
   have i2:=wk (n:=e.b.toNat) (by omega)
   have i3:=JG e.rel
   have e1:exH e.op e.a e.rel e.b e.names (e.kids.map exT) (e.kids.map (·.op))=iM e.a.toNat++⟨#[32]⟩++ti e.rel++⟨#[32]⟩++iM e.b.toNat:=by simp[exH,ha.1]
   rw[e1]
   simp only[ByteArray.size_append,s2]
   omega
theorem qX {e:Ex} {v:Bool} (h:fy e v=true) (hs:smX 16 e=true):(exT e).size≤268435456:=by
 have:=qW 12 e (if v then 15 else 10) 1 16 (by omega) (by split <;> decide) h hs
 omega
theorem qR:∀ (k:Nat) (e:Ex) (level levels:Int),level+k=13→cP level e=0→smX levels e=true→(btI e).size+10≤2 ^ k*25100
 |0,e,level,levels,hk,h,hs=>by
  rw[lK] at h
  unfold eQ at h
  rw[if_pos (by omega:12<level)] at h
  simp at h
 |k+1,e,level,levels,hk,h,hs=>by
  obtain ⟨h0,h1,h2,h3⟩:=qK h
  rw[xH,Bool.and_eq_true,Bool.and_eq_true] at hs
  have ih:∀ x∈e.kids,(btI x).size+10≤2 ^ k*25100:=fun x hx=>qR k x (level+1) (levels - 1) (by omega) (h3 x hx) (List.all_eq_true.1 hs.2 x hx)
  have hp:1≤2 ^ k:=Nat.one_le_two_pow
  rw[Nat.pow_succ]
  generalize 2 ^ k=P at *
  have s1:ByteArray.size ⟨#[33]⟩=1:=rfl
  have s2:ByteArray.size ⟨#[32]⟩=1:=rfl
  rw[l9]
  by_cases k0:dh e.op=0
  ·obtain ⟨x,hx⟩:=kj (l:=e.names) (by have:=h2 k0;omega)
   have hx2:=(lF hs.1.2).2 x (by rw[hx];simp)
   have e1:btH e.op e.names (e.kids.map btI) (e.kids.map (·.op))=x:=by simp[btH,k0,hx]
   rw[e1];omega
  by_cases k1:dh e.op=1
  ·obtain ⟨a,ha⟩:=kj (l:=e.kids) (by omega)
   have i1:=ih a (by rw[ha];simp)
   have j1:=kv (gQ a.op) 5 (btI a)
   have e1:btH e.op e.names (e.kids.map btI) (e.kids.map (·.op))=⟨#[33]⟩++ia (gQ a.op) 5 (btI a):=by simp[btH,k1,ha]
   rw[e1,ByteArray.size_append,s1];omega
  ·have k2:dh e.op=2:=by
    have:dh e.op=0∨dh e.op=1∨dh e.op=2∨dh e.op= -1:=by unfold dh;grind
    omega
   obtain ⟨a,b,ha⟩:=lH (l:=e.kids) (by omega)
   have i1:=ih a (by rw[ha];simp)
   have i2:=ih b (by rw[ha];simp)
   have j1:=kv (gQ a.op) (dK e.op) (btI a)
   have j2:=kv (gQ b.op) (dK e.op+1) (btI b)
   have hm:(kW e.op).size≤2:=by
    unfold kW
    repeat' split
    all_goals decide
   have e1:btH e.op e.names (e.kids.map btI) (e.kids.map (·.op))=ia (gQ a.op) (dK e.op) (btI a)++⟨#[32]⟩++kW e.op++⟨#[32]⟩++ia (gQ b.op) (dK e.op+1) (btI b):=by simp[btH,k2,ha]
   rw[e1]
   simp only[ByteArray.size_append,s2]
   omega
theorem zK {e:Ex} (h:cP 1 e=0) (hs:smX 16 e=true):(btT e 0).size≤268435456:=by
 have:=qR 12 e 1 16 (by omega) h hs
 have h2:=kv (gQ e.op) 0 (btI e)
 unfold btT
 omega
theorem DK {s:Stm} (h:smH s=true):Bd s:=by
 unfold smH at h
 simp only[Bool.and_eq_true] at h
 obtain ⟨⟨⟨⟨⟨⟨⟨h1,h2⟩,h3⟩,h4⟩,h5⟩,h6⟩,h7⟩,⟨⟨h8,h9⟩,h10⟩,h11⟩:=h
 have t:=(lF h1).2
 have a:=t s.name (by simp)
 have b:=t s.result (by simp)
 have c:=t s.text (by simp)
 have d:=qQ h2
 have e:=ui h2
 have f:=qQ h3
 have g4:=jc h4
 have g5:=jc h5
 have g6:=jc h6
 have g7:=jc h7
 have g9:=rr h9
 unfold smR at h10
 rw[Bool.and_eq_true] at h10
 have g10:(lvT s.level).size≤43000:=mY h10.1
 have g11:=zO h11
 exact⟨by omega,by omega,by omega,by omega,by omega,by omega,by omega,by omega,by omega,by omega,fun hh=>by
  rcases hh with hh|hh
  ·exact qX hh h8
  ·exact qX hh h8,fun hh=>zK hh h8,by omega,by omega,by omega⟩
end Am
namespace Am
set_option maxRecDepth 100000
set_option maxHeartbeats 4000000
theorem lA {l:List Stm} {levels:Int} (h:(decide (l.length=0) || dn l 12 levels)=true):∀ x∈l,kR levels x=true:=fun x hx=>by
 rw[Bool.or_eq_true] at h
 rcases h with h|h
 ·have:=of_decide_eq_true h
  have:l=[]:=List.length_eq_zero_iff.1 this
  rw[this] at hx;cases hx
 ·unfold dn at h
  rw[Bool.and_eq_true] at h
  exact List.all_eq_true.1 h.2 x hx
theorem FQ:∀ (n:Nat) (s:Stm) (levels:Int),SizeOf.sizeOf s<n→fmB s=true→kR levels s=true→stW s
 |0,_,_,h,_,_=>absurd h (Nat.not_lt_zero _)
 |n+1,s,levels,h,hf,hs=>by
  rw[mB,Bool.and_eq_true,Bool.and_eq_true] at hs
  rw[yL] at hf
  have hw:=hf
  rw[xO]
  by_cases k:s.kind=17∨s.kind=18
  ·unfold bE at hf
   rw[Bool.and_eq_true] at hf
   have hf:=hf.1
   have hq:(s.kind=17→cP 1 s.cond=0)∧s.thn.all fmB=true∧s.els.all fmB=true:=by
    rcases k with k|k
    ·simp only[k,Int.reduceEq,or_self,if_false,if_true,Bool.and_eq_true] at hf
     exact⟨fun _=>of_decide_eq_true hf.1.1.1,hf.1.2,hf.2⟩
    ·simp only[k,Int.reduceEq,or_self,if_false,if_true,Bool.and_eq_true] at hf
     exact⟨fun h=>by rw[k] at h;omega,hf.1.2,hf.2⟩
   refine⟨⟨fun a b=>by omega,DK hs.1.1,hq.1⟩,fun x hx=>?_,fun x hx=>?_⟩
   ·exact FQ n x (levels - 1) (by have:=iU hx;omega) (List.all_eq_true.1 hq.2.1 x hx) (lA hs.1.2 x hx)
   ·exact FQ n x (levels - 1) (by have:=iP hx;omega) (List.all_eq_true.1 hq.2.2 x hx) (lA hs.2 x hx)
  ·obtain ⟨b1,b2⟩:=yo hw (by omega) (by omega)
   refine⟨⟨fun _ _=>JL hw,DK hs.1.1,fun h=>by omega⟩,?_,?_⟩
   ·rw[b1];intro x hx;cases hx
   ·rw[b2];intro x hx;cases hx
theorem tv:∀ (n:Nat) (s:Stm) (levels:Int) (lv:Nat),SizeOf.sizeOf s<n→stW s→kR levels s=true→(lv:Int)+levels≤100→0≤levels→(stT lv s).size+1≤(1+jZ s)*4294967296
 |0,_,_,_,h,_,_,_,_=>absurd h (Nat.not_lt_zero _)
 |n+1,s,levels,lv,h,hW,hs,hlv,hl0=>by
  rw[mB,Bool.and_eq_true,Bool.and_eq_true] at hs
  rw[xO] at hW
  obtain ⟨⟨hr,hbd,hc2⟩,w1,w2⟩:=hW
  have part:∀ l:List Stm,(∀ x∈l,SizeOf.sizeOf x<SizeOf.sizeOf s)→(∀ x∈l,stW x)→(decide (l.length=0) || dn l 12 (levels - 1))=true→(cJ (lv+1) l).size≤eB l*4294967296:=fun l hlt hw hh=>by
   refine tY fun x hx=>?_
   have hsm:=lA hh x hx
   have h0:0≤levels - 1:=by
    rw[Bool.or_eq_true] at hh
    rcases hh with hh|hh
    ·have:=of_decide_eq_true hh
     have:l=[]:=List.length_eq_zero_iff.1 this
     rw[this] at hx;cases hx
    ·unfold dn at hh
     rw[Bool.and_eq_true,Bool.and_eq_true] at hh
     have:=of_decide_eq_true hh.1.1
     omega
   exact tv n x (levels - 1) (lv+1) (by have:=hlt x hx;omega) (hw x hx) hsm (by omega) h0
  have p1:=part s.thn (fun x hx=>iU hx) w1 hs.1.2
  have p2:=part s.els (fun x hx=>iP hx) w2 hs.2
  have hi:=mQ lv
  rw[oc,DP]
  have t1:ByteArray.size ⟨#[59]⟩=1:=rfl
  have t2:ByteArray.size ⟨#[125]⟩=1:=rfl
  have t3:ByteArray.size ⟨#[32,101,108,115,101,32,123,10]⟩=8:=rfl
  have t4:ByteArray.size ⟨#[]⟩=0:=rfl
  unfold stH
  split
  ·rename_i k
   have:=Cz (hr k.1 k.2) hbd
   rw[ByteArray.size_append,ByteArray.size_append,t1]
   omega
  ·have:=Cj hbd hc2
   split
   ·simp only[ByteArray.size_append,t2,t3]
    omega
   ·simp only[ByteArray.size_append,t2,t4]
    omega
theorem xi {m:Mo} (hs:okM m.stmts=true) (hn:m.name.size≤300) (h:eo m=0):(∀ x∈m.stmts,stW x)∧(jx m).size≤70368744177664:=by
 have hs2:=hs
 unfold okM dn at hs2
 rw[Bool.and_eq_true,Bool.and_eq_true] at hs2
 have hc:¬ (m.version<0∨9999<m.version)∧¬ (1024<gX m.stmts∨12<dpL m.stmts)∧m.stmts.all fmB=true:=by
  unfold eo at h
  split at h
  ·omega
  ·split at h
   ·omega
   ·split at h
    ·omega
    ·split at h
     ·omega
     ·rename_i h1 h2 h3
      exact⟨h1,h2,by simpa using h3⟩
 obtain ⟨hv,hd,hf⟩:=hc
 have hW:∀ x∈m.stmts,stW x:=fun x hx=>FQ _ x 14 (Nat.lt_succ_self _) (List.all_eq_true.1 hf x hx) (List.all_eq_true.1 hs2.1.2 x hx)
 refine⟨hW,?_⟩
 have hc:=(wx hs (by omega)).1
 have hb:=tY (lv:=0) (l:=m.stmts) fun x hx=>tv _ x 14 0 (Nat.lt_succ_self _) (hW x hx) (List.all_eq_true.1 hs2.1.2 x hx) (by omega) (by omega)
 have hi:=HP m.version (by omega) (by omega)
 simp only[jx,bC,tlB,ByteArray.size_append,aM,List.size_toArray,List.length_cons,List.length_nil]
 omega
theorem LD {s:Stm} {lv:Int} (hs:okM [s]=true) (h0:0≤lv) (h1:lv≤12) (hd:dpL [s]≤12) (hf:fmB s=true):stW s∧(stT lv.toNat s).size≤70368744177664:=by
 have hs2:=hs
 unfold okM dn at hs2
 rw[Bool.and_eq_true,Bool.and_eq_true] at hs2
 have hm:=List.all_eq_true.1 hs2.1.2 s (by simp)
 have hW:=FQ _ s 14 (Nat.lt_succ_self _) hf hm
 have hc:=(wx hs hd).1
 have:=tv _ s 14 lv.toNat (Nat.lt_succ_self _) hW hm (by omega) (by omega)
 rw[eB,eB] at hc
 exact⟨hW,by omega⟩
theorem uu {l:List Stm} (h:okM l=true):dpL l≤4611686018427387904:=by
 unfold okM at h
 rw[Bool.and_eq_true] at h
 have:=zP h.1
 omega
end Am
end Go.Proofs.YtkpodagbefnebaaGreatDoor
