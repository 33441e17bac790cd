import Derived.Test.YtkpodagbefnebaaGreatDoorYh28
set_option linter.unusedSimpArgs false
set_option linter.unusedVariables false
set_option linter.unusedSectionVars false
namespace Go.Proofs.YtkpodagbefnebaaGreatDoor
namespace Am
set_option maxRecDepth 100000
set_option maxHeartbeats 1000000
theorem jz {n:NS} (hb:(nsT n).size≤4398046511000):Pure Tryz.prog 164 [.agg (nsC n)] (.c (sS (nsT n))):=by
 have:=xm n
 exact Gf (by omega) (by omega)
theorem jd {e:Ex} {p:Bool} (h:Pure Tryz.prog 166 [.agg (exC e)] (.c (sS (exT e)))) (hb:(fY p (exT e)).size≤xh):Pure Tryz.prog 222 [.agg (exC e),.c (sB p)] (.c (sS (fY p (exT e)))):=by
 have hb2:=hb
 unfold fY xh at hb2
 cases p with
 |true=>
  rw[if_pos rfl] at hb2
  simp only[ByteArray.size_append,aM,List.size_toArray,List.length_cons,List.length_nil] at hb2
  refine fn2 (fn:=Tryz.f222) Tryz.call222 Tryz.func222 rfl Tryz.ntmps222 Tryz.results222 rfl (by rfl) ?_
  repeat'(first|(with_reducible first|apply AW.seq|apply AW.skip|apply AW.ret|apply ae|apply aq|apply y_e|refine ah ?_)|((with_reducible apply ak);first|refine t_v AS.v ?_|refine t_v (by exact ag (hP:=h)) ?_|refine t_w AS.w ?_)|((with_reducible refine au ?_);first|refine cF ?_|refine cj ?_)|((with_reducible refine aA ?_);refine k_s ?_)|fail)
  rfl
 |false=>
  refine fn2 (fn:=Tryz.f222) Tryz.call222 Tryz.func222 rfl Tryz.ntmps222 Tryz.results222 rfl (by rfl) ?_
  repeat'(first|(with_reducible first|apply AW.seq|apply AW.skip|apply AW.ret|apply ae|apply aq|apply y_e|refine ah ?_)|((with_reducible apply ak);first|refine t_v AS.v ?_|refine t_v (by exact ag (hP:=h)) ?_|refine t_w AS.w ?_)|((with_reducible refine au ?_);first|refine cF ?_|refine cj ?_)|((with_reducible refine aA ?_);refine k_s ?_)|fail)
  rfl
theorem lX:∀ (n:Nat) (e:Ex) (limit level:Int),SizeOf.sizeOf e<n→limit≤15→fA limit level e=true→(exT e).size≤4398046511000→Pure Tryz.prog 166 [.agg (exC e)] (.c (sS (exT e)))
 |0,_,_,_,h,_,_,_=>absurd h (Nat.not_lt_zero _)
 |n+1,e,limit,level,h,hl,hn,hb=>by
  have ih:∀ x∈e.kids,(exT x).size≤4398046511000→Pure Tryz.prog 166 [.agg (exC x)] (.c (sS (exT x))):=fun x hx hs=>
   lX n x limit (level+1) (by have:=gi hx;omega) hl (by
    rw[j9,Bool.and_eq_true] at hn
    exact List.all_eq_true.1 hn.2 x hx) hs
  rw[j9,Bool.and_eq_true] at hn
  have hn:=hn.1
  rw[C8] at hb ⊢
  unfold nB at hn
  rw[Bool.and_eq_true] at hn
  have hn:=hn.2
  by_cases o2:e.op=2
  ·have hk:(e.kids.length:Int)=1:=by simp[o2] at hn;omega
   obtain ⟨k,hk⟩:=kj hk
   have hx:e.kids[0]? =some k:=by rw[hk];rfl
   have e1:exH e.op e.a e.rel e.b e.names (e.kids.map exT) (e.kids.map (·.op))=⟨#[33]⟩++fY (decide (k.op≠2)) (exT k):=by simp[exH,o2,hk]
   rw[e1] at hb ⊢
   simp only[ByteArray.size_append,aM,List.size_toArray,List.length_cons,List.length_nil] at hb
   have hs:=mr (decide (k.op≠2)) (exT k)
   have hp:=jd (p:=decide (k.op≠2)) (ih k (List.mem_of_getElem? hx) (by omega)) (by unfold xh;omega)
   rw[decide_not] at hp hb ⊢
   clear ih hn hk h e1 hs
   refine fn1 (fn:=Tryz.f166) Tryz.call166 Tryz.func166 rfl Tryz.ntmps166 Tryz.results166 rfl (by rfl) ?_
   repeat'(first|(with_reducible first|apply AW.seq|apply AW.block|apply AW.ret|apply ae|apply aq|apply aG|apply y_e|refine ah ?_|refine bb ?_)|((with_reducible apply ak);first|refine t_v AS.v ?_|refine t_v (by exact ag (hP:=hp)) ?_|refine t_w AS.w ?_)|((with_reducible refine au ?_);((refine aj (fun hc=>?_) (fun hc=>?_);all_goals(try(exfalso;simp[*] at hc;done)))))|((with_reducible refine aA ?_);refine k_s ?_)|(refine⟨by decide +kernel,?_⟩)|fail)
   rfl
  by_cases o3:e.op=3
  ·have hk:(e.kids.length:Int)=2:=by simp[o3] at hn;omega
   obtain ⟨k,m,hk⟩:=lH hk
   have hx:e.kids[0]? =some k:=by rw[hk];rfl
   have hy:e.kids[1]? =some m:=by rw[hk];rfl
   have e1:exH e.op e.a e.rel e.b e.names (e.kids.map exT) (e.kids.map (·.op))=fY (decide (k.op=4)) (exT k)++⟨#[32,38,38,32]⟩++fY (decide (m.op=4) || decide (m.op=3)) (exT m):=by simp[exH,o3,hk]
   rw[e1] at hb ⊢
   simp only[ByteArray.size_append,aM,List.size_toArray,List.length_cons,List.length_nil] at hb
   have hs:=mr (decide (k.op=4)) (exT k)
   have ht:=mr (decide (m.op=4) || decide (m.op=3)) (exT m)
   have hp:=jd (p:=decide (k.op=4)) (ih k (List.mem_of_getElem? hx) (by omega)) (by unfold xh;omega)
   have hq:=jd (p:=decide (m.op=4) || decide (m.op=3)) (ih m (List.mem_of_getElem? hy) (by omega)) (by unfold xh;omega)
   clear ih hn hk h e1 hs ht
   refine fn1 (fn:=Tryz.f166) Tryz.call166 Tryz.func166 rfl Tryz.ntmps166 Tryz.results166 rfl (by rfl) ?_
   repeat'(first|(with_reducible first|apply AW.seq|apply AW.block|apply AW.ret|apply ae|apply aq|apply aG|apply y_e|refine ah ?_|refine bb ?_)|((with_reducible apply ak);first|refine t_v AS.v ?_|refine t_v (by first|exact ag (hP:=hp)|exact ag (hP:=hq)) ?_|refine t_w AS.w ?_)|((with_reducible apply bc);refine t_m (hs:=fun hg=>AS.v) (k:=?_))|((with_reducible apply aV);refine t_s AS.s ?_)|((with_reducible refine au ?_);((refine aj (fun hc=>?_) (fun hc=>?_);all_goals(try(exfalso;simp[*] at hc;done)))))|((with_reducible refine aA ?_);refine k_s ?_)|(refine⟨by decide +kernel,?_⟩)|fail)
   rfl
  by_cases o4:e.op=4
  ·have hk:(e.kids.length:Int)=2:=by simp[o4] at hn;omega
   obtain ⟨k,m,hk⟩:=lH hk
   have hx:e.kids[0]? =some k:=by rw[hk];rfl
   have hy:e.kids[1]? =some m:=by rw[hk];rfl
   have e1:exH e.op e.a e.rel e.b e.names (e.kids.map exT) (e.kids.map (·.op))=fY false (exT k)++⟨#[32,124,124,32]⟩++fY (decide (m.op=4)) (exT m):=by simp[exH,o4,hk,fY]
   rw[e1] at hb ⊢
   simp only[ByteArray.size_append,aM,List.size_toArray,List.length_cons,List.length_nil] at hb
   have hs:=mr false (exT k)
   have ht:=mr (decide (m.op=4)) (exT m)
   have hp:=jd (p:=false) (ih k (List.mem_of_getElem? hx) (by omega)) (by unfold xh;omega)
   have hq:=jd (p:=decide (m.op=4)) (ih m (List.mem_of_getElem? hy) (by omega)) (by unfold xh;omega)
   clear ih hn hk h e1 hs ht
   refine fn1 (fn:=Tryz.f166) Tryz.call166 Tryz.func166 rfl Tryz.ntmps166 Tryz.results166 rfl (by rfl) ?_
   repeat'(first|(with_reducible first|apply AW.seq|apply AW.block|apply AW.ret|apply ae|apply aq|apply aG|apply y_e|refine ah ?_|refine bb ?_)|((with_reducible apply ak);first|refine t_v AS.v ?_|refine t_v (by first|exact ag (hP:=hp)|exact ag (hP:=hq)) ?_|refine t_w AS.w ?_)|((with_reducible apply bc);refine t_m (hs:=fun hg=>AS.v) (k:=?_))|((with_reducible apply aV);refine t_s AS.s ?_)|((with_reducible refine au ?_);((refine aj (fun hc=>?_) (fun hc=>?_);all_goals(try(exfalso;simp[*] at hc;done)))))|((with_reducible refine aA ?_);refine k_s ?_)|(refine⟨by decide +kernel,?_⟩)|fail)
   rfl
  by_cases o9:e.op=9
  ·have ha:0≤e.a∧e.a<15:=by simp[o9] at hn;omega
   obtain ⟨a,ha2⟩:∃ a:Nat,e.a=a:=⟨e.a.toNat,by omega⟩
   have han:a<15:=by omega
   have e1:exH e.op e.a e.rel e.b e.names (e.kids.map exT) (e.kids.map (·.op))=iM a++⟨#[32,105,110,32]⟩++nsT ⟨false,false,false,e.names,[]⟩:=by simp[exH,o9,ha2]
   rw[e1] at hb ⊢
   simp only[ByteArray.size_append,aM,List.size_toArray,List.length_cons,List.length_nil] at hb
   have hp:Pure Tryz.prog 223 [.c (sI e.a)] (.c (sS (iM a))):=by rw[ha2];exact jU han
   have hq:=jz (n:=⟨false,false,false,e.names,[]⟩) (by omega)
   clear ih hn h e1 ha ha2
   refine fn1 (fn:=Tryz.f166) Tryz.call166 Tryz.func166 rfl Tryz.ntmps166 Tryz.results166 rfl (by rfl) ?_
   repeat'(first|(with_reducible first|apply AW.seq|apply AW.block|apply AW.ret|apply ae|apply aq|apply aG|apply y_e|refine ah ?_|refine bb ?_)|((with_reducible apply ak);first|refine t_v AS.v ?_|refine t_v (by first|exact ag (hP:=hp)|exact ag (hP:=hq)) ?_|refine t_w AS.w ?_)|((with_reducible apply bc);refine t_m (hs:=fun hg=>AS.v) (k:=?_))|((with_reducible apply aV);refine t_s AS.s ?_)|((with_reducible refine au ?_);((refine aj (fun hc=>?_) (fun hc=>?_);all_goals(try(exfalso;simp[*] at hc;done)))))|((with_reducible refine aA ?_);refine k_s ?_)|(refine⟨by decide +kernel,?_⟩)|fail)
   rfl
  ·have ha:e.op=8∧0≤e.a∧e.a<15∧0≤e.b∧e.b<15:=by
    simp[o2,o3,o4,o9] at hn
    omega
   obtain ⟨o8,ha⟩:=ha
   obtain ⟨a,ha2⟩:∃ a:Nat,e.a=a:=⟨e.a.toNat,by omega⟩
   obtain ⟨b,hb2⟩:∃ b:Nat,e.b=b:=⟨e.b.toNat,by omega⟩
   have han:a<15:=by omega
   have hbn:b<15:=by omega
   have e1:exH e.op e.a e.rel e.b e.names (e.kids.map exT) (e.kids.map (·.op))=iM a++⟨#[32]⟩++ti e.rel++⟨#[32]⟩++iM b:=by simp[exH,o8,ha2,hb2]
   rw[e1] at hb ⊢
   simp only[ByteArray.size_append,aM,List.size_toArray,List.length_cons,List.length_nil] at hb
   have hp:Pure Tryz.prog 223 [.c (sI e.a)] (.c (sS (iM a))):=by rw[ha2];exact jU han
   have hq:Pure Tryz.prog 223 [.c (sI e.b)] (.c (sS (iM b))):=by rw[hb2];exact jU hbn
   have hr:=xy e.rel
   clear ih hn h e1 ha ha2 hb2 o2 o3 o4 o9
   refine fn1 (fn:=Tryz.f166) Tryz.call166 Tryz.func166 rfl Tryz.ntmps166 Tryz.results166 rfl (by rfl) ?_
   repeat'(first|(with_reducible first|apply AW.seq|apply AW.block|apply AW.skip|apply AW.ret|apply ae|apply aw|apply y_e|refine ah ?_|refine bb ?_)|((with_reducible apply ak);first|refine t_v AS.v ?_|refine t_v (by first|exact ag (hP:=hp)|exact ag (hP:=hq)|exact ag (hP:=hr)) ?_|refine t_w AS.w ?_)|((with_reducible refine au ?_);((refine aj (fun hc=>?_) (fun hc=>?_);all_goals(try(exfalso;simp[*] at hc;done)))))|((with_reducible refine aA ?_);refine k_s ?_)|(refine⟨by decide +kernel,?_⟩)|fail)
   rfl
theorem ju {e:Ex} {v:Bool} (h:fy e v=true) (hb:(exT e).size≤4398046511000):Pure Tryz.prog 166 [.agg (exC e)] (.c (sS (exT e))):=
 lX _ e (if v then 15 else 10) 1 (Nat.lt_succ_self _) (by split <;> decide) h hb
end Am
namespace Am
set_option maxRecDepth 100000
set_option maxHeartbeats 1000000
theorem xG (op:Int):Pure Tryz.prog 286 [.c (sI op)] (.tup [.c (sS (kW op)),.c (sI (dK op))]):=by
 refine fn1 (fn:=Tryz.f286) Tryz.call286 Tryz.func286 rfl Tryz.ntmps286 Tryz.results286 rfl (by rfl) ?_
 repeat'(first|(with_reducible first|apply AW.seq|apply AW.block|apply AW.skip|apply AW.ret|apply ae|apply aq|apply aw|apply aG|apply y_e|refine ah ?_)|((with_reducible apply ak);refine t_v AS.v ?_)|((with_reducible refine au ?_);((refine aj (fun hc=>?_) (fun hc=>?_))))|((with_reducible refine aA ?_);(((refine k_2 ?_ ?_);all_goals(with_reducible (first|apply qG|apply qH)))))|fail)
 all_goals(simp only[decide_eq_true_eq,decide_eq_false_iff_not] at *;simp[kW,dK, *])
theorem xP (e:Ex):Pure Tryz.prog 335 [.agg (exC e)] (.c (sI (gQ e.op))):=by
 refine fn1 (fn:=Tryz.f335) Tryz.call335 Tryz.func335 rfl Tryz.ntmps335 Tryz.results335 rfl (by rfl) ?_
 repeat'(first|(with_reducible first|apply AW.seq|apply AW.skip|apply AW.ret|apply ae|apply aq|apply y_e|refine ah ?_)|((with_reducible apply ak);first|refine t_v AS.v ?_|refine t_v (by first|exact ag (hP:=ez _)|exact ag (hP:=xG _)) ?_|refine t_w AS.w ?_)|((with_reducible refine au ?_);((refine aj (fun hc=>?_) (fun hc=>?_))))|((with_reducible refine aA ?_);refine k_i ?_)|fail)
 all_goals(simp only[decide_eq_true_eq,decide_eq_false_iff_not] at *;simp[gQ, *])
theorem yq:∀ (n:Nat) (e:Ex) (level least:Int),SizeOf.sizeOf e<n→cP level e=0→(btT e least).size≤4398046511000→Pure Tryz.prog 293 [.agg (exC e),.c (sI least)] (.c (sS (btT e least)))
 |0,_,_,_,h,_,_=>absurd h (Nat.not_lt_zero _)
 |n+1,e,level,least,h,hn,hb=>by
  obtain ⟨h0,h1,h2,h3⟩:=qK hn
  have ih:∀ x∈e.kids,∀ least,(btT x least).size≤4398046511000→Pure Tryz.prog 293 [.agg (exC x),.c (sI least)] (.c (sS (btT x least))):=fun x hx least hs=>
   yq n x (level+1) least (by have:=gi hx;omega) (h3 x hx) hs
  have hle:=GC (gQ e.op) least (btI e)
  have hpar:=hb
  have hst:=xP e
  unfold btT at hb hpar ⊢
  by_cases hs:gQ e.op<least
  ·have hb2:=hb
   unfold ia at hb2
   rw[if_pos hs] at hb2
   simp only[ByteArray.size_append,aM,List.size_toArray,List.length_cons,List.length_nil] at hb2
   have e0:ia (gQ e.op) least (btI e)=⟨#[40]⟩++btI e++⟨#[41]⟩:=by unfold ia;rw[if_pos hs]
   rw[e0]
   clear hpar hb hle e0
   by_cases k0:dh e.op=0
   ·obtain ⟨x,hx⟩:=kj (l:=e.names) (by have:=h2 k0;omega)
    have hx0:e.names[0]? =some x:=by rw[hx];rfl
    have e1:btI e=x:=by rw[l9];simp[btH,k0,hx]
    rw[e1] at hb2 ⊢
    clear ih h1 h2 h3 hx h e1 hn h0
    refine fn2 (fn:=Tryz.f293) Tryz.call293 Tryz.func293 rfl Tryz.ntmps293 Tryz.results293 rfl (by rfl) ?_
    repeat'(first|(with_reducible first|apply AW.seq|apply AW.block|apply AW.skip|apply AW.ret|apply ae|apply aq|apply aw|apply y_e|refine ah ?_)|((with_reducible apply ak);first|refine t_v AS.v ?_|refine t_v (by first|exact ag (hP:=ez _)|exact ag (hP:=hst)) ?_|refine t_w AS.w ?_)|((with_reducible refine au ?_);((refine aj (fun hc=>?_) (fun hc=>?_);all_goals(try(exfalso;simp[*] at hc;done)))))|((with_reducible refine aA ?_);refine k_s ?_)|fail)
    rfl
   by_cases k1:dh e.op=1
   ·obtain ⟨k,hk⟩:=kj (l:=e.kids) (by omega)
    have hx0:e.kids[0]? =some k:=by rw[hk];rfl
    have e1:btI e=⟨#[33]⟩++btT k 5:=by rw[l9];simp[btH,k1,hk,btT]
    rw[e1] at hb2 ⊢
    simp only[ByteArray.size_append,aM,List.size_toArray,List.length_cons,List.length_nil] at hb2
    have hp:=ih k (List.mem_of_getElem? hx0) 5 (by omega)
    clear ih h1 h2 h3 hk h e1 hn h0
    refine fn2 (fn:=Tryz.f293) Tryz.call293 Tryz.func293 rfl Tryz.ntmps293 Tryz.results293 rfl (by rfl) ?_
    repeat'(first|(with_reducible first|apply AW.seq|apply AW.block|apply AW.skip|apply AW.ret|apply ae|apply aq|apply aw|apply y_e|refine ah ?_)|((with_reducible apply ak);first|refine t_v AS.v ?_|refine t_v (by first|exact ag (hP:=ez _)|exact ag (hP:=hp)|exact ag (hP:=hst)) ?_|refine t_w AS.w ?_)|((with_reducible refine au ?_);((refine aj (fun hc=>?_) (fun hc=>?_);all_goals(try(exfalso;simp[*] at hc;done)))))|((with_reducible refine aA ?_);refine k_s ?_)|fail)
    rfl
   ·have k2:dh e.op=2:=by
     have:dh e.op=0∨dh e.op=1∨dh e.op=2∨dh e.op= -1:=by unfold dh;grind
     omega
    obtain ⟨k,m,hk⟩:=lH (l:=e.kids) (by omega)
    have hx0:e.kids[0]? =some k:=by rw[hk];rfl
    have hy0:e.kids[1]? =some m:=by rw[hk];rfl
    have e1:btI e=btT k (dK e.op)++⟨#[32]⟩++kW e.op++⟨#[32]⟩++btT m (dK e.op+1):=by rw[l9];simp[btH,k2,hk,btT]
    have hsn:1≤dK e.op∧dK e.op≤4:=by unfold dK;grind
    rw[e1] at hb2 ⊢
    simp only[ByteArray.size_append,aM,List.size_toArray,List.length_cons,List.length_nil] at hb2
    have hp:=ih k (List.mem_of_getElem? hx0) (dK e.op) (by omega)
    have hq:=ih m (List.mem_of_getElem? hy0) (dK e.op+1) (by omega)
    clear ih h1 h2 h3 hk h e1 hn h0
    refine fn2 (fn:=Tryz.f293) Tryz.call293 Tryz.func293 rfl Tryz.ntmps293 Tryz.results293 rfl (by rfl) ?_
    repeat'(first|(with_reducible first|apply AW.seq|apply AW.block|apply AW.skip|apply AW.ret|apply ae|apply aq|apply aw|apply y_e|refine ah ?_|refine bb ?_)|((with_reducible apply ak);first|refine t_v AS.v ?_|refine t_v (by first|exact ag (hP:=ez _)|exact ag (hP:=xG _)|exact ag (hP:=hp)|exact ag (hP:=hq)|exact ag (hP:=hst)) ?_|refine t_w AS.w ?_)|((with_reducible refine au ?_);((refine aj (fun hc=>?_) (fun hc=>?_);all_goals(try(exfalso;simp[*] at hc;done)))))|((with_reducible refine aA ?_);refine k_s ?_)|(refine⟨by decide +kernel,?_⟩)|fail)
    rfl
  ·have e0:ia (gQ e.op) least (btI e)=btI e:=by unfold ia;rw[if_neg hs]
   rw[e0] at hb ⊢
   clear hpar hle e0
   by_cases k0:dh e.op=0
   ·obtain ⟨x,hx⟩:=kj (l:=e.names) (by have:=h2 k0;omega)
    have hx0:e.names[0]? =some x:=by rw[hx];rfl
    have e1:btI e=x:=by rw[l9];simp[btH,k0,hx]
    rw[e1] at hb ⊢
    clear ih h1 h2 h3 hx h e1 hn h0
    refine fn2 (fn:=Tryz.f293) Tryz.call293 Tryz.func293 rfl Tryz.ntmps293 Tryz.results293 rfl (by rfl) ?_
    repeat'(first|(with_reducible first|apply AW.seq|apply AW.block|apply AW.skip|apply AW.ret|apply ae|apply aq|apply aw|apply y_e|refine ah ?_)|((with_reducible apply ak);first|refine t_v AS.v ?_|refine t_v (by first|exact ag (hP:=ez _)|exact ag (hP:=hst)) ?_|refine t_w AS.w ?_)|((with_reducible refine au ?_);((refine aj (fun hc=>?_) (fun hc=>?_);all_goals(try(exfalso;simp[*] at hc;done)))))|((with_reducible refine aA ?_);refine k_s ?_)|fail)
    rfl
   by_cases k1:dh e.op=1
   ·obtain ⟨k,hk⟩:=kj (l:=e.kids) (by omega)
    have hx0:e.kids[0]? =some k:=by rw[hk];rfl
    have e1:btI e=⟨#[33]⟩++btT k 5:=by rw[l9];simp[btH,k1,hk,btT]
    rw[e1] at hb ⊢
    simp only[ByteArray.size_append,aM,List.size_toArray,List.length_cons,List.length_nil] at hb
    have hp:=ih k (List.mem_of_getElem? hx0) 5 (by omega)
    clear ih h1 h2 h3 hk h e1 hn h0
    refine fn2 (fn:=Tryz.f293) Tryz.call293 Tryz.func293 rfl Tryz.ntmps293 Tryz.results293 rfl (by rfl) ?_
    repeat'(first|(with_reducible first|apply AW.seq|apply AW.block|apply AW.skip|apply AW.ret|apply ae|apply aq|apply aw|apply y_e|refine ah ?_)|((with_reducible apply ak);first|refine t_v AS.v ?_|refine t_v (by first|exact ag (hP:=ez _)|exact ag (hP:=hp)|exact ag (hP:=hst)) ?_|refine t_w AS.w ?_)|((with_reducible refine au ?_);((refine aj (fun hc=>?_) (fun hc=>?_);all_goals(try(exfalso;simp[*] at hc;done)))))|((with_reducible refine aA ?_);refine k_s ?_)|fail)
    rfl
   ·have k2:dh e.op=2:=by
     have:dh e.op=0∨dh e.op=1∨dh e.op=2∨dh e.op= -1:=by unfold dh;grind
     omega
    obtain ⟨k,m,hk⟩:=lH (l:=e.kids) (by omega)
    have hx0:e.kids[0]? =some k:=by rw[hk];rfl
    have hy0:e.kids[1]? =some m:=by rw[hk];rfl
    have e1:btI e=btT k (dK e.op)++⟨#[32]⟩++kW e.op++⟨#[32]⟩++btT m (dK e.op+1):=by rw[l9];simp[btH,k2,hk,btT]
    have hsn:1≤dK e.op∧dK e.op≤4:=by unfold dK;grind
    rw[e1] at hb ⊢
    simp only[ByteArray.size_append,aM,List.size_toArray,List.length_cons,List.length_nil] at hb
    have hp:=ih k (List.mem_of_getElem? hx0) (dK e.op) (by omega)
    have hq:=ih m (List.mem_of_getElem? hy0) (dK e.op+1) (by omega)
    clear ih h1 h2 h3 hk h e1 hn h0
    refine fn2 (fn:=Tryz.f293) Tryz.call293 Tryz.func293 rfl Tryz.ntmps293 Tryz.results293 rfl (by rfl) ?_
    repeat'(first|(with_reducible first|apply AW.seq|apply AW.block|apply AW.skip|apply AW.ret|apply ae|apply aq|apply aw|apply y_e|refine ah ?_|refine bb ?_)|((with_reducible apply ak);first|refine t_v AS.v ?_|refine t_v (by first|exact ag (hP:=ez _)|exact ag (hP:=xG _)|exact ag (hP:=hp)|exact ag (hP:=hq)|exact ag (hP:=hst)) ?_|refine t_w AS.w ?_)|((with_reducible refine au ?_);((refine aj (fun hc=>?_) (fun hc=>?_);all_goals(try(exfalso;simp[*] at hc;done)))))|((with_reducible refine aA ?_);refine k_s ?_)|(refine⟨by decide +kernel,?_⟩)|fail)
    rfl
theorem Fe {e:Ex} (h:cP 1 e=0) (hb:(btT e 0).size≤4398046511000):Pure Tryz.prog 218 [.agg (exC e)] (.tup [.c (sS (btT e 0)),.c (sI 0)]):=by
 refine fn1 (fn:=Tryz.f218) Tryz.call218 Tryz.func218 rfl Tryz.ntmps218 Tryz.results218 rfl (by rfl) ?_
 repeat'(first|(with_reducible first|apply AW.seq|apply AW.skip|apply AW.ret|apply ae|apply y_e|refine ah ?_)|((with_reducible apply ak);first|refine t_v AS.v ?_|refine t_v (by first|exact ag (hP:=yv _)|exact ag (hP:=yq _ e 1 0 (Nat.lt_succ_self _) h hb)) ?_|refine t_w AS.w ?_)|((with_reducible refine au ?_);((refine aj (fun hc=>?_) (fun hc=>?_);all_goals(try(exfalso;simp[*] at hc;done)))))|((with_reducible refine aA ?_);(((refine k_2 ?_ ?_);all_goals(with_reducible (first|apply qG|apply qH)))))|fail)
 all_goals(rfl)
end Am
namespace Am
set_option maxRecDepth 100000
set_option maxHeartbeats 4000000
theorem j6 {l:List ByteArray} {n:Int} (h1:1≤n) (h2:n≤l.length) (h3:l.length≤100):Pure Tryz.prog 332 [.c (sI n),.c (bA l)] (.c (sS (kwT l n))):=by
 obtain ⟨j,hj⟩:∃ j:Nat,n=(j:Int)+1:=⟨(n - 1).toNat,by omega⟩
 have hl:j<l.length:=by omega
 have e:kwT l n=l[j]:=by
  have:(n - 1).toNat=j:=by omega
  unfold kwT
  rw[this,List.getD_eq_getElem?_getD,List.getElem?_eq_getElem hl];rfl
 rw[e,hj]
 exact zY (List.getElem?_eq_getElem hl) (by omega)
theorem GP {s:Stm} (hk:¬(s.kind=1∨s.kind=2∨s.kind=3∨s.kind=4∨s.kind=5∨s.kind=8∨s.kind=9∨s.kind=10∨s.kind=11∨s.kind=17∨s.kind=18)) (hr:Rok s) (hb:Bd s):Pure Tryz.prog 292 [.agg (stC s)] (.c (sS (eK s))):=by
 obtain ⟨r12,r13,r15,r16,r19,r21,r23,r1,r2⟩:=hr
 obtain ⟨b1,b2,b3,b4,b5,b6,b7,b8,b9,b10,b11,b12,b13,b14,b15⟩:=hb
 have n1:=jz (n:=s.source) (by omega)
 have n2:=jz (n:=s.target) (by omega)
 have n3:=jz (n:=s.cls) (by omega)
 have n4:=jz (n:=s.perms) (by omega)
 have l1:=jY (l:=s.list) (by omega)
 have l2:=uj (l:=s.list) (by omega)
 have c1:=zM (c:=s.ctx) (by omega)
 have s1:=xL (r:=s.range) (by omega)
 have u4:=kT (l:=kwR) (by decide)
 have u3:=kT (l:=kwX) (by decide)
 have u8:=kT (l:=kwQ) (by decide)
 have u5:=kT (l:=kwF) (by decide)
 have u9:=kT (l:=kwA) (by decide)
 unfold kwR at u4
 unfold kwX at u3
 unfold kwQ at u8
 unfold kwF at u5
 unfold kwA at u9
 have hx:s.kind=6∨s.kind=7∨s.kind=14∨s.kind=20∨s.kind=22∨s.kind=12∨s.kind=13∨s.kind=15∨s.kind=16∨s.kind=19∨s.kind=21∨s.kind=23:=by omega
 clear b6 b13 hk r1 r2
 rcases hx with k|k|k|k|k|k|k|k|k|k|k|k
 case inl|inr.inl|inr.inr.inl|inr.inr.inr.inl|inr.inr.inr.inr.inl=>
  all_goals
   clear r12 r13 r15 r16 r19 r21 r23 b11 b12 u4 u3 u8 u5 u9
   refine fn1 (fn:=Tryz.f292) Tryz.call292 Tryz.func292 rfl Tryz.ntmps292 Tryz.results292 rfl (by rfl) ?_
   repeat'(first|(with_reducible first|apply AW.seq|apply AW.block|apply AW.ret|apply ae|apply aq|apply aG|apply y_e|refine ah ?_|refine bb ?_)|((with_reducible apply ak);first|refine t_v AS.v ?_|refine t_v (by first|exact ag (hP:=n1)|exact ag (hP:=n2)|exact ag (hP:=n3)|exact ag (hP:=c1)|exact ag (hP:=s1)) ?_|refine t_w AS.w ?_)|((with_reducible refine au ?_);((refine aj (fun hc=>?_) (fun hc=>?_);all_goals(try(exfalso;simp[*] at hc;done)))))|((with_reducible refine aA ?_);refine k_s ?_)|(refine⟨by decide +kernel,?_⟩)|fail)
   all_goals simp[eK,fU,k]
 ·have r:=r12 k
  have q:=j6 (l:=kwR) r.1 (by unfold kwR;exact r.2) (by decide)
  have v:=u4 s.op
  unfold kwR at q
  clear r12 r13 r15 r16 r19 r21 r23 b11 b12 u4 u3 u8 u5 u9
  refine fn1 (fn:=Tryz.f292) Tryz.call292 Tryz.func292 rfl Tryz.ntmps292 Tryz.results292 rfl (by rfl) ?_
  repeat'(first|(with_reducible first|apply AW.seq|apply AW.block|apply AW.skip|apply AW.ret|apply ae|apply aq|apply aw|apply aG|apply y_e|refine ah ?_|refine bb ?_)|((with_reducible apply ak);first|refine t_v AS.v ?_|refine t_v (by first|exact ag (hP:=n1)|exact ag (hP:=n2)|exact ag (hP:=n3)|exact ag (hP:=n4)|exact ag (hP:=q)) ?_|refine t_w AS.w ?_)|((with_reducible refine au ?_);((refine aj (fun hc=>?_) (fun hc=>?_);all_goals(try(exfalso;simp[*] at hc;done)))))|((with_reducible refine aA ?_);refine k_s ?_)|(refine⟨by decide +kernel,?_⟩)|fail)
  simp[eK,fU,k,kwR]
 ·have r:=r13 k
  have q:=j6 (l:=kwX) r.1 (by unfold kwX;exact r.2) (by decide)
  have v:=u3 s.op
  unfold kwX at q
  clear r12 r13 r15 r16 r19 r21 r23 b11 b12 u4 u3 u8 u5 u9
  refine fn1 (fn:=Tryz.f292) Tryz.call292 Tryz.func292 rfl Tryz.ntmps292 Tryz.results292 rfl (by rfl) ?_
  repeat'(first|(with_reducible first|apply AW.seq|apply AW.block|apply AW.skip|apply AW.ret|apply ae|apply aq|apply aw|apply aG|apply y_e|refine ah ?_|refine bb ?_)|((with_reducible apply ak);first|refine t_v AS.v ?_|refine t_v (by first|exact ag (hP:=n1)|exact ag (hP:=n2)|exact ag (hP:=n3)|exact ag (hP:=n4)|exact ag (hP:=q)) ?_|refine t_w AS.w ?_)|((with_reducible refine au ?_);((refine aj (fun hc=>?_) (fun hc=>?_);all_goals(try(exfalso;simp[*] at hc;done)))))|((with_reducible refine aA ?_);refine k_s ?_)|(refine⟨by decide +kernel,?_⟩)|fail)
  all_goals simp_all[eK,fU,k,kwX]
 ·have r:=r15 k
  have b:=b11 (.inl r)
  have q:=ju r (by omega)
  clear r12 r13 r15 r16 r19 r21 r23 b11 b12 u4 u3 u8 u5 u9
  refine fn1 (fn:=Tryz.f292) Tryz.call292 Tryz.func292 rfl Tryz.ntmps292 Tryz.results292 rfl (by rfl) ?_
  repeat'(first|(with_reducible first|apply AW.seq|apply AW.block|apply AW.skip|apply AW.ret|apply ae|apply aq|apply aw|apply aG|apply y_e|refine ah ?_|refine bb ?_)|((with_reducible apply ak);first|refine t_v AS.v ?_|refine t_v (by first|exact ag (hP:=n1)|exact ag (hP:=n2)|exact ag (hP:=n3)|exact ag (hP:=n4)|exact ag (hP:=q)) ?_|refine t_w AS.w ?_)|((with_reducible refine au ?_);((refine aj (fun hc=>?_) (fun hc=>?_);all_goals(try(exfalso;simp[*] at hc;done)))))|((with_reducible refine aA ?_);refine k_s ?_)|(refine⟨by decide +kernel,?_⟩)|fail)
  simp[eK,fU,k]
 ·have r:=r16 k
  have b:=b11 (.inr r)
  have q:=ju r (by omega)
  clear r12 r13 r15 r16 r19 r21 r23 b11 b12 u4 u3 u8 u5 u9
  refine fn1 (fn:=Tryz.f292) Tryz.call292 Tryz.func292 rfl Tryz.ntmps292 Tryz.results292 rfl (by rfl) ?_
  repeat'(first|(with_reducible first|apply AW.seq|apply AW.block|apply AW.skip|apply AW.ret|apply ae|apply aq|apply aw|apply aG|apply y_e|refine ah ?_|refine bb ?_)|((with_reducible apply ak);first|refine t_v AS.v ?_|refine t_v (by first|exact ag (hP:=n1)|exact ag (hP:=n2)|exact ag (hP:=n3)|exact ag (hP:=n4)|exact ag (hP:=q)) ?_|refine t_w AS.w ?_)|((with_reducible refine au ?_);((refine aj (fun hc=>?_) (fun hc=>?_);all_goals(try(exfalso;simp[*] at hc;done)))))|((with_reducible refine aA ?_);refine k_s ?_)|(refine⟨by decide +kernel,?_⟩)|fail)
  simp[eK,fU,k]
 ·have r:=r19 k
  have q:=j6 (l:=kwQ) r.1 (by unfold kwQ;exact r.2) (by decide)
  have v:=u8 s.op
  unfold kwQ at q
  clear r12 r13 r15 r16 r19 r21 r23 b11 b12 u4 u3 u8 u5 u9
  refine fn1 (fn:=Tryz.f292) Tryz.call292 Tryz.func292 rfl Tryz.ntmps292 Tryz.results292 rfl (by rfl) ?_
  repeat'(first|(with_reducible first|apply AW.seq|apply AW.block|apply AW.skip|apply AW.ret|apply ae|apply aq|apply aG|apply y_e|refine ah ?_|refine bb ?_)|((with_reducible apply ak);first|refine t_v AS.v ?_|refine t_v (by first|exact ag (hP:=n1)|exact ag (hP:=n2)|exact ag (hP:=q)|exact ag (hP:=l1)|exact ag (hP:=l2)) ?_|refine t_w AS.w ?_)|((with_reducible refine au ?_);((refine aj (fun hc=>?_) (fun hc=>?_);all_goals(try(exfalso;simp[*] at hc;done)))))|((with_reducible refine aA ?_);refine k_s ?_)|(refine⟨by decide +kernel,?_⟩)|fail)
  all_goals simp_all[eK,fU,k,kwQ]
 ·have r:=r21 k
  have q:=j6 (l:=kwF) (n:=s.op+1) (by omega) (by unfold kwF;have:=r.2;show _≤(5:Int);omega) (by decide)
  have v:=u5 (s.op+1)
  unfold kwF at q
  obtain ⟨r1,r2⟩:=r
  clear r12 r13 r15 r16 r19 r21 r23 b11 b12 u4 u3 u8 u5 u9
  refine fn1 (fn:=Tryz.f292) Tryz.call292 Tryz.func292 rfl Tryz.ntmps292 Tryz.results292 rfl (by rfl) ?_
  repeat'(first|(with_reducible first|apply AW.seq|apply AW.block|apply AW.ret|apply ae|apply aq|apply aG|apply y_e|refine ah ?_|refine bb ?_)|((with_reducible apply ak);first|refine t_v AS.v ?_|refine t_v (by first|exact ag (hP:=n1)|exact ag (hP:=n2)|exact ag (hP:=q)|exact ag (hP:=c1)) ?_|refine t_w AS.w ?_)|((with_reducible refine au ?_);((refine aj (fun hc=>?_) (fun hc=>?_);all_goals(try(exfalso;simp[*] at hc;done)))))|((with_reducible refine aA ?_);refine k_s ?_)|(refine⟨by decide +kernel,?_⟩)|fail)
  simp[eK,fU,k,kwF]
 ·have r:=r23 k
  have q:=j6 (l:=kwA) r.1 (by unfold kwA;exact r.2) (by decide)
  have v:=u9 s.op
  unfold kwA at q
  clear r12 r13 r15 r16 r19 r21 r23 b11 b12 u4 u3 u8 u5 u9
  refine fn1 (fn:=Tryz.f292) Tryz.call292 Tryz.func292 rfl Tryz.ntmps292 Tryz.results292 rfl (by rfl) ?_
  repeat'(first|(with_reducible first|apply AW.seq|apply AW.block|apply AW.skip|apply AW.ret|apply ae|apply aq|apply aw|apply aG|apply y_e|refine ah ?_|refine bb ?_)|((with_reducible apply ak);first|refine t_v AS.v ?_|refine t_v (by first|exact ag (hP:=n1)|exact ag (hP:=n2)|exact ag (hP:=n3)|exact ag (hP:=n4)|exact ag (hP:=q)) ?_|refine t_w AS.w ?_)|((with_reducible refine au ?_);((refine aj (fun hc=>?_) (fun hc=>?_);all_goals(try(exfalso;simp[*] at hc;done)))))|((with_reducible refine aA ?_);refine k_s ?_)|(refine⟨by decide +kernel,?_⟩)|fail)
  simp[eK,fU,k,kwA]
theorem Je {s:Stm} (hk:¬(s.kind=17∨s.kind=18)) (hr:Rok s) (hb:Bd s):Pure Tryz.prog 217 [.agg (stC s)] (.c (sS (bz s))):=by
 have hu:¬(s.kind=1∨s.kind=2∨s.kind=3∨s.kind=4∨s.kind=5∨s.kind=8∨s.kind=9∨s.kind=10∨s.kind=11)→Pure Tryz.prog 292 [.agg (stC s)] (.c (sS (eK s))):=fun h=>GP (by omega) hr hb
 obtain ⟨b1,b2,b3,b4,b5,b6,b7,b8,b9,b10,b11,b12,b13,b14,b15⟩:=hb
 have n1:=jz (n:=s.source) (by omega)
 have l1:=jY (l:=s.list) (by omega)
 have l2:=uj (l:=s.list) (by omega)
 have l3:=jY (l:=s.aliases) (by omega)
 have v1:=sf (l:=s.level) (by omega)
 have s1:=xL (r:=s.range) (by omega)
 have f1:Pure Tryz.prog 291 [.c (sB s.value)] (.c (sS (u6 s.value))):=zQ s.value
 have f2:=u7 s.value
 clear hr hk b11 b12
 refine fn1 (fn:=Tryz.f217) Tryz.call217 Tryz.func217 rfl Tryz.ntmps217 Tryz.results217 rfl (by rfl) ?_
 repeat'(first|(with_reducible first|apply AW.seq|apply AW.block|apply AW.skip|apply AW.ret|apply ae|apply aq|apply aw|apply aG|apply y_e|refine ah ?_|refine bb ?_)|((with_reducible apply ak);first|refine t_v AS.v ?_|refine t_v (by first|exact ag (hP:=n1)|exact ag (hP:=l1)|exact ag (hP:=l2)|exact ag (hP:=l3)|exact ag (hP:=v1)|exact ag (hP:=s1)|exact ag (hP:=f1)|exact ag (hP:=jy _ _)|exact ag (hP:=hu (by grind))) ?_|refine t_w AS.w ?_)|((with_reducible refine au ?_);((refine aj (fun hc=>?_) (fun hc=>?_))))|((with_reducible refine aA ?_);refine k_s ?_)|(refine⟨by decide +kernel,?_⟩)|fail)
 all_goals
  simp only[decide_eq_true_eq,decide_eq_false_iff_not,List.length_map] at *
  try simp_all[bz]
end Am
end Go.Proofs.YtkpodagbefnebaaGreatDoor
