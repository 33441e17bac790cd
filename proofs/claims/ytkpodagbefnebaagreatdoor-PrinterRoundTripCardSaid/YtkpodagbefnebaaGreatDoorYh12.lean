import Derived.Test.YtkpodagbefnebaaGreatDoorYh11
set_option linter.unusedSimpArgs false
set_option linter.unusedVariables false
set_option linter.unusedSectionVars false
namespace Go.Proofs.YtkpodagbefnebaaGreatDoor
namespace Am
open Tk Go.RowKit
set_option maxRecDepth 100000
set_option maxHeartbeats 1000000
section
variable {l:List Tok} {k:Ix l} {c d:Int}
theorem bS (hf:Fine l) {x:ByteArray} {k':Ix l} (h:bY k= .ok (x,k')):k'=nx k∧k'.1=k.1+1:=by
 unfold bY at h
 split at h
 ·rename_i hn
  injection h with h
  injection h with h1 h2
  subst h2
  refine⟨rfl,hC hf ?_⟩
  simp[eg] at hn
  rw[hn.1];decide
 ·cases h
theorem bH (hf:Fine l) {s:ByteArray} (h:isM s k=true):(nx k).1=k.1+1:=hC hf (by simp[isM] at h;rw[h.1];decide)
theorem iA (hf:Fine l) {s:ByteArray} (h:isW s k=true):(nx k).1=k.1+1:=hC hf (by simp[isW] at h;rw[h.1];decide)
theorem Bv {b:Bool}:k.1≤(adv b k).1:=by unfold adv;split;exact Lk k;exact Nat.le_refl _
theorem lS (hf:Fine l):MX Tryz.prog 249 [(0,psO k c d)] [.c (.ptr 0 0)] (cH k) (fun s=>.c (bA s)) (fun k'=>[(0,psO k' c d)]) pvS:=by
 have hl:=hf.le
 refine MXA (fn:=Tryz.f249) Tryz.call249 Tryz.func249 rfl Tryz.ntmps249 Tryz.results249 rfl rfl ?_
 repeat'((fail_if_success (with_reducible refine ct 2 ?_));(first|(with_reducible first|apply AW.seq|apply ae|apply aE|apply y_e|refine ah ?_)|((with_reducible apply ak);first|refine t_v AS.v ?_|refine bG (hP:=jA hf _) (k1:=fun x k h=>?_) (k2:=fun e h σx=>?_))|((with_reducible refine bo ?_);(with_reducible refine aY ?_))|fail))
 ·repeat'((fail_if_success (with_reducible fail));(first|(with_reducible first|apply AW.seq|apply AW.block|apply ae|apply aE|apply y_e|refine ah ?_)|((with_reducible apply ak);first|refine t_w Em ?_|refine t_v AS.v ?_|refine bG (hP:=eu hf) (k1:=fun x k h=>?_) (k2:=fun e h σx=>?_))|((with_reducible refine bo ?_);(with_reducible refine aY ?_))|fail))
  ·rename_i k0 _ k1 h1
   have hlt:=(bS hf h).2
   have e:cH k0=cA (fuel l) [x] k:=by simp only[cH,h1,h,aa]
   rw[e]
   generalize hsp:cA (fuel l) [x] k=sp
   refine AW.loop (fun m σ=>∃ acc k',cA m acc k'=sp∧l.length<m+k'.1∧acc.length≤k'.1+1∧σ=mk [(3,.c (.lst (some 8) 1 (acc.map oneS))),(0,.c (.ptr 0 0))] [(8,.row 9 1 acc.length),(0,psO k' c d)]) (fuel l) ?_ ?_
   ·exact⟨_,wkA,[x],k,hsp,by unfold fuel;omega,by simp,rfl⟩
   rintro m σ ⟨acc,k',hm,hm2,ha,rfl⟩
   subst hm
   have hk':=k'.2
   obtain ⟨m,rfl⟩:∃ n,m=n+1:=⟨m - 1,by omega⟩
   have a:=(cd (k:=k') (c:=c) (d:=d) hf ⟨#[125]⟩).ok _ _ rfl
   repeat'(first|(with_reducible first|apply AW.seq|apply AW.block|apply AW.skip|apply AW.ret|apply AW.exit|apply ae|apply aJ|apply aE|apply aw|apply aW|apply cf|apply y_e|refine ah ?_)|((with_reducible apply ak);first|refine t_v AS.v ?_|refine t_w AS.w ?_|refine t_w (by exact ch (hP:=a)) ?_|refine bG (hP:=eu hf) (k1:=fun x k h=>?_) (k2:=fun e h σx=>?_))|((with_reducible refine au ?_);((refine aj (fun hc=>?_) (fun hc=>?_))))|((with_reducible refine bo ?_);first|(with_reducible refine aY ?_)|refine l_1 (k:=?_))|fail)
   ·have hb:isM ⟨#[125]⟩ k'=false:=by simpa using hc
    rw[hb] at h
    have h:bY k'= .ok (x,k):=h
    have hx:=(bS hf h).2
    exact⟨m,_,Nat.lt_succ_self m,wkA,acc++[x],k,by rw[cA,hb,h];rfl,by omega,by simp;omega,rfl⟩
   all_goals(first|(refine⟨_,_,?_,(by exact dt _ _),(by exact aD rfl)⟩;simp_all[cA,aa,ar,adv,Lv.zero,Sp.zero,Rg.zero,Ct.zero];done)|(simp_all[cA,aa,ar,adv,Lv.zero,Sp.zero,Rg.zero,Ct.zero];done)|fail "end")
  ·(first|(simp_all[cH,aa,ar,adv,Lv.zero,Sp.zero,Rg.zero,Ct.zero];done)|fail "end")
 ·(first|(simp_all[cH,aa,ar,adv,Lv.zero,Sp.zero,Rg.zero,Ct.zero];done)|fail "end")
theorem uQ (hf:Fine l):MX Tryz.prog 250 [(0,psO k c d)] [.c (.ptr 0 0)] (dN k) (fun s=>.c (bA s)) (fun k'=>[(0,psO k' c d)]) pvS:=by
 have hl:=hf.le
 refine MXA (fn:=Tryz.f250) Tryz.call250 Tryz.func250 rfl Tryz.ntmps250 Tryz.results250 rfl rfl ?_
 repeat'((fail_if_success (with_reducible fail));(first|(with_reducible first|apply AW.seq|apply AW.block|apply ae|apply aE|apply y_e|refine ah ?_)|((with_reducible apply ak);first|refine t_w Em ?_|refine t_v AS.v ?_|refine bG (hP:=eu hf) (k1:=fun x k h=>?_) (k2:=fun e h σx=>?_))|((with_reducible refine bo ?_);(with_reducible refine aY ?_))|fail))
 ·rename_i k0
  have hlt:=(bS hf h).2
  have e:dN k0=br (fuel l) [x] k:=by simp only[dN,h,aa]
  rw[e]
  generalize hsp:br (fuel l) [x] k=sp
  refine AW.loop (fun m σ=>∃ acc k',br m acc k'=sp∧l.length<m+k'.1∧acc.length≤k'.1+1∧σ=mk [(3,.c (.lst (some 6) 1 (acc.map oneS))),(0,.c (.ptr 0 0))] [(6,.row 9 1 acc.length),(0,psO k' c d)]) (fuel l) ?_ ?_
  ·exact⟨_,wkA,[x],k,hsp,by unfold fuel;omega,by simp,rfl⟩
  rintro m σ ⟨acc,k',hm,hm2,ha,rfl⟩
  subst hm
  have hk':=k'.2
  obtain ⟨m,rfl⟩:∃ n,m=n+1:=⟨m - 1,by omega⟩
  have a:=(cd (k:=k') (c:=c) (d:=d) hf ⟨#[44]⟩).ok _ _ rfl
  repeat'(first|(with_reducible first|apply AW.seq|apply AW.block|apply AW.skip|apply AW.ret|apply AW.exit|apply ae|apply aJ|apply aE|apply aw|apply aW|apply cf|apply y_e|refine ah ?_)|((with_reducible apply ak);first|refine t_v AS.v ?_|refine t_w AS.w ?_|refine t_w (by exact ch (hP:=a)) ?_|refine bG (hP:=eu hf) (k1:=fun x k h=>?_) (k2:=fun e h σx=>?_))|((with_reducible refine au ?_);((refine aj (fun hc=>?_) (fun hc=>?_))))|((with_reducible refine bo ?_);first|(with_reducible refine aY ?_)|refine l_1 (k:=?_))|fail)
  ·rw[hc] at h
   have h:bY (nx k')= .ok (x,k):=h
   have hx:=(bS hf h).2
   have hy:=bH hf hc
   exact⟨m,_,Nat.lt_succ_self m,wkA,acc++[x],k,by rw[br,hc,if_pos rfl,h];rfl,by omega,by simp;omega,rfl⟩
  all_goals(first|(refine⟨_,_,?_,(by exact dt _ _),(by exact aD rfl)⟩;simp_all[br,aa,ar,adv,Lv.zero,Sp.zero,Rg.zero,Ct.zero];done)|(simp_all[br,aa,ar,adv,Lv.zero,Sp.zero,Rg.zero,Ct.zero];done)|fail "end")
 ·(first|(simp_all[dN,aa,ar,adv,Lv.zero,Sp.zero,Rg.zero,Ct.zero];done)|fail "end")
theorem mM (hf:Fine l) (n:NS) (self minus:Bool) (b1:n.names.length≤k.1) (b2:n.except.length≤k.1):MX0 Tryz.prog 152 ((0,psO k c d) :: elS 60 9 1001 1002 1003 n) [.c (.ptr 0 0),.c (.ptr 1001 0),.c (sB self),.c (sB minus)] (fH self minus n k>>=fun x=>.ok ((),x)) (fun _=>.tup []) (elO 60 9 fun k'=>psO k' c d) pvS:=by
 have hl:=hf.le
 have hk:=k.2
 have a1:=fun k=>(cd (k:=k) (c:=c) (d:=d) hf ⟨#[42]⟩).ok _ _ rfl
 have a2:=fun k=>(cd (k:=k) (c:=c) (d:=d) hf ⟨#[45]⟩).ok _ _ rfl
 have a3:=fun k=>(du (k:=k) (c:=c) (d:=d) hf ⟨#[115,101,108,102]⟩).ok _ _ rfl
 refine MX0.of (fn:=Tryz.f152) Tryz.call152 Tryz.func152 rfl Tryz.ntmps152 Tryz.results152 rfl rfl ?_
 repeat'(first|(with_reducible first|apply AW.seq|apply AW.block|apply ae|apply aw|apply cf|apply y_e|refine ah ?_|refine bb ?_)|((with_reducible apply ak);first|refine t_v AS.v ?_|refine t_w AS.w ?_|refine t_w (by exact ch (hP:=a1 _)) ?_|refine bG (hP:=eu hf) (k1:=fun x k h=>?_) (k2:=fun e h σx=>?_))|((with_reducible apply bc);first|refine t_m (hs:=fun hg=>AS.v) (k:=?_)|refine t_g (hs:=fun hg=>(by first|exact ch (hP:=a2 _)|exact ch (hP:=a3 _))) (k:=fun hg=>?_) (k0:=fun hg=>?_))|((with_reducible apply aV);refine t_s AS.s ?_)|((with_reducible refine au ?_);first|refine cj ?_|(refine aj (fun hc=>?_) (fun hc=>?_)))|((with_reducible refine bo ?_);first|(with_reducible refine aY ?_)|refine MG (k:=?_))|(refine⟨by decide +kernel,fun(σx:St)=>?_⟩)|(refine⟨by decide +kernel,?_⟩)|fail)
 ·exact⟨{ n with all:=true},_,by simp[fH,hc,adv],aD rfl,rfl,rfl,rfl⟩
 ·exact⟨{ n with self:=true},_,by simp_all[fH,adv],aD rfl,rfl,rfl,rfl⟩
 all_goals first|exact⟨{ n with except:=n.except++[x]},_,by simp_all[fH,adv,aa],aD rfl,rfl,rfl,rfl⟩|exact⟨{ n with names:=n.names++[x]},_,by simp_all[fH,adv,aa],aD rfl,rfl,rfl,rfl⟩|(simp_all[fH,adv,ar];done)
theorem gY (hf:Fine l) {self minus:Bool} {n m:NS} {k':Ix l} (h:fH self minus n k= .ok (m,k')):k.1<k'.1∧m.names.length≤n.names.length+1∧m.except.length≤n.except.length+1:=by
 unfold fH at h
 split at h
 ·rename_i h1
  injection h with h;injection h with h2 h3;subst h2 h3
  have:=bH hf h1
  exact⟨by omega,by simp,by simp⟩
 ·split at h
  ·rename_i h1
   rw[Bool.and_eq_true] at h1
   injection h with h;injection h with h2 h3;subst h2 h3
   have:=iA hf h1.2
   exact⟨by omega,by simp,by simp⟩
  ·split at h
   ·rename_i h1
    rw[Bool.and_eq_true] at h1
    have:=bH hf h1.2
    cases hn:bY (nx k) with
    |error e=>rw[hn] at h;cases h
    |ok p=>
     rw[hn] at h
     injection h with h;injection h with h2 h3;subst h2 h3
     have:=(bS hf hn).2
     exact⟨by omega,by simp,by simp⟩
   ·cases hn:bY k with
    |error e=>rw[hn] at h;cases h
    |ok p=>
     rw[hn] at h
     injection h with h;injection h with h2 h3;subst h2 h3
     have:=(bS hf hn).2
     exact⟨by omega,by simp,by simp⟩
theorem rC (hf:Fine l) (self:Bool):MX Tryz.prog 80 [(0,psO k c d)] [.c (.ptr 0 0),.c (sB self)] (ff self k) (fun s=>.agg (nsC s)) (fun k'=>[(0,psO k' c d)]) pvS:=by
 have hl:=hf.le
 have hk:=k.2
 have a1:=fun k=>(cd (k:=k) (c:=c) (d:=d) hf ⟨#[126]⟩).ok _ _ rfl
 have a2:=fun k=>(cd (k:=k) (c:=c) (d:=d) hf ⟨#[123]⟩).ok _ _ rfl
 have a3:=fun k=>(cd (k:=k) (c:=c) (d:=d) hf ⟨#[125]⟩).ok _ _ rfl
 refine MXA (fn:=Tryz.f80) Tryz.call80 Tryz.func80 rfl Tryz.ntmps80 Tryz.results80 rfl rfl ?_
 repeat'((fail_if_success (with_reducible refine xw 3 ?_));(fail_if_success (with_reducible refine ct 5 ?_));(fail_if_success (with_reducible refine xw 9 ?_));(first|(with_reducible first|apply AW.seq|apply AW.block|apply ae|apply y_e|refine ah ?_)|((with_reducible apply ak);first|refine t_w E6 ?_|refine t_v AS.v ?_|refine t_w (by first|exact ch (hP:=a1 _)|exact ch (hP:=a2 _)) ?_)|((with_reducible apply aV);refine t_s AS.s ?_)|((with_reducible refine au ?_);((refine aj (fun hc=>?_) (fun hc=>?_))))|fail))
 ·refine nilRowH 5 3 1002 9 1 (cs':=[sB false,sB (isM ⟨#[126]⟩ k),sB false,.lst (some 1002) 1 [],.nil]) rfl rfl rfl rfl ?_
  refine nilRowH 5 4 1003 9 1 (cs':=nsR 1002 1003 (ns0 (isM ⟨#[126]⟩ k))) rfl rfl rfl rfl ?_
  repeat'(first|(with_reducible first|apply AW.seq|apply AW.block|apply ae|apply aE|apply cf|apply y_e|refine ah ?_)|((with_reducible apply ak);first|refine t_v AS.v ?_|refine K1 (hP:=mM hf _ self true (Nat.zero_le _) (Nat.zero_le _)) (k1:=fun x k h=>?_) (k2:=fun e h σx=>?_))|((with_reducible refine bo ?_);(with_reducible refine aY ?_))|fail)
  ·rename_i k0
   rw[hc] at h
   have h:fH self true (ns0 (isM ⟨#[126]⟩ k0)) (nx (adv (isM ⟨#[126]⟩ k0) k0))= .ok (x,k):=h
   have hb:=gY hf h
   have e:ff self k0=ir self (fuel l) x k:=by rw[ff,if_pos hc,h];rfl
   rw[e]
   generalize hsp:ir self (fuel l) x k=sp
   refine AW.loop (fun m σ=>∃ n k',ir self m n k'=sp∧l.length<m+k'.1∧n.names.length≤k'.1∧n.except.length≤k'.1∧σ=mk [(0,.c (.ptr 0 0)),(1,.c (sB self)),(4,.c (.ptr 4 0)),(5,.c (.ptr 5 0))] [(1003,.row 9 1 n.except.length),(1002,.row 9 1 n.names.length),(5,.obj 60 (nsR 1002 1003 n)),(0,psO k' c d),(4,.obj 60 [sB false,sB false,sB false,.nil,.nil])]) (fuel l) ?_ ?_
   ·exact⟨_,wkA,x,k,hsp,by unfold fuel;omega,by have:=hb.2.1;simp[ns0] at this;omega,by have:=hb.2.2;simp[ns0] at this;omega,rfl⟩
   rintro m σ ⟨n,k',hm,hm2,hb1,hb2,rfl⟩
   subst hm
   have hk':=k'.2
   obtain ⟨m,rfl⟩:∃ n,m=n+1:=⟨m - 1,by omega⟩
   have a3:=(cd (k:=k') (c:=c) (d:=d) hf ⟨#[125]⟩).ok _ _ rfl
   cases hb:isM ⟨#[125]⟩ k' with
   |true=>
    rw[hb] at a3
    repeat'(first|(with_reducible first|apply AW.seq|apply AW.ret|apply AW.exit|apply ae|apply aJ|apply aw|apply aW|apply y_e|refine ah ?_)|((with_reducible apply ak);first|refine t_v AS.v ?_|refine t_w (by exact ch (hP:=a3)) ?_)|((with_reducible apply aV);refine t_s AS.s ?_)|((with_reducible refine au ?_);refine cj ?_)|((with_reducible refine bo ?_);refine fN (k:=?_))|fail)
    exact⟨n,nx k',by rw[ir,hb];rfl,EE rfl,aD rfl⟩
   |false=>
    rw[hb] at a3
    have a3:MNL _ _ _ _ _ [(0,psO k' c d)]:=a3
    repeat'(first|(with_reducible first|apply AW.seq|apply AW.block|apply AW.skip|apply ae|apply aE|apply aw|apply cf|apply y_e|refine ah ?_)|((with_reducible apply ak);first|refine t_v AS.v ?_|refine t_w (by exact ch (hP:=a3)) ?_|refine K1 (hP:=mM hf _ self true hb1 hb2) (k1:=fun x k h=>?_) (k2:=fun e h σx=>?_))|((with_reducible refine au ?_);refine cF ?_)|((with_reducible refine bo ?_);(with_reducible refine aY ?_))|fail)
    ·have hx:=gY hf h
     exact⟨m,_,Nat.lt_succ_self m,wkA,x,k,by rw[ir,hb,h];rfl,by omega,by omega,by omega,rfl⟩
    ·(first|(simp_all[ir,aa,ar,adv,Lv.zero,Sp.zero,Rg.zero,Ct.zero];done)|fail "end")
  ·(first|(simp_all[ff,aa,ar,adv,Lv.zero,Sp.zero,Rg.zero,Ct.zero];done)|fail "end")
 ·refine nilRowH 5 4 1003 9 1 (cs':=[sB false,sB (isM ⟨#[126]⟩ k),sB false,.nil,.lst (some 1003) 1 []]) rfl rfl rfl rfl ?_
  repeat'(first|(with_reducible first|apply AW.seq|apply AW.ret|apply ae|apply aE|apply aw|apply cf|apply y_e|refine ah ?_)|((with_reducible apply ak);first|refine t_v AS.v ?_|refine bG (hP:=eu hf) (k1:=fun x k h=>?_) (k2:=fun e h σx=>?_))|((with_reducible apply aV);refine t_s AS.s ?_)|((with_reducible refine bo ?_);first|(with_reducible refine aY ?_)|refine fN (k:=?_))|fail)
  ·exact⟨⟨false,true,false,[x],[]⟩,k,by simp_all[ff,adv,aa],by simp_all[V.un,unL,bV,C.un,unA];rfl,aD rfl⟩
  ·(first|(simp_all[ff,aa,ar,adv,Lv.zero,Sp.zero,Rg.zero,Ct.zero];done)|fail "end")
 ·refine nilRowH 5 3 1002 9 1 (cs':=[sB false,sB (isM ⟨#[126]⟩ k),sB false,.lst (some 1002) 1 [],.nil]) rfl rfl rfl rfl ?_
  refine nilRowH 5 4 1003 9 1 (cs':=nsR 1002 1003 (ns0 (isM ⟨#[126]⟩ k))) rfl rfl rfl rfl ?_
  repeat'(first|(with_reducible first|apply AW.seq|apply AW.ret|apply ae|apply aE|apply aw|apply cf|apply y_e|refine ah ?_)|((with_reducible apply ak);first|refine t_v AS.v ?_|refine K1 (hP:=mM hf _ self false (Nat.zero_le _) (Nat.zero_le _)) (k1:=fun x k h=>?_) (k2:=fun e h σx=>?_))|((with_reducible apply aV);refine t_s AS.s ?_)|((with_reducible refine bo ?_);first|(with_reducible refine aY ?_)|refine fN (k:=?_))|fail)
  ·exact⟨x,_,by simp_all[ff,adv],EE rfl,aD rfl⟩
  ·(first|(simp_all[ff,aa,ar,adv,Lv.zero,Sp.zero,Rg.zero,Ct.zero];done)|fail "end")
end
end Am
end Go.Proofs.YtkpodagbefnebaaGreatDoor
