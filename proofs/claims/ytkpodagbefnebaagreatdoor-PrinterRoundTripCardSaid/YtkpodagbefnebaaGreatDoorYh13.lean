import Derived.Test.YtkpodagbefnebaaGreatDoorYh12
set_option linter.unusedSimpArgs false
set_option linter.unusedVariables false
set_option linter.unusedSectionVars false
namespace Go.Proofs.YtkpodagbefnebaaGreatDoor
namespace Am
open Tk Go.RowKit
set_option maxRecDepth 100000
set_option maxHeartbeats 1000000
section
variable {l:List Tok} {k:Ix l} {c d:Int}
theorem yR (hf:Fine l):MX Tryz.prog 155 [(0,psO k c d)] [.c (.ptr 0 0)] (eI k) (fun s=>.agg (lvC s)) (fun k'=>[(0,psO k' c d)]) pvS:=by
 have hl:=hf.le
 have a1:=fun k=>(cd (k:=k) (c:=c) (d:=d) hf ⟨#[58]⟩).ok _ _ rfl
 have a2:=fun k=>(cd (k:=k) (c:=c) (d:=d) hf ⟨#[46]⟩).ok _ _ rfl
 have a3:=fun k=>(cd (k:=k) (c:=c) (d:=d) hf ⟨#[44]⟩).ok _ _ rfl
 refine MXA (fn:=Tryz.f155) Tryz.call155 Tryz.func155 rfl Tryz.ntmps155 Tryz.results155 rfl rfl ?_
 repeat'((fail_if_success (with_reducible refine ct 2 ?_));(first|(with_reducible first|apply AW.seq|apply ae|apply aE|apply y_e|refine ah ?_)|((with_reducible apply ak);first|refine t_v Ei ?_|refine t_v AS.v ?_|refine t_w AS.w ?_|refine bG (hP:=eu hf) (k1:=fun x k h=>?_) (k2:=fun e h σx=>?_))|((with_reducible apply aV);refine t_s AS.s ?_)|((with_reducible refine bo ?_);(with_reducible refine aY ?_))|fail))
 ·rename_i k0
  have hk:=(bS hf h).2
  refine nilRowH 3 1 1002 170 2 (cs':=lvR 1002 ⟨x,[]⟩) rfl rfl rfl rfl ?_
  repeat'(first|(with_reducible first|apply AW.seq|apply AW.block|apply AW.skip|apply AW.ret|apply ae|apply aq|apply y_e|refine ah ?_)|((with_reducible apply ak);first|refine t_v AS.v ?_|refine t_w (by exact ch (hP:=a1 _)) ?_)|((with_reducible apply aV);refine t_s AS.s ?_)|((with_reducible refine au ?_);((refine aj (fun hc=>?_) (fun hc=>?_))))|((with_reducible refine bo ?_);refine fN (k:=?_))|fail)
  ·exact⟨⟨x,[]⟩,_,by simp_all[eI,adv,aa],dr _ _,aD rfl⟩
  ·have hb:isM ⟨#[58]⟩ k=true:=by simpa using hc
   have e:eI k0=cU (fuel l) ⟨x,[]⟩ (adv (isM ⟨#[58]⟩ k) k):=by rw[eI,h];simp[aa,hb,adv]
   rw[e]
   have hk2:(adv (isM ⟨#[58]⟩ k) k).1=k.1+1:=by rw[hb];exact bH hf hb
   generalize hsp:cU (fuel l) ⟨x,[]⟩ (adv (isM ⟨#[58]⟩ k) k)=sp
   refine AW.loop (fun m σ=>∃ v k',cU m v k'=sp∧l.length<m+k'.1∧v.cats.length≤k'.1∧σ=mk [(0,.c (.ptr 0 0)),(2,.c (.ptr 2 0)),(3,.c (.ptr 3 0))] [(1002,.row 170 2 v.cats.length),(3,.obj 63 (lvR 1002 v)),(0,psO k' c d),(2,.obj 63 (lvC Lv.zero))]) (fuel l) ?_ ?_
   ·exact⟨_,wkA,⟨x,[]⟩,_,hsp,by unfold fuel;omega,Nat.zero_le _,rfl⟩
   clear e hk2 hb hc h hk hsp
   rintro m σ ⟨v,k',hm,hm2,hb1,rfl⟩
   subst hm
   have hk':=k'.2
   obtain ⟨m,rfl⟩:∃ n,m=n+1:=⟨m - 1,by omega⟩
   repeat'(first|(with_reducible first|apply AW.seq|apply AW.block|apply AW.skip|apply AW.ret|apply ae|apply aq|apply aE|apply aw|apply aG|apply cf|apply y_e|refine ah ?_)|((with_reducible apply ak);first|refine t_v AS.v ?_|refine t_w AS.w ?_|refine t_w (by first|exact ch (hP:=a2 _)|exact ch (hP:=a3 _)) ?_|refine bG (hP:=eu hf) (k1:=fun x k h=>?_) (k2:=fun e h σx=>?_))|((with_reducible apply aV);refine t_s AS.s ?_)|((with_reducible refine au ?_);((refine aj (fun hc=>?_) (fun hc=>?_))))|((with_reducible refine bo ?_);first|(with_reducible refine aY ?_)|refine fN (k:=?_))|fail)
   ·rename_i x1 k1 h1 hd
    exact⟨⟨v.sens,v.cats++[⟨x1,x⟩]⟩,_,by simp_all[cU,fu,adv,aa],zu (t:=1002) rfl,aD rfl⟩
   ·rename_i x1 k1 h1 hd
    have hb:isM ⟨#[44]⟩ k=true:=by simpa using hc
    have e1:=(bS hf h1).2
    have e2:=(bS hf h).2
    have e3:=bH hf hb
    have e4:=Bv (k:=k1) (b:=isM ⟨#[46]⟩ k1)
    exact⟨m,_,Nat.lt_succ_self m,wkA,⟨v.sens,v.cats++[⟨x1,x⟩]⟩,adv (isM ⟨#[44]⟩ k) k,by simp_all[cU,fu,adv,aa],by rw[hb];simp only[adv,if_true];omega,by rw[hb];simp only[adv,if_true,List.length_append,List.length_cons,List.length_nil];omega,rfl⟩
   ·simp_all[cU,fu,adv,aa,ar]
   ·exact⟨⟨v.sens,v.cats++[⟨x,⟨#[]⟩⟩]⟩,_,by simp_all[cU,fu,adv,aa],zu (t:=1002) rfl,aD rfl⟩
   ·rename_i hd
    rw[hd] at hc
    have hb:isM ⟨#[44]⟩ k=true:=by simpa [adv] using hc
    have e2:=(bS hf h).2
    have e3:=bH hf hb
    exact⟨m,_,Nat.lt_succ_self m,wkA,⟨v.sens,v.cats++[⟨x,⟨#[]⟩⟩]⟩,adv (isM ⟨#[44]⟩ (adv (isM ⟨#[46]⟩ k) k)) (adv (isM ⟨#[46]⟩ k) k),by simp_all[cU,fu,adv,aa],by rw[hd];simp only[adv,hb,if_true,Bool.false_eq_true,if_false];omega,by rw[hd];simp only[adv,hb,if_true,Bool.false_eq_true,if_false,List.length_append,List.length_cons,List.length_nil];omega,rfl⟩
   ·simp_all[cU,fu,adv,aa,ar]
 ·(first|(simp_all[eI,aa,ar,adv,Lv.zero,Sp.zero,Rg.zero,Ct.zero];done)|fail "end")
theorem xM (hf:Fine l):MX Tryz.prog 83 [(0,psO k c d)] [.c (.ptr 0 0)] (fr k) (fun s=>.agg (rgC s)) (fun k'=>[(0,psO k' c d)]) pvS:=by
 have hl:=hf.le
 have a1:=fun k=>(cd (k:=k) (c:=c) (d:=d) hf ⟨#[45]⟩).ok _ _ rfl
 refine MXA (fn:=Tryz.f83) Tryz.call83 Tryz.func83 rfl Tryz.ntmps83 Tryz.results83 rfl rfl ?_
 repeat'(first|(with_reducible first|apply AW.seq|apply AW.skip|apply AW.ret|apply ae|apply aE|apply y_e|refine ah ?_)|((with_reducible apply ak);first|refine t_v AS.v ?_|refine t_w AS.w ?_|refine t_w (by exact ch (hP:=a1 _)) ?_|refine bG (hP:=yR hf) (k1:=fun x k h=>?_) (k2:=fun e h σx=>?_))|((with_reducible apply aV);refine t_s AS.s ?_)|((with_reducible refine au ?_);((refine aj (fun hc=>?_) (fun hc=>?_))))|((with_reducible refine bo ?_);first|(with_reducible refine aY ?_)|refine fN (k:=?_))|fail)
 all_goals(first|(refine⟨_,_,?_,(by exact dG _),(by exact aD rfl)⟩;simp_all[fr,aa,ar,adv,Lv.zero,Sp.zero,Rg.zero,Ct.zero];done)|(simp_all[fr,aa,ar,adv,Lv.zero,Sp.zero,Rg.zero,Ct.zero];done)|fail "end")
theorem zN (hf:Fine l):MX Tryz.prog 87 [(0,psO k c d)] [.c (.ptr 0 0)] (db k) (fun s=>.agg (cxC s)) (fun k'=>[(0,psO k' c d)]) pvS:=by
 have hl:=hf.le
 refine MXA (fn:=Tryz.f87) Tryz.call87 Tryz.func87 rfl Tryz.ntmps87 Tryz.results87 rfl rfl ?_
 repeat'(first|(with_reducible first|apply AW.seq|apply AW.ret|apply ae|apply aE|apply y_e|refine ah ?_)|((with_reducible apply ak);first|refine t_v AS.v ?_|refine t_w AS.w ?_|refine bG (hP:=jA hf _) (k1:=fun x k h=>?_) (k2:=fun e h σx=>?_)|refine bG (hP:=eu hf) (k1:=fun x k h=>?_) (k2:=fun e h σx=>?_)|refine bG (hP:=xM hf) (k1:=fun x k h=>?_) (k2:=fun e h σx=>?_))|((with_reducible apply aV);refine t_s AS.s ?_)|((with_reducible refine bo ?_);first|(with_reducible refine aY ?_)|refine fN (k:=?_))|fail)
 all_goals(first|(refine⟨_,_,?_,(by exact dF _),(by exact aD rfl)⟩;simp_all[db,aa,ar,adv,Lv.zero,Sp.zero,Rg.zero,Ct.zero];done)|(simp_all[db,aa,ar,adv,Lv.zero,Sp.zero,Rg.zero,Ct.zero];done)|fail "end")
theorem yJ {α:Type} {p:α→Bool} {ws:List α} {j:Nat} {w:α} (h:ws[j]? =some w) (ha:∀ s∈ws.take j,p s=false) (hb:p w=true):ws.findIdx? p=some j:=by
 rw[List.findIdx?_eq_some_iff_getElem]
 obtain ⟨h1,h2⟩:=List.getElem?_eq_some_iff.1 h
 refine⟨h1,by rw[h2];exact hb,fun i hi=>?_⟩
 have:ws[i]∈ws.take j:=List.mem_iff_getElem?.2 ⟨i,by rw[List.getElem?_take,if_pos hi,List.getElem?_eq_getElem (by omega)]⟩
 rw[ha _ this];simp
theorem yK {α:Type} {p:α→Bool} {ws:List α} {j:Nat} (hj:ws.length≤j) (ha:∀ s∈ws.take j,p s=false):ws.findIdx? p=none:=by
 rw[List.take_of_length_le hj] at ha
 rw[List.findIdx?_eq_none_iff]
 exact ha
theorem rE {α:Type} {P:α→Prop} {ws:List α} {j:Nat} {w:α} (h:ws[j]? =some w) (ha:∀ s∈ws.take j,P s) (hb:P w):∀ s∈ws.take (j+1),P s:=by
 rw[List.take_add_one,h]
 intro s hs
 rcases List.mem_append.1 hs with hs|hs
 ·exact ha s hs
 ·simp at hs;rw[hs];exact hb
theorem oT (hf:Fine l) (ws:List ByteArray) (hw:ws.length≤100):MX Tryz.prog 251 [(0,psO k c d)] [.c (.ptr 0 0),.c (bA ws)] (cY ws k) (fun n=>.c (sI n)) (fun k'=>[(0,psO k' c d)]) pvS:=by
 have hl:=hf.le
 have a1:=fun s=>(du (k:=k) (c:=c) (d:=d) hf s).ok _ _ rfl
 refine MXA (fn:=Tryz.f251) Tryz.call251 Tryz.func251 rfl Tryz.ntmps251 Tryz.results251 rfl rfl ?_
 repeat'(first|(with_reducible first|apply AW.seq|apply AW.block|apply ae|apply y_e|refine ah ?_)|((with_reducible apply ak);refine t_v AS.v ?_)|fail)
 simp only[List.length_map]
 refine AW.loop (fun m σ=>∃ j,m=ws.length - j∧j≤ws.length∧(∀ s∈ws.take j,isW s k=false)∧σ=mk [(0,.c (.ptr 0 0)),(7,.c (bA ws)),(8,.c (sI ws.length)),(9,.c (sI j))] [(0,psO k c d)]) ws.length ?_ ?_
 ·exact⟨_,wkA,0,rfl,Nat.zero_le _,by simp,rfl⟩
 rintro m σ ⟨j,rfl,hj,ha,rfl⟩
 by_cases hlt:j<ws.length
 ·obtain ⟨w,hw⟩:∃ w,ws[j]? =some w:=⟨_,List.getElem?_eq_getElem hlt⟩
  cases hb:isW w k with
  |true=>
   have a1:=a1 w
   rw[hb] at a1
   have a1:MNL _ _ _ _ _ [(0,psO (nx k) c d)]:=a1
   repeat'(first|(with_reducible first|apply AW.seq|apply AW.block|apply AW.skip|apply AW.ret|apply ae|apply aq|apply aw|apply aG|apply y_e|refine ah ?_)|((with_reducible apply ak);first|refine t_v AS.v ?_|refine t_w (by exact ch (hP:=a1)) ?_)|((with_reducible refine au ?_);first|refine cF ?_|refine cj ?_|(refine aj (fun hc=>?_) (fun hc=>?_);all_goals(try(exfalso;simp[*] at hc;done))))|((with_reducible refine bo ?_);refine l_1 (k:=?_))|fail)
   exact⟨_,_,by rw[cY,yJ hw ha hb],rfl,aD rfl⟩
  |false=>
   have a1:=a1 w
   rw[hb] at a1
   have a1:MNL _ _ _ _ _ [(0,psO k c d)]:=a1
   repeat'(first|(with_reducible first|apply AW.seq|apply AW.block|apply AW.skip|apply AW.ret|apply ae|apply aq|apply aw|apply aG|apply y_e|refine ah ?_)|((with_reducible apply ak);first|refine t_v AS.v ?_|refine t_w (by exact ch (hP:=a1)) ?_)|((with_reducible refine au ?_);first|refine cF ?_|refine cj ?_|(refine aj (fun hc=>?_) (fun hc=>?_);all_goals(try(exfalso;simp[*] at hc;done))))|((with_reducible refine bo ?_);refine l_1 (k:=?_))|fail)
   exact⟨_,_,(show ws.length - (j+1)<ws.length - j by omega),wkA,j+1,rfl,hlt,rE hw ha hb,rfl⟩
 ·repeat'(first|(with_reducible first|apply AW.seq|apply AW.exit|apply ae|apply aJ|apply aE|apply aW|apply y_e|refine ah ?_)|((with_reducible apply ak);first|refine t_v AS.v ?_|refine t_v (by exact bn (hP:=cw)) ?_|refine t_q (hP:=eH _ _) (k:=fun σx=>?_))|((with_reducible refine au ?_);((refine aj (fun hc=>?_) (fun hc=>?_);all_goals(try(exfalso;simp[*] at hc;done)))))|((with_reducible refine bo ?_);(with_reducible refine aY ?_))|fail)
  rw[cY,yK (by omega) ha]
end
end Am
namespace Am
open Tk Go.RowKit
theorem aB {ε α β:Type} {x:Except ε α} {f:α→Except ε β} {b:β}:(x>>=f)= .ok b↔∃ a,x= .ok a∧f a= .ok b:=by
 cases x with
 |ok a=>exact⟨fun h=>⟨a,rfl,h⟩,fun⟨a',h1,h2⟩=>(by injection h1 with h1;rw[h1];exact h2)⟩
 |error e=>exact⟨fun h=>(by cases h),fun⟨a',h1,_⟩=>(by cases h1)⟩
section
variable {l:List Tok} {k k':Ix l}
theorem eU (hf:Fine l) {s:ByteArray} {x:Unit} (h:eD s k= .ok (x,k')):k'=nx k∧k'.1=k.1+1:=by
 unfold eD at h
 split at h
 ·rename_i hn
  injection h with h
  injection h with h1 h2
  subst h2
  exact⟨rfl,bH hf hn⟩
 ·cases h
theorem A6 (hf:Fine l) {s:ByteArray} {x:Unit} (h:eS s k= .ok (x,k')):k'=nx k∧k'.1=k.1+1:=by
 unfold eS at h
 split at h
 ·rename_i hn
  injection h with h
  injection h with h1 h2
  subst h2
  exact⟨rfl,iA hf hn⟩
 ·cases h
theorem j3 (hf:Fine l) {ws:List ByteArray} {n:Int} (h:cY ws k= .ok (n,k')):0≤n∧n<ws.length∧k'=nx k∧k'.1=k.1+1∧∃ j:Nat,n=j∧ws.findIdx? (fun s=>isW s k)=some j:=by
 unfold cY at h
 cases hj:ws.findIdx? (fun s=>isW s k) with
 |none=>rw[hj] at h;cases h
 |some j=>
  rw[hj] at h
  injection h with h
  injection h with h1 h2
  subst h1 h2
  obtain ⟨h3,h4,_⟩:=List.findIdx?_eq_some_iff_getElem.1 hj
  exact⟨by omega,by omega,rfl,iA hf h4,j,rfl,rfl⟩
theorem ud (hf:Fine l) {n:Nat}:∀ {acc x:List ByteArray} {k k':Ix l},cA n acc k= .ok (x,k')→k.1<k'.1∧acc.length≤x.length∧x.length+k.1≤acc.length+k'.1:=by
 induction n with
 |zero=>intro acc x k k' h;cases h
 |succ n ih=>
  intro acc x k k' h
  rw[cA] at h
  split at h
  ·rename_i hb
   injection h with h
   injection h with h1 h2
   subst h1 h2
   have:=bH hf hb
   exact⟨by omega,Nat.le_refl _,by omega⟩
  ·obtain ⟨⟨s,k1⟩,h1,h2⟩:=aB.1 h;(try dsimp only at h2)
   have:=(bS hf h1).2
   obtain ⟨i1,i2,i3⟩:=ih h2
   rw[List.length_append] at i2 i3
   simp only[List.length_cons,List.length_nil] at i2 i3
   exact⟨by omega,by omega,by omega⟩
theorem oR (hf:Fine l) {x:List ByteArray} (h:cH k= .ok (x,k')):k.1<k'.1∧x.length≤k'.1:=by
 unfold cH at h
 obtain ⟨⟨_,k1⟩,h1,h2⟩:=aB.1 h;(try dsimp only at h2)
 obtain ⟨⟨s,k2⟩,h3,h4⟩:=aB.1 h2;(try dsimp only at h4)
 have e1:=(eU hf h1).2
 have e2:=(bS hf h3).2
 obtain ⟨i1,i2,i3⟩:=ud hf h4
 simp only[List.length_cons,List.length_nil] at i2 i3
 exact⟨by omega,by omega⟩
theorem nE (hf:Fine l) {n:Nat}:∀ {acc x:List ByteArray} {k k':Ix l},br n acc k= .ok (x,k')→k.1≤k'.1∧acc.length≤x.length∧x.length+k.1≤acc.length+k'.1:=by
 induction n with
 |zero=>intro acc x k k' h;cases h
 |succ n ih=>
  intro acc x k k' h
  rw[br] at h
  split at h
  ·rename_i hb
   obtain ⟨⟨s,k1⟩,h1,h2⟩:=aB.1 h;(try dsimp only at h2)
   have e1:=bH hf hb
   have:=(bS hf h1).2
   obtain ⟨i1,i2,i3⟩:=ih h2
   rw[List.length_append] at i2 i3
   simp only[List.length_cons,List.length_nil] at i2 i3
   exact⟨by omega,by omega,by omega⟩
  ·injection h with h
   injection h with h1 h2
   subst h1 h2
   exact⟨Nat.le_refl _,Nat.le_refl _,by omega⟩
theorem xg (hf:Fine l) {x:List ByteArray} (h:dN k= .ok (x,k')):k.1<k'.1:=by
 unfold dN at h
 obtain ⟨⟨s,k2⟩,h3,h4⟩:=aB.1 h;(try dsimp only at h4)
 have e2:=(bS hf h3).2
 have:=(nE hf h4).1
 omega
theorem DG (hf:Fine l) {self:Bool} {n:Nat}:∀ {a x:NS} {k k':Ix l},ir self n a k= .ok (x,k')→k.1<k'.1:=by
 induction n with
 |zero=>intro acc x k k' h;cases h
 |succ n ih=>
  intro acc x k k' h
  rw[ir] at h
  split at h
  ·rename_i hb
   injection h with h
   injection h with h1 h2
   subst h1 h2
   have:=bH hf hb
   omega
  ·obtain ⟨⟨s,k1⟩,h1,h2⟩:=aB.1 h;(try dsimp only at h2)
   have:=(gY hf h1).1
   have:=ih h2
   omega
theorem H0 (hf:Fine l) {self:Bool} {x:NS} (h:ff self k= .ok (x,k')):k.1<k'.1:=by
 unfold ff at h
 split at h
 ·rename_i hb
  obtain ⟨⟨s,k1⟩,h1,h2⟩:=aB.1 h;(try dsimp only at h2)
  have e0:k.1≤(adv (isM ⟨#[126]⟩ k) k).1:=Bv
  have e1:=bH hf hb
  have e2:=(gY hf h1).1
  have e3:=DG hf h2
  omega
 ·split at h
  ·rename_i hb
   obtain ⟨⟨s,k1⟩,h1,h2⟩:=aB.1 h;(try dsimp only at h2)
   injection h2 with h2
   injection h2 with h2 h3
   subst h3
   have e1:=bH hf hb
   have:=(bS hf h1).2
   show k.1<k1.1
   omega
  ·exact(gY hf h).1
theorem xK (hf:Fine l) {x:Sp} (h:fu k= .ok (x,k')):k.1<k'.1:=by
 unfold fu at h
 obtain ⟨⟨s,k1⟩,h1,h2⟩:=aB.1 h;(try dsimp only at h2)
 have e1:=(bS hf h1).2
 split at h2
 ·rename_i hb
  obtain ⟨⟨t,k3⟩,h3,h4⟩:=aB.1 h2;(try dsimp only at h4)
  injection h4 with h4
  injection h4 with h4 h5
  subst h5
  have e2:=bH hf hb
  have e3:=(bS hf h3).2
  show k.1<k3.1
  omega
 ·injection h2 with h2
  injection h2 with h2 h3
  subst h3
  omega
theorem xe (hf:Fine l) {n:Nat}:∀ {a x:Lv} {k k':Ix l},cU n a k= .ok (x,k')→k.1<k'.1:=by
 induction n with
 |zero=>intro acc x k k' h;cases h
 |succ n ih=>
  intro acc x k k' h
  rw[cU] at h
  obtain ⟨⟨s,k1⟩,h1,h2⟩:=aB.1 h;(try dsimp only at h2)
  have e1:=xK hf h1
  split at h2
  ·rename_i hb
   have e2:=bH hf hb
   have:=ih h2
   omega
  ·injection h2 with h2
   injection h2 with h2 h3
   subst h3
   exact e1
theorem mU (hf:Fine l) {x:Lv} (h:eI k= .ok (x,k')):k.1<k'.1:=by
 unfold eI at h
 obtain ⟨⟨s,k1⟩,h1,h2⟩:=aB.1 h;(try dsimp only at h2)
 have e1:=(bS hf h1).2
 split at h2
 ·rename_i hb
  have e2:=bH hf hb
  have:=xe hf h2
  omega
 ·injection h2 with h2
  injection h2 with h2 h3
  subst h3
  omega
theorem rm (hf:Fine l) {x:Rg} (h:fr k= .ok (x,k')):k.1<k'.1:=by
 unfold fr at h
 obtain ⟨⟨s,k1⟩,h1,h2⟩:=aB.1 h;(try dsimp only at h2)
 have e1:=mU hf h1
 split at h2
 ·rename_i hb
  obtain ⟨⟨t,k3⟩,h3,h4⟩:=aB.1 h2;(try dsimp only at h4)
  injection h4 with h4
  injection h4 with h4 h5
  subst h5
  have e2:=bH hf hb
  have e3:=mU hf h3
  show k.1<k3.1
  omega
 ·injection h2 with h2
  injection h2 with h2 h3
  subst h3
  exact e1
theorem tV (hf:Fine l) {v:Bool} {x:Int} (h:gG v k= .ok (x,k')):k'.1=k.1+1:=by
 unfold gG at h
 split at h
 ·split at h
  ·rename_i hk
   injection h with h
   injection h with h2 h3
   subst h3
   exact hC hf (by rw[hk];decide)
  ·cases h
 ·cases h
theorem GL (hf:Fine l) {x:Int} (h:jO k= .ok (x,k')):k'.1=k.1+1:=by
 unfold jO at h
 split at h
 ·rename_i hb
  injection h with h
  injection h with h2 h3
  subst h3
  exact bH hf hb
 ·split at h
  ·rename_i hb
   injection h with h
   injection h with h2 h3
   subst h3
   exact bH hf hb
  ·obtain ⟨⟨t,k3⟩,h3,h4⟩:=aB.1 h;(try dsimp only at h4)
   injection h4 with h4
   injection h4 with h4 h5
   subst h5
   exact(j3 hf h3).2.2.2.1
theorem yw (hf:Fine l) {v:Bool} {x:Ex} (h:kL v k= .ok (x,k')):k.1<k'.1:=by
 unfold kL at h
 obtain ⟨⟨a,k1⟩,h1,h2⟩:=aB.1 h;(try dsimp only at h2)
 have e1:=tV hf h1
 split at h2
 ·rename_i hb
  have e2:=iA hf hb
  split at h2
  ·obtain ⟨⟨t,k3⟩,h3,h4⟩:=aB.1 h2;(try dsimp only at h4)
   injection h4 with h4
   injection h4 with h4 h5
   subst h5
   have:=(oR hf h3).1
   show k.1<k3.1
   omega
  ·obtain ⟨⟨t,k3⟩,h3,h4⟩:=aB.1 h2;(try dsimp only at h4)
   injection h4 with h4
   injection h4 with h4 h5
   subst h5
   have:=(bS hf h3).2
   show k.1<k3.1
   omega
 ·obtain ⟨⟨r,k2⟩,h3,h4⟩:=aB.1 h2;(try dsimp only at h4)
  obtain ⟨⟨b,k3⟩,h5,h6⟩:=aB.1 h4;(try dsimp only at h6)
  injection h6 with h6
  injection h6 with h6 h7
  subst h7
  have:=GL hf h3
  have:=tV hf h5
  show k.1<k3.1
  omega
theorem oV (hf:Fine l) (v:Bool):∀ n:Nat,(∀ {x:Ex} {k k':Ix l},dH v n k= .ok (x,k')→k.1<k'.1)∧(∀ {x:Ex} {k k':Ix l},fi v n k= .ok (x,k')→k.1<k'.1)∧(∀ {e x:Ex} {k k':Ix l},cL v n e k= .ok (x,k')→k.1≤k'.1)∧(∀ {x:Ex} {k k':Ix l},fj v n k= .ok (x,k')→k.1<k'.1)∧(∀ {e x:Ex} {k k':Ix l},cM v n e k= .ok (x,k')→k.1≤k'.1)
 |0=>⟨fun h=>(by cases h),fun h=>(by cases h),fun h=>(by cases h),fun h=>(by cases h),fun h=>(by cases h)⟩
 |n+1=>by
  obtain ⟨i1,i2,i3,i4,i5⟩:=oV hf v n
  refine⟨fun {x k k'} h=>?_,fun {x k k'} h=>?_,fun {e x k k'} h=>?_,fun {x k k'} h=>?_,fun {e x k k'} h=>?_⟩
  ·rw[dH] at h
   split at h
   ·rename_i hb
    have e1:=bH hf hb
    obtain ⟨⟨t,k3⟩,h3,h4⟩:=aB.1 h;(try dsimp only at h4)
    injection h4 with h4
    injection h4 with h4 h5
    subst h5
    have:=i1 h3
    show k.1<k3.1
    omega
   ·split at h
    ·rename_i hb
     have e1:=bH hf hb
     obtain ⟨⟨t,k3⟩,h3,h4⟩:=aB.1 h;(try dsimp only at h4)
     obtain ⟨⟨u,k4⟩,h6,h7⟩:=aB.1 h4;(try dsimp only at h7)
     injection h7 with h7
     injection h7 with h7 h5
     subst h5
     have:=i4 h3
     have:=(eU hf h6).2
     show k.1<k4.1
     omega
    ·exact yw hf h
  ·rw[fi] at h
   obtain ⟨⟨t,k3⟩,h3,h4⟩:=aB.1 h;(try dsimp only at h4)
   have:=i1 h3
   have:=i3 h4
   omega
  ·rw[cL] at h
   split at h
   ·rename_i hb
    have e1:=bH hf hb
    obtain ⟨⟨t,k3⟩,h3,h4⟩:=aB.1 h;(try dsimp only at h4)
    have:=i1 h3
    have:=i3 h4
    omega
   ·injection h with h
    injection h with h1 h2
    subst h2
    exact Nat.le_refl _
  ·rw[fj] at h
   obtain ⟨⟨t,k3⟩,h3,h4⟩:=aB.1 h;(try dsimp only at h4)
   have:=i2 h3
   have:=i5 h4
   omega
  ·rw[cM] at h
   split at h
   ·rename_i hb
    have e1:=bH hf hb
    obtain ⟨⟨t,k3⟩,h3,h4⟩:=aB.1 h;(try dsimp only at h4)
    have:=i2 h3
    have:=i5 h4
    omega
   ·injection h with h
    injection h with h1 h2
    subst h2
    exact Nat.le_refl _
end
end Am
end Go.Proofs.YtkpodagbefnebaaGreatDoor
