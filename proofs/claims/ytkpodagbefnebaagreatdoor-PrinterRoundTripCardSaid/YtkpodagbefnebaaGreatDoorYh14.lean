import Derived.Test.YtkpodagbefnebaaGreatDoorYh13
import Derived.Test.YtkpodagbefnebaaGreatDoorSi
set_option linter.unusedSimpArgs false
set_option linter.unusedVariables false
set_option linter.unusedSectionVars false
namespace Go.Proofs.YtkpodagbefnebaaGreatDoor
namespace Am
open Tk Go.RowKit
set_option maxRecDepth 100000
set_option maxHeartbeats 1000000
section
variable {l:List Tok} {k:Ix l} {c d:Int}
theorem xA (hf:Fine l):MX Tryz.prog 318 [(0,psO k c d)] [.c (.ptr 0 0)] (jO k) (fun n=>.c (sI n)) (fun k'=>[(0,psO k' c d)]) pvS:=by
 have hl:=hf.le
 have a1:=fun k=>(cd (k:=k) (c:=c) (d:=d) hf ⟨#[61,61]⟩).ok _ _ rfl
 have a2:=fun k=>(cd (k:=k) (c:=c) (d:=d) hf ⟨#[33,61]⟩).ok _ _ rfl
 refine MXA (fn:=Tryz.f318) Tryz.call318 Tryz.func318 rfl Tryz.ntmps318 Tryz.results318 rfl rfl ?_
 repeat'(first|(with_reducible first|apply AW.seq|apply AW.block|apply AW.skip|apply AW.ret|apply ae|apply aq|apply aE|apply aw|apply aG|apply y_e|refine ah ?_)|((with_reducible apply ak);first|refine t_v AS.v ?_|refine t_w (by first|exact ch (hP:=a1 _)|exact ch (hP:=a2 _)) ?_|refine bG (hP:=oT hf _ (by decide)) (k1:=fun x k h=>?_) (k2:=fun e h σx=>?_))|((with_reducible refine au ?_);((refine aj (fun hc=>?_) (fun hc=>?_))))|((with_reducible refine bo ?_);first|(with_reducible refine aY ?_)|refine l_1 (k:=?_))|fail)
 ·(first|(refine⟨_,_,?_,(by rfl),(by exact aD rfl)⟩;simp_all[jO,aa,ar,adv,Lv.zero,Sp.zero,Rg.zero,Ct.zero];done)|(simp_all[jO,aa,ar,adv,Lv.zero,Sp.zero,Rg.zero,Ct.zero];done)|fail "end")
 ·(first|(refine⟨_,_,?_,(by rfl),(by exact aD rfl)⟩;simp_all[jO,aa,ar,adv,Lv.zero,Sp.zero,Rg.zero,Ct.zero];done)|(simp_all[jO,aa,ar,adv,Lv.zero,Sp.zero,Rg.zero,Ct.zero];done)|fail "end")
 ·have hb:=j3 hf h
  have hn:x<3:=hb.2.1
  rw[wrap64 (by omega) (by omega)]
  have hb':=hb.1
  clear hb
  (first|(refine⟨_,_,?_,(by rfl),(by exact aD rfl)⟩;simp_all[jO,aa,ar,adv,Lv.zero,Sp.zero,Rg.zero,Ct.zero];done)|fail "end")
 ·(first|(refine⟨_,_,?_,(by rfl),(by exact aD rfl)⟩;simp_all[jO,aa,ar,adv,Lv.zero,Sp.zero,Rg.zero,Ct.zero];done)|(simp_all[jO,aa,ar,adv,Lv.zero,Sp.zero,Rg.zero,Ct.zero];done)|fail "end")
theorem pe (s:ByteArray) (c:UInt8):Pure Tryz.prog 283 [.c (sS s),.c (.sc (.int .u8 c.toNat))] (.c (sI (Lib.indexByte s.data.toList c))):=by
 have:=Pure.of_calls (P:=Tryz.prog) (f:=283) (vs:=[.string s,.int .u8 c.toNat]) (r:=.c (sI (Lib.indexByte s.data.toList c))) Tryz.call283 (.sc rfl) fun hs w=>(Tryz.strings_IndexByte s c.toNat w).mono fun e w' h=>⟨by have h1:=h.1;simpa using h1,h.2.symm⟩
 exact this
theorem zW (l:List UInt8) (c:UInt8):Lib.indexByte l c=match inB l c with|some i=>(i:Int)|none=>-1:=by
 unfold inB
 induction l with
 |nil=>rfl
 |cons b l ih=>
  rw[Lib.indexByte,ih,List.findIdx?_cons]
  cases hb:(b == c) with
  |true=>simp
  |false=>
   simp only[Bool.false_eq_true,if_false]
   cases l.findIdx? (fun d=>d == c) with
   |none=>rfl
   |some i=>
    simp only[Option.map_some]
    have:¬ ((i:Int) == -1)=true:=by simp
    rw[if_neg this]
    simp
theorem tW (hf:Fine l) (v:Bool):MX Tryz.prog 317 [(0,psO k c d)] [.c (.ptr 0 0),.c (sB v)] (gG v k) (fun n=>.c (sI n)) (fun k'=>[(0,psO k' c d)]) pvS:=by
 have hl:=hf.le
 have hk:=k.2
 by_cases h2:(tk k).kind=1∧(tk k).text.size=2
 ·obtain ⟨h1,h2⟩:=h2
  obtain ⟨a,b,hab⟩:∃ a b,(tk k).text.data.toList=[a,b]:=by
   rw[bZ] at h2
   match (tk k).text.data.toList,h2 with
   |[a,b],_=>exact⟨a,b,rfl⟩
  have g0:(tk k).text.data.toList[0]? =some a:=by rw[hab];rfl
  have g1:(tk k).text.data.toList[1]? =some b:=by rw[hab];rfl
  have i1:=pe ⟨#[117,114,116,108,104]⟩ a
  have i2:=pe (if v then⟨#[49,50,51]⟩ else⟨#[49,50]⟩) b
  rw[zW] at i1 i2
  have ea:nr v (tk k).text=qJ (inB [117,114,116,108,104] a) (inB (if v then[49,50,51] else[49,50]) b):=by unfold nr;rw[hab]
  have eb:(if v then(⟨#[49,50,51]⟩:ByteArray) else⟨#[49,50]⟩).data.toList=if v then[49,50,51] else[49,50]:=by cases v <;> rfl
  rw[eb] at i2
  have l1:∀ i,inB [117,114,116,108,104] a=some i→i<5:=fun i h=>(List.findIdx?_eq_some_iff_getElem.1 h).1
  have l2:∀ i,inB (if v then[49,50,51] else[49,50]) b=some i→i<3:=fun i h=>by
   have:=(List.findIdx?_eq_some_iff_getElem.1 h).1
   cases v
   ·have:i<2:=this;omega
   ·exact this
  have i1:Pure Tryz.prog 283 [.c (sS ⟨#[117,114,116,108,104]⟩),.c (.sc (.int .u8 a.toNat))] (.c (sI (match inB [117,114,116,108,104] a with|some i=>(i:Int)|none=>-1))):=i1
  clear eb hab
  generalize inB [117,114,116,108,104] a=oa at *
  generalize inB (if v then[49,50,51] else[49,50]) b=ob at *
  have e:gG v k=match qJ oa ob with|some n=>.ok (n,nx k)|none=>.error (flt 9 (tk k)):=by
   unfold gG
   rw[ea]
   cases qJ oa ob <;> simp[h1]
  rw[e]
  clear e ea
  cases oa with
  |none=>
   cases ob <;> cases v
   all_goals
    refine MXA (fn:=Tryz.f317) Tryz.call317 Tryz.func317 rfl Tryz.ntmps317 Tryz.results317 rfl rfl ?_
    repeat'(first|(with_reducible first|apply AW.seq|apply AW.skip|apply AW.ret|apply ae|apply aq|apply aE|apply y_e|refine ah ?_|refine bb ?_)|((with_reducible apply ak);first|refine t_v AS.v ?_|refine t_v (by first|exact ag (hP:=i1)|exact ag (hP:=i2)|exact bn (hP:=cw)) ?_|refine t_w AS.w ?_|refine t_q (hP:=eH _ _) (k:=fun σx=>?_))|((with_reducible apply bc);first|refine t_f ?_|refine t_m (hs:=fun hg=>AS.v) (k:=?_))|((with_reducible apply aV);refine t_s AS.s ?_)|((with_reducible refine au ?_);first|refine cF ?_|refine cj ?_|(refine aj (fun hc=>?_) (fun hc=>?_);all_goals(try(exfalso;simp[*] at hc;done))))|((with_reducible refine bo ?_);first|(with_reducible refine aY ?_)|refine l_1 (k:=?_))|(refine⟨by decide +kernel,?_⟩)|fail)
    all_goals(first|(simp_all[qJ,aa,ar,adv,Lv.zero,Sp.zero,Rg.zero,Ct.zero];done)|fail "end")
  |some i=>
   have l1:=l1 i rfl
   cases ob with
   |none=>
    cases v
    all_goals
     refine MXA (fn:=Tryz.f317) Tryz.call317 Tryz.func317 rfl Tryz.ntmps317 Tryz.results317 rfl rfl ?_
     repeat'(first|(with_reducible first|apply AW.seq|apply AW.skip|apply AW.ret|apply ae|apply aq|apply aE|apply y_e|refine ah ?_|refine bb ?_)|((with_reducible apply ak);first|refine t_v AS.v ?_|refine t_v (by first|exact ag (hP:=i1)|exact ag (hP:=i2)|exact bn (hP:=cw)) ?_|refine t_w AS.w ?_|refine t_q (hP:=eH _ _) (k:=fun σx=>?_))|((with_reducible apply bc);first|refine t_f ?_|refine t_m (hs:=fun hg=>AS.v) (k:=?_))|((with_reducible apply aV);refine t_s AS.s ?_)|((with_reducible refine au ?_);first|refine cF ?_|refine cj ?_|(refine aj (fun hc=>?_) (fun hc=>?_);all_goals(try(exfalso;simp[*] at hc;done))))|((with_reducible refine bo ?_);first|(with_reducible refine aY ?_)|refine l_1 (k:=?_))|(refine⟨by decide +kernel,?_⟩)|fail)
     all_goals(first|(simp_all[qJ,aa,ar,adv,Lv.zero,Sp.zero,Rg.zero,Ct.zero];done)|fail "end")
   |some j=>
    have l2:=l2 j rfl
    dsimp only at i1 i2
    have le:=cV (c:=c) (d:=d) hf (k:=k) (by rw[h1];decide)
    cases v
    all_goals
     refine MXA (fn:=Tryz.f317) Tryz.call317 Tryz.func317 rfl Tryz.ntmps317 Tryz.results317 rfl rfl ?_
     repeat'(first|(with_reducible first|apply AW.seq|apply AW.skip|apply AW.ret|apply ae|apply aq|apply aE|apply y_e|refine ah ?_|refine bb ?_)|((with_reducible apply ak);first|refine t_v AS.v ?_|refine t_v (by first|exact ag (hP:=i1)|exact ag (hP:=i2)|exact bn (hP:=cw)) ?_|refine t_w AS.w ?_|refine t_q (hP:=eH _ _) (k:=fun σx=>?_))|((with_reducible apply bc);first|refine t_f ?_|refine t_m (hs:=fun hg=>AS.v) (k:=?_))|((with_reducible apply aV);refine t_s AS.s ?_)|((with_reducible refine au ?_);first|refine cF ?_|refine cj ?_|(refine aj (fun hc=>?_) (fun hc=>?_);all_goals(try(exfalso;simp[*] at hc;done))))|((with_reducible refine bo ?_);first|(with_reducible refine aY ?_)|refine l_1 (k:=?_))|(refine⟨by decide +kernel,?_⟩)|fail)
     refine⟨_,_,rfl,?_,le⟩
     rw[wrap64 (n:=(j:Int)*5) (by omega) (by omega),wrap64 (n:=(j:Int)*5+i) (by omega) (by omega)]
     show V.c (sI _)=V.c (sI _)
     congr 3
     all_goals omega
 ·have e:gG v k= .error (flt 9 (tk k)):=by
   unfold gG nr
   split
   ·rename_i n hn
    split at hn
    ·rename_i a b hab
     rw[if_neg fun h1=>h2 ⟨h1,by rw[bZ,hab];rfl⟩]
    ·cases hn
   ·rfl
  refine MXA (fn:=Tryz.f317) Tryz.call317 Tryz.func317 rfl Tryz.ntmps317 Tryz.results317 rfl rfl ?_
  repeat'(first|(with_reducible first|apply AW.seq|apply AW.skip|apply ae|apply aE|apply y_e|refine ah ?_)|((with_reducible apply ak);first|refine t_v AS.v ?_|refine t_v (by exact bn (hP:=cw)) ?_|refine t_w AS.w ?_|refine t_q (hP:=eH _ _) (k:=fun σx=>?_))|((with_reducible apply bc);refine t_m (hs:=fun hg=>AS.v) (k:=?_))|((with_reducible apply aV);refine t_s AS.s ?_)|((with_reducible refine au ?_);((refine aj (fun hc=>?_) (fun hc=>?_);all_goals(try(exfalso;revert hc;simp;omega)))))|((with_reducible refine bo ?_);(with_reducible refine aY ?_))|fail)
  all_goals exact e
theorem IU (hf:Fine l) (v:Bool) (n:Nat):(∀ (k:Ix l) (c d:Int),4*(l.length - k.1)+1≤n→MX Tryz.prog 264 [(0,psO k c d)] [.c (.ptr 0 0),.c (sB v)] (dH v n k) (fun e=>.agg (exC e)) (fun k'=>[(0,psO k' c d)]) pvS)∧
 (∀ (k:Ix l) (c d:Int),4*(l.length - k.1)+2≤n→MX Tryz.prog 191 [(0,psO k c d)] [.c (.ptr 0 0),.c (sB v)] (fi v n k) (fun e=>.agg (exC e)) (fun k'=>[(0,psO k' c d)]) pvS)∧
 (∀ (k:Ix l) (c d:Int),4*(l.length - k.1)+3≤n→MX Tryz.prog 132 [(0,psO k c d)] [.c (.ptr 0 0),.c (sB v)] (fj v n k) (fun e=>.agg (exC e)) (fun k'=>[(0,psO k' c d)]) pvS):=by
 induction n using Nat.strongRecOn with
 |ind n ih=>
  cases n with
  |zero=>exact⟨fun k c d h=>(by omega),fun k c d h=>(by omega),fun k c d h=>(by omega)⟩
  |succ n=>
  have hl:=hf.le
  obtain ⟨ih1,ih2,ih3⟩:=ih n (Nat.lt_succ_self n)
  have ad:=oV hf v
  refine⟨fun k c d hn=>?_,fun k c d hn=>?_,fun k c d hn=>?_⟩
  ·have hk:=k.2
   have a1:=(cd (k:=k) (c:=c) (d:=d) hf ⟨#[33]⟩).ok _ _ rfl
   have a2:=(cd (k:=k) (c:=c) (d:=d) hf ⟨#[40]⟩).ok _ _ rfl
   have a3:=fun k=>(du (k:=k) (c:=c) (d:=d) hf ⟨#[105,110]⟩).ok _ _ rfl
   cases hb1:isM ⟨#[33]⟩ k with
   |true=>
    rw[hb1] at a1
    have a1:MNL _ _ _ _ _ [(0,psO (nx k) c d)]:=a1
    have e1:=bH hf hb1
    have i1:=ih1 (nx k) c d (by omega)
    clear ih ih1 ih2 ih3 ad
    refine MXA (fn:=Tryz.f264) Tryz.call264 Tryz.func264 rfl Tryz.ntmps264 Tryz.results264 rfl rfl ?_
    repeat'(first|(with_reducible first|apply AW.seq|apply AW.block|apply AW.skip|apply AW.ret|apply ae|apply aq|apply aE|apply aw|apply aG|apply cf|apply y_e|refine ah ?_|refine bb ?_)|((with_reducible apply ak);first|refine t_v AS.v ?_|refine t_w AS.w ?_|refine t_w (by exact ch (hP:=a1)) ?_|refine bG (hP:=i1) (k1:=fun x k h=>?_) (k2:=fun e h σx=>?_))|((with_reducible apply aV);refine t_s AS.s ?_)|((with_reducible refine au ?_);refine cF ?_)|((with_reducible refine bo ?_);first|(with_reducible refine aY ?_)|refine fN (k:=?_))|(refine⟨by decide +kernel,fun(σx:St)=>?_⟩)|(refine⟨by decide +kernel,?_⟩)|fail)
    all_goals(first|(refine⟨_,_,?_,(by exact cg _),(by exact aD rfl)⟩;simp_all[dH,aa,ar,adv,Lv.zero,Sp.zero,Rg.zero,Ct.zero];done)|(simp_all[dH,aa,ar,adv,Lv.zero,Sp.zero,Rg.zero,Ct.zero];done)|fail "end")
   |false=>
    rw[hb1] at a1
    have a1:MNL _ _ _ _ _ [(0,psO k c d)]:=a1
    cases hb2:isM ⟨#[40]⟩ k with
    |true=>
     rw[hb2] at a2
     have a2:MNL _ _ _ _ _ [(0,psO (nx k) c d)]:=a2
     have e1:=bH hf hb2
     have i3:=ih3 (nx k) c d (by omega)
     clear ih ih1 ih2 ih3 ad
     refine MXA (fn:=Tryz.f264) Tryz.call264 Tryz.func264 rfl Tryz.ntmps264 Tryz.results264 rfl rfl ?_
     repeat'(first|(with_reducible first|apply AW.seq|apply AW.block|apply AW.ret|apply ae|apply aq|apply aE|apply aG|apply cf|apply y_e|refine ah ?_)|((with_reducible apply ak);first|refine t_v AS.v ?_|refine t_w AS.w ?_|refine t_w (by first|exact ch (hP:=a1)|exact ch (hP:=a2)) ?_|refine bG (hP:=i3) (k1:=fun x k h=>?_) (k2:=fun e h σx=>?_)|refine bG (hP:=jA hf _) (k1:=fun x k h=>?_) (k2:=fun e h σx=>?_))|((with_reducible apply aV);refine t_s AS.s ?_)|((with_reducible refine au ?_);first|refine cF ?_|refine cj ?_)|((with_reducible refine bo ?_);first|(with_reducible refine aY ?_)|refine fN (k:=?_))|fail)
     all_goals(first|(refine⟨_,_,?_,(by exact cg _),(by exact aD rfl)⟩;simp_all[dH,aa,ar,adv,Lv.zero,Sp.zero,Rg.zero,Ct.zero];done)|(simp_all[dH,aa,ar,adv,Lv.zero,Sp.zero,Rg.zero,Ct.zero];done)|fail "end")
    |false=>
     rw[hb2] at a2
     have a2:MNL _ _ _ _ _ [(0,psO k c d)]:=a2
     clear ih ih1 ih2 ih3 ad
     refine MXA (fn:=Tryz.f264) Tryz.call264 Tryz.func264 rfl Tryz.ntmps264 Tryz.results264 rfl rfl ?_
     repeat'(first|(with_reducible first|apply AW.seq|apply AW.block|apply AW.skip|apply AW.ret|apply ae|apply aq|apply aE|apply aw|apply y_e|refine ah ?_)|((with_reducible apply ak);first|refine t_v AS.v ?_|refine t_v (by exact bn (hP:=sJ _)) ?_|refine t_w AS.w ?_|refine t_w (by first|exact ch (hP:=a1)|exact ch (hP:=a2)|exact ch (hP:=a3 _)) ?_|refine bG (hP:=tW hf _) (k1:=fun x k h=>?_) (k2:=fun e h σx=>?_)|refine bG (hP:=lS hf) (k1:=fun x k h=>?_) (k2:=fun e h σx=>?_)|refine bG (hP:=eu hf) (k1:=fun x k h=>?_) (k2:=fun e h σx=>?_)|refine bG (hP:=xA hf) (k1:=fun x k h=>?_) (k2:=fun e h σx=>?_))|((with_reducible apply aV);refine t_s AS.s ?_)|((with_reducible refine au ?_);first|refine cj ?_|(refine aj (fun hc=>?_) (fun hc=>?_)))|((with_reducible refine bo ?_);first|(with_reducible refine aY ?_)|refine fN (k:=?_))|fail)
     all_goals(first|(refine⟨_,_,?_,(by first|rfl|exact cg _),(by exact aD rfl)⟩;simp_all[dH,kL,aa,ar,adv,Lv.zero,Sp.zero,Rg.zero,Ct.zero];done)|(simp_all[dH,kL,aa,ar,adv,Lv.zero,Sp.zero,Rg.zero,Ct.zero];done)|fail "end")
  ·have hk:=k.2
   have i1:=ih1 k c d (by omega)
   refine MXA (fn:=Tryz.f191) Tryz.call191 Tryz.func191 rfl Tryz.ntmps191 Tryz.results191 rfl rfl ?_
   repeat'(first|(with_reducible first|apply AW.seq|apply AW.block|apply ae|apply aE|apply y_e|refine ah ?_)|((with_reducible apply ak);first|refine t_v AS.v ?_|refine t_w AS.w ?_|refine bG (hP:=i1) (k1:=fun x k h=>?_) (k2:=fun e h σx=>?_))|((with_reducible apply aV);refine t_s AS.s ?_)|((with_reducible refine bo ?_);(with_reducible refine aY ?_))|fail)
   ·rename_i k0
    have e:fi v (n+1) k0=cL v n x k:=by rw[fi,h];rfl
    rw[e]
    have hlt:=(ad n).1 h
    generalize hsp:cL v n x k=sp
    refine AW.loop (fun m σ=>∃ e k',cL v m e k'=sp∧m≤n∧4*(l.length - k'.1)+1≤m∧σ=mk [(0,.c (.ptr 0 0)),(1,.c (sB v)),(4,.c (.ptr 4 0)),(5,.c (.ptr 5 0))] [(5,.obj 49 (exC e)),(0,psO k' c d),(4,.obj 49 (exC Ex.zero))]) n ?_ ?_
    ·exact⟨_,wkA,x,k,hsp,Nat.le_refl _,by omega,rfl⟩
    clear hlt hsp h e i1
    rintro m σ ⟨e,k',hm,hm1,hm2,rfl⟩
    subst hm
    have hk':=k'.2
    obtain ⟨m,rfl⟩:∃ n,m=n+1:=⟨m - 1,by omega⟩
    have a1:=(cd (k:=k') (c:=c) (d:=d) hf ⟨#[38,38]⟩).ok _ _ rfl
    cases hb:isM ⟨#[38,38]⟩ k' with
    |true=>
     rw[hb] at a1
     have a1:MNL _ _ _ _ _ [(0,psO (nx k') c d)]:=a1
     have e1:=bH hf hb
     have i1:=(ih m (by omega)).1 (nx k') c d (by omega)
     repeat'(first|(with_reducible first|apply AW.seq|apply AW.block|apply AW.skip|apply AW.ret|apply ae|apply aq|apply aE|apply aw|apply aG|apply cf|apply y_e|refine ah ?_|refine bb ?_)|((with_reducible apply ak);first|refine t_v AS.v ?_|refine t_w AS.w ?_|refine t_w (by exact ch (hP:=a1)) ?_|refine bG (hP:=i1) (k1:=fun x k h=>?_) (k2:=fun e h σx=>?_))|((with_reducible apply aV);refine t_s AS.s ?_)|((with_reducible refine au ?_);refine cF ?_)|((with_reducible refine bo ?_);first|(with_reducible refine aY ?_)|refine fN (k:=?_))|(refine⟨by decide +kernel,fun(σx:St)=>?_⟩)|(refine⟨by decide +kernel,?_⟩)|fail)
     ·have hlt:=(ad m).1 h
      exact⟨m,_,Nat.lt_succ_self m,wkA,_,k,by rw[cL,hb,if_pos rfl,h];rfl,by omega,by omega,rfl⟩
     ·(first|(refine⟨_,_,?_,(by first|rfl|exact dr _ _|exact dt _ _|exact ee _|exact dZ _|exact dX _|exact dG _|exact dF _|exact cg _|exact dp _|exact dY _|exact ef _|exact dW _|exact cS _ _|exact cQ _ _|exact cT _ _|exact cR _ _),(by first|exact aD rfl|exact cV (by assumption) (by simp_all[isM,isW,eg]))⟩;simp_all[cL,aa,ar,adv,Lv.zero,Sp.zero,Rg.zero,Ct.zero];done)|(refine⟨_,(_,_),?_,(by first|rfl|exact dr _ _|exact dt _ _|exact ee _|exact dZ _|exact dX _|exact dG _|exact dF _|exact cg _|exact dp _|exact dY _|exact ef _|exact dW _|exact cS _ _|exact cQ _ _|exact cT _ _|exact cR _ _),(by first|exact aD rfl|exact cV (by assumption) (by simp_all[isM,isW,eg]))⟩;simp_all[cL,aa,ar,adv,Lv.zero,Sp.zero,Rg.zero,Ct.zero];done)|(refine⟨_,(_,_),?_,(by first|rfl|exact dr _ _|exact dt _ _|exact ee _|exact dZ _|exact dX _|exact dG _|exact dF _|exact cg _|exact dp _|exact dY _|exact ef _|exact dW _|exact cS _ _|exact cQ _ _|exact cT _ _|exact cR _ _),(by first|exact aD rfl|exact cV (by assumption) (by simp_all[isM,isW,eg])),(by first|exact aD rfl|exact cV (by assumption) (by simp_all[isM,isW,eg]))⟩;simp_all[cL,aa,ar,adv,Lv.zero,Sp.zero,Rg.zero,Ct.zero];done)|(refine⟨_,(_,(_,_)),?_,(by first|rfl|exact dr _ _|exact dt _ _|exact ee _|exact dZ _|exact dX _|exact dG _|exact dF _|exact cg _|exact dp _|exact dY _|exact ef _|exact dW _|exact cS _ _|exact cQ _ _|exact cT _ _|exact cR _ _),(by first|exact aD rfl|exact cV (by assumption) (by simp_all[isM,isW,eg])),(by first|exact aD rfl|exact cV (by assumption) (by simp_all[isM,isW,eg]))⟩;simp_all[cL,aa,ar,adv,Lv.zero,Sp.zero,Rg.zero,Ct.zero];done)|(refine⟨_,(_,(_,_)),?_,(by first|rfl|exact dr _ _|exact dt _ _|exact ee _|exact dZ _|exact dX _|exact dG _|exact dF _|exact cg _|exact dp _|exact dY _|exact ef _|exact dW _|exact cS _ _|exact cQ _ _|exact cT _ _|exact cR _ _),(by first|exact aD rfl|exact cV (by assumption) (by simp_all[isM,isW,eg]))⟩;simp_all[cL,aa,ar,adv,Lv.zero,Sp.zero,Rg.zero,Ct.zero];done)|(refine⟨(),_,?_,(by first|rfl|exact dr _ _|exact dt _ _|exact ee _|exact dZ _|exact dX _|exact dG _|exact dF _|exact cg _|exact dp _|exact dY _|exact ef _|exact dW _|exact cS _ _|exact cQ _ _|exact cT _ _|exact cR _ _),(by first|exact aD rfl|exact cV (by assumption) (by simp_all[isM,isW,eg]))⟩;simp_all[cL,aa,ar,adv,Lv.zero,Sp.zero,Rg.zero,Ct.zero];done)|(refine⟨(),(_,_),?_,(by first|rfl|exact dr _ _|exact dt _ _|exact ee _|exact dZ _|exact dX _|exact dG _|exact dF _|exact cg _|exact dp _|exact dY _|exact ef _|exact dW _|exact cS _ _|exact cQ _ _|exact cT _ _|exact cR _ _),(by first|exact aD rfl|exact cV (by assumption) (by simp_all[isM,isW,eg]))⟩;simp_all[cL,aa,ar,adv,Lv.zero,Sp.zero,Rg.zero,Ct.zero];done)|(refine⟨(),(_,_),?_,(by first|rfl|exact dr _ _|exact dt _ _|exact ee _|exact dZ _|exact dX _|exact dG _|exact dF _|exact cg _|exact dp _|exact dY _|exact ef _|exact dW _|exact cS _ _|exact cQ _ _|exact cT _ _|exact cR _ _),(by first|exact aD rfl|exact cV (by assumption) (by simp_all[isM,isW,eg])),(by first|exact aD rfl|exact cV (by assumption) (by simp_all[isM,isW,eg]))⟩;simp_all[cL,aa,ar,adv,Lv.zero,Sp.zero,Rg.zero,Ct.zero];done)|(refine⟨(),(_,(_,_)),?_,(by first|rfl|exact dr _ _|exact dt _ _|exact ee _|exact dZ _|exact dX _|exact dG _|exact dF _|exact cg _|exact dp _|exact dY _|exact ef _|exact dW _|exact cS _ _|exact cQ _ _|exact cT _ _|exact cR _ _),(by first|exact aD rfl|exact cV (by assumption) (by simp_all[isM,isW,eg])),(by first|exact aD rfl|exact cV (by assumption) (by simp_all[isM,isW,eg]))⟩;simp_all[cL,aa,ar,adv,Lv.zero,Sp.zero,Rg.zero,Ct.zero];done)|(refine⟨(),(_,(_,_)),?_,(by first|rfl|exact dr _ _|exact dt _ _|exact ee _|exact dZ _|exact dX _|exact dG _|exact dF _|exact cg _|exact dp _|exact dY _|exact ef _|exact dW _|exact cS _ _|exact cQ _ _|exact cT _ _|exact cR _ _),(by first|exact aD rfl|exact cV (by assumption) (by simp_all[isM,isW,eg]))⟩;simp_all[cL,aa,ar,adv,Lv.zero,Sp.zero,Rg.zero,Ct.zero];done)|(simp_all[cL,aa,ar,adv,Lv.zero,Sp.zero,Rg.zero,Ct.zero];done)|fail "end")
    |false=>
     rw[hb] at a1
     have a1:MNL _ _ _ _ _ [(0,psO k' c d)]:=a1
     repeat'(first|(with_reducible first|apply AW.seq|apply AW.ret|apply AW.exit|apply ae|apply aJ|apply aW|apply y_e|refine ah ?_)|((with_reducible apply ak);first|refine t_v AS.v ?_|refine t_w (by exact ch (hP:=a1)) ?_)|((with_reducible apply aV);refine t_s AS.s ?_)|((with_reducible refine au ?_);refine cj ?_)|((with_reducible refine bo ?_);refine fN (k:=?_))|fail)
     (first|(refine⟨_,_,?_,(by exact cg _),(by exact aD rfl)⟩;simp_all[cL,aa,ar,adv,Lv.zero,Sp.zero,Rg.zero,Ct.zero];done)|fail "end")
   ·(first|(simp_all[fi,aa,ar,adv,Lv.zero,Sp.zero,Rg.zero,Ct.zero];done)|fail "end")
  ·have hk:=k.2
   have i1:=ih2 k c d (by omega)
   refine MXA (fn:=Tryz.f132) Tryz.call132 Tryz.func132 rfl Tryz.ntmps132 Tryz.results132 rfl rfl ?_
   repeat'(first|(with_reducible first|apply AW.seq|apply AW.block|apply ae|apply aE|apply y_e|refine ah ?_)|((with_reducible apply ak);first|refine t_v AS.v ?_|refine t_w AS.w ?_|refine bG (hP:=i1) (k1:=fun x k h=>?_) (k2:=fun e h σx=>?_))|((with_reducible apply aV);refine t_s AS.s ?_)|((with_reducible refine bo ?_);(with_reducible refine aY ?_))|fail)
   ·rename_i k0
    have e:fj v (n+1) k0=cM v n x k:=by rw[fj,h];rfl
    rw[e]
    have hlt:=(ad n).2.1 h
    generalize hsp:cM v n x k=sp
    refine AW.loop (fun m σ=>∃ e k',cM v m e k'=sp∧m≤n∧4*(l.length - k'.1)+1≤m∧σ=mk [(0,.c (.ptr 0 0)),(1,.c (sB v)),(4,.c (.ptr 4 0)),(5,.c (.ptr 5 0))] [(5,.obj 49 (exC e)),(0,psO k' c d),(4,.obj 49 (exC Ex.zero))]) n ?_ ?_
    ·exact⟨_,wkA,x,k,hsp,Nat.le_refl _,by omega,rfl⟩
    clear hlt hsp h e i1
    rintro m σ ⟨e,k',hm,hm1,hm2,rfl⟩
    subst hm
    have hk':=k'.2
    obtain ⟨m,rfl⟩:∃ n,m=n+1:=⟨m - 1,by omega⟩
    have a1:=(cd (k:=k') (c:=c) (d:=d) hf ⟨#[124,124]⟩).ok _ _ rfl
    cases hb:isM ⟨#[124,124]⟩ k' with
    |true=>
     rw[hb] at a1
     have a1:MNL _ _ _ _ _ [(0,psO (nx k') c d)]:=a1
     have e1:=bH hf hb
     have i1:=(ih m (by omega)).2.1 (nx k') c d (by omega)
     repeat'(first|(with_reducible first|apply AW.seq|apply AW.block|apply AW.skip|apply AW.ret|apply ae|apply aq|apply aE|apply aw|apply aG|apply cf|apply y_e|refine ah ?_|refine bb ?_)|((with_reducible apply ak);first|refine t_v AS.v ?_|refine t_w AS.w ?_|refine t_w (by exact ch (hP:=a1)) ?_|refine bG (hP:=i1) (k1:=fun x k h=>?_) (k2:=fun e h σx=>?_))|((with_reducible apply aV);refine t_s AS.s ?_)|((with_reducible refine au ?_);refine cF ?_)|((with_reducible refine bo ?_);first|(with_reducible refine aY ?_)|refine fN (k:=?_))|(refine⟨by decide +kernel,fun(σx:St)=>?_⟩)|(refine⟨by decide +kernel,?_⟩)|fail)
     ·have hlt:=(ad m).2.1 h
      exact⟨m,_,Nat.lt_succ_self m,wkA,_,k,by rw[cM,hb,if_pos rfl,h];rfl,by omega,by omega,rfl⟩
     ·(first|(refine⟨_,_,?_,(by first|rfl|exact dr _ _|exact dt _ _|exact ee _|exact dZ _|exact dX _|exact dG _|exact dF _|exact cg _|exact dp _|exact dY _|exact ef _|exact dW _|exact cS _ _|exact cQ _ _|exact cT _ _|exact cR _ _),(by first|exact aD rfl|exact cV (by assumption) (by simp_all[isM,isW,eg]))⟩;simp_all[cM,aa,ar,adv,Lv.zero,Sp.zero,Rg.zero,Ct.zero];done)|(refine⟨_,(_,_),?_,(by first|rfl|exact dr _ _|exact dt _ _|exact ee _|exact dZ _|exact dX _|exact dG _|exact dF _|exact cg _|exact dp _|exact dY _|exact ef _|exact dW _|exact cS _ _|exact cQ _ _|exact cT _ _|exact cR _ _),(by first|exact aD rfl|exact cV (by assumption) (by simp_all[isM,isW,eg]))⟩;simp_all[cM,aa,ar,adv,Lv.zero,Sp.zero,Rg.zero,Ct.zero];done)|(refine⟨_,(_,_),?_,(by first|rfl|exact dr _ _|exact dt _ _|exact ee _|exact dZ _|exact dX _|exact dG _|exact dF _|exact cg _|exact dp _|exact dY _|exact ef _|exact dW _|exact cS _ _|exact cQ _ _|exact cT _ _|exact cR _ _),(by first|exact aD rfl|exact cV (by assumption) (by simp_all[isM,isW,eg])),(by first|exact aD rfl|exact cV (by assumption) (by simp_all[isM,isW,eg]))⟩;simp_all[cM,aa,ar,adv,Lv.zero,Sp.zero,Rg.zero,Ct.zero];done)|(refine⟨_,(_,(_,_)),?_,(by first|rfl|exact dr _ _|exact dt _ _|exact ee _|exact dZ _|exact dX _|exact dG _|exact dF _|exact cg _|exact dp _|exact dY _|exact ef _|exact dW _|exact cS _ _|exact cQ _ _|exact cT _ _|exact cR _ _),(by first|exact aD rfl|exact cV (by assumption) (by simp_all[isM,isW,eg])),(by first|exact aD rfl|exact cV (by assumption) (by simp_all[isM,isW,eg]))⟩;simp_all[cM,aa,ar,adv,Lv.zero,Sp.zero,Rg.zero,Ct.zero];done)|(refine⟨_,(_,(_,_)),?_,(by first|rfl|exact dr _ _|exact dt _ _|exact ee _|exact dZ _|exact dX _|exact dG _|exact dF _|exact cg _|exact dp _|exact dY _|exact ef _|exact dW _|exact cS _ _|exact cQ _ _|exact cT _ _|exact cR _ _),(by first|exact aD rfl|exact cV (by assumption) (by simp_all[isM,isW,eg]))⟩;simp_all[cM,aa,ar,adv,Lv.zero,Sp.zero,Rg.zero,Ct.zero];done)|(refine⟨(),_,?_,(by first|rfl|exact dr _ _|exact dt _ _|exact ee _|exact dZ _|exact dX _|exact dG _|exact dF _|exact cg _|exact dp _|exact dY _|exact ef _|exact dW _|exact cS _ _|exact cQ _ _|exact cT _ _|exact cR _ _),(by first|exact aD rfl|exact cV (by assumption) (by simp_all[isM,isW,eg]))⟩;simp_all[cM,aa,ar,adv,Lv.zero,Sp.zero,Rg.zero,Ct.zero];done)|(refine⟨(),(_,_),?_,(by first|rfl|exact dr _ _|exact dt _ _|exact ee _|exact dZ _|exact dX _|exact dG _|exact dF _|exact cg _|exact dp _|exact dY _|exact ef _|exact dW _|exact cS _ _|exact cQ _ _|exact cT _ _|exact cR _ _),(by first|exact aD rfl|exact cV (by assumption) (by simp_all[isM,isW,eg]))⟩;simp_all[cM,aa,ar,adv,Lv.zero,Sp.zero,Rg.zero,Ct.zero];done)|(refine⟨(),(_,_),?_,(by first|rfl|exact dr _ _|exact dt _ _|exact ee _|exact dZ _|exact dX _|exact dG _|exact dF _|exact cg _|exact dp _|exact dY _|exact ef _|exact dW _|exact cS _ _|exact cQ _ _|exact cT _ _|exact cR _ _),(by first|exact aD rfl|exact cV (by assumption) (by simp_all[isM,isW,eg])),(by first|exact aD rfl|exact cV (by assumption) (by simp_all[isM,isW,eg]))⟩;simp_all[cM,aa,ar,adv,Lv.zero,Sp.zero,Rg.zero,Ct.zero];done)|(refine⟨(),(_,(_,_)),?_,(by first|rfl|exact dr _ _|exact dt _ _|exact ee _|exact dZ _|exact dX _|exact dG _|exact dF _|exact cg _|exact dp _|exact dY _|exact ef _|exact dW _|exact cS _ _|exact cQ _ _|exact cT _ _|exact cR _ _),(by first|exact aD rfl|exact cV (by assumption) (by simp_all[isM,isW,eg])),(by first|exact aD rfl|exact cV (by assumption) (by simp_all[isM,isW,eg]))⟩;simp_all[cM,aa,ar,adv,Lv.zero,Sp.zero,Rg.zero,Ct.zero];done)|(refine⟨(),(_,(_,_)),?_,(by first|rfl|exact dr _ _|exact dt _ _|exact ee _|exact dZ _|exact dX _|exact dG _|exact dF _|exact cg _|exact dp _|exact dY _|exact ef _|exact dW _|exact cS _ _|exact cQ _ _|exact cT _ _|exact cR _ _),(by first|exact aD rfl|exact cV (by assumption) (by simp_all[isM,isW,eg]))⟩;simp_all[cM,aa,ar,adv,Lv.zero,Sp.zero,Rg.zero,Ct.zero];done)|(simp_all[cM,aa,ar,adv,Lv.zero,Sp.zero,Rg.zero,Ct.zero];done)|fail "end")
    |false=>
     rw[hb] at a1
     have a1:MNL _ _ _ _ _ [(0,psO k' c d)]:=a1
     repeat'(first|(with_reducible first|apply AW.seq|apply AW.ret|apply AW.exit|apply ae|apply aJ|apply aW|apply y_e|refine ah ?_)|((with_reducible apply ak);first|refine t_v AS.v ?_|refine t_w (by exact ch (hP:=a1)) ?_)|((with_reducible apply aV);refine t_s AS.s ?_)|((with_reducible refine au ?_);refine cj ?_)|((with_reducible refine bo ?_);refine fN (k:=?_))|fail)
     (first|(refine⟨_,_,?_,(by exact cg _),(by exact aD rfl)⟩;simp_all[cM,aa,ar,adv,Lv.zero,Sp.zero,Rg.zero,Ct.zero];done)|fail "end")
   ·(first|(simp_all[fj,aa,ar,adv,Lv.zero,Sp.zero,Rg.zero,Ct.zero];done)|fail "end")
end
theorem uM:∀ e:Ex,1≤cD e
 |⟨_,_,_,_,_,_,kids⟩=>by rw[cD];omega
theorem jw (e:Ex):cD e=cW e.kids+1:=by cases e;rw[cD]
theorem mS:∀ (a:List Ex) (x:Ex),cW (a++[x])=max (cW a) (cD x)
 |[],x=>by rw[List.nil_append,cW,cW,cW];omega
 |y :: a,x=>by rw[List.cons_append,cW,cW,mS a x];omega
end Am
end Go.Proofs.YtkpodagbefnebaaGreatDoor
