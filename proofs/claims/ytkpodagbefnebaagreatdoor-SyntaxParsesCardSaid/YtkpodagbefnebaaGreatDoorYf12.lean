import Derived.Test.YtkpodagbefnebaaGreatDoorYf11
import Derived.Test.YtkpodagbefnebaaGreatDoorSh
set_option linter.unusedSimpArgs false
set_option linter.unusedVariables false
set_option linter.unusedSectionVars false
namespace Go.Proofs.YtkpodagbefnebaaGreatDoor
namespace Am
open Tk Go.RowKit
set_option maxRecDepth 100000
set_option maxHeartbeats 1000000
section
variable {l:List Tok} {k:Ix l} {c d:Int}
theorem rU (hf:Fine l):MX Tryz.prog 318 [(0,psO k c d)] [.c (.ptr 0 0)] (jF k) (fun n=>.c (sI n)) (fun k'=>[(0,psO k' c d)]) pvS:=by
 have hl:=hf.le
 have a1:=fun k=>(bE (k:=k) (c:=c) (d:=d) hf ⟨#[61,61]⟩).ok _ _ rfl
 have a2:=fun k=>(bE (k:=k) (c:=c) (d:=d) hf ⟨#[33,61]⟩).ok _ _ rfl
 refine MXA (fn:=Tryz.f318) Tryz.call318 Tryz.func318 rfl Tryz.ntmps318 Tryz.results318 rfl rfl ?_
 repeat'(first|(with_reducible first|apply AW.seq|apply AW.block|apply AW.skip|apply AW.ret|apply aa|apply ak|apply aF|apply aw|apply aL|apply y_e|refine ae ?_)|((with_reducible apply ai);first|refine t_v AS.v ?_|refine t_w (by first|exact av (hP:=a1 _)|exact av (hP:=a2 _)) ?_|refine bm (hP:=mU hf _ (by decide)) (k1:=fun x k h=>?_) (k2:=fun e h σx=>?_))|((with_reducible refine aq ?_);((refine ah (fun hc=>?_) (fun hc=>?_))))|((with_reducible refine aD ?_);first|(with_reducible refine aS ?_)|refine l_1 (k:=?_))|fail)
 ·(first|(refine⟨_,_,?_,(by rfl),(by exact ar rfl)⟩;simp_all[jF,ag,au,adv,Lv.zero,Sp.zero,Rg.zero,Ct.zero];done)|(simp_all[jF,ag,au,adv,Lv.zero,Sp.zero,Rg.zero,Ct.zero];done)|fail "end")
 ·(first|(refine⟨_,_,?_,(by rfl),(by exact ar rfl)⟩;simp_all[jF,ag,au,adv,Lv.zero,Sp.zero,Rg.zero,Ct.zero];done)|(simp_all[jF,ag,au,adv,Lv.zero,Sp.zero,Rg.zero,Ct.zero];done)|fail "end")
 ·have hb:=iv hf h
  have hn:x<3:=hb.2.1
  rw[wrap64 (by omega) (by omega)]
  have hb':=hb.1
  clear hb
  (first|(refine⟨_,_,?_,(by rfl),(by exact ar rfl)⟩;simp_all[jF,ag,au,adv,Lv.zero,Sp.zero,Rg.zero,Ct.zero];done)|fail "end")
 ·(first|(refine⟨_,_,?_,(by rfl),(by exact ar rfl)⟩;simp_all[jF,ag,au,adv,Lv.zero,Sp.zero,Rg.zero,Ct.zero];done)|(simp_all[jF,ag,au,adv,Lv.zero,Sp.zero,Rg.zero,Ct.zero];done)|fail "end")
theorem mo (s:ByteArray) (c:UInt8):Pure Tryz.prog 283 [.c (sS s),.c (.sc (.int .u8 c.toNat))] (.c (sI (Lib.indexByte s.data.toList c))):=by
 have:=Pure.of_calls (P:=Tryz.prog) (f:=283) (vs:=[.string s,.int .u8 c.toNat]) (r:=.c (sI (Lib.indexByte s.data.toList c))) Tryz.call283 (.sc rfl) fun hs w=>(Tryz.strings_IndexByte s c.toNat w).mono fun e w' h=>⟨by have h1:=h.1;simpa using h1,h.2.symm⟩
 exact this
theorem vF (l:List UInt8) (c:UInt8):Lib.indexByte l c=match inB l c with|some i=>(i:Int)|none=>-1:=by
 unfold inB
 induction l with
 |nil=>rfl
 |cons b l ih=>
  rw[Lib.indexByte,ih,List.findIdx?_cons]
  cases hb:(b == c) with
  |true=>simp
  |false=>
   simp only[Bool.false_eq_true,if_false]
   cases l.findIdx? (fun d=>d == c) with
   |none=>rfl
   |some i=>
    simp only[Option.map_some]
    have:¬ ((i:Int) == -1)=true:=by simp
    rw[if_neg this]
    simp
theorem qv (hf:Fine l) (v:Bool):MX Tryz.prog 317 [(0,psO k c d)] [.c (.ptr 0 0),.c (sB v)] (gy v k) (fun n=>.c (sI n)) (fun k'=>[(0,psO k' c d)]) pvS:=by
 have hl:=hf.le
 have hk:=k.2
 by_cases h2:(tk k).kind=1∧(tk k).text.size=2
 ·obtain ⟨h1,h2⟩:=h2
  obtain ⟨a,b,hab⟩:∃ a b,(tk k).text.data.toList=[a,b]:=by
   rw[bc] at h2
   match (tk k).text.data.toList,h2 with
   |[a,b],_=>exact⟨a,b,rfl⟩
  have g0:(tk k).text.data.toList[0]? =some a:=by rw[hab];rfl
  have g1:(tk k).text.data.toList[1]? =some b:=by rw[hab];rfl
  have i1:=mo ⟨#[117,114,116,108,104]⟩ a
  have i2:=mo (if v then⟨#[49,50,51]⟩ else⟨#[49,50]⟩) b
  rw[vF] at i1 i2
  have ea:ke v (tk k).text=fF (inB [117,114,116,108,104] a) (inB (if v then[49,50,51] else[49,50]) b):=by unfold ke;rw[hab]
  have eb:(if v then(⟨#[49,50,51]⟩:ByteArray) else⟨#[49,50]⟩).data.toList=if v then[49,50,51] else[49,50]:=by cases v <;> rfl
  rw[eb] at i2
  have l1:∀ i,inB [117,114,116,108,104] a=some i→i<5:=fun i h=>(List.findIdx?_eq_some_iff_getElem.1 h).1
  have l2:∀ i,inB (if v then[49,50,51] else[49,50]) b=some i→i<3:=fun i h=>by
   have:=(List.findIdx?_eq_some_iff_getElem.1 h).1
   cases v
   ·have:i<2:=this;omega
   ·exact this
  have i1:Pure Tryz.prog 283 [.c (sS ⟨#[117,114,116,108,104]⟩),.c (.sc (.int .u8 a.toNat))] (.c (sI (match inB [117,114,116,108,104] a with|some i=>(i:Int)|none=>-1))):=i1
  clear eb hab
  generalize inB [117,114,116,108,104] a=oa at *
  generalize inB (if v then[49,50,51] else[49,50]) b=ob at *
  have e:gy v k=match fF oa ob with|some n=>.ok (n,nx k)|none=>.error (flt 9 (tk k)):=by
   unfold gy
   rw[ea]
   cases fF oa ob <;> simp[h1]
  rw[e]
  clear e ea
  cases oa with
  |none=>
   cases ob <;> cases v
   all_goals
    refine MXA (fn:=Tryz.f317) Tryz.call317 Tryz.func317 rfl Tryz.ntmps317 Tryz.results317 rfl rfl ?_
    repeat'(first|(with_reducible first|apply AW.seq|apply AW.skip|apply AW.ret|apply aa|apply ak|apply aF|apply y_e|refine ae ?_|refine b7 ?_)|((with_reducible apply ai);first|refine t_v AS.v ?_|refine t_v (by first|exact aj (hP:=i1)|exact aj (hP:=i2)|exact az (hP:=bQ)) ?_|refine t_w AS.w ?_|refine t_q (hP:=dD _ _) (k:=fun σx=>?_))|((with_reducible apply aK);first|refine t_f ?_|refine t_m (hs:=fun hg=>AS.v) (k:=?_))|((with_reducible apply ay);refine t_s AS.s ?_)|((with_reducible refine aq ?_);first|refine aI ?_|refine aJ ?_|(refine ah (fun hc=>?_) (fun hc=>?_);all_goals(try(exfalso;simp[*] at hc;done))))|((with_reducible refine aD ?_);first|(with_reducible refine aS ?_)|refine l_1 (k:=?_))|(refine⟨by decide +kernel,?_⟩)|fail)
    all_goals(first|(simp_all[fF,ag,au,adv,Lv.zero,Sp.zero,Rg.zero,Ct.zero];done)|fail "end")
  |some i=>
   have l1:=l1 i rfl
   cases ob with
   |none=>
    cases v
    all_goals
     refine MXA (fn:=Tryz.f317) Tryz.call317 Tryz.func317 rfl Tryz.ntmps317 Tryz.results317 rfl rfl ?_
     repeat'(first|(with_reducible first|apply AW.seq|apply AW.skip|apply AW.ret|apply aa|apply ak|apply aF|apply y_e|refine ae ?_|refine b7 ?_)|((with_reducible apply ai);first|refine t_v AS.v ?_|refine t_v (by first|exact aj (hP:=i1)|exact aj (hP:=i2)|exact az (hP:=bQ)) ?_|refine t_w AS.w ?_|refine t_q (hP:=dD _ _) (k:=fun σx=>?_))|((with_reducible apply aK);first|refine t_f ?_|refine t_m (hs:=fun hg=>AS.v) (k:=?_))|((with_reducible apply ay);refine t_s AS.s ?_)|((with_reducible refine aq ?_);first|refine aI ?_|refine aJ ?_|(refine ah (fun hc=>?_) (fun hc=>?_);all_goals(try(exfalso;simp[*] at hc;done))))|((with_reducible refine aD ?_);first|(with_reducible refine aS ?_)|refine l_1 (k:=?_))|(refine⟨by decide +kernel,?_⟩)|fail)
     all_goals(first|(simp_all[fF,ag,au,adv,Lv.zero,Sp.zero,Rg.zero,Ct.zero];done)|fail "end")
   |some j=>
    have l2:=l2 j rfl
    dsimp only at i1 i2
    have le:=cg (c:=c) (d:=d) hf (k:=k) (by rw[h1];decide)
    cases v
    all_goals
     refine MXA (fn:=Tryz.f317) Tryz.call317 Tryz.func317 rfl Tryz.ntmps317 Tryz.results317 rfl rfl ?_
     repeat'(first|(with_reducible first|apply AW.seq|apply AW.skip|apply AW.ret|apply aa|apply ak|apply aF|apply y_e|refine ae ?_|refine b7 ?_)|((with_reducible apply ai);first|refine t_v AS.v ?_|refine t_v (by first|exact aj (hP:=i1)|exact aj (hP:=i2)|exact az (hP:=bQ)) ?_|refine t_w AS.w ?_|refine t_q (hP:=dD _ _) (k:=fun σx=>?_))|((with_reducible apply aK);first|refine t_f ?_|refine t_m (hs:=fun hg=>AS.v) (k:=?_))|((with_reducible apply ay);refine t_s AS.s ?_)|((with_reducible refine aq ?_);first|refine aI ?_|refine aJ ?_|(refine ah (fun hc=>?_) (fun hc=>?_);all_goals(try(exfalso;simp[*] at hc;done))))|((with_reducible refine aD ?_);first|(with_reducible refine aS ?_)|refine l_1 (k:=?_))|(refine⟨by decide +kernel,?_⟩)|fail)
     refine⟨_,_,rfl,?_,le⟩
     rw[wrap64 (n:=(j:Int)*5) (by omega) (by omega),wrap64 (n:=(j:Int)*5+i) (by omega) (by omega)]
     show V.c (sI _)=V.c (sI _)
     congr 3
     all_goals omega
 ·have e:gy v k= .error (flt 9 (tk k)):=by
   unfold gy ke
   split
   ·rename_i n hn
    split at hn
    ·rename_i a b hab
     rw[if_neg fun h1=>h2 ⟨h1,by rw[bc,hab];rfl⟩]
    ·cases hn
   ·rfl
  refine MXA (fn:=Tryz.f317) Tryz.call317 Tryz.func317 rfl Tryz.ntmps317 Tryz.results317 rfl rfl ?_
  repeat'(first|(with_reducible first|apply AW.seq|apply AW.skip|apply aa|apply aF|apply y_e|refine ae ?_)|((with_reducible apply ai);first|refine t_v AS.v ?_|refine t_v (by exact az (hP:=bQ)) ?_|refine t_w AS.w ?_|refine t_q (hP:=dD _ _) (k:=fun σx=>?_))|((with_reducible apply aK);refine t_m (hs:=fun hg=>AS.v) (k:=?_))|((with_reducible apply ay);refine t_s AS.s ?_)|((with_reducible refine aq ?_);((refine ah (fun hc=>?_) (fun hc=>?_);all_goals(try(exfalso;revert hc;simp;omega)))))|((with_reducible refine aD ?_);(with_reducible refine aS ?_))|fail)
  all_goals exact e
theorem Dt (hf:Fine l) (v:Bool) (n:Nat):(∀ (k:Ix l) (c d:Int),4*(l.length - k.1)+1≤n→MX Tryz.prog 264 [(0,psO k c d)] [.c (.ptr 0 0),.c (sB v)] (ew v n k) (fun e=>.agg (exC e)) (fun k'=>[(0,psO k' c d)]) pvS)∧
 (∀ (k:Ix l) (c d:Int),4*(l.length - k.1)+2≤n→MX Tryz.prog 191 [(0,psO k c d)] [.c (.ptr 0 0),.c (sB v)] (fI v n k) (fun e=>.agg (exC e)) (fun k'=>[(0,psO k' c d)]) pvS)∧
 (∀ (k:Ix l) (c d:Int),4*(l.length - k.1)+3≤n→MX Tryz.prog 132 [(0,psO k c d)] [.c (.ptr 0 0),.c (sB v)] (fy v n k) (fun e=>.agg (exC e)) (fun k'=>[(0,psO k' c d)]) pvS):=by
 induction n using Nat.strongRecOn with
 |ind n ih=>
  cases n with
  |zero=>exact⟨fun k c d h=>(by omega),fun k c d h=>(by omega),fun k c d h=>(by omega)⟩
  |succ n=>
  have hl:=hf.le
  obtain ⟨ih1,ih2,ih3⟩:=ih n (Nat.lt_succ_self n)
  have ad:=nH hf v
  refine⟨fun k c d hn=>?_,fun k c d hn=>?_,fun k c d hn=>?_⟩
  ·have hk:=k.2
   have a1:=(bE (k:=k) (c:=c) (d:=d) hf ⟨#[33]⟩).ok _ _ rfl
   have a2:=(bE (k:=k) (c:=c) (d:=d) hf ⟨#[40]⟩).ok _ _ rfl
   have a3:=fun k=>(cK (k:=k) (c:=c) (d:=d) hf ⟨#[105,110]⟩).ok _ _ rfl
   cases hb1:isM ⟨#[33]⟩ k with
   |true=>
    rw[hb1] at a1
    have a1:MNL _ _ _ _ _ [(0,psO (nx k) c d)]:=a1
    have e1:=aW hf hb1
    have i1:=ih1 (nx k) c d (by omega)
    clear ih ih1 ih2 ih3 ad
    refine MXA (fn:=Tryz.f264) Tryz.call264 Tryz.func264 rfl Tryz.ntmps264 Tryz.results264 rfl rfl ?_
    repeat'(first|(with_reducible first|apply AW.seq|apply AW.block|apply AW.skip|apply AW.ret|apply aa|apply ak|apply aF|apply aw|apply aL|apply bI|apply y_e|refine ae ?_|refine b7 ?_)|((with_reducible apply ai);first|refine t_v AS.v ?_|refine t_w AS.w ?_|refine t_w (by exact av (hP:=a1)) ?_|refine bm (hP:=i1) (k1:=fun x k h=>?_) (k2:=fun e h σx=>?_))|((with_reducible apply ay);refine t_s AS.s ?_)|((with_reducible refine aq ?_);refine aI ?_)|((with_reducible refine aD ?_);first|(with_reducible refine aS ?_)|refine b8 (k:=?_))|(refine⟨by decide +kernel,fun(σx:St)=>?_⟩)|(refine⟨by decide +kernel,?_⟩)|fail)
    all_goals(first|(refine⟨_,_,?_,(by exact aU _),(by exact ar rfl)⟩;simp_all[ew,ag,au,adv,Lv.zero,Sp.zero,Rg.zero,Ct.zero];done)|(simp_all[ew,ag,au,adv,Lv.zero,Sp.zero,Rg.zero,Ct.zero];done)|fail "end")
   |false=>
    rw[hb1] at a1
    have a1:MNL _ _ _ _ _ [(0,psO k c d)]:=a1
    cases hb2:isM ⟨#[40]⟩ k with
    |true=>
     rw[hb2] at a2
     have a2:MNL _ _ _ _ _ [(0,psO (nx k) c d)]:=a2
     have e1:=aW hf hb2
     have i3:=ih3 (nx k) c d (by omega)
     clear ih ih1 ih2 ih3 ad
     refine MXA (fn:=Tryz.f264) Tryz.call264 Tryz.func264 rfl Tryz.ntmps264 Tryz.results264 rfl rfl ?_
     repeat'(first|(with_reducible first|apply AW.seq|apply AW.block|apply AW.ret|apply aa|apply ak|apply aF|apply aL|apply bI|apply y_e|refine ae ?_)|((with_reducible apply ai);first|refine t_v AS.v ?_|refine t_w AS.w ?_|refine t_w (by first|exact av (hP:=a1)|exact av (hP:=a2)) ?_|refine bm (hP:=i3) (k1:=fun x k h=>?_) (k2:=fun e h σx=>?_)|refine bm (hP:=iC hf _) (k1:=fun x k h=>?_) (k2:=fun e h σx=>?_))|((with_reducible apply ay);refine t_s AS.s ?_)|((with_reducible refine aq ?_);first|refine aI ?_|refine aJ ?_)|((with_reducible refine aD ?_);first|(with_reducible refine aS ?_)|refine b8 (k:=?_))|fail)
     all_goals(first|(refine⟨_,_,?_,(by exact aU _),(by exact ar rfl)⟩;simp_all[ew,ag,au,adv,Lv.zero,Sp.zero,Rg.zero,Ct.zero];done)|(simp_all[ew,ag,au,adv,Lv.zero,Sp.zero,Rg.zero,Ct.zero];done)|fail "end")
    |false=>
     rw[hb2] at a2
     have a2:MNL _ _ _ _ _ [(0,psO k c d)]:=a2
     clear ih ih1 ih2 ih3 ad
     refine MXA (fn:=Tryz.f264) Tryz.call264 Tryz.func264 rfl Tryz.ntmps264 Tryz.results264 rfl rfl ?_
     repeat'(first|(with_reducible first|apply AW.seq|apply AW.block|apply AW.skip|apply AW.ret|apply aa|apply ak|apply aF|apply aw|apply y_e|refine ae ?_)|((with_reducible apply ai);first|refine t_v AS.v ?_|refine t_v (by exact az (hP:=pk _)) ?_|refine t_w AS.w ?_|refine t_w (by first|exact av (hP:=a1)|exact av (hP:=a2)|exact av (hP:=a3 _)) ?_|refine bm (hP:=qv hf _) (k1:=fun x k h=>?_) (k2:=fun e h σx=>?_)|refine bm (hP:=k9 hf) (k1:=fun x k h=>?_) (k2:=fun e h σx=>?_)|refine bm (hP:=dq hf) (k1:=fun x k h=>?_) (k2:=fun e h σx=>?_)|refine bm (hP:=rU hf) (k1:=fun x k h=>?_) (k2:=fun e h σx=>?_))|((with_reducible apply ay);refine t_s AS.s ?_)|((with_reducible refine aq ?_);first|refine aJ ?_|(refine ah (fun hc=>?_) (fun hc=>?_)))|((with_reducible refine aD ?_);first|(with_reducible refine aS ?_)|refine b8 (k:=?_))|fail)
     all_goals(first|(refine⟨_,_,?_,(by first|rfl|exact aU _),(by exact ar rfl)⟩;simp_all[ew,mA,ag,au,adv,Lv.zero,Sp.zero,Rg.zero,Ct.zero];done)|(simp_all[ew,mA,ag,au,adv,Lv.zero,Sp.zero,Rg.zero,Ct.zero];done)|fail "end")
  ·have hk:=k.2
   have i1:=ih1 k c d (by omega)
   refine MXA (fn:=Tryz.f191) Tryz.call191 Tryz.func191 rfl Tryz.ntmps191 Tryz.results191 rfl rfl ?_
   repeat'(first|(with_reducible first|apply AW.seq|apply AW.block|apply aa|apply aF|apply y_e|refine ae ?_)|((with_reducible apply ai);first|refine t_v AS.v ?_|refine t_w AS.w ?_|refine bm (hP:=i1) (k1:=fun x k h=>?_) (k2:=fun e h σx=>?_))|((with_reducible apply ay);refine t_s AS.s ?_)|((with_reducible refine aD ?_);(with_reducible refine aS ?_))|fail)
   ·rename_i k0
    have e:fI v (n+1) k0=cT v n x k:=by rw[fI,h];rfl
    rw[e]
    have hlt:=(ad n).1 h
    generalize hsp:cT v n x k=sp
    refine AW.loop (fun m σ=>∃ e k',cT v m e k'=sp∧m≤n∧4*(l.length - k'.1)+1≤m∧σ=mk [(0,.c (.ptr 0 0)),(1,.c (sB v)),(4,.c (.ptr 4 0)),(5,.c (.ptr 5 0))] [(5,.obj 49 (exC e)),(0,psO k' c d),(4,.obj 49 (exC Ex.zero))]) n ?_ ?_
    ·exact⟨_,wkA,x,k,hsp,Nat.le_refl _,by omega,rfl⟩
    clear hlt hsp h e i1
    rintro m σ ⟨e,k',hm,hm1,hm2,rfl⟩
    subst hm
    have hk':=k'.2
    obtain ⟨m,rfl⟩:∃ n,m=n+1:=⟨m - 1,by omega⟩
    have a1:=(bE (k:=k') (c:=c) (d:=d) hf ⟨#[38,38]⟩).ok _ _ rfl
    cases hb:isM ⟨#[38,38]⟩ k' with
    |true=>
     rw[hb] at a1
     have a1:MNL _ _ _ _ _ [(0,psO (nx k') c d)]:=a1
     have e1:=aW hf hb
     have i1:=(ih m (by omega)).1 (nx k') c d (by omega)
     repeat'(first|(with_reducible first|apply AW.seq|apply AW.block|apply AW.skip|apply AW.ret|apply aa|apply ak|apply aF|apply aw|apply aL|apply bI|apply y_e|refine ae ?_|refine b7 ?_)|((with_reducible apply ai);first|refine t_v AS.v ?_|refine t_w AS.w ?_|refine t_w (by exact av (hP:=a1)) ?_|refine bm (hP:=i1) (k1:=fun x k h=>?_) (k2:=fun e h σx=>?_))|((with_reducible apply ay);refine t_s AS.s ?_)|((with_reducible refine aq ?_);refine aI ?_)|((with_reducible refine aD ?_);first|(with_reducible refine aS ?_)|refine b8 (k:=?_))|(refine⟨by decide +kernel,fun(σx:St)=>?_⟩)|(refine⟨by decide +kernel,?_⟩)|fail)
     ·have hlt:=(ad m).1 h
      exact⟨m,_,Nat.lt_succ_self m,wkA,_,k,by rw[cT,hb,if_pos rfl,h];rfl,by omega,by omega,rfl⟩
     ·(first|(refine⟨_,_,?_,(by first|rfl|exact cz _ _|exact ca _ _|exact cZ _|exact dn _|exact dc _|exact cB _|exact cH _|exact aU _|exact aY _|exact di _|exact dj _|exact cu _|exact c7 _ _|exact c9 _ _|exact c4 _ _|exact c8 _ _),(by first|exact ar rfl|exact cg (by assumption) (by simp_all[isM,isW,cb]))⟩;simp_all[cT,ag,au,adv,Lv.zero,Sp.zero,Rg.zero,Ct.zero];done)|(refine⟨_,(_,_),?_,(by first|rfl|exact cz _ _|exact ca _ _|exact cZ _|exact dn _|exact dc _|exact cB _|exact cH _|exact aU _|exact aY _|exact di _|exact dj _|exact cu _|exact c7 _ _|exact c9 _ _|exact c4 _ _|exact c8 _ _),(by first|exact ar rfl|exact cg (by assumption) (by simp_all[isM,isW,cb]))⟩;simp_all[cT,ag,au,adv,Lv.zero,Sp.zero,Rg.zero,Ct.zero];done)|(refine⟨_,(_,_),?_,(by first|rfl|exact cz _ _|exact ca _ _|exact cZ _|exact dn _|exact dc _|exact cB _|exact cH _|exact aU _|exact aY _|exact di _|exact dj _|exact cu _|exact c7 _ _|exact c9 _ _|exact c4 _ _|exact c8 _ _),(by first|exact ar rfl|exact cg (by assumption) (by simp_all[isM,isW,cb])),(by first|exact ar rfl|exact cg (by assumption) (by simp_all[isM,isW,cb]))⟩;simp_all[cT,ag,au,adv,Lv.zero,Sp.zero,Rg.zero,Ct.zero];done)|(refine⟨_,(_,(_,_)),?_,(by first|rfl|exact cz _ _|exact ca _ _|exact cZ _|exact dn _|exact dc _|exact cB _|exact cH _|exact aU _|exact aY _|exact di _|exact dj _|exact cu _|exact c7 _ _|exact c9 _ _|exact c4 _ _|exact c8 _ _),(by first|exact ar rfl|exact cg (by assumption) (by simp_all[isM,isW,cb])),(by first|exact ar rfl|exact cg (by assumption) (by simp_all[isM,isW,cb]))⟩;simp_all[cT,ag,au,adv,Lv.zero,Sp.zero,Rg.zero,Ct.zero];done)|(refine⟨_,(_,(_,_)),?_,(by first|rfl|exact cz _ _|exact ca _ _|exact cZ _|exact dn _|exact dc _|exact cB _|exact cH _|exact aU _|exact aY _|exact di _|exact dj _|exact cu _|exact c7 _ _|exact c9 _ _|exact c4 _ _|exact c8 _ _),(by first|exact ar rfl|exact cg (by assumption) (by simp_all[isM,isW,cb]))⟩;simp_all[cT,ag,au,adv,Lv.zero,Sp.zero,Rg.zero,Ct.zero];done)|(refine⟨(),_,?_,(by first|rfl|exact cz _ _|exact ca _ _|exact cZ _|exact dn _|exact dc _|exact cB _|exact cH _|exact aU _|exact aY _|exact di _|exact dj _|exact cu _|exact c7 _ _|exact c9 _ _|exact c4 _ _|exact c8 _ _),(by first|exact ar rfl|exact cg (by assumption) (by simp_all[isM,isW,cb]))⟩;simp_all[cT,ag,au,adv,Lv.zero,Sp.zero,Rg.zero,Ct.zero];done)|(refine⟨(),(_,_),?_,(by first|rfl|exact cz _ _|exact ca _ _|exact cZ _|exact dn _|exact dc _|exact cB _|exact cH _|exact aU _|exact aY _|exact di _|exact dj _|exact cu _|exact c7 _ _|exact c9 _ _|exact c4 _ _|exact c8 _ _),(by first|exact ar rfl|exact cg (by assumption) (by simp_all[isM,isW,cb]))⟩;simp_all[cT,ag,au,adv,Lv.zero,Sp.zero,Rg.zero,Ct.zero];done)|(refine⟨(),(_,_),?_,(by first|rfl|exact cz _ _|exact ca _ _|exact cZ _|exact dn _|exact dc _|exact cB _|exact cH _|exact aU _|exact aY _|exact di _|exact dj _|exact cu _|exact c7 _ _|exact c9 _ _|exact c4 _ _|exact c8 _ _),(by first|exact ar rfl|exact cg (by assumption) (by simp_all[isM,isW,cb])),(by first|exact ar rfl|exact cg (by assumption) (by simp_all[isM,isW,cb]))⟩;simp_all[cT,ag,au,adv,Lv.zero,Sp.zero,Rg.zero,Ct.zero];done)|(refine⟨(),(_,(_,_)),?_,(by first|rfl|exact cz _ _|exact ca _ _|exact cZ _|exact dn _|exact dc _|exact cB _|exact cH _|exact aU _|exact aY _|exact di _|exact dj _|exact cu _|exact c7 _ _|exact c9 _ _|exact c4 _ _|exact c8 _ _),(by first|exact ar rfl|exact cg (by assumption) (by simp_all[isM,isW,cb])),(by first|exact ar rfl|exact cg (by assumption) (by simp_all[isM,isW,cb]))⟩;simp_all[cT,ag,au,adv,Lv.zero,Sp.zero,Rg.zero,Ct.zero];done)|(refine⟨(),(_,(_,_)),?_,(by first|rfl|exact cz _ _|exact ca _ _|exact cZ _|exact dn _|exact dc _|exact cB _|exact cH _|exact aU _|exact aY _|exact di _|exact dj _|exact cu _|exact c7 _ _|exact c9 _ _|exact c4 _ _|exact c8 _ _),(by first|exact ar rfl|exact cg (by assumption) (by simp_all[isM,isW,cb]))⟩;simp_all[cT,ag,au,adv,Lv.zero,Sp.zero,Rg.zero,Ct.zero];done)|(simp_all[cT,ag,au,adv,Lv.zero,Sp.zero,Rg.zero,Ct.zero];done)|fail "end")
    |false=>
     rw[hb] at a1
     have a1:MNL _ _ _ _ _ [(0,psO k' c d)]:=a1
     repeat'(first|(with_reducible first|apply AW.seq|apply AW.ret|apply AW.exit|apply aa|apply aE|apply aH|apply y_e|refine ae ?_)|((with_reducible apply ai);first|refine t_v AS.v ?_|refine t_w (by exact av (hP:=a1)) ?_)|((with_reducible apply ay);refine t_s AS.s ?_)|((with_reducible refine aq ?_);refine aJ ?_)|((with_reducible refine aD ?_);refine b8 (k:=?_))|fail)
     (first|(refine⟨_,_,?_,(by exact aU _),(by exact ar rfl)⟩;simp_all[cT,ag,au,adv,Lv.zero,Sp.zero,Rg.zero,Ct.zero];done)|fail "end")
   ·(first|(simp_all[fI,ag,au,adv,Lv.zero,Sp.zero,Rg.zero,Ct.zero];done)|fail "end")
  ·have hk:=k.2
   have i1:=ih2 k c d (by omega)
   refine MXA (fn:=Tryz.f132) Tryz.call132 Tryz.func132 rfl Tryz.ntmps132 Tryz.results132 rfl rfl ?_
   repeat'(first|(with_reducible first|apply AW.seq|apply AW.block|apply aa|apply aF|apply y_e|refine ae ?_)|((with_reducible apply ai);first|refine t_v AS.v ?_|refine t_w AS.w ?_|refine bm (hP:=i1) (k1:=fun x k h=>?_) (k2:=fun e h σx=>?_))|((with_reducible apply ay);refine t_s AS.s ?_)|((with_reducible refine aD ?_);(with_reducible refine aS ?_))|fail)
   ·rename_i k0
    have e:fy v (n+1) k0=cU v n x k:=by rw[fy,h];rfl
    rw[e]
    have hlt:=(ad n).2.1 h
    generalize hsp:cU v n x k=sp
    refine AW.loop (fun m σ=>∃ e k',cU v m e k'=sp∧m≤n∧4*(l.length - k'.1)+1≤m∧σ=mk [(0,.c (.ptr 0 0)),(1,.c (sB v)),(4,.c (.ptr 4 0)),(5,.c (.ptr 5 0))] [(5,.obj 49 (exC e)),(0,psO k' c d),(4,.obj 49 (exC Ex.zero))]) n ?_ ?_
    ·exact⟨_,wkA,x,k,hsp,Nat.le_refl _,by omega,rfl⟩
    clear hlt hsp h e i1
    rintro m σ ⟨e,k',hm,hm1,hm2,rfl⟩
    subst hm
    have hk':=k'.2
    obtain ⟨m,rfl⟩:∃ n,m=n+1:=⟨m - 1,by omega⟩
    have a1:=(bE (k:=k') (c:=c) (d:=d) hf ⟨#[124,124]⟩).ok _ _ rfl
    cases hb:isM ⟨#[124,124]⟩ k' with
    |true=>
     rw[hb] at a1
     have a1:MNL _ _ _ _ _ [(0,psO (nx k') c d)]:=a1
     have e1:=aW hf hb
     have i1:=(ih m (by omega)).2.1 (nx k') c d (by omega)
     repeat'(first|(with_reducible first|apply AW.seq|apply AW.block|apply AW.skip|apply AW.ret|apply aa|apply ak|apply aF|apply aw|apply aL|apply bI|apply y_e|refine ae ?_|refine b7 ?_)|((with_reducible apply ai);first|refine t_v AS.v ?_|refine t_w AS.w ?_|refine t_w (by exact av (hP:=a1)) ?_|refine bm (hP:=i1) (k1:=fun x k h=>?_) (k2:=fun e h σx=>?_))|((with_reducible apply ay);refine t_s AS.s ?_)|((with_reducible refine aq ?_);refine aI ?_)|((with_reducible refine aD ?_);first|(with_reducible refine aS ?_)|refine b8 (k:=?_))|(refine⟨by decide +kernel,fun(σx:St)=>?_⟩)|(refine⟨by decide +kernel,?_⟩)|fail)
     ·have hlt:=(ad m).2.1 h
      exact⟨m,_,Nat.lt_succ_self m,wkA,_,k,by rw[cU,hb,if_pos rfl,h];rfl,by omega,by omega,rfl⟩
     ·(first|(refine⟨_,_,?_,(by first|rfl|exact cz _ _|exact ca _ _|exact cZ _|exact dn _|exact dc _|exact cB _|exact cH _|exact aU _|exact aY _|exact di _|exact dj _|exact cu _|exact c7 _ _|exact c9 _ _|exact c4 _ _|exact c8 _ _),(by first|exact ar rfl|exact cg (by assumption) (by simp_all[isM,isW,cb]))⟩;simp_all[cU,ag,au,adv,Lv.zero,Sp.zero,Rg.zero,Ct.zero];done)|(refine⟨_,(_,_),?_,(by first|rfl|exact cz _ _|exact ca _ _|exact cZ _|exact dn _|exact dc _|exact cB _|exact cH _|exact aU _|exact aY _|exact di _|exact dj _|exact cu _|exact c7 _ _|exact c9 _ _|exact c4 _ _|exact c8 _ _),(by first|exact ar rfl|exact cg (by assumption) (by simp_all[isM,isW,cb]))⟩;simp_all[cU,ag,au,adv,Lv.zero,Sp.zero,Rg.zero,Ct.zero];done)|(refine⟨_,(_,_),?_,(by first|rfl|exact cz _ _|exact ca _ _|exact cZ _|exact dn _|exact dc _|exact cB _|exact cH _|exact aU _|exact aY _|exact di _|exact dj _|exact cu _|exact c7 _ _|exact c9 _ _|exact c4 _ _|exact c8 _ _),(by first|exact ar rfl|exact cg (by assumption) (by simp_all[isM,isW,cb])),(by first|exact ar rfl|exact cg (by assumption) (by simp_all[isM,isW,cb]))⟩;simp_all[cU,ag,au,adv,Lv.zero,Sp.zero,Rg.zero,Ct.zero];done)|(refine⟨_,(_,(_,_)),?_,(by first|rfl|exact cz _ _|exact ca _ _|exact cZ _|exact dn _|exact dc _|exact cB _|exact cH _|exact aU _|exact aY _|exact di _|exact dj _|exact cu _|exact c7 _ _|exact c9 _ _|exact c4 _ _|exact c8 _ _),(by first|exact ar rfl|exact cg (by assumption) (by simp_all[isM,isW,cb])),(by first|exact ar rfl|exact cg (by assumption) (by simp_all[isM,isW,cb]))⟩;simp_all[cU,ag,au,adv,Lv.zero,Sp.zero,Rg.zero,Ct.zero];done)|(refine⟨_,(_,(_,_)),?_,(by first|rfl|exact cz _ _|exact ca _ _|exact cZ _|exact dn _|exact dc _|exact cB _|exact cH _|exact aU _|exact aY _|exact di _|exact dj _|exact cu _|exact c7 _ _|exact c9 _ _|exact c4 _ _|exact c8 _ _),(by first|exact ar rfl|exact cg (by assumption) (by simp_all[isM,isW,cb]))⟩;simp_all[cU,ag,au,adv,Lv.zero,Sp.zero,Rg.zero,Ct.zero];done)|(refine⟨(),_,?_,(by first|rfl|exact cz _ _|exact ca _ _|exact cZ _|exact dn _|exact dc _|exact cB _|exact cH _|exact aU _|exact aY _|exact di _|exact dj _|exact cu _|exact c7 _ _|exact c9 _ _|exact c4 _ _|exact c8 _ _),(by first|exact ar rfl|exact cg (by assumption) (by simp_all[isM,isW,cb]))⟩;simp_all[cU,ag,au,adv,Lv.zero,Sp.zero,Rg.zero,Ct.zero];done)|(refine⟨(),(_,_),?_,(by first|rfl|exact cz _ _|exact ca _ _|exact cZ _|exact dn _|exact dc _|exact cB _|exact cH _|exact aU _|exact aY _|exact di _|exact dj _|exact cu _|exact c7 _ _|exact c9 _ _|exact c4 _ _|exact c8 _ _),(by first|exact ar rfl|exact cg (by assumption) (by simp_all[isM,isW,cb]))⟩;simp_all[cU,ag,au,adv,Lv.zero,Sp.zero,Rg.zero,Ct.zero];done)|(refine⟨(),(_,_),?_,(by first|rfl|exact cz _ _|exact ca _ _|exact cZ _|exact dn _|exact dc _|exact cB _|exact cH _|exact aU _|exact aY _|exact di _|exact dj _|exact cu _|exact c7 _ _|exact c9 _ _|exact c4 _ _|exact c8 _ _),(by first|exact ar rfl|exact cg (by assumption) (by simp_all[isM,isW,cb])),(by first|exact ar rfl|exact cg (by assumption) (by simp_all[isM,isW,cb]))⟩;simp_all[cU,ag,au,adv,Lv.zero,Sp.zero,Rg.zero,Ct.zero];done)|(refine⟨(),(_,(_,_)),?_,(by first|rfl|exact cz _ _|exact ca _ _|exact cZ _|exact dn _|exact dc _|exact cB _|exact cH _|exact aU _|exact aY _|exact di _|exact dj _|exact cu _|exact c7 _ _|exact c9 _ _|exact c4 _ _|exact c8 _ _),(by first|exact ar rfl|exact cg (by assumption) (by simp_all[isM,isW,cb])),(by first|exact ar rfl|exact cg (by assumption) (by simp_all[isM,isW,cb]))⟩;simp_all[cU,ag,au,adv,Lv.zero,Sp.zero,Rg.zero,Ct.zero];done)|(refine⟨(),(_,(_,_)),?_,(by first|rfl|exact cz _ _|exact ca _ _|exact cZ _|exact dn _|exact dc _|exact cB _|exact cH _|exact aU _|exact aY _|exact di _|exact dj _|exact cu _|exact c7 _ _|exact c9 _ _|exact c4 _ _|exact c8 _ _),(by first|exact ar rfl|exact cg (by assumption) (by simp_all[isM,isW,cb]))⟩;simp_all[cU,ag,au,adv,Lv.zero,Sp.zero,Rg.zero,Ct.zero];done)|(simp_all[cU,ag,au,adv,Lv.zero,Sp.zero,Rg.zero,Ct.zero];done)|fail "end")
    |false=>
     rw[hb] at a1
     have a1:MNL _ _ _ _ _ [(0,psO k' c d)]:=a1
     repeat'(first|(with_reducible first|apply AW.seq|apply AW.ret|apply AW.exit|apply aa|apply aE|apply aH|apply y_e|refine ae ?_)|((with_reducible apply ai);first|refine t_v AS.v ?_|refine t_w (by exact av (hP:=a1)) ?_)|((with_reducible apply ay);refine t_s AS.s ?_)|((with_reducible refine aq ?_);refine aJ ?_)|((with_reducible refine aD ?_);refine b8 (k:=?_))|fail)
     (first|(refine⟨_,_,?_,(by exact aU _),(by exact ar rfl)⟩;simp_all[cU,ag,au,adv,Lv.zero,Sp.zero,Rg.zero,Ct.zero];done)|fail "end")
   ·(first|(simp_all[fy,ag,au,adv,Lv.zero,Sp.zero,Rg.zero,Ct.zero];done)|fail "end")
end
theorem ik:∀ e:Ex,1≤br e
 |⟨_,_,_,_,_,_,kids⟩=>by rw[br];omega
theorem fL (e:Ex):br e=cF e.kids+1:=by cases e;rw[br]
theorem jA:∀ (a:List Ex) (x:Ex),cF (a++[x])=max (cF a) (br x)
 |[],x=>by rw[List.nil_append,cF,cF,cF];omega
 |y :: a,x=>by rw[List.cons_append,cF,cF,jA a x];omega
end Am
end Go.Proofs.YtkpodagbefnebaaGreatDoor
