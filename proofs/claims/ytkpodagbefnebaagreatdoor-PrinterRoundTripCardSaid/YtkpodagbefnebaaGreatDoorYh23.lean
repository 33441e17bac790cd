import Derived.Test.YtkpodagbefnebaaGreatDoorYh21
import Derived.Lib.IndexAny
import Derived.Test.YtkpodagbefnebaaGreatDoorYh22
set_option linter.unusedSimpArgs false
set_option linter.unusedVariables false
set_option linter.unusedSectionVars false
namespace Go.Proofs.YtkpodagbefnebaaGreatDoor
namespace Am
open Tk Go.RowKit
set_option maxRecDepth 100000
set_option maxHeartbeats 1000000
def HQ (l:Nat) (N:St→Prop) (Q:Exit→St→Prop):Exit→St→Prop
 | .goto l',σ=>l'=l∧N σ
 |e,σ=>Q e σ
section
variable {P:Program} {nt:Nat} {Q:Exit→St→Prop} {σ:St}
theorem AW.goto {l:Nat} (h:Q (.goto l) σ):AW P nt (.goto l) Q σ:=fun _ _ _ κ _ g=>wp_goto ⟨σ,h,κ,g⟩
theorem AW.scopeBack {c rest:Code} (l:Nat) (I:Nat→St→Prop) (hf:findLabel c l=some (.seq .skip rest)) (first:AW P nt c (HQ l (fun σ'=>∃ m σ'',Wk σ' σ''∧I m σ'') Q) σ)
 (pass:∀ n σ,I n σ→AW P nt rest (HQ l (fun σ'=>∃ m σ'',m<n∧Wk σ' σ''∧I m σ'') Q) σ):AW P nt (.scope c) Q σ:=fun X a w κ hX g=>by
 let J:Nat→Act→World→Prop:=fun n a w=>∃ σ κ,I n σ∧Gm X σ a w κ
 refine wp_scope_jumps l (fun a w=>∃ n,J n a w) (fun a w=>leastOf fun n=>J n a w) hf (Go.wp_mono (first X a w κ hX g) fun e a' w' hq=>?_) fun a w hJ=>?_
 ·obtain ⟨σ',hs,κ',g'⟩:=hq
  cases e with
  |goto l'=>
   obtain ⟨h1,m,σ'',hw,hI⟩:=hs
   obtain ⟨κ'',g''⟩:=hw X a' w' κ' g'
   exact⟨h1,m,σ'',κ'',hI,g''⟩
  |_=>exact⟨σ',hs,κ',g'⟩
 ·obtain ⟨σ,κ,hI,g⟩:=(leastOf_spec hJ).1
  refine wp_seq (wp_skip (Go.wp_mono (pass _ σ hI X a w κ hX g) fun e a' w' hq=>?_))
  obtain ⟨σ',hs,κ',g'⟩:=hq
  cases e with
  |goto l'=>
   obtain ⟨h1,m,σ'',hlt,hw,hI⟩:=hs
   obtain ⟨κ'',g''⟩:=hw X a' w' κ' g'
   have hJ':J m a' w':=⟨σ'',κ'',hI,g''⟩
   exact⟨h1,⟨m,hJ'⟩,Nat.lt_of_le_of_lt ((leastOf_spec ⟨m,hJ'⟩).2 m hJ') hlt⟩
  |_=>exact⟨σ',hs,κ',g'⟩
end
section
variable {src:ByteArray} {k:Nat}
theorem gD (c:Bool) {l:List UInt8} {k:Nat} {x:UInt8} (h:l[k]? =some x):skipL c (l.drop k)=if bi x=10 then skipL false (l.drop (k+1))+1 else if bi x=35 then skipL true (l.drop (k+1))+1 else if c=true∨bi x=32∨bi x=9 then skipL c (l.drop (k+1))+1 else 0:=by
 obtain ⟨h1,h2⟩:=List.getElem?_eq_some_iff.1 h
 rw[List.drop_eq_getElem_cons h1,skipL,h2]
theorem rD (c:Bool) {l:List UInt8} {k:Nat} (h:l.length≤k):skipL c (l.drop k)=0:=by
 rw[List.drop_of_length_le h];rfl
theorem Ao (hs:src.size≤65536) (hk:k≤src.size):MX Tryz.prog 144 [(0,skO src k)] [.c (.ptr 0 0)] (.ok ((),()):Except Fa (Unit×Unit)) (fun _=>.tup []) (fun _=>[(0,skO src (k+skipL false (src.data.toList.drop k)))]) pvS:=by
 generalize hS:k+skipL false (src.data.toList.drop k)=z
 refine MXA (fn:=Tryz.f144) Tryz.call144 Tryz.func144 rfl Tryz.ntmps144 Tryz.results144 rfl rfl ?_
 refine AW.scopeBack 0 (fun n σ=>∃ (b:Bool) (j:Nat),n=src.size - j∧j≤src.size∧j+skipL b (src.data.toList.drop j)=z∧σ=mk [(2,.c (sB b)),(0,.c (.ptr 0 0))] [(0,skO src j)]) rfl ?_ ?_
 ·have HS:=Lib.hid hS
  clear hS
  by_cases hlt:k<src.size
  ·obtain ⟨c,hx⟩:=get_at hlt
   have nx:=ow (k:=k) hs hx
   have sk:=(kG (k:=k) (n:=1) hs hlt).ok _ _ rfl
   repeat'(first|(with_reducible first|apply AW.seq|apply AW.block|apply AW.skip|apply AW.ret|apply AW.label|apply ae|apply aq|apply aw|apply aG|apply y_e|refine ah ?_)|((with_reducible apply ak);first|refine t_v AS.v ?_|refine t_v (by first|exact bn (hP:=gC hs)|exact bn (hP:=nx)) ?_|refine t_w (by exact ch (hP:=sk)) ?_)|((with_reducible apply bc);refine t_m (hs:=fun hg=>AS.v) (k:=?_))|((with_reducible refine au ?_);((refine aj (fun hc=>?_) (fun hc=>?_);all_goals(try(exfalso;revert hc;simp;omega)))))|fail)
   ·have hS:=HS.out
    have h10:bi c=10:=of_decide_eq_true hc
    rw[gD false hx,if_pos h10] at hS
    exact AW.goto ⟨rfl,_,_,wkA,false,k+1,rfl,hlt,by omega,rfl⟩
   ·rename_i h10
    have hS:=HS.out
    have h10:¬ bi c=10:=of_decide_eq_false h10
    have hS':k+1+skipL false (src.data.toList.drop (k+1))=z:=by
     rw[gD false hx,if_neg h10] at hS
     by_cases h35:bi c=35
     ·rw[if_pos h35] at hS
      have h35:(c.toNat:Int)=35:=h35
      rw[h35] at hc
      first|(exfalso;revert hc;decide)|(simp at hc;subst hc;omega)
     ·rw[if_neg h35,if_pos (by simp only[Bool.or_eq_true,decide_eq_true_eq,Bool.false_or] at hc;simpa [bi,or_assoc] using hc)] at hS
      omega
    exact AW.goto ⟨rfl,_,_,wkA,false,k+1,rfl,hlt,hS',rfl⟩
   ·rename_i h10 _
    have hS:=HS.out
    have h10:¬ bi c=10:=of_decide_eq_false h10
    have h35:bi c=35:=of_decide_eq_true hc
    rw[gD false hx,if_neg h10,if_pos h35] at hS
    exact AW.goto ⟨rfl,_,_,wkA,true,k+1,rfl,hlt,by omega,rfl⟩
   ·rename_i h10 hb
    have hS:=HS.out
    have h10:¬ bi c=10:=of_decide_eq_false h10
    have h35:¬ bi c=35:=of_decide_eq_false hc
    rw[gD false hx,if_neg h10,if_neg h35,if_neg (by intro hh;simp only[Bool.or_eq_false_iff,decide_eq_false_iff_not] at hb;exact hh.elim (fun h=>by((cases h;done))) fun h=>h.elim hb.1.2 hb.2)] at hS
    exact l_0 (k:=⟨(),(),rfl,rfl,aD (by rw[← hS])⟩)
  ·repeat'(first|(with_reducible first|apply AW.seq|apply AW.ret|apply AW.label|apply ae|apply aq|apply y_e|refine ah ?_)|((with_reducible apply ak);first|refine t_v AS.v ?_|refine t_v (by exact bn (hP:=gC hs)) ?_)|((with_reducible refine au ?_);((refine aj (fun hc=>?_) (fun hc=>?_);all_goals(try(exfalso;simp[*] at hc;done)))))|fail)
   have hS:=HS.out
   rw[rD false (by rw[← bZ];omega)] at hS
   exact l_0 (k:=⟨(),(),rfl,rfl,aD (by rw[← hS])⟩)
 ·clear hS
  rintro n σ ⟨b,j,rfl,hj,hS,rfl⟩
  have HS:=Lib.hid hS
  clear hS
  by_cases hlt:j<src.size
  ·obtain ⟨c,hx⟩:=get_at hlt
   have nx:=ow (k:=j) hs hx
   have sk:=(kG (k:=j) (n:=1) hs hlt).ok _ _ rfl
   repeat'(first|(with_reducible first|apply AW.seq|apply AW.block|apply AW.skip|apply AW.ret|apply AW.label|apply ae|apply aq|apply aw|apply aG|apply y_e|refine ah ?_)|((with_reducible apply ak);first|refine t_v AS.v ?_|refine t_v (by first|exact bn (hP:=gC hs)|exact bn (hP:=nx)) ?_|refine t_w (by exact ch (hP:=sk)) ?_)|((with_reducible apply bc);refine t_m (hs:=fun hg=>AS.v) (k:=?_))|((with_reducible refine au ?_);((refine aj (fun hc=>?_) (fun hc=>?_);all_goals(try(exfalso;revert hc;simp;omega)))))|fail)
   ·have hS:=HS.out
    have h10:bi c=10:=of_decide_eq_true hc
    rw[gD b hx,if_pos h10] at hS
    exact AW.goto ⟨rfl,_,_,(show src.size - (j+1)<src.size - j by omega),wkA,false,j+1,rfl,hlt,by omega,rfl⟩
   ·rename_i h10
    have hS:=HS.out
    have h10:¬ bi c=10:=of_decide_eq_false h10
    have hS':j+1+skipL b (src.data.toList.drop (j+1))=z:=by
     rw[gD b hx,if_neg h10] at hS
     by_cases h35:bi c=35
     ·rw[if_pos h35] at hS
      have h35:(c.toNat:Int)=35:=h35
      rw[h35] at hc
      first|(exfalso;revert hc;decide)|(simp at hc;subst hc;omega)
     ·rw[if_neg h35,if_pos (by simp only[Bool.or_eq_true,decide_eq_true_eq,Bool.false_or] at hc;simpa [bi,or_assoc] using hc)] at hS
      omega
    exact AW.goto ⟨rfl,_,_,(show src.size - (j+1)<src.size - j by omega),wkA,b,j+1,rfl,hlt,hS',rfl⟩
   ·rename_i h10 _
    have hS:=HS.out
    have h10:¬ bi c=10:=of_decide_eq_false h10
    have h35:bi c=35:=of_decide_eq_true hc
    rw[gD b hx,if_neg h10,if_pos h35] at hS
    exact AW.goto ⟨rfl,_,_,(show src.size - (j+1)<src.size - j by omega),wkA,true,j+1,rfl,hlt,by omega,rfl⟩
   ·rename_i h10 hb
    have hS:=HS.out
    have h10:¬ bi c=10:=of_decide_eq_false h10
    have h35:¬ bi c=35:=of_decide_eq_false hc
    rw[gD b hx,if_neg h10,if_neg h35,if_neg (by intro hh;simp only[Bool.or_eq_false_iff,decide_eq_false_iff_not] at hb;exact hh.elim (fun h=>by((simp[h] at hb;done))) fun h=>h.elim hb.1.2 hb.2)] at hS
    exact l_0 (k:=⟨(),(),rfl,rfl,aD (by rw[← hS])⟩)
  ·repeat'(first|(with_reducible first|apply AW.seq|apply AW.ret|apply AW.label|apply ae|apply aq|apply y_e|refine ah ?_)|((with_reducible apply ak);first|refine t_v AS.v ?_|refine t_v (by exact bn (hP:=gC hs)) ?_)|((with_reducible refine au ?_);((refine aj (fun hc=>?_) (fun hc=>?_);all_goals(try(exfalso;simp[*] at hc;done)))))|fail)
   have hS:=HS.out
   rw[rD b (by rw[← bZ];omega)] at hS
   exact l_0 (k:=⟨(),(),rfl,rfl,aD (by rw[← hS])⟩)
end
section
variable {ρ:Operand→Option V} {H:Nat→Option HO} {d:Option Nat} {ty:TypeId} {pos:String} {af:Array Edge} {gu:Option (Nat×Bool)} {x lo hi:Operand}
theorem tF {s:ByteArray} {j:Nat} {q:Int} (hx:Ev ρ x (.c (.sc (.string s))):=by exact az) (hhi:Ev ρ hi (.c (.sc (.int .i64 q))):=by exact az) (hq:q=(j:Nat):=by first|exact(show(1:Int)=((1:Nat):Int) from rfl)|rfl) (hj:j≤s.size:=by omega) (hs:s.size≤9223372036854775807:=by omega):AS Tryz.prog ρ H ⟨d,.slice 9 x none (some hi) none,ty,pos,af,gu⟩ ⟨.c (.sc (.string (s.extract 0 j))),[],[]⟩:=by
 subst hq
 refine .still (fun g hg w=>?_) fun _=>.sc (decide_eq_true ?_)
 ·have h1:=hg x (by simp[Op.operands]) _ _ hx .sc
  have h3:=hg hi (by simp[Op.operands]) _ _ hhi .sc
  unfold execOp
  simp only[h1,h3,Option.map_some,Option.map_none]
  have e2:((j:Int)≤s.size):=by omega
  simp[Instr.sliceAt,Instr.slice,Instr.sliceBounds,Instr.sliceBound,run_underlying oB,asIntOf,e2,hj]
 ·rw[ByteArray.size_extract];omega
theorem Ht {s:ByteArray} {i:Nat} {p:Int} (hx:Ev ρ x (.c (.sc (.string s))):=by exact az) (hlo:Ev ρ lo (.c (.sc (.int .i64 p))):=by exact az) (hp:p=(i:Nat):=by rfl) (hi:i≤s.size:=by omega) (hs:s.size≤9223372036854775807:=by omega):AS Tryz.prog ρ H ⟨d,.slice 9 x (some lo) none none,ty,pos,af,gu⟩ ⟨.c (.sc (.string (s.extract i s.size))),[],[]⟩:=by
 subst hp
 refine .still (fun g hg w=>?_) fun _=>.sc (decide_eq_true ?_)
 ·have h1:=hg x (by simp[Op.operands]) _ _ hx .sc
  have h2:=hg lo (by simp[Op.operands]) _ _ hlo .sc
  unfold execOp
  simp only[h1,h2,Option.map_some,Option.map_none]
  have e1:((i:Int)≤s.size):=by omega
  simp[Instr.sliceAt,Instr.slice,Instr.sliceBounds,Instr.sliceBound,run_underlying oB,asIntOf,e1,hi]
 ·rw[ByteArray.size_extract];omega
end
theorem zV (s p:ByteArray):Pure Tryz.prog 325 [.c (sS s),.c (sS p)] (.c (sB (decide (p.size≤s.size)&&decide (s.extract 0 p.size=p)))):=by
 by_cases h:p.size≤s.size
 ·refine fn2 (fn:=Tryz.f325) Tryz.call325 Tryz.func325 rfl Tryz.ntmps325 Tryz.results325 rfl (by rfl) ?_
  refine AW.fact (t:=0) rfl (fun κ w x hr=>lD hr) fun hn=>?_
  repeat'(first|(with_reducible first|apply AW.seq|apply AW.ret|apply ae|apply y_e|refine ah ?_)|((with_reducible apply ak);refine t_v AS.v ?_)|((with_reducible apply bc);first|refine t_f ?_|refine t_m (hs:=fun hg=>AS.v) (k:=?_)|refine t_m (hs:=fun hg=>(by exact tF)) (k:=?_))|((with_reducible refine aA ?_);refine k_b ?_)|fail)
  rw[show decide ((p.size:Int)≤s.size)=decide (p.size≤s.size) from decide_eq_decide.2 (by omega)]
 ·refine fn2 (fn:=Tryz.f325) Tryz.call325 Tryz.func325 rfl Tryz.ntmps325 Tryz.results325 rfl (by rfl) ?_
  refine AW.fact (t:=0) rfl (fun κ w x hr=>lD hr) fun hn=>?_
  refine AW.fact (t:=1) rfl (fun κ w x hr=>lD hr) fun hn2=>?_
  repeat'(first|(with_reducible first|apply AW.seq|apply AW.ret|apply ae|apply y_e|refine ah ?_)|((with_reducible apply ak);refine t_v AS.v ?_)|((with_reducible apply bc);first|refine t_f ?_|refine t_m (hs:=fun hg=>AS.v) (k:=?_)|refine t_m (hs:=fun hg=>(by exact tF)) (k:=?_))|((with_reducible refine aA ?_);refine k_b ?_)|fail)
  rw[decide_eq_false h];rfl
theorem Cg (s p:ByteArray):Pure Tryz.prog 282 [.c (sS s),.c (sS p)] (.c (sB (decide (p.size≤s.size)&&decide (s.extract 0 p.size=p)))):=by
 refine fn2 (fn:=Tryz.f282) Tryz.call282 Tryz.func282 rfl Tryz.ntmps282 Tryz.results282 rfl (by rfl) ?_
 repeat'(first|(with_reducible first|apply AW.seq|apply AW.ret|apply ae|apply y_e|refine ah ?_)|((with_reducible apply ak);first|refine t_v AS.v ?_|refine t_v (by exact ag (hP:=zV s p)) ?_)|((with_reducible refine aA ?_);refine k_b ?_)|fail)
 rfl
def mk2:List ByteArray:=[⟨#[61,61]⟩,⟨#[33,61]⟩,⟨#[38,38]⟩,⟨#[124,124]⟩]
theorem mG {a b:ByteArray} (h:a.data.toList=b.data.toList):a=b:=by
 obtain ⟨⟨a⟩⟩:=a
 obtain ⟨⟨b⟩⟩:=b
 simp only at h
 rw[h]
theorem MH {s m:ByteArray} (hm:m.size=2):(decide (m.size≤s.size)&&decide (s.extract 0 m.size=m))=decide (s.data.toList.take 2=m.data.toList):=by
 rw[hm]
 by_cases h:2≤s.size
 ·rw[decide_eq_true h,Bool.true_and,decide_eq_decide]
  have e:(s.extract 0 2).data.toList=s.data.toList.take 2:=by rw[dx _ _ _ h];rfl
  exact⟨fun h1=>by rw[← e,h1],fun h1=>mG (by rw[e,h1])⟩
 ·rw[decide_eq_false h,Bool.false_and]
  refine(decide_eq_false fun e=>h ?_).symm
  have:=congrArg List.length e
  rw[List.length_take,←bZ,←bZ] at this
  omega
theorem v8:∀ m∈mk2,m.size=2:=by decide
theorem ra:mk2.map (fun m=>m.data.toList)=marks2:=by decide
theorem Hf (s:ByteArray) (hs:s.size≤65536):Pure Tryz.prog 211 [.c (sS s)] (.c (sS (s.extract 0 (eC s.data.toList)))):=by
 refine fn1 (fn:=Tryz.f211) Tryz.call211 Tryz.func211 rfl Tryz.ntmps211 Tryz.results211 rfl (by rfl) ?_
 repeat'(first|(with_reducible first|apply AW.seq|apply AW.block|apply AW.skip|apply AW.ret|apply AW.exit|apply ae|apply aJ|apply aW|apply y_e|refine ah ?_)|((with_reducible apply ak);refine t_v AS.v ?_)|((with_reducible apply bc);refine t_f ?_)|((with_reducible refine au ?_);refine cj ?_)|((with_reducible refine aA ?_);refine k_s ?_)|fail)
 refine AW.loop (fun n σ=>∃ j:Nat,n=4 - j∧j≤4∧(∀ m∈mk2.take j,¬ s.data.toList.take 2=m.data.toList)∧σ=mk [(7,.c (sI (j:Int))),(6,.c (sI 4)),(5,.c (bA mk2)),(2,.c (sS ⟨#[]⟩)),(0,.c (sS s))] []) 4 ?_ ?_
 ·exact⟨_,wkA,0,rfl,Nat.zero_le _,fun m hm=>(by cases hm),rfl⟩
 rintro n σ ⟨j,rfl,hj,hno,rfl⟩
 by_cases hlt:j<4
 ·obtain ⟨m,hm⟩:∃ m,mk2[j]? =some m:=⟨_,List.getElem?_eq_getElem hlt⟩
  have hin:m∈mk2:=List.mem_of_getElem? hm
  have hg:(mk2.map oneS)[j]? =some (oneS m):=by rw[List.getElem?_map,hm];rfl
  have hp:=Cg s m
  rw[MH (v8 m hin)] at hp
  have HN:=Lib.hid hno
  clear hno
  repeat'(first|(with_reducible first|apply AW.seq|apply AW.block|apply AW.skip|apply AW.ret|apply ae|apply aq|apply aw|apply aG|apply y_e|refine ah ?_)|((with_reducible apply ak);first|refine t_v AS.v ?_|refine t_v (by exact ag (hP:=hp)) ?_)|((with_reducible refine au ?_);((refine aj (fun hc=>?_) (fun hc=>?_);all_goals(try(exfalso;revert hc;simp;omega)))))|((with_reducible refine aA ?_);refine k_s ?_)|fail)
  ·have h:=of_decide_eq_true hc
   have h2:2≤s.size:=by
    have:=congrArg List.length h
    rw[List.length_take,←bZ,←bZ,v8 m hin] at this
    omega
   have hN:eC s.data.toList=2:=by
    unfold eC
    rw[h,if_pos (List.contains_iff_mem.2 (ra▸List.mem_map.2 ⟨m,hin,rfl⟩))]
   rw[hN]
   exact mG (by rw[dx _ _ _ h2,←h];rfl)
  ·refine⟨_,_,(show 4 - (j+1)<4 - j by omega),wkA,j+1,rfl,hlt,fun x hx=>?_,rfl⟩
   rw[List.take_add_one,hm] at hx
   rcases List.mem_append.1 hx with hx|hx
   ·exact HN.out x hx
   ·have:x=m:=by simpa using hx
    subst this
    exact of_decide_eq_false hc
 ·have e:j=4:=by omega
  subst e
  have hno:¬ marks2.contains (s.data.toList.take 2)=true:=by
   rw[← ra,List.contains_iff_mem,List.mem_map]
   rintro ⟨m,h1,h2⟩
   exact hno m h1 h2.symm
  by_cases h0:s.size=0
  ·have e0:s.data.toList=[]:=List.eq_nil_of_length_eq_zero (by rw[← bZ];exact h0)
   have e:s=⟨#[]⟩:=mG e0
   subst e
   repeat'(first|(with_reducible first|apply AW.seq|apply AW.block|apply AW.skip|apply AW.ret|apply AW.exit|apply ae|apply aJ|apply aW|apply y_e|refine ah ?_)|((with_reducible apply ak);refine t_v AS.v ?_)|((with_reducible apply bc);refine t_f ?_)|((with_reducible refine au ?_);refine cj ?_)|((with_reducible refine aA ?_);refine k_s ?_)|fail)
   rfl
  ·obtain ⟨c,hc⟩:=get_at (src:=s) (k:=0) (by omega)
   have ib:Pure Tryz.prog 283 [.c (sS ⟨#[123,125,40,41,59,58,44,46,45,126,42,33,94]⟩),.c (byC c)] (.c (sI (Lib.indexByte marks1 c))):=pe _ c
   have hne:¬ s=⟨#[]⟩:=fun e=>h0 (by rw[e];rfl)
   have hN:eC s.data.toList=if(0:Int)≤Lib.indexByte marks1 c then 1 else 0:=by
    unfold eC
    rw[if_neg hno]
    obtain ⟨h1,h2⟩:=List.getElem?_eq_some_iff.1 hc
    cases hL:s.data.toList with
    |nil=>rw[hL] at h1;cases h1
    |cons d L=>
     have hd:d=c:=by rw[← h2];simp[hL]
     subst hd
     simp only[Lib.contains_iff_indexByte,decide_eq_true_eq]
   rw[hN]
   clear hN hno
   repeat'(first|(with_reducible first|apply AW.seq|apply AW.skip|apply AW.ret|apply AW.exit|apply ae|apply aq|apply aJ|apply aW|apply y_e|refine ah ?_)|((with_reducible apply ak);first|refine t_v AS.v ?_|refine t_v (by exact tF) ?_)|((with_reducible apply bc);first|refine t_m (hs:=fun hg=>AS.v) (k:=?_)|refine t_m (hs:=fun hg=>(by exact ag (hP:=ib))) (k:=?_))|((with_reducible refine au ?_);first|refine cj ?_|(refine aj (fun hc=>?_) (fun hc=>?_)))|((with_reducible refine aA ?_);refine k_s ?_)|fail)
   ·simp at hc
    rw[if_pos hc.2]
   ·simp[hne] at hc
    rw[if_neg (by omega)]
    exact mG (by rw[dx _ _ _ (Nat.zero_le _)];rfl)
def iw (src:ByteArray) (k:Nat):(Tok×Fa)×Nat:=
 if jv (bi ((src.data.toList.drop k).getD 0 0)) then((⟨1,(iC src k).1.1,cO src.data.toList k⟩,(iC src k).1.2),(iC src k).2)
 else if gE (bi ((src.data.toList.drop k).getD 0 0)) then((⟨2,(mi src k).1.1,cO src.data.toList k⟩,(mi src k).1.2),(mi src k).2)
 else if bi ((src.data.toList.drop k).getD 0 0)=34 then((⟨3,(iv src k).1.1,cO src.data.toList k⟩,(iv src k).1.2),(iv src k).2)
 else if eC (src.data.toList.drop k)=0 then((⟨4,⟨#[]⟩,cO src.data.toList k⟩,fl0 9 (cO src.data.toList k)),k)
 else((⟨4,src.extract k (k+eC (src.data.toList.drop k)),cO src.data.toList k⟩,Fa.zero),k+eC (src.data.toList.drop k))
theorem vS (t:Tok) (f:Fa):(V.tup [.agg (tkC t),.agg (faC f)]).un= .tup [.agg (tkC t),.agg (faC f)]:=by simp only[V.un,unV,unA]
section
variable {src:ByteArray} {k:Nat}
theorem yI (s:ByteArray) (k:Nat):(s.extract k s.size).data.toList=s.data.toList.drop k:=by
 rw[dx _ _ _ (Nat.le_refl _)]
 exact List.take_of_length_le (by rw[List.length_drop,←bZ];exact Nat.le_refl _)
theorem DS (hs:src.size≤65536) (hk:k<src.size):MX Tryz.prog 146 [(0,skO src k)] [.c (.ptr 0 0)] (.ok (iw src k):Except Fa ((Tok×Fa)×Nat)) (fun r=>.tup [.agg (tkC r.1),.agg (faC r.2)]) (fun j=>[(0,skO src j)]) pvS:=by
 obtain ⟨c,hc⟩:=get_at hk
 have nx:=ow hs hc
 have s1:=(H5 (k:=k) hs (Nat.le_of_lt hk)).ok (iC src k).1 (iC src k).2 rfl
 have s2:=(Av hs hc).ok (mi src k).1 (mi src k).2 rfl
 have s3:=(H7 hs hk).ok (iv src k).1 (iv src k).2 rfl
 have mp:=Hf (src.extract k src.size) (by rw[ByteArray.size_extract];omega)
 rw[yI] at mp
 have eT:iw src k=if jv (bi c) then((⟨1,(iC src k).1.1,cO src.data.toList k⟩,(iC src k).1.2),(iC src k).2)
  else if gE (bi c) then((⟨2,(mi src k).1.1,cO src.data.toList k⟩,(mi src k).1.2),(mi src k).2)
  else if bi c=34 then((⟨3,(iv src k).1.1,cO src.data.toList k⟩,(iv src k).1.2),(iv src k).2)
  else if eC (src.data.toList.drop k)=0 then((⟨4,⟨#[]⟩,cO src.data.toList k⟩,fl0 9 (cO src.data.toList k)),k)
  else((⟨4,src.extract k (k+eC (src.data.toList.drop k)),cO src.data.toList k⟩,Fa.zero),k+eC (src.data.toList.drop k)):=by unfold iw;rw[getD_at hc]
 rw[eT]
 clear eT
 have hm:=uZ (src.data.toList.drop k)
 rw[List.length_drop,←bZ] at hm
 have hx:(src.extract k src.size).extract 0 (eC (src.data.toList.drop k))=src.extract k (k+eC (src.data.toList.drop k)):=mG (by
  rw[dx _ _ _ (by rw[ByteArray.size_extract];omega),yI,dx _ _ _ (by omega)]
  simp)
 rw[hx] at mp
 have hsz:(src.extract k (k+eC (src.data.toList.drop k))).size=eC (src.data.toList.drop k):=by rw[ByteArray.size_extract];omega
 have w:=(oz (k:=k) (n:=eC (src.data.toList.drop k)) hs (by omega)).ok _ _ rfl
 clear hx hc
 generalize eC (src.data.toList.drop k)=m at *
 generalize iC src k=rn at *
 generalize mi src k=ru at *
 generalize iv src k=rt at *
 generalize hT:src.extract k (k+m)=t at *
 rw[← hsz] at w
 clear hT
 refine MXA (fn:=Tryz.f146) Tryz.call146 Tryz.func146 rfl Tryz.ntmps146 Tryz.results146 rfl rfl ?_
 repeat'(first|(with_reducible first|apply AW.seq|apply AW.block|apply AW.skip|apply AW.ret|apply ae|apply aw|apply y_e|refine ah ?_|refine bb ?_)|((with_reducible apply ak);first|refine t_v AS.v ?_|refine t_v (by first|exact ag (hP:=rF c)|exact ag (hP:=qj c)|exact ag (hP:=mp)|exact bn (hP:=nx)|exact bn (hP:=jm _)|exact Ht) ?_|refine t_w AS.w ?_|refine t_w (by first|exact ch (hP:=s1)|exact ch (hP:=s2)|exact ch (hP:=s3)|exact ch (hP:=w)) ?_)|((with_reducible apply aV);refine t_s AS.s ?_)|((with_reducible refine au ?_);((refine aj (fun hc=>?_) (fun hc=>?_))))|((with_reducible refine bo ?_);refine MF (k:=?_))|(refine⟨by decide +kernel,?_⟩)|fail)
 ·exact⟨_,_,by rw[if_pos hc],vS _ _,aD rfl⟩
 ·rename_i h1
  have hc:gE (bi c)=true:=hc
  exact⟨_,_,by rw[if_neg (by rw[h1];decide),if_pos hc],vS _ _,aD rfl⟩
 ·rename_i h1 h2
  have h2:gE (bi c)=false:=h2
  have hc:bi c=34:=of_decide_eq_true hc
  exact⟨_,_,by rw[if_neg (by rw[h1];decide),if_neg (by rw[h2];decide),if_pos hc],vS _ _,aD rfl⟩
 ·rename_i h1 h2 h3
  have h2:gE (bi c)=false:=h2
  have h3:¬ bi c=34:=of_decide_eq_false h3
  have e:t=⟨#[]⟩:=of_decide_eq_true hc
  have em:m=0:=by rw[← hsz,e];rfl
  subst em e
  exact⟨(⟨4,⟨#[]⟩,cO src.data.toList k⟩,fl0 9 (cO src.data.toList k)),k,by rw[if_neg (by rw[h1];decide),if_neg (by rw[h2];decide),if_neg h3,if_pos rfl],vS _ _,aD rfl⟩
 ·rename_i h1 h2 h3
  have h2:gE (bi c)=false:=h2
  have h3:¬ bi c=34:=of_decide_eq_false h3
  have e:¬ t=⟨#[]⟩:=of_decide_eq_false hc
  have em:¬ m=0:=fun h0=>by
   have e0:t.data.toList=[]:=List.eq_nil_of_length_eq_zero (by rw[← bZ,hsz];exact h0)
   exact e (mG e0)
  exact⟨(⟨4,t,cO src.data.toList k⟩,Fa.zero),k+m,by rw[if_neg (by rw[h1];decide),if_neg (by rw[h2];decide),if_neg h3,if_neg em],vS _ _,aD (by rw[hsz])⟩
theorem xT {c:Int} {off:Nat} (hr:fT (src.data.toList.drop k)= .err c off) (hk:k<src.size):(iw src k).1.2=fl0 c (cO src.data.toList (k+off)):=by
 unfold fT at hr
 unfold iw
 split at hr
 ·rename_i h1
  rw[if_pos h1]
  unfold nG at hr
  unfold iC
  split at hr
  ·rename_i h;injection hr with e1 e2;subst e1 e2;rw[if_pos h];rfl
  ·cases hr
 ·rename_i h1
  rw[if_neg h1]
  split at hr
  ·rename_i h2
   rw[if_pos h2]
   unfold vf at hr
   unfold mi
   split at hr
   ·rename_i h;injection hr with e1 e2;subst e1 e2;rw[if_pos h];rfl
   ·rename_i h
    split at hr
    ·rename_i h';injection hr with e1 e2;subst e1 e2;rw[if_neg h,if_pos h'];rfl
    ·cases hr
  ·rename_i h2
   rw[if_neg h2]
   split at hr
   ·rename_i h3
    rw[if_pos h3]
    unfold Tk.textR at hr
    rw[HJ] at hr
    have hl:(src.data.toList.drop (k+1)).length=src.size - (k+1):=by rw[List.length_drop,←bZ]
    unfold iv
    split at hr
    ·rename_i h;injection hr with e1 e2;subst e1 e2;rw[if_pos (by omega)];rfl
    ·rename_i h
     rw[if_neg (by omega)]
     split at hr
     ·rename_i h';injection hr with e1 e2;subst e1 e2;rw[if_pos h',←Nat.add_assoc]
     ·rename_i h'
      rw[if_neg h']
      split at hr
      ·rename_i h'';injection hr with e1 e2;subst e1 e2;rw[if_pos h''];rfl
      ·cases hr
   ·rename_i h3
    rw[if_neg h3]
    unfold mf at hr
    split at hr
    ·rename_i h;injection hr with e1 e2;subst e1 e2;rw[if_pos h];rfl
    ·cases hr
theorem AG {kd:Int} {n:Nat} (hr:fT (src.data.toList.drop k)= .ok kd n) (hk:k<src.size):iw src k=((⟨kd,AE src k kd n,cO src.data.toList k⟩,Fa.zero),k+n):=by
 unfold fT at hr
 unfold iw
 split at hr
 ·rename_i h1
  rw[if_pos h1]
  unfold nG at hr
  unfold iC
  split at hr
  ·cases hr
  ·rename_i h;injection hr with e1 e2;subst e1 e2;rw[if_neg h];rfl
 ·rename_i h1
  rw[if_neg h1]
  split at hr
  ·rename_i h2
   rw[if_pos h2]
   unfold vf at hr
   unfold mi
   split at hr
   ·cases hr
   ·rename_i h
    split at hr
    ·cases hr
    ·rename_i h';injection hr with e1 e2;subst e1 e2;rw[if_neg h,if_neg h'];rfl
  ·rename_i h2
   rw[if_neg h2]
   split at hr
   ·rename_i h3
    rw[if_pos h3]
    unfold Tk.textR at hr
    rw[HJ] at hr
    have hl:(src.data.toList.drop (k+1)).length=src.size - (k+1):=by rw[List.length_drop,←bZ]
    unfold iv
    split at hr
    ·cases hr
    ·rename_i h
     rw[if_neg (by omega)]
     split at hr
     ·cases hr
     ·rename_i h'
      rw[if_neg h']
      split at hr
      ·cases hr
      ·rename_i h'';injection hr with e1 e2;subst e1 e2;rw[if_neg h'']
       unfold AE
       rw[if_pos rfl,show k+(tw ptB (src.data.toList.drop (k+1))+2) - 1=k+1+tw ptB (src.data.toList.drop (k+1)) by omega,show k+(tw ptB (src.data.toList.drop (k+1))+2)=k+1+tw ptB (src.data.toList.drop (k+1))+1 by omega]
   ·rename_i h3
    rw[if_neg h3]
    unfold mf at hr
    split at hr
    ·cases hr
    ·rename_i h;injection hr with e1 e2;subst e1 e2;rw[if_neg h];rfl
end
def JP:Except Fa (List Tok)→V
 | .error f=>.tup [.c .nil,.agg (faC f)]
 | .ok ts=>.tup [.c (.lst none 4 (ts.map tkC)),.agg (faC Fa.zero)]
theorem rG (f:Fa):(V.agg (faC f)).un= .agg (faC f):=by simp only[V.un,unA]
theorem M4 (t:Option Nat) (ts:List Tok):(V.c (.lst t 4 (ts.map tkC))).un= .c (.lst none 4 (ts.map tkC)):=by simp only[V.un,C.un,unA]
theorem D9 (d:Nat→Bool) {t:Nat} (l:List Tok) (h:d t=true):V.ok d (.c (.lst (some t) 4 (l.map tkC)))=true:=by
 show(d t&&bB d (l.map tkC))=true
 rw[h,bW l fun x _=>gk d x];rfl
theorem IB {acc:List Tok} {t:Tok} {x:Except Fa (List Tok)}:((x>>=fun ts=>.ok ([t]++ts))>>=fun ts=>.ok (acc++ts))=(x>>=fun ts=>(.ok ((acc++[t])++ts):Except Fa (List Tok))):=by
 cases x with
 |error e=>rfl
 |ok ts=>simp[aa]
theorem tq (src:ByteArray):Pure Tryz.prog 77 [.c (sS src)] (JP (gf src)):=by
 by_cases hs:65536<src.size
 ·have e:gf src= .error (fl0 4 ⟨0,0⟩):=if_pos hs
  rw[e]
  clear e
  show Pure _ _ _ (.tup [.c .nil,.agg (faC (fl0 4 ⟨0,0⟩))])
  refine fn1 (fn:=Tryz.f77) Tryz.call77 Tryz.func77 rfl Tryz.ntmps77 Tryz.results77 rfl (by rfl) ?_
  refine AW.fact (t:=0) rfl (fun κ w x hr=>lD hr) fun hn=>?_
  have hI:(65536:Int)<src.size:=by omega
  repeat'(first|(with_reducible first|apply AW.seq|apply AW.block|apply AW.skip|apply AW.ret|apply ae|apply aq|apply y_e|refine ah ?_)|((with_reducible apply ak);first|refine t_v AS.v ?_|refine t_w AS.w ?_)|((with_reducible apply aV);refine t_s AS.s ?_)|((with_reducible refine au ?_);((refine aj (fun hc=>?_) (fun hc=>?_);all_goals(try(exfalso;simp[*] at hc;done)))))|fail)
  exact uL rfl (rG _)
 ·have e:gf src=kV src (src.size+1) 0:=if_neg hs
  rw[e]
  clear e
  have hs:src.size≤65536:=by omega
  generalize hsp:kV src (src.size+1) 0=sp
  have hR:V.ok noN (JP sp)=true:=by cases sp <;> simp[JP,V.ok,okV,okA,C.ok]
  have HSP:=Lib.hid hsp
  clear hsp
  refine fn1 (fn:=Tryz.f77) Tryz.call77 Tryz.func77 rfl Tryz.ntmps77 Tryz.results77 rfl hR ?_
  have hI:¬ (65536:Int)<src.size:=by omega
  repeat'(first|(with_reducible first|apply AW.seq|apply AW.block|apply AW.skip|apply AW.ret|apply ae|apply aq|apply y_e|refine ah ?_)|((with_reducible apply ak);first|refine t_v AS.v ?_|refine t_w AS.w ?_)|((with_reducible apply aV);refine t_s AS.s ?_)|((with_reducible refine au ?_);((refine aj (fun hc=>?_) (fun hc=>?_);all_goals(try(exfalso;simp[*] at hc;done)))))|fail)
  refine yT tkC 5 1002 99 4 rfl rfl ?_
  refine AW.loop (fun m σ=>∃ (k:Nat) (acc:List Tok),k≤src.size∧acc.length≤k∧src.size<k+m∧Hid ((kV src m k>>=fun ts=>.ok (acc++ts))=sp)∧σ=mk [(5,.c (.lst (some 1002) 4 (acc.map tkC))),(4,.c (.ptr 4 0)),(3,.c (.ptr 3 0)),(2,.c .nil),(0,.c (sS src))] [(1002,.row 99 4 acc.length),(4,skO src k),(3,.obj 30 (faC Fa.zero))]) (src.size+1) ?_ ?_
  ·exact⟨_,wkA,0,[],Nat.zero_le _,Nat.zero_le _,by omega,Lib.hid (by rw[HSP.out];cases sp <;> rfl),rfl⟩
  clear HSP
  rintro m σ ⟨k,acc,hk,ha,hm,HS,rfl⟩
  have hSK:=Tk.skipL_le false (src.data.toList.drop k)
  rw[List.length_drop,←bZ] at hSK
  have bl:=(Ao (k:=k) hs hk).ok _ _ rfl
  obtain ⟨m,rfl⟩:∃ n,m=n+1:=⟨m - 1,by omega⟩
  have hsp:=HS.out
  clear HS
  rw[kV] at hsp
  generalize hj:k+skipL false (src.data.toList.drop k)=j at *
  have hj2:k≤j∧j≤src.size:=by omega
  clear hSK hj
  by_cases hlt:src.size≤j
  ·have ej:j=src.size:=by omega
   subst ej
   rw[if_pos (Nat.le_refl _),aa] at hsp
   subst hsp
   repeat'(first|(with_reducible first|apply AW.seq|apply AW.block|apply AW.ret|apply ae|apply aq|apply aG|apply y_e|refine ah ?_)|((with_reducible apply ak);first|refine t_v AS.v ?_|refine t_v (by exact bn (hP:=gC hs)) ?_|refine t_w AS.w ?_|refine t_w (by exact ch (hP:=bl)) ?_)|((with_reducible apply aV);refine t_s AS.s ?_)|((with_reducible refine au ?_);((refine aj (fun hc=>?_) (fun hc=>?_);all_goals(try(exfalso;simp[*] at hc;done)))))|fail)
   exact uL (M4 _ _) (rG _)
  ·rw[if_neg hlt] at hsp
   have tk:=(DS (k:=j) hs (by omega)).ok (iw src j).1 (iw src j).2 rfl
   cases ho:fT (src.data.toList.drop j) with
   |err c off=>
    rw[ho] at hsp
    have hsp:(.error (fl0 c (cO src.data.toList (j+off))):Except Fa (List Tok))=sp:=hsp
    subst hsp
    have e2:=xT ho (by omega)
    rw[e2] at tk
    generalize (iw src j).2=j2 at tk
    generalize (iw src j).1.1=t at tk
    have h0:=ri ho
    clear ho e2
    repeat'(first|(with_reducible first|apply AW.seq|apply AW.block|apply AW.skip|apply AW.ret|apply ae|apply aq|apply aw|apply aG|apply y_e|refine ah ?_|refine bb ?_)|((with_reducible apply ak);first|refine t_v AS.v ?_|refine t_v (by exact bn (hP:=gC hs)) ?_|refine t_w AS.w ?_|refine t_w (by first|exact ch (hP:=bl)|exact ch (hP:=tk)) ?_)|((with_reducible apply aV);refine t_s AS.s ?_)|((with_reducible refine au ?_);first|refine cj ?_|(refine aj (fun hc=>?_) (fun hc=>?_);all_goals(try(exfalso;simp[*] at hc;done))))|(refine⟨by decide +kernel,?_⟩)|fail)
    ·exact uL rfl (rG _)
    ·exfalso
     rw[Bool.not_eq_false'] at hc
     exact h0 (of_decide_eq_true hc)
   |ok kd n=>
    rw[ho] at hsp
    simp only[IB] at hsp
    rw[AG ho (by omega)] at tk
    obtain ⟨h1,h2⟩:=mo _ _ _ (by rw[List.length_drop,←bZ];omega) ho
    rw[List.length_drop,←bZ] at h2
    have HS:=Lib.hid hsp
    clear hsp ho
    repeat'(first|(with_reducible first|apply AW.seq|apply AW.block|apply AW.skip|apply AW.ret|apply ae|apply aq|apply aw|apply aG|apply y_e|refine ah ?_|refine bb ?_)|((with_reducible apply ak);first|refine t_v AS.v ?_|refine t_v (by exact bn (hP:=gC hs)) ?_|refine t_w AS.w ?_|refine t_w (by first|exact ch (hP:=bl)|exact ch (hP:=tk)) ?_)|((with_reducible apply aV);refine t_s AS.s ?_)|((with_reducible refine au ?_);first|refine cj ?_|(refine aj (fun hc=>?_) (fun hc=>?_);all_goals(try(exfalso;simp[*] at hc;done))))|(refine⟨by decide +kernel,?_⟩)|fail)
    exact⟨m,_,Nat.lt_succ_self m,wkA,j+n,acc++[⟨kd,AE src j kd n,cO src.data.toList j⟩],by omega,by simp;omega,by omega,HS,rfl⟩
end Am
namespace Am
open Tk Go.RowKit
set_option maxRecDepth 100000
set_option maxHeartbeats 1000000
section
variable {ρ:Operand→Option V} {H:Nat→Option HO} {d:Option Nat} {ty:TypeId} {pos:String} {af:Array Edge} {gu:Option (Nat×Bool)} {x i:Operand}
end
section
variable {P:Program} {σ:St} {t0 t1 t2 t3:Nat} {v0 v1 v2 v3 u0 u1 u2 u3:V}
end
section
variable {src:ByteArray} {k:Nat}
end
end Am
namespace Am
open Tk Go.RowKit
set_option maxRecDepth 100000
set_option maxHeartbeats 1000000
section
variable {src:ByteArray} {k:Nat}
end
end Am
namespace Am
open Tk
set_option maxRecDepth 100000
theorem Aq {l r:List UInt8} (o:Nat) (hq:quoB l=true):dS o ((34 :: (l++[34]))++r)=LR.app [⟨3,l,o⟩] (dS (o+(l.length+2)) r):=by
 unfold quoB at hq
 simp only[Bool.and_eq_true,decide_eq_true_eq] at hq
 have ht:tw ptB (l++34 :: r)=l.length:=xU hq.2 (.inr ⟨34,r,rfl,by decide⟩)
 have e:(34 :: (l++[34]))++r=34 :: (l++34 :: r):=by simp
 have h1:fT (34 :: (l++34 :: r))= .ok 3 (l.length+2):=by
  unfold fT
  rw[show(34 :: (l++34 :: r):List UInt8).getD 0 0=34 from rfl,if_neg (by decide),if_neg (by decide),if_pos (by decide)]
  unfold textR
  rw[show(34 :: (l++34 :: r):List UInt8).drop 1=l++34 :: r from rfl,ht,if_neg (by simp),if_neg,if_neg (by omega)]
  rw[show(l++34 :: r).getD l.length 0=34 by simp]
  decide
 rw[e,my,vF (by decide) (by decide) (by decide) (by decide),if_neg (by simp),List.drop_zero,h1]
 dsimp only
 have e2:gh 3 (l.length+2) (34 :: (l++34 :: r))=l:=by
  unfold gh
  rw[if_pos rfl]
  show(l++34 :: r).take (l.length+2 - 2)=l
  simp
 have e3:(34 :: (l++34 :: r):List UInt8).drop (0+(l.length+2))=r:=by
  rw[Nat.zero_add,←e]
  exact List.drop_left' (by simp)
 rw[e2,e3,Nat.add_zero]
end Am
namespace Am
open Tk
set_option maxRecDepth 100000
set_option maxHeartbeats 4000000
abbrev kN (s:ByteArray):Tok:=⟨1,s,⟨0,0⟩⟩
abbrev kI (s:ByteArray):Tok:=⟨2,s,⟨0,0⟩⟩
abbrev kS (s:ByteArray):Tok:=⟨3,s,⟨0,0⟩⟩
abbrev kM (s:ByteArray):Tok:=⟨4,s,⟨0,0⟩⟩
def hM (s:ByteArray):List Tok→Bool
 |[]=>false
 |t :: _=>decide (t.kind=4)&&decide (t.text=s)
def hW (s:ByteArray):List Tok→Bool
 |[]=>false
 |t :: _=>decide (t.kind=1)&&decide (t.text=s)
section
variable {l:List Tok} {k:Ix l} {t:Tok} {r:List Tok} {s:ByteArray}
theorem gH (h:l.drop k.1=t :: r):tk k=t:=by
 have this:(l.drop k.1)[0]? =l[k.1+0]?:=List.getElem?_drop
 rw[h] at this
 exact(List.getElem?_eq_some_iff.1 this.symm).2
theorem aO (h:l.drop k.1=t :: r) (hr:r≠[]):l.drop (nx k).1=r:=by
 cases r with
 |nil=>exact absurd rfl hr
 |cons u r=>
  have hl:k.1+1<l.length:=by
   have:=congrArg List.length h
   rw[List.length_drop] at this
   simp only[List.length_cons] at this
   omega
  have e:(nx k).1=k.1+1:=by unfold nx;rw[dif_pos hl]
  rw[e,←List.drop_drop,h];rfl
theorem mJ {A:List Tok} (h:l.drop k.1=A):A.length≤l.length:=by rw[← h,List.length_drop];omega
theorem cG (h:l.drop k.1=r) (s:ByteArray):isM s k=hM s r:=by
 cases r with
 |nil=>
  have:=congrArg List.length h
  rw[List.length_drop] at this
  have:=k.2
  simp at *;omega
 |cons t r=>unfold isM;rw[gH h];rfl
theorem kK (h:l.drop k.1=r) (s:ByteArray):isW s k=hW s r:=by
 cases r with
 |nil=>
  have:=congrArg List.length h
  rw[List.length_drop] at this
  have:=k.2
  simp at *;omega
 |cons t r=>unfold isW;rw[gH h];rfl
theorem cr (s:ByteArray) (r:List Tok):hM s (kM s :: r)=true:=by simp[hM]
theorem bX {s u:ByteArray} (h:(decide (u=s))=false) (r:List Tok):hM s (kM u :: r)=false:=by
 show(decide ((4:Int)=4)&&decide (u=s))=false
 rw[h,Bool.and_false]
theorem jK (s u:ByteArray) (r:List Tok):hM s (kN u :: r)=false:=rfl
theorem L7 (s u:ByteArray) (r:List Tok):hW s (kM u :: r)=false:=rfl
theorem nU (s u:ByteArray) (r:List Tok):hW s (kN u :: r)=decide (u=s):=by simp[hW]
theorem fE (h:l.drop k.1=kM s :: r):eD s k= .ok ((),nx k):=by unfold eD;rw[cG h,cr,if_pos rfl]
theorem lO (h:l.drop k.1=kN s :: r):eS s k= .ok ((),nx k):=by unfold eS;rw[kK h,nU,if_pos (by simp)]
theorem bw (h:l.drop k.1=kN s :: r) (hi:idB s=true):bY k= .ok (s,nx k):=by
 unfold bY eg
 rw[gH h,if_pos (by simp[hi])]
theorem L9 {w:ByteArray} (hi:idB s=true) (hw:idB w=false):decide (s=w)=false:=by
 rw[decide_eq_false_iff_not];intro e;rw[e,hw] at hi;cases hi
def brK (l:List ByteArray):List Tok:=kM ⟨#[123]⟩ :: (l.map kN++[kM ⟨#[125]⟩])
def coK:List ByteArray→List Tok
 |[]=>[]
 |x :: l=>kM ⟨#[44]⟩ :: kN x :: coK l
def liK:List ByteArray→List Tok
 |[]=>[]
 |x :: l=>kN x :: coK l
theorem oM:∀ (xs:List ByteArray) (n:Nat) (acc:List ByteArray) (k:Ix l),xs.length<n→r≠[]→xs.all idB=true→l.drop k.1=xs.map kN++kM ⟨#[125]⟩ :: r→∃ k',cA n acc k= .ok (acc++xs,k')∧l.drop k'.1=r
 |[],n+1,acc,k,_,hr,_,h=>by
  have h:l.drop k.1=kM ⟨#[125]⟩ :: r:=h
  refine⟨nx k,?_,aO h hr⟩
  rw[cA,cG h,cr,if_pos rfl,List.append_nil]
 |x :: xs,n+1,acc,k,hn,hr,hi,h=>by
  rw[List.all_cons,Bool.and_eq_true] at hi
  have h:l.drop k.1=kN x :: (xs.map kN++kM ⟨#[125]⟩ :: r):=h
  obtain ⟨k',e1,e2⟩:=oM xs n (acc++[x]) (nx k) (by simp at hn;omega) hr hi.2 (aO h (by simp))
  refine⟨k',?_,e2⟩
  rw[cA,cG h,jK,if_neg (by decide),bw h hi.1,aa]
  dsimp only
  rw[e1,List.append_assoc];rfl
theorem iY {xs:List ByteArray} (h0:xs≠[]) (hr:r≠[]) (hi:xs.all idB=true) (h:l.drop k.1=brK xs++r):∃ k',cH k= .ok (xs,k')∧l.drop k'.1=r:=by
 cases xs with
 |nil=>exact absurd rfl h0
 |cons x xs=>
  rw[List.all_cons,Bool.and_eq_true] at hi
  have hlen:=mJ h
  have h:l.drop k.1=kM ⟨#[123]⟩ :: kN x :: (xs.map kN++kM ⟨#[125]⟩ :: r):=by rw[h];simp[brK]
  have h1:=aO h (by simp)
  have h2:=aO h1 (by simp)
  obtain ⟨k',e1,e2⟩:=oM xs (fuel l) [x] (nx (nx k)) (by unfold fuel;simp[brK] at hlen;omega) hr hi.2 h2
  refine⟨k',?_,e2⟩
  unfold cH
  rw[fE h,aa]
  dsimp only
  rw[bw h1 hi.1,aa]
  exact e1
theorem oO:∀ (xs:List ByteArray) (n:Nat) (acc:List ByteArray) (k:Ix l),xs.length<n→r≠[]→hM ⟨#[44]⟩ r=false→xs.all idB=true→l.drop k.1=coK xs++r→∃ k',br n acc k= .ok (acc++xs,k')∧l.drop k'.1=r
 |[],n+1,acc,k,_,hr,hc,_,h=>by
  have h:l.drop k.1=r:=h
  refine⟨k,?_,h⟩
  rw[br,cG h,hc,if_neg (by decide),List.append_nil]
 |x :: xs,n+1,acc,k,hn,hr,hc,hi,h=>by
  rw[List.all_cons,Bool.and_eq_true] at hi
  have h:l.drop k.1=kM ⟨#[44]⟩ :: kN x :: (coK xs++r):=h
  have h1:=aO h (by simp)
  obtain ⟨k',e1,e2⟩:=oO xs n (acc++[x]) (nx (nx k)) (by simp at hn;omega) hr hc hi.2 (aO h1 (by simp[hr]))
  refine⟨k',?_,e2⟩
  rw[br,cG h,cr,if_pos rfl,bw h1 hi.1,aa]
  dsimp only
  rw[e1,List.append_assoc];rfl
theorem Fx (xs:List ByteArray):(coK xs).length=2*xs.length:=by
 induction xs with
 |nil=>rfl
 |cons x xs ih=>simp[coK,ih];omega
theorem jW {xs acc:List ByteArray} (hr:r≠[]) (hc:hM ⟨#[44]⟩ r=false) (hi:xs.all idB=true) (h:l.drop k.1=coK xs++r):∃ k',br (fuel l) acc k= .ok (acc++xs,k')∧l.drop k'.1=r:=
 oO xs (fuel l) acc k (by have:=mJ h;rw[List.length_append,Fx] at this;unfold fuel;omega) hr hc hi h
theorem qN {xs:List ByteArray} (h0:xs≠[]) (hr:r≠[]) (hc:hM ⟨#[44]⟩ r=false) (hi:xs.all idB=true) (h:l.drop k.1=liK xs++r):∃ k',dN k= .ok (xs,k')∧l.drop k'.1=r:=by
 cases xs with
 |nil=>exact absurd rfl h0
 |cons x xs=>
  rw[List.all_cons,Bool.and_eq_true] at hi
  have h:l.drop k.1=kN x :: (coK xs++r):=h
  obtain ⟨k',e1,e2⟩:=jW (acc:=[x]) hr hc hi.2 (aO h (by simp[hr]))
  refine⟨k',?_,e2⟩
  unfold dN
  rw[bw h hi.1,aa]
  exact e1
inductive El where
 |all|self
 |nm (s:ByteArray)
 |ex (s:ByteArray)
def El.tok:El→List Tok
 | .all=>[kM ⟨#[42]⟩]
 | .self=>[kN ⟨#[115,101,108,102]⟩]
 | .nm s=>[kN s]
 | .ex s=>[kM ⟨#[45]⟩,kN s]
def El.app (n:NS):El→NS
 | .all=>{n with all:=true}
 | .self=>{n with self:=true}
 | .nm s=>{n with names:=n.names++[s]}
 | .ex s=>{n with except:=n.except++[s]}
def El.okE (self:Bool):El→Bool
 | .all=>true
 | .self=>self
 | .nm s=>idB s
 | .ex s=>idB s
def fX (es:List El):List Tok:=(es.map El.tok).flatten
def elN (n:NS):List El:=(if n.all then[.all] else[])++n.names.map .nm++n.except.map .ex++(if n.self then[.self] else[])
theorem G0:idB ⟨#[115,101,108,102]⟩=false:=by decide
theorem rS {self:Bool} {e:El} (hk:e.okE self=true) (m:Bool) (hm:m=true∨(∀ s,e≠.ex s)) (n:NS) (hr:r≠[]) (h:l.drop k.1=e.tok++r):∃ k',fH self m n k= .ok (e.app n,k')∧l.drop k'.1=r:=by
 unfold fH
 cases e with
 |all=>
  have h:l.drop k.1=kM ⟨#[42]⟩ :: r:=h
  exact⟨nx k,by rw[cG h,cr,if_pos rfl];rfl,aO h hr⟩
 |self=>
  have h:l.drop k.1=kN ⟨#[115,101,108,102]⟩ :: r:=h
  have hk:self=true:=hk
  exact⟨nx k,by rw[cG h,jK,if_neg (by decide),kK h,nU,hk,if_pos (by simp)];rfl,aO h hr⟩
 |nm s=>
  have h:l.drop k.1=kN s :: r:=h
  have hk:idB s=true:=hk
  refine⟨nx k,?_,aO h hr⟩
  rw[cG h,jK,if_neg (by decide),kK h,nU,L9 hk G0,Bool.and_false,if_neg (by decide),cG h,jK,Bool.and_false,if_neg (by decide),bw h hk]
  rfl
 |ex s=>
  have h:l.drop k.1=kM ⟨#[45]⟩ :: kN s :: r:=h
  have hk:idB s=true:=hk
  have hm:m=true:=hm.resolve_right fun h=>h s rfl
  have h1:=aO h (by simp)
  refine⟨nx (nx k),?_,aO h1 hr⟩
  rw[cG h,bX (by decide),if_neg (by decide),kK h,L7,Bool.and_false,if_neg (by decide),cG h,cr,hm,if_pos (show(true&&true)=true from rfl),bw h1 hk]
  rfl
theorem ym {self:Bool}:∀ (es:List El) (m:Nat) (n:NS) (k:Ix l),es.length<m→r≠[]→es.all (El.okE self)=true→l.drop k.1=fX es++kM ⟨#[125]⟩ :: r→∃ k',ir self m n k= .ok (es.foldl El.app n,k')∧l.drop k'.1=r
 |[],m+1,n,k,_,hr,_,h=>by
  have h:l.drop k.1=kM ⟨#[125]⟩ :: r:=h
  exact⟨nx k,by rw[ir,cG h,cr,if_pos rfl];rfl,aO h hr⟩
 |e :: es,m+1,n,k,hm,hr,hk,h=>by
  rw[List.all_cons,Bool.and_eq_true] at hk
  have h:l.drop k.1=e.tok++(fX es++kM ⟨#[125]⟩ :: r):=by rw[h];simp[fX]
  have hb:hM ⟨#[125]⟩ (e.tok++(fX es++kM ⟨#[125]⟩ :: r))=false:=by cases e <;> rfl
  obtain ⟨k1,e1,e2⟩:=rS hk.1 true (.inl rfl) n (r:=fX es++kM ⟨#[125]⟩ :: r) (by simp) h
  obtain ⟨k',e3,e4⟩:=ym es m (e.app n) k1 (by simp at hm;omega) hr hk.2 e2
  refine⟨k',?_,e4⟩
  rw[ir,cG h,hb,if_neg (by decide),e1,aa]
  exact e3
theorem uw:∀ es:List El,es.length≤(fX es).length
 |[]=>Nat.le_refl _
 |e :: es=>by
  have:=uw es
  have h1:1≤e.tok.length:=by cases e <;> simp[El.tok]
  have h2:(fX (e :: es)).length=e.tok.length+(fX es).length:=by simp[fX]
  rw[h2,List.length_cons];omega
theorem FS (xs:List ByteArray):∀ n:NS,(xs.map El.nm).foldl El.app n= {n with names:=n.names++xs}:=by
 induction xs with
 |nil=>intro n;simp
 |cons x xs ih=>intro n;rw[List.map_cons,List.foldl_cons,ih];simp[El.app]
theorem FR (xs:List ByteArray):∀ n:NS,(xs.map El.ex).foldl El.app n= {n with except:=n.except++xs}:=by
 induction xs with
 |nil=>intro n;simp
 |cons x xs ih=>intro n;rw[List.map_cons,List.foldl_cons,ih];simp[El.app]
theorem sa (n:NS):(elN n).foldl El.app (ns0 n.nt)=n:=by
 obtain ⟨al,nt,se,na,ex⟩:=n
 unfold elN ns0
 rw[List.foldl_append,List.foldl_append,List.foldl_append,FS,FR]
 cases al <;> cases se <;> simp[El.app]
def jn (n:NS):Bool:=decide ((elN n).length=1)&&decide (n.except.length=0)
def nsK (n:NS):List Tok:=
 if(n.nt&&jn n&&decide (n.names.length=1))=true then kM ⟨#[126]⟩ :: fX (elN n)
 else if n.nt=true then kM ⟨#[126]⟩ :: kM ⟨#[123]⟩ :: (fX (elN n)++[kM ⟨#[125]⟩])
 else if jn n=true then fX (elN n)
 else kM ⟨#[123]⟩ :: (fX (elN n)++[kM ⟨#[125]⟩])
theorem HK {n:NS} {self:Bool} (h:av n self=true):(elN n).all (El.okE self)=true∧elN n≠[]:=by
 unfold av at h
 simp only[Bool.and_eq_true,Bool.or_eq_true,Bool.not_eq_true',decide_eq_true_eq,Bool.and_eq_false_iff,Bool.not_eq_false'] at h
 obtain ⟨h1,⟨h2,h3⟩,h4⟩:=h
 constructor
 ·unfold elN
  rw[List.all_append,List.all_append,List.all_append,List.all_map,List.all_map]
  have e1:(n.names.all ((El.okE self)∘El.nm))=true:=h3
  have e2:(n.except.all ((El.okE self)∘El.ex))=true:=h4
  rw[e1,e2]
  cases hs:n.self with
  |true=>
   have:self=true:=by
    rcases h1 with h1|h1
    ·rw[hs] at h1;cases h1
    ·exact h1
   subst this
   cases n.all <;> rfl
  |false=>cases n.all <;> rfl
 ·intro he
  unfold elN at he
  simp only[List.append_eq_nil_iff,List.map_eq_nil_iff] at he
  obtain ⟨⟨⟨e1,e2⟩,e3⟩,e4⟩:=he
  rcases h2 with((h2|h2)|h2)|h2
  ·rw[h2] at e1;cases e1
  ·rw[h2] at e4;cases e4
  ·rw[e2] at h2;simp at h2
  ·rw[e3] at h2;simp at h2
theorem xJ {n:NS} (h:jn n=true):∃ e,elN n=[e]∧∀ s,e≠.ex s:=by
 unfold jn at h
 simp only[Bool.and_eq_true,decide_eq_true_eq] at h
 obtain ⟨e,he⟩:=List.length_eq_one_iff.1 h.1
 refine⟨e,he,fun s hs=>?_⟩
 subst hs
 have hx:El.ex s∈elN n:=by rw[he];exact .head _
 unfold elN at hx
 have h0:n.except=[]:=List.eq_nil_of_length_eq_zero h.2
 rw[h0] at hx
 cases n.all <;> cases n.self <;> simp at hx
theorem fm {n:NS} {self:Bool} (hn:av n self=true) (hr:r≠[]) (h:l.drop k.1=nsK n++r):∃ k',ff self k= .ok (n,k')∧l.drop k'.1=r:=by
 obtain ⟨ho,h0⟩:=HK hn
 have brace:∀ (k1:Ix l),l.drop k1.1=fX (elN n)++kM ⟨#[125]⟩ :: r→∃ k',(fH self true (ns0 n.nt) k1>>=fun x=>ir self (fuel l) x.1 x.2)= .ok (n,k')∧l.drop k'.1=r:=fun k1 hk=>by
  cases he:elN n with
  |nil=>exact absurd he h0
  |cons e es=>
   rw[he,List.all_cons,Bool.and_eq_true] at ho
   rw[he] at hk
   have hk:l.drop k1.1=e.tok++(fX es++kM ⟨#[125]⟩ :: r):=by rw[hk];simp[fX]
   obtain ⟨k2,e1,e2⟩:=rS ho.1 true (.inl rfl) (ns0 n.nt) (r:=fX es++kM ⟨#[125]⟩ :: r) (by simp) hk
   obtain ⟨k',e3,e4⟩:=ym es (fuel l) (e.app (ns0 n.nt)) k2 (by have h1:=mJ e2;have h2:=uw es;rw[List.length_append] at h1;unfold fuel;omega) hr ho.2 e2
   refine⟨k',?_,e4⟩
   rw[e1,aa]
   dsimp only
   rw[e3]
   have:=sa n
   rw[he,List.foldl_cons] at this
   rw[this]
 unfold nsK at h
 by_cases c1:(n.nt&&jn n&&decide (n.names.length=1))=true
 ·rw[if_pos c1] at h
  simp only[Bool.and_eq_true,decide_eq_true_eq] at c1
  obtain ⟨e,he,hex⟩:=xJ c1.1.2
  obtain ⟨x,hx⟩:=List.length_eq_one_iff.1 c1.2
  have hfe:=sa n
  have hex2:e= .nm x:=by
   have hm:El.nm x∈elN n:=by unfold elN;rw[hx];simp
   rw[he] at hm
   exact(List.mem_singleton.1 hm).symm
  subst hex2
  rw[he] at h hfe ho
  have hi:idB x=true:=by simpa [El.okE] using ho
  have h:l.drop k.1=kM ⟨#[126]⟩ :: kN x :: r:=h
  have h1:=aO h (by simp)
  refine⟨nx (nx k),?_,aO h1 hr⟩
  have hfe:({ns0 n.nt with names:=[]++[x]}:NS)=n:=hfe
  rw[c1.1.1] at hfe
  unfold ff
  rw[cG h,cr]
  have ea:adv true k=nx k:=rfl
  rw[ea,cG h1,jK,if_neg (by decide),if_pos rfl,bw h1 hi,aa]
  rw[← hfe];rfl
 rw[if_neg c1] at h
 by_cases c2:n.nt=true
 ·rw[if_pos c2] at h
  have h:l.drop k.1=kM ⟨#[126]⟩ :: kM ⟨#[123]⟩ :: (fX (elN n)++kM ⟨#[125]⟩ :: r):=by rw[h];simp
  have h1:=aO h (by simp)
  have h2:=aO h1 (by simp)
  obtain ⟨k',e1,e2⟩:=brace (nx (nx k)) h2
  refine⟨k',?_,e2⟩
  rw[c2] at e1
  unfold ff
  rw[cG h,cr]
  have ea:adv true k=nx k:=rfl
  rw[ea,cG h1,cr,if_pos rfl]
  exact e1
 rw[if_neg c2] at h
 have c2:n.nt=false:=by simpa using c2
 by_cases c3:jn n=true
 ·rw[if_pos c3] at h
  obtain ⟨e,he,hex⟩:=xJ c3
  have hfe:=sa n
  rw[he] at h hfe ho
  have hoe:e.okE self=true:=by simpa using ho
  have h:l.drop k.1=e.tok++r:=by rw[h];simp[fX]
  obtain ⟨k',e1,e2⟩:=rS hoe false (.inr hex) (ns0 n.nt) hr h
  refine⟨k',?_,e2⟩
  have hfe:e.app (ns0 n.nt)=n:=hfe
  rw[hfe,c2] at e1
  have hb:∀ s,hM s (e.tok++r)=true→s=⟨#[42]⟩:=fun s hs=>by
   cases e with
   |all=>simp[El.tok,hM] at hs;exact hs.symm
   |self=>cases hs
   |nm x=>cases hs
   |ex x=>exact absurd rfl (hex x)
  have hb1:hM ⟨#[126]⟩ (e.tok++r)=false:=by
   cases hx:hM ⟨#[126]⟩ (e.tok++r) with
   |false=>rfl
   |true=>exact absurd (hb _ hx) (by decide)
  have hb2:hM ⟨#[123]⟩ (e.tok++r)=false:=by
   cases hx:hM ⟨#[123]⟩ (e.tok++r) with
   |false=>rfl
   |true=>exact absurd (hb _ hx) (by decide)
  unfold ff
  rw[cG h,hb1]
  have ea:adv false k=k:=rfl
  rw[ea,cG h,hb2,if_neg (by decide),if_neg (by decide)]
  exact e1
 ·rw[if_neg c3] at h
  have h:l.drop k.1=kM ⟨#[123]⟩ :: (fX (elN n)++kM ⟨#[125]⟩ :: r):=by rw[h];simp
  have h1:=aO h (by simp)
  obtain ⟨k',e1,e2⟩:=brace (nx k) h1
  refine⟨k',?_,e2⟩
  rw[c2] at e1
  have hm1:isM ⟨#[126]⟩ k=false:=by rw[cG h];exact bX (by decide) _
  unfold ff
  rw[hm1]
  have ea:adv false k=k:=rfl
  rw[ea,cG h,cr,if_pos rfl]
  exact e1
end
end Am
end Go.Proofs.YtkpodagbefnebaaGreatDoor
