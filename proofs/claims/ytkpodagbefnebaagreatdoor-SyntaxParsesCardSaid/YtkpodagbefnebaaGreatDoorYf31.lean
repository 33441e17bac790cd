import Derived.Test.YtkpodagbefnebaaGreatDoorYf20
import Derived.Lib.IndexAny
set_option linter.unusedSimpArgs false
set_option linter.unusedVariables false
set_option linter.unusedSectionVars false
namespace Go.Proofs.YtkpodagbefnebaaGreatDoor
namespace Am
open Tk Go.RowKit
set_option maxRecDepth 100000
set_option maxHeartbeats 1000000
def CA (l:Nat) (N:St→Prop) (Q:Exit→St→Prop):Exit→St→Prop
 | .goto l',σ=>l'=l∧N σ
 |e,σ=>Q e σ
section
variable {P:Program} {nt:Nat} {Q:Exit→St→Prop} {σ:St}
theorem AW.goto {l:Nat} (h:Q (.goto l) σ):AW P nt (.goto l) Q σ:=fun _ _ _ κ _ g=>wp_goto ⟨σ,h,κ,g⟩
theorem AW.scopeBack {c rest:Code} (l:Nat) (I:Nat→St→Prop) (hf:findLabel c l=some (.seq .skip rest)) (first:AW P nt c (CA l (fun σ'=>∃ m σ'',Wk σ' σ''∧I m σ'') Q) σ)
 (pass:∀ n σ,I n σ→AW P nt rest (CA l (fun σ'=>∃ m σ'',m<n∧Wk σ' σ''∧I m σ'') Q) σ):AW P nt (.scope c) Q σ:=fun X a w κ hX g=>by
 let J:Nat→Act→World→Prop:=fun n a w=>∃ σ κ,I n σ∧Gm X σ a w κ
 refine wp_scope_jumps l (fun a w=>∃ n,J n a w) (fun a w=>leastOf fun n=>J n a w) hf (Go.wp_mono (first X a w κ hX g) fun e a' w' hq=>?_) fun a w hJ=>?_
 ·obtain ⟨σ',hs,κ',g'⟩:=hq
  cases e with
  |goto l'=>
   obtain ⟨h1,m,σ'',hw,hI⟩:=hs
   obtain ⟨κ'',g''⟩:=hw X a' w' κ' g'
   exact⟨h1,m,σ'',κ'',hI,g''⟩
  |_=>exact⟨σ',hs,κ',g'⟩
 ·obtain ⟨σ,κ,hI,g⟩:=(leastOf_spec hJ).1
  refine wp_seq (wp_skip (Go.wp_mono (pass _ σ hI X a w κ hX g) fun e a' w' hq=>?_))
  obtain ⟨σ',hs,κ',g'⟩:=hq
  cases e with
  |goto l'=>
   obtain ⟨h1,m,σ'',hlt,hw,hI⟩:=hs
   obtain ⟨κ'',g''⟩:=hw X a' w' κ' g'
   have hJ':J m a' w':=⟨σ'',κ'',hI,g''⟩
   exact⟨h1,⟨m,hJ'⟩,Nat.lt_of_le_of_lt ((leastOf_spec ⟨m,hJ'⟩).2 m hJ') hlt⟩
  |_=>exact⟨σ',hs,κ',g'⟩
end
section
variable {src:ByteArray} {k:Nat}
theorem fB (c:Bool) {l:List UInt8} {k:Nat} {x:UInt8} (h:l[k]? =some x):skipL c (l.drop k)=if bi x=10 then skipL false (l.drop (k+1))+1 else if bi x=35 then skipL true (l.drop (k+1))+1 else if c=true∨bi x=32∨bi x=9 then skipL c (l.drop (k+1))+1 else 0:=by
 obtain ⟨h1,h2⟩:=List.getElem?_eq_some_iff.1 h
 rw[List.drop_eq_getElem_cons h1,skipL,h2]
theorem nW (c:Bool) {l:List UInt8} {k:Nat} (h:l.length≤k):skipL c (l.drop k)=0:=by
 rw[List.drop_of_length_le h];rfl
theorem ve (hs:src.size≤65536) (hk:k≤src.size):MX Tryz.prog 144 [(0,skO src k)] [.c (.ptr 0 0)] (.ok ((),()):Except Fa (Unit×Unit)) (fun _=>.tup []) (fun _=>[(0,skO src (k+skipL false (src.data.toList.drop k)))]) pvS:=by
 generalize hS:k+skipL false (src.data.toList.drop k)=z
 refine MXA (fn:=Tryz.f144) Tryz.call144 Tryz.func144 rfl Tryz.ntmps144 Tryz.results144 rfl rfl ?_
 refine AW.scopeBack 0 (fun n σ=>∃ (b:Bool) (j:Nat),n=src.size - j∧j≤src.size∧j+skipL b (src.data.toList.drop j)=z∧σ=mk [(2,.c (sB b)),(0,.c (.ptr 0 0))] [(0,skO src j)]) rfl ?_ ?_
 ·have HS:=Lib.hid hS
  clear hS
  by_cases hlt:k<src.size
  ·obtain ⟨c,hx⟩:=get_at hlt
   have nx:=lZ (k:=k) hs hx
   have sk:=(jt (k:=k) (n:=1) hs hlt).ok _ _ rfl
   repeat'(first|(with_reducible first|apply AW.seq|apply AW.block|apply AW.skip|apply AW.ret|apply AW.label|apply aa|apply ak|apply aw|apply aL|apply y_e|refine ae ?_)|((with_reducible apply ai);first|refine t_v AS.v ?_|refine t_v (by first|exact az (hP:=fD hs)|exact az (hP:=nx)) ?_|refine t_w (by exact av (hP:=sk)) ?_)|((with_reducible apply aK);refine t_m (hs:=fun hg=>AS.v) (k:=?_))|((with_reducible refine aq ?_);((refine ah (fun hc=>?_) (fun hc=>?_);all_goals(try(exfalso;revert hc;simp;omega)))))|fail)
   ·have hS:=HS.out
    have h10:bi c=10:=of_decide_eq_true hc
    rw[fB false hx,if_pos h10] at hS
    exact AW.goto ⟨rfl,_,_,wkA,false,k+1,rfl,hlt,by omega,rfl⟩
   ·rename_i h10
    have hS:=HS.out
    have h10:¬ bi c=10:=of_decide_eq_false h10
    have hS':k+1+skipL false (src.data.toList.drop (k+1))=z:=by
     rw[fB false hx,if_neg h10] at hS
     by_cases h35:bi c=35
     ·rw[if_pos h35] at hS
      have h35:(c.toNat:Int)=35:=h35
      rw[h35] at hc
      first|(exfalso;revert hc;decide)|(simp at hc;subst hc;omega)
     ·rw[if_neg h35,if_pos (by simp only[Bool.or_eq_true,decide_eq_true_eq,Bool.false_or] at hc;simpa [bi,or_assoc] using hc)] at hS
      omega
    exact AW.goto ⟨rfl,_,_,wkA,false,k+1,rfl,hlt,hS',rfl⟩
   ·rename_i h10 _
    have hS:=HS.out
    have h10:¬ bi c=10:=of_decide_eq_false h10
    have h35:bi c=35:=of_decide_eq_true hc
    rw[fB false hx,if_neg h10,if_pos h35] at hS
    exact AW.goto ⟨rfl,_,_,wkA,true,k+1,rfl,hlt,by omega,rfl⟩
   ·rename_i h10 hb
    have hS:=HS.out
    have h10:¬ bi c=10:=of_decide_eq_false h10
    have h35:¬ bi c=35:=of_decide_eq_false hc
    rw[fB false hx,if_neg h10,if_neg h35,if_neg (by intro hh;simp only[Bool.or_eq_false_iff,decide_eq_false_iff_not] at hb;exact hh.elim (fun h=>by((cases h;done))) fun h=>h.elim hb.1.2 hb.2)] at hS
    exact l_0 (k:=⟨(),(),rfl,rfl,ar (by rw[← hS])⟩)
  ·repeat'(first|(with_reducible first|apply AW.seq|apply AW.ret|apply AW.label|apply aa|apply ak|apply y_e|refine ae ?_)|((with_reducible apply ai);first|refine t_v AS.v ?_|refine t_v (by exact az (hP:=fD hs)) ?_)|((with_reducible refine aq ?_);((refine ah (fun hc=>?_) (fun hc=>?_);all_goals(try(exfalso;simp[*] at hc;done)))))|fail)
   have hS:=HS.out
   rw[nW false (by rw[← bc];omega)] at hS
   exact l_0 (k:=⟨(),(),rfl,rfl,ar (by rw[← hS])⟩)
 ·clear hS
  rintro n σ ⟨b,j,rfl,hj,hS,rfl⟩
  have HS:=Lib.hid hS
  clear hS
  by_cases hlt:j<src.size
  ·obtain ⟨c,hx⟩:=get_at hlt
   have nx:=lZ (k:=j) hs hx
   have sk:=(jt (k:=j) (n:=1) hs hlt).ok _ _ rfl
   repeat'(first|(with_reducible first|apply AW.seq|apply AW.block|apply AW.skip|apply AW.ret|apply AW.label|apply aa|apply ak|apply aw|apply aL|apply y_e|refine ae ?_)|((with_reducible apply ai);first|refine t_v AS.v ?_|refine t_v (by first|exact az (hP:=fD hs)|exact az (hP:=nx)) ?_|refine t_w (by exact av (hP:=sk)) ?_)|((with_reducible apply aK);refine t_m (hs:=fun hg=>AS.v) (k:=?_))|((with_reducible refine aq ?_);((refine ah (fun hc=>?_) (fun hc=>?_);all_goals(try(exfalso;revert hc;simp;omega)))))|fail)
   ·have hS:=HS.out
    have h10:bi c=10:=of_decide_eq_true hc
    rw[fB b hx,if_pos h10] at hS
    exact AW.goto ⟨rfl,_,_,(show src.size - (j+1)<src.size - j by omega),wkA,false,j+1,rfl,hlt,by omega,rfl⟩
   ·rename_i h10
    have hS:=HS.out
    have h10:¬ bi c=10:=of_decide_eq_false h10
    have hS':j+1+skipL b (src.data.toList.drop (j+1))=z:=by
     rw[fB b hx,if_neg h10] at hS
     by_cases h35:bi c=35
     ·rw[if_pos h35] at hS
      have h35:(c.toNat:Int)=35:=h35
      rw[h35] at hc
      first|(exfalso;revert hc;decide)|(simp at hc;subst hc;omega)
     ·rw[if_neg h35,if_pos (by simp only[Bool.or_eq_true,decide_eq_true_eq,Bool.false_or] at hc;simpa [bi,or_assoc] using hc)] at hS
      omega
    exact AW.goto ⟨rfl,_,_,(show src.size - (j+1)<src.size - j by omega),wkA,b,j+1,rfl,hlt,hS',rfl⟩
   ·rename_i h10 _
    have hS:=HS.out
    have h10:¬ bi c=10:=of_decide_eq_false h10
    have h35:bi c=35:=of_decide_eq_true hc
    rw[fB b hx,if_neg h10,if_pos h35] at hS
    exact AW.goto ⟨rfl,_,_,(show src.size - (j+1)<src.size - j by omega),wkA,true,j+1,rfl,hlt,by omega,rfl⟩
   ·rename_i h10 hb
    have hS:=HS.out
    have h10:¬ bi c=10:=of_decide_eq_false h10
    have h35:¬ bi c=35:=of_decide_eq_false hc
    rw[fB b hx,if_neg h10,if_neg h35,if_neg (by intro hh;simp only[Bool.or_eq_false_iff,decide_eq_false_iff_not] at hb;exact hh.elim (fun h=>by((simp[h] at hb;done))) fun h=>h.elim hb.1.2 hb.2)] at hS
    exact l_0 (k:=⟨(),(),rfl,rfl,ar (by rw[← hS])⟩)
  ·repeat'(first|(with_reducible first|apply AW.seq|apply AW.ret|apply AW.label|apply aa|apply ak|apply y_e|refine ae ?_)|((with_reducible apply ai);first|refine t_v AS.v ?_|refine t_v (by exact az (hP:=fD hs)) ?_)|((with_reducible refine aq ?_);((refine ah (fun hc=>?_) (fun hc=>?_);all_goals(try(exfalso;simp[*] at hc;done)))))|fail)
   have hS:=HS.out
   rw[nW b (by rw[← bc];omega)] at hS
   exact l_0 (k:=⟨(),(),rfl,rfl,ar (by rw[← hS])⟩)
end
section
variable {ρ:Operand→Option V} {H:Nat→Option HO} {d:Option Nat} {ty:TypeId} {pos:String} {af:Array Edge} {gu:Option (Nat×Bool)} {x lo hi:Operand}
theorem pP {s:ByteArray} {j:Nat} {q:Int} (hx:Ev ρ x (.c (.sc (.string s))):=by exact aC) (hhi:Ev ρ hi (.c (.sc (.int .i64 q))):=by exact aC) (hq:q=(j:Nat):=by first|exact(show(1:Int)=((1:Nat):Int) from rfl)|rfl) (hj:j≤s.size:=by omega) (hs:s.size≤9223372036854775807:=by omega):AS Tryz.prog ρ H ⟨d,.slice 9 x none (some hi) none,ty,pos,af,gu⟩ ⟨.c (.sc (.string (s.extract 0 j))),[],[]⟩:=by
 subst hq
 refine .still (fun g hg w=>?_) fun _=>.sc (decide_eq_true ?_)
 ·have h1:=hg x (by simp[Op.operands]) _ _ hx .sc
  have h3:=hg hi (by simp[Op.operands]) _ _ hhi .sc
  unfold execOp
  simp only[h1,h3,Option.map_some,Option.map_none]
  have e2:((j:Int)≤s.size):=by omega
  simp[Instr.sliceAt,Instr.slice,Instr.sliceBounds,Instr.sliceBound,run_underlying jZ,asIntOf,e2,hj]
 ·rw[ByteArray.size_extract];omega
theorem zL {s:ByteArray} {i:Nat} {p:Int} (hx:Ev ρ x (.c (.sc (.string s))):=by exact aC) (hlo:Ev ρ lo (.c (.sc (.int .i64 p))):=by exact aC) (hp:p=(i:Nat):=by rfl) (hi:i≤s.size:=by omega) (hs:s.size≤9223372036854775807:=by omega):AS Tryz.prog ρ H ⟨d,.slice 9 x (some lo) none none,ty,pos,af,gu⟩ ⟨.c (.sc (.string (s.extract i s.size))),[],[]⟩:=by
 subst hp
 refine .still (fun g hg w=>?_) fun _=>.sc (decide_eq_true ?_)
 ·have h1:=hg x (by simp[Op.operands]) _ _ hx .sc
  have h2:=hg lo (by simp[Op.operands]) _ _ hlo .sc
  unfold execOp
  simp only[h1,h2,Option.map_some,Option.map_none]
  have e1:((i:Int)≤s.size):=by omega
  simp[Instr.sliceAt,Instr.slice,Instr.sliceBounds,Instr.sliceBound,run_underlying jZ,asIntOf,e1,hi]
 ·rw[ByteArray.size_extract];omega
end
theorem uD (s p:ByteArray):Pure Tryz.prog 325 [.c (sS s),.c (sS p)] (.c (sB (decide (p.size≤s.size)&&decide (s.extract 0 p.size=p)))):=by
 by_cases h:p.size≤s.size
 ·refine fn2 (fn:=Tryz.f325) Tryz.call325 Tryz.func325 rfl Tryz.ntmps325 Tryz.results325 rfl (by rfl) ?_
  refine AW.fact (t:=0) rfl (fun κ w x hr=>jO hr) fun hn=>?_
  repeat'(first|(with_reducible first|apply AW.seq|apply AW.ret|apply aa|apply y_e|refine ae ?_)|((with_reducible apply ai);refine t_v AS.v ?_)|((with_reducible apply aK);first|refine t_f ?_|refine t_m (hs:=fun hg=>AS.v) (k:=?_)|refine t_m (hs:=fun hg=>(by exact pP)) (k:=?_))|((with_reducible refine aM ?_);refine k_b ?_)|fail)
  rw[show decide ((p.size:Int)≤s.size)=decide (p.size≤s.size) from decide_eq_decide.2 (by omega)]
 ·refine fn2 (fn:=Tryz.f325) Tryz.call325 Tryz.func325 rfl Tryz.ntmps325 Tryz.results325 rfl (by rfl) ?_
  refine AW.fact (t:=0) rfl (fun κ w x hr=>jO hr) fun hn=>?_
  refine AW.fact (t:=1) rfl (fun κ w x hr=>jO hr) fun hn2=>?_
  repeat'(first|(with_reducible first|apply AW.seq|apply AW.ret|apply aa|apply y_e|refine ae ?_)|((with_reducible apply ai);refine t_v AS.v ?_)|((with_reducible apply aK);first|refine t_f ?_|refine t_m (hs:=fun hg=>AS.v) (k:=?_)|refine t_m (hs:=fun hg=>(by exact pP)) (k:=?_))|((with_reducible refine aM ?_);refine k_b ?_)|fail)
  rw[decide_eq_false h];rfl
theorem wL (s p:ByteArray):Pure Tryz.prog 282 [.c (sS s),.c (sS p)] (.c (sB (decide (p.size≤s.size)&&decide (s.extract 0 p.size=p)))):=by
 refine fn2 (fn:=Tryz.f282) Tryz.call282 Tryz.func282 rfl Tryz.ntmps282 Tryz.results282 rfl (by rfl) ?_
 repeat'(first|(with_reducible first|apply AW.seq|apply AW.ret|apply aa|apply y_e|refine ae ?_)|((with_reducible apply ai);first|refine t_v AS.v ?_|refine t_v (by exact aj (hP:=uD s p)) ?_)|((with_reducible refine aM ?_);refine k_b ?_)|fail)
 rfl
def mk2:List ByteArray:=[⟨#[61,61]⟩,⟨#[33,61]⟩,⟨#[38,38]⟩,⟨#[124,124]⟩]
theorem kW {a b:ByteArray} (h:a.data.toList=b.data.toList):a=b:=by
 obtain ⟨⟨a⟩⟩:=a
 obtain ⟨⟨b⟩⟩:=b
 simp only at h
 rw[h]
theorem FW {s m:ByteArray} (hm:m.size=2):(decide (m.size≤s.size)&&decide (s.extract 0 m.size=m))=decide (s.data.toList.take 2=m.data.toList):=by
 rw[hm]
 by_cases h:2≤s.size
 ·rw[decide_eq_true h,Bool.true_and,decide_eq_decide]
  have e:(s.extract 0 2).data.toList=s.data.toList.take 2:=by rw[bP _ _ _ h];rfl
  exact⟨fun h1=>by rw[← e,h1],fun h1=>kW (by rw[e,h1])⟩
 ·rw[decide_eq_false h,Bool.false_and]
  refine(decide_eq_false fun e=>h ?_).symm
  have:=congrArg List.length e
  rw[List.length_take,←bc,←bc] at this
  omega
theorem qZ:∀ m∈mk2,m.size=2:=by decide
theorem ow:mk2.map (fun m=>m.data.toList)=marks2:=by decide
theorem Aa (s:ByteArray) (hs:s.size≤65536):Pure Tryz.prog 211 [.c (sS s)] (.c (sS (s.extract 0 (dN s.data.toList)))):=by
 refine fn1 (fn:=Tryz.f211) Tryz.call211 Tryz.func211 rfl Tryz.ntmps211 Tryz.results211 rfl (by rfl) ?_
 repeat'(first|(with_reducible first|apply AW.seq|apply AW.block|apply AW.skip|apply AW.ret|apply AW.exit|apply aa|apply aE|apply aH|apply y_e|refine ae ?_)|((with_reducible apply ai);refine t_v AS.v ?_)|((with_reducible apply aK);refine t_f ?_)|((with_reducible refine aq ?_);refine aJ ?_)|((with_reducible refine aM ?_);refine k_s ?_)|fail)
 refine AW.loop (fun n σ=>∃ j:Nat,n=4 - j∧j≤4∧(∀ m∈mk2.take j,¬ s.data.toList.take 2=m.data.toList)∧σ=mk [(7,.c (sI (j:Int))),(6,.c (sI 4)),(5,.c (bC mk2)),(2,.c (sS ⟨#[]⟩)),(0,.c (sS s))] []) 4 ?_ ?_
 ·exact⟨_,wkA,0,rfl,Nat.zero_le _,fun m hm=>(by cases hm),rfl⟩
 rintro n σ ⟨j,rfl,hj,hno,rfl⟩
 by_cases hlt:j<4
 ·obtain ⟨m,hm⟩:∃ m,mk2[j]? =some m:=⟨_,List.getElem?_eq_getElem hlt⟩
  have hin:m∈mk2:=List.mem_of_getElem? hm
  have hg:(mk2.map oneS)[j]? =some (oneS m):=by rw[List.getElem?_map,hm];rfl
  have hp:=wL s m
  rw[FW (qZ m hin)] at hp
  have HN:=Lib.hid hno
  clear hno
  repeat'(first|(with_reducible first|apply AW.seq|apply AW.block|apply AW.skip|apply AW.ret|apply aa|apply ak|apply aw|apply aL|apply y_e|refine ae ?_)|((with_reducible apply ai);first|refine t_v AS.v ?_|refine t_v (by exact aj (hP:=hp)) ?_)|((with_reducible refine aq ?_);((refine ah (fun hc=>?_) (fun hc=>?_);all_goals(try(exfalso;revert hc;simp;omega)))))|((with_reducible refine aM ?_);refine k_s ?_)|fail)
  ·have h:=of_decide_eq_true hc
   have h2:2≤s.size:=by
    have:=congrArg List.length h
    rw[List.length_take,←bc,←bc,qZ m hin] at this
    omega
   have hN:dN s.data.toList=2:=by
    unfold dN
    rw[h,if_pos (List.contains_iff_mem.2 (ow▸List.mem_map.2 ⟨m,hin,rfl⟩))]
   rw[hN]
   exact kW (by rw[bP _ _ _ h2,←h];rfl)
  ·refine⟨_,_,(show 4 - (j+1)<4 - j by omega),wkA,j+1,rfl,hlt,fun x hx=>?_,rfl⟩
   rw[List.take_add_one,hm] at hx
   rcases List.mem_append.1 hx with hx|hx
   ·exact HN.out x hx
   ·have:x=m:=by simpa using hx
    subst this
    exact of_decide_eq_false hc
 ·have e:j=4:=by omega
  subst e
  have hno:¬ marks2.contains (s.data.toList.take 2)=true:=by
   rw[← ow,List.contains_iff_mem,List.mem_map]
   rintro ⟨m,h1,h2⟩
   exact hno m h1 h2.symm
  by_cases h0:s.size=0
  ·have e0:s.data.toList=[]:=List.eq_nil_of_length_eq_zero (by rw[← bc];exact h0)
   have e:s=⟨#[]⟩:=kW e0
   subst e
   repeat'(first|(with_reducible first|apply AW.seq|apply AW.block|apply AW.skip|apply AW.ret|apply AW.exit|apply aa|apply aE|apply aH|apply y_e|refine ae ?_)|((with_reducible apply ai);refine t_v AS.v ?_)|((with_reducible apply aK);refine t_f ?_)|((with_reducible refine aq ?_);refine aJ ?_)|((with_reducible refine aM ?_);refine k_s ?_)|fail)
   rfl
  ·obtain ⟨c,hc⟩:=get_at (src:=s) (k:=0) (by omega)
   have ib:Pure Tryz.prog 283 [.c (sS ⟨#[123,125,40,41,59,58,44,46,45,126,42,33,94]⟩),.c (byC c)] (.c (sI (Lib.indexByte marks1 c))):=mo _ c
   have hne:¬ s=⟨#[]⟩:=fun e=>h0 (by rw[e];rfl)
   have hN:dN s.data.toList=if(0:Int)≤Lib.indexByte marks1 c then 1 else 0:=by
    unfold dN
    rw[if_neg hno]
    obtain ⟨h1,h2⟩:=List.getElem?_eq_some_iff.1 hc
    cases hL:s.data.toList with
    |nil=>rw[hL] at h1;cases h1
    |cons d L=>
     have hd:d=c:=by rw[← h2];simp[hL]
     subst hd
     simp only[Lib.contains_iff_indexByte,decide_eq_true_eq]
   rw[hN]
   clear hN hno
   repeat'(first|(with_reducible first|apply AW.seq|apply AW.skip|apply AW.ret|apply AW.exit|apply aa|apply ak|apply aE|apply aH|apply y_e|refine ae ?_)|((with_reducible apply ai);first|refine t_v AS.v ?_|refine t_v (by exact pP) ?_)|((with_reducible apply aK);first|refine t_m (hs:=fun hg=>AS.v) (k:=?_)|refine t_m (hs:=fun hg=>(by exact aj (hP:=ib))) (k:=?_))|((with_reducible refine aq ?_);first|refine aJ ?_|(refine ah (fun hc=>?_) (fun hc=>?_)))|((with_reducible refine aM ?_);refine k_s ?_)|fail)
   ·simp at hc
    rw[if_pos hc.2]
   ·simp[hne] at hc
    rw[if_neg (by omega)]
    exact kW (by rw[bP _ _ _ (Nat.zero_le _)];rfl)
def gn (src:ByteArray) (k:Nat):(Tok×Fa)×Nat:=
 if eA (bi ((src.data.toList.drop k).getD 0 0)) then((⟨1,(gx src k).1.1,bG src.data.toList k⟩,(gx src k).1.2),(gx src k).2)
 else if eP (bi ((src.data.toList.drop k).getD 0 0)) then((⟨2,(ka src k).1.1,bG src.data.toList k⟩,(ka src k).1.2),(ka src k).2)
 else if bi ((src.data.toList.drop k).getD 0 0)=34 then((⟨3,(gk src k).1.1,bG src.data.toList k⟩,(gk src k).1.2),(gk src k).2)
 else if dN (src.data.toList.drop k)=0 then((⟨4,⟨#[]⟩,bG src.data.toList k⟩,fl0 9 (bG src.data.toList k)),k)
 else((⟨4,src.extract k (k+dN (src.data.toList.drop k)),bG src.data.toList k⟩,Fa.zero),k+dN (src.data.toList.drop k))
theorem qn (t:Tok) (f:Fa):(V.tup [.agg (tkC t),.agg (faC f)]).un= .tup [.agg (tkC t),.agg (faC f)]:=by simp only[V.un,unV,unA]
section
variable {src:ByteArray} {k:Nat}
theorem tR (s:ByteArray) (k:Nat):(s.extract k s.size).data.toList=s.data.toList.drop k:=by
 rw[bP _ _ _ (Nat.le_refl _)]
 exact List.take_of_length_le (by rw[List.length_drop,←bc];exact Nat.le_refl _)
theorem wM (hs:src.size≤65536) (hk:k<src.size):MX Tryz.prog 146 [(0,skO src k)] [.c (.ptr 0 0)] (.ok (gn src k):Except Fa ((Tok×Fa)×Nat)) (fun r=>.tup [.agg (tkC r.1),.agg (faC r.2)]) (fun j=>[(0,skO src j)]) pvS:=by
 obtain ⟨c,hc⟩:=get_at hk
 have nx:=lZ hs hc
 have s1:=(BW (k:=k) hs (Nat.le_of_lt hk)).ok (gx src k).1 (gx src k).2 rfl
 have s2:=(vk hs hc).ok (ka src k).1 (ka src k).2 rfl
 have s3:=(AF hs hk).ok (gk src k).1 (gk src k).2 rfl
 have mp:=Aa (src.extract k src.size) (by rw[ByteArray.size_extract];omega)
 rw[tR] at mp
 have eT:gn src k=if eA (bi c) then((⟨1,(gx src k).1.1,bG src.data.toList k⟩,(gx src k).1.2),(gx src k).2)
  else if eP (bi c) then((⟨2,(ka src k).1.1,bG src.data.toList k⟩,(ka src k).1.2),(ka src k).2)
  else if bi c=34 then((⟨3,(gk src k).1.1,bG src.data.toList k⟩,(gk src k).1.2),(gk src k).2)
  else if dN (src.data.toList.drop k)=0 then((⟨4,⟨#[]⟩,bG src.data.toList k⟩,fl0 9 (bG src.data.toList k)),k)
  else((⟨4,src.extract k (k+dN (src.data.toList.drop k)),bG src.data.toList k⟩,Fa.zero),k+dN (src.data.toList.drop k)):=by unfold gn;rw[getD_at hc]
 rw[eT]
 clear eT
 have hm:=rh (src.data.toList.drop k)
 rw[List.length_drop,←bc] at hm
 have hx:(src.extract k src.size).extract 0 (dN (src.data.toList.drop k))=src.extract k (k+dN (src.data.toList.drop k)):=kW (by
  rw[bP _ _ _ (by rw[ByteArray.size_extract];omega),tR,bP _ _ _ (by omega)]
  simp)
 rw[hx] at mp
 have hsz:(src.extract k (k+dN (src.data.toList.drop k))).size=dN (src.data.toList.drop k):=by rw[ByteArray.size_extract];omega
 have w:=(lS (k:=k) (n:=dN (src.data.toList.drop k)) hs (by omega)).ok _ _ rfl
 clear hx hc
 generalize dN (src.data.toList.drop k)=m at *
 generalize gx src k=rn at *
 generalize ka src k=ru at *
 generalize gk src k=rt at *
 generalize hT:src.extract k (k+m)=t at *
 rw[← hsz] at w
 clear hT
 refine MXA (fn:=Tryz.f146) Tryz.call146 Tryz.func146 rfl Tryz.ntmps146 Tryz.results146 rfl rfl ?_
 repeat'(first|(with_reducible first|apply AW.seq|apply AW.block|apply AW.skip|apply AW.ret|apply aa|apply aw|apply y_e|refine ae ?_|refine b7 ?_)|((with_reducible apply ai);first|refine t_v AS.v ?_|refine t_v (by first|exact aj (hP:=nU c)|exact aj (hP:=mI c)|exact aj (hP:=mp)|exact az (hP:=nx)|exact az (hP:=ia _)|exact zL) ?_|refine t_w AS.w ?_|refine t_w (by first|exact av (hP:=s1)|exact av (hP:=s2)|exact av (hP:=s3)|exact av (hP:=w)) ?_)|((with_reducible apply ay);refine t_s AS.s ?_)|((with_reducible refine aq ?_);((refine ah (fun hc=>?_) (fun hc=>?_))))|((with_reducible refine aD ?_);refine FM (k:=?_))|(refine⟨by decide +kernel,?_⟩)|fail)
 ·exact⟨_,_,by rw[if_pos hc],qn _ _,ar rfl⟩
 ·rename_i h1
  have hc:eP (bi c)=true:=hc
  exact⟨_,_,by rw[if_neg (by rw[h1];decide),if_pos hc],qn _ _,ar rfl⟩
 ·rename_i h1 h2
  have h2:eP (bi c)=false:=h2
  have hc:bi c=34:=of_decide_eq_true hc
  exact⟨_,_,by rw[if_neg (by rw[h1];decide),if_neg (by rw[h2];decide),if_pos hc],qn _ _,ar rfl⟩
 ·rename_i h1 h2 h3
  have h2:eP (bi c)=false:=h2
  have h3:¬ bi c=34:=of_decide_eq_false h3
  have e:t=⟨#[]⟩:=of_decide_eq_true hc
  have em:m=0:=by rw[← hsz,e];rfl
  subst em e
  exact⟨(⟨4,⟨#[]⟩,bG src.data.toList k⟩,fl0 9 (bG src.data.toList k)),k,by rw[if_neg (by rw[h1];decide),if_neg (by rw[h2];decide),if_neg h3,if_pos rfl],qn _ _,ar rfl⟩
 ·rename_i h1 h2 h3
  have h2:eP (bi c)=false:=h2
  have h3:¬ bi c=34:=of_decide_eq_false h3
  have e:¬ t=⟨#[]⟩:=of_decide_eq_false hc
  have em:¬ m=0:=fun h0=>by
   have e0:t.data.toList=[]:=List.eq_nil_of_length_eq_zero (by rw[← bc,hsz];exact h0)
   exact e (kW e0)
  exact⟨(⟨4,t,bG src.data.toList k⟩,Fa.zero),k+m,by rw[if_neg (by rw[h1];decide),if_neg (by rw[h2];decide),if_neg h3,if_neg em],qn _ _,ar (by rw[hsz])⟩
theorem sV {c:Int} {off:Nat} (hr:dY (src.data.toList.drop k)= .err c off) (hk:k<src.size):(gn src k).1.2=fl0 c (bG src.data.toList (k+off)):=by
 unfold dY at hr
 unfold gn
 split at hr
 ·rename_i h1
  rw[if_pos h1]
  unfold iY at hr
  unfold gx
  split at hr
  ·rename_i h;injection hr with e1 e2;subst e1 e2;rw[if_pos h];rfl
  ·cases hr
 ·rename_i h1
  rw[if_neg h1]
  split at hr
  ·rename_i h2
   rw[if_pos h2]
   unfold mx at hr
   unfold ka
   split at hr
   ·rename_i h;injection hr with e1 e2;subst e1 e2;rw[if_pos h];rfl
   ·rename_i h
    split at hr
    ·rename_i h';injection hr with e1 e2;subst e1 e2;rw[if_neg h,if_pos h'];rfl
    ·cases hr
  ·rename_i h2
   rw[if_neg h2]
   split at hr
   ·rename_i h3
    rw[if_pos h3]
    unfold Tk.textR at hr
    rw[Cw] at hr
    have hl:(src.data.toList.drop (k+1)).length=src.size - (k+1):=by rw[List.length_drop,←bc]
    unfold gk
    split at hr
    ·rename_i h;injection hr with e1 e2;subst e1 e2;rw[if_pos (by omega)];rfl
    ·rename_i h
     rw[if_neg (by omega)]
     split at hr
     ·rename_i h';injection hr with e1 e2;subst e1 e2;rw[if_pos h',←Nat.add_assoc]
     ·rename_i h'
      rw[if_neg h']
      split at hr
      ·rename_i h'';injection hr with e1 e2;subst e1 e2;rw[if_pos h''];rfl
      ·cases hr
   ·rename_i h3
    rw[if_neg h3]
    unfold iW at hr
    split at hr
    ·rename_i h;injection hr with e1 e2;subst e1 e2;rw[if_pos h];rfl
    ·cases hr
theorem vh {kd:Int} {n:Nat} (hr:dY (src.data.toList.drop k)= .ok kd n) (hk:k<src.size):gn src k=((⟨kd,qT src k kd n,bG src.data.toList k⟩,Fa.zero),k+n):=by
 unfold dY at hr
 unfold gn
 split at hr
 ·rename_i h1
  rw[if_pos h1]
  unfold iY at hr
  unfold gx
  split at hr
  ·cases hr
  ·rename_i h;injection hr with e1 e2;subst e1 e2;rw[if_neg h];rfl
 ·rename_i h1
  rw[if_neg h1]
  split at hr
  ·rename_i h2
   rw[if_pos h2]
   unfold mx at hr
   unfold ka
   split at hr
   ·cases hr
   ·rename_i h
    split at hr
    ·cases hr
    ·rename_i h';injection hr with e1 e2;subst e1 e2;rw[if_neg h,if_neg h'];rfl
  ·rename_i h2
   rw[if_neg h2]
   split at hr
   ·rename_i h3
    rw[if_pos h3]
    unfold Tk.textR at hr
    rw[Cw] at hr
    have hl:(src.data.toList.drop (k+1)).length=src.size - (k+1):=by rw[List.length_drop,←bc]
    unfold gk
    split at hr
    ·cases hr
    ·rename_i h
     rw[if_neg (by omega)]
     split at hr
     ·cases hr
     ·rename_i h'
      rw[if_neg h']
      split at hr
      ·cases hr
      ·rename_i h'';injection hr with e1 e2;subst e1 e2;rw[if_neg h'']
       unfold qT
       rw[if_pos rfl,show k+(tw ptB (src.data.toList.drop (k+1))+2) - 1=k+1+tw ptB (src.data.toList.drop (k+1)) by omega,show k+(tw ptB (src.data.toList.drop (k+1))+2)=k+1+tw ptB (src.data.toList.drop (k+1))+1 by omega]
   ·rename_i h3
    rw[if_neg h3]
    unfold iW at hr
    split at hr
    ·cases hr
    ·rename_i h;injection hr with e1 e2;subst e1 e2;rw[if_neg h];rfl
end
def vb:Except Fa (List Tok)→V
 | .error f=>.tup [.c .nil,.agg (faC f)]
 | .ok ts=>.tup [.c (.lst none 4 (ts.map tkC)),.agg (faC Fa.zero)]
theorem eM (f:Fa):(V.agg (faC f)).un= .agg (faC f):=by simp only[V.un,unA]
theorem C9 (t:Option Nat) (ts:List Tok):(V.c (.lst t 4 (ts.map tkC))).un= .c (.lst none 4 (ts.map tkC)):=by simp only[V.un,C.un,unA]
theorem zt (d:Nat→Bool) {t:Nat} (l:List Tok) (h:d t=true):V.ok d (.c (.lst (some t) 4 (l.map tkC)))=true:=by
 show(d t&&bd d (l.map tkC))=true
 rw[h,bw l fun x _=>eW d x];rfl
theorem yd {acc:List Tok} {t:Tok} {x:Except Fa (List Tok)}:((x>>=fun ts=>.ok ([t]++ts))>>=fun ts=>.ok (acc++ts))=(x>>=fun ts=>(.ok ((acc++[t])++ts):Except Fa (List Tok))):=by
 cases x with
 |error e=>rfl
 |ok ts=>simp[ag]
theorem oO (src:ByteArray):Pure Tryz.prog 77 [.c (sS src)] (vb (dL src)):=by
 by_cases hs:65536<src.size
 ·have e:dL src= .error (fl0 4 ⟨0,0⟩):=if_pos hs
  rw[e]
  clear e
  show Pure _ _ _ (.tup [.c .nil,.agg (faC (fl0 4 ⟨0,0⟩))])
  refine fn1 (fn:=Tryz.f77) Tryz.call77 Tryz.func77 rfl Tryz.ntmps77 Tryz.results77 rfl (by rfl) ?_
  refine AW.fact (t:=0) rfl (fun κ w x hr=>jO hr) fun hn=>?_
  have hI:(65536:Int)<src.size:=by omega
  repeat'(first|(with_reducible first|apply AW.seq|apply AW.block|apply AW.skip|apply AW.ret|apply aa|apply ak|apply y_e|refine ae ?_)|((with_reducible apply ai);first|refine t_v AS.v ?_|refine t_w AS.w ?_)|((with_reducible apply ay);refine t_s AS.s ?_)|((with_reducible refine aq ?_);((refine ah (fun hc=>?_) (fun hc=>?_);all_goals(try(exfalso;simp[*] at hc;done)))))|fail)
  exact nO rfl (eM _)
 ·have e:dL src=gw src (src.size+1) 0:=if_neg hs
  rw[e]
  clear e
  have hs:src.size≤65536:=by omega
  generalize hsp:gw src (src.size+1) 0=sp
  have hR:V.ok noN (vb sp)=true:=by cases sp <;> simp[vb,V.ok,okV,okA,C.ok]
  have HSP:=Lib.hid hsp
  clear hsp
  refine fn1 (fn:=Tryz.f77) Tryz.call77 Tryz.func77 rfl Tryz.ntmps77 Tryz.results77 rfl hR ?_
  have hI:¬ (65536:Int)<src.size:=by omega
  repeat'(first|(with_reducible first|apply AW.seq|apply AW.block|apply AW.skip|apply AW.ret|apply aa|apply ak|apply y_e|refine ae ?_)|((with_reducible apply ai);first|refine t_v AS.v ?_|refine t_w AS.w ?_)|((with_reducible apply ay);refine t_s AS.s ?_)|((with_reducible refine aq ?_);((refine ah (fun hc=>?_) (fun hc=>?_);all_goals(try(exfalso;simp[*] at hc;done)))))|fail)
  refine ks tkC 5 1002 99 4 rfl rfl ?_
  refine AW.loop (fun m σ=>∃ (k:Nat) (acc:List Tok),k≤src.size∧acc.length≤k∧src.size<k+m∧Hid ((gw src m k>>=fun ts=>.ok (acc++ts))=sp)∧σ=mk [(5,.c (.lst (some 1002) 4 (acc.map tkC))),(4,.c (.ptr 4 0)),(3,.c (.ptr 3 0)),(2,.c .nil),(0,.c (sS src))] [(1002,.row 99 4 acc.length),(4,skO src k),(3,.obj 30 (faC Fa.zero))]) (src.size+1) ?_ ?_
  ·exact⟨_,wkA,0,[],Nat.zero_le _,Nat.zero_le _,by omega,Lib.hid (by rw[HSP.out];cases sp <;> rfl),rfl⟩
  clear HSP
  rintro m σ ⟨k,acc,hk,ha,hm,HS,rfl⟩
  have hSK:=Tk.skipL_le false (src.data.toList.drop k)
  rw[List.length_drop,←bc] at hSK
  have bl:=(ve (k:=k) hs hk).ok _ _ rfl
  obtain ⟨m,rfl⟩:∃ n,m=n+1:=⟨m - 1,by omega⟩
  have hsp:=HS.out
  clear HS
  rw[gw] at hsp
  generalize hj:k+skipL false (src.data.toList.drop k)=j at *
  have hj2:k≤j∧j≤src.size:=by omega
  clear hSK hj
  by_cases hlt:src.size≤j
  ·have ej:j=src.size:=by omega
   subst ej
   rw[if_pos (Nat.le_refl _),ag] at hsp
   subst hsp
   repeat'(first|(with_reducible first|apply AW.seq|apply AW.block|apply AW.ret|apply aa|apply ak|apply aL|apply y_e|refine ae ?_)|((with_reducible apply ai);first|refine t_v AS.v ?_|refine t_v (by exact az (hP:=fD hs)) ?_|refine t_w AS.w ?_|refine t_w (by exact av (hP:=bl)) ?_)|((with_reducible apply ay);refine t_s AS.s ?_)|((with_reducible refine aq ?_);((refine ah (fun hc=>?_) (fun hc=>?_);all_goals(try(exfalso;simp[*] at hc;done)))))|fail)
   exact nO (C9 _ _) (eM _)
  ·rw[if_neg hlt] at hsp
   have tk:=(wM (k:=j) hs (by omega)).ok (gn src j).1 (gn src j).2 rfl
   cases ho:dY (src.data.toList.drop j) with
   |err c off=>
    rw[ho] at hsp
    have hsp:(.error (fl0 c (bG src.data.toList (j+off))):Except Fa (List Tok))=sp:=hsp
    subst hsp
    have e2:=sV ho (by omega)
    rw[e2] at tk
    generalize (gn src j).2=j2 at tk
    generalize (gn src j).1.1=t at tk
    have h0:=l8 ho
    clear ho e2
    repeat'(first|(with_reducible first|apply AW.seq|apply AW.block|apply AW.skip|apply AW.ret|apply aa|apply ak|apply aw|apply aL|apply y_e|refine ae ?_|refine b7 ?_)|((with_reducible apply ai);first|refine t_v AS.v ?_|refine t_v (by exact az (hP:=fD hs)) ?_|refine t_w AS.w ?_|refine t_w (by first|exact av (hP:=bl)|exact av (hP:=tk)) ?_)|((with_reducible apply ay);refine t_s AS.s ?_)|((with_reducible refine aq ?_);first|refine aJ ?_|(refine ah (fun hc=>?_) (fun hc=>?_);all_goals(try(exfalso;simp[*] at hc;done))))|(refine⟨by decide +kernel,?_⟩)|fail)
    ·exact nO rfl (eM _)
    ·exfalso
     rw[Bool.not_eq_false'] at hc
     exact h0 (of_decide_eq_true hc)
   |ok kd n=>
    rw[ho] at hsp
    simp only[yd] at hsp
    rw[vh ho (by omega)] at tk
    obtain ⟨h1,h2⟩:=lL _ _ _ (by rw[List.length_drop,←bc];omega) ho
    rw[List.length_drop,←bc] at h2
    have HS:=Lib.hid hsp
    clear hsp ho
    repeat'(first|(with_reducible first|apply AW.seq|apply AW.block|apply AW.skip|apply AW.ret|apply aa|apply ak|apply aw|apply aL|apply y_e|refine ae ?_|refine b7 ?_)|((with_reducible apply ai);first|refine t_v AS.v ?_|refine t_v (by exact az (hP:=fD hs)) ?_|refine t_w AS.w ?_|refine t_w (by first|exact av (hP:=bl)|exact av (hP:=tk)) ?_)|((with_reducible apply ay);refine t_s AS.s ?_)|((with_reducible refine aq ?_);first|refine aJ ?_|(refine ah (fun hc=>?_) (fun hc=>?_);all_goals(try(exfalso;simp[*] at hc;done))))|(refine⟨by decide +kernel,?_⟩)|fail)
    exact⟨m,_,Nat.lt_succ_self m,wkA,j+n,acc++[⟨kd,qT src j kd n,bG src.data.toList j⟩],by omega,by simp;omega,by omega,HS,rfl⟩
end Am
end Go.Proofs.YtkpodagbefnebaaGreatDoor
