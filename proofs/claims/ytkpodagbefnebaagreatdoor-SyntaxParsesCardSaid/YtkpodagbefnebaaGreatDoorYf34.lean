import Derived.Test.YtkpodagbefnebaaGreatDoorYf21
import Derived.Test.YtkpodagbefnebaaGreatDoorYf31
import Derived.Test.YtkpodagbefnebaaGreatDoorYf33
import Derived.Test.YtkpodagbefnebaaGreatDoorYf16
import Derived.Test.YtkpodagbefnebaaGreatDoorYf22
set_option linter.unusedSimpArgs false
set_option linter.unusedVariables false
set_option linter.unusedSectionVars false
namespace Go.Proofs.YtkpodagbefnebaaGreatDoor
namespace Am
open Tk Go.RowKit
set_option maxRecDepth 100000
set_option maxHeartbeats 4000000
section
variable {ρ:Operand→Option V} {H:Nat→Option HO} {d:Option Nat} {ty:TypeId} {pos:String} {af:Array Edge} {gu:Option (Nat×Bool)} {x:Operand}
theorem Fk {f:Fa} (hx:Ev ρ x (.c (.sc (pvF 127 f))):=by exact .pl rfl) (hs:(f.name.size≤9223372036854775807):=by assumption):AS Tryz.prog ρ H ⟨d,.typeAssert x 20 127 true,ty,pos,af,gu⟩ ⟨.tup [.agg (faC f),.c (sB true)],[],[]⟩:=
 qj (us:=[.int .i64 f.code,.int .i64 f.pos.line,.int .i64 f.pos.col,.string f.name]) hx (by simp[iV,hs]) (fun w=>by kernel_rfl)
end
abbrev ftB (f:Fa):List (Nat×HO):=[(2004,.obj 30 (faC f))]
theorem qk (f g:Fa) (hs:f.name.size≤9223372036854775807):MD Tryz.prog 101 [2004] (look (ftB g)) (.panicking [{v:=pvS f,recovered:=false}]) (.panicking [{v:=pvS f,recovered:=true}]) (look (ftB f)):=by
 refine MD.of (fn:=Tryz.f101) (t:=4) (s:=1) (.inl ⟨rfl,rfl⟩) Tryz.func101 rfl Tryz.ntmps101 (fun _ _=>rfl) rfl rfl (fun _ _=>rfl) rfl rfl (by decide) (by decide) (by decide) rfl rfl (by simp[iV,hs]) ?_
 repeat'(first|(with_reducible first|apply AW.seq|apply AW.skip|apply aa|apply y_e|refine ae ?_)|((with_reducible apply ai);first|refine t_v uc ?_|refine t_v Fk ?_|refine t_v AS.v ?_|refine t_w AS.w ?_)|((with_reducible apply ay);refine t_s AS.s ?_)|((with_reducible refine aq ?_);first|refine aI ?_|refine aJ ?_)|fail)
 all_goals(refine⟨.inr rfl,fun n hn=>?_⟩;simp only[List.mem_cons,List.not_mem_nil,or_false] at hn;subst hn;rfl)
theorem yG (g:Fa):MD Tryz.prog 101 [2004] (look (ftB g)) .returning .returning (look (ftB g)):=by
 refine MD.of (fn:=Tryz.f101) (t:=4) (s:=1) (older:=[]) (.inr ⟨rfl,rfl,rfl⟩) Tryz.func101 rfl Tryz.ntmps101 (fun _ _=>rfl) rfl rfl (fun _ _=>rfl) rfl rfl (by decide) (by decide) (by decide) rfl rfl rfl ?_
 repeat'(first|(with_reducible first|apply AW.seq|apply AW.skip|apply aa|apply y_e|refine ae ?_)|((with_reducible apply ai);first|refine t_v Cp ?_|refine t_v AS.v ?_)|((with_reducible refine aq ?_);refine aJ ?_)|fail)
 all_goals(refine⟨.inr rfl,fun n hn=>?_⟩;simp only[List.mem_cons,List.not_mem_nil,or_false] at hn;subst hn;rfl)
theorem ri {f:Fa} {h:List (Nat×HO)} (e:look h 2004=some (.obj 30 (faC f))):∀ m∈[2004],∃ ob,look h m=some ob∧dU ob=true∧look (ftB f) m=some ob:=fun m hn=>by
 simp only[List.mem_cons,List.not_mem_nil,or_false] at hn
 subst hn
 exact⟨_,e,by simp[dU,okA],rfl⟩
theorem sr {f:Fa}:∀ m∈[2004],∃ ob,look (ftB f) m=some ob∧dU ob=true:=fun m hn=>by
 simp only[List.mem_cons,List.not_mem_nil,or_false] at hn
 subst hn
 exact⟨_,rfl,by simp[dU,okA]⟩
theorem ph (f:Fa):(one [V.agg (faC f)]).un= .agg (faC f):=eM f
section
variable {α:Type} {bx:HO} {B:α→HO} {sp:∀ l:List Tok,Ix l→Except Fa (α×(Ix l×Nat))} {g:Nat} {src:ByteArray}
def oh (g:Nat) (bx:HO) (B:α→HO) (sp:∀ l:List Tok,Ix l→Except Fa (α×(Ix l×Nat))):Prop:=
 ∀ (l:List Tok) (_:Fine l) (h:0<l.length),MX Tryz.prog g [(0,psO (⟨0,h⟩:Ix l) 0 0),(1001,bx)] [.c (.ptr 0 0),.c (.ptr 1001 0)] (sp l ⟨0,h⟩>>=fun x=>.ok ((),x):Except Fa (Unit×(α×(Ix l×Nat)))) (fun _=>.tup []) (fun b=>[(0,psO b.2.1 b.2.2 0),(1001,B b.1)]) pvS
theorem wQ {f:Fa} (hsc:dL src= .error f):MNL Tryz.prog 48 [(1001,bx)] [.c (sS src),.c (.fn g [.ptr 1001 0])] (.agg (faC f)) [(1001,bx)]:=by
 have sc:=oO src
 rw[hsc] at sc
 have sc:Pure Tryz.prog 77 [.c (sS src)] (.tup [.c .nil,.agg (faC f)]):=sc
 have h0:=(kr src f hsc).1
 refine MNL.ofD (fn:=Tryz.f48) (fc:=101) (Nc:=[2004]) (sl:=[(0,.c (sS src)),(1,.c (.fn g [.ptr 1001 0]))]) Tryz.call48 Tryz.call101 Tryz.func48 rfl Tryz.ntmps48 Tryz.results48 rfl rfl (by decide) ?_
 refine AWD.seq ?_
 repeat'(first|(with_reducible first|apply aa|apply y_e|refine ae ?_)|((with_reducible apply ai);refine t_w (gh 2004 (by rfl) (by exact aZ rfl)) ?_)|fail)
 refine AWD.seq ?_
 repeat'(first|(with_reducible first|apply aa|apply y_e|refine ae ?_)|((with_reducible apply ai);first|refine t_v AS.v ?_|refine t_v (by exact aj (hP:=sc)) ?_)|((with_reducible apply ay);refine t_s AS.s ?_)|fail)
 refine AWD.seq ?_
 repeat'(first|(with_reducible first|apply AW.seq|apply AW.ret|apply aa|apply ak|apply y_e|refine ae ?_)|((with_reducible apply ai);refine t_v AS.v ?_)|((with_reducible apply ay);refine t_s AS.s ?_)|((with_reducible refine aq ?_);((refine ah (fun hc=>?_) (fun hc=>?_);all_goals(try(exfalso;simp[*] at hc;done)))))|fail)
 exact n_c (ph _) (fun n hn=>by rw[List.mem_singleton.1 hn];rfl)
theorem D8 {l:List Tok} (hsc:dL src= .ok l) (hbx:bx.one=true) (hg:oh g bx B sp) (h:0<l.length) {a:α} {k':Ix l} {c':Nat} (hsp:sp l ⟨0,h⟩= .ok (a,(k',c'))) (h0:(tk k').kind=0) :
 MNL Tryz.prog 48 [(1001,bx)] [.c (sS src),.c (.fn g [.ptr 1001 0])] (.agg (faC Fa.zero)) [(1001,B a)]:=by
 have hf:=fT hsc
 have sc:=oO src
 rw[hsc] at sc
 have sc:Pure Tryz.prog 77 [.c (sS src)] (.tup [.c (.lst none 4 (l.map tkC)),.agg (faC Fa.zero)]):=sc
 have hG:=hg l hf h
 have hsp':(sp l ⟨0,h⟩>>=fun x=>.ok ((),x):Except Fa (Unit×(α×(Ix l×Nat))))= .ok ((),(a,(k',c'))):=by rw[hsp];rfl
 generalize (sp l ⟨0,h⟩>>=fun x=>.ok ((),x):Except Fa (Unit×(α×(Ix l×Nat))))=q at hG hsp'
 subst hsp'
 clear hsp
 refine MNL.ofD (fn:=Tryz.f48) (fc:=101) (Nc:=[2004]) (sl:=[(0,.c (sS src)),(1,.c (.fn g [.ptr 1001 0]))]) Tryz.call48 Tryz.call101 Tryz.func48 rfl Tryz.ntmps48 Tryz.results48 rfl rfl (by decide) ?_
 refine AWD.seq ?_
 repeat'(first|(with_reducible first|apply aa|apply y_e|refine ae ?_)|((with_reducible apply ai);refine t_w (gh 2004 (by rfl) (by exact aZ rfl)) ?_)|fail)
 refine AWD.seq ?_
 repeat'(first|(with_reducible first|apply aa|apply y_e|refine ae ?_)|((with_reducible apply ai);first|refine t_v AS.v ?_|refine t_v (by exact aj (hP:=sc)) ?_)|((with_reducible apply ay);refine t_s AS.s ?_)|fail)
 refine AWD.seq ?_
 repeat'(first|(with_reducible first|apply AW.seq|apply AW.skip|apply aa|apply y_e|refine ae ?_)|((with_reducible apply ai);refine t_v AS.v ?_)|((with_reducible refine aq ?_);refine aJ ?_)|fail)
 refine AWD.defer (l:=[_]) (by decide) rfl (by decide) ?_
 repeat'(first|(with_reducible first|apply AW.seq|apply AW.skip|apply aa|apply y_e|refine ae ?_)|((with_reducible apply ai);refine t_v AS.v ?_)|((with_reducible refine aq ?_);refine aJ ?_)|fail)
 refine⟨.pl rfl,?_⟩
 repeat'((fail_if_success (with_reducible refine bA 7 ?_));(first|(with_reducible first|apply AW.seq|apply aa|apply aF|apply y_e|refine ae ?_)|((with_reducible apply ai);first|refine t_v AS.v ?_|refine t_w AS.w ?_|refine CB (hP:=hG) (k1:=fun x k h=>?_) (k2:=fun e h=>?_))|fail))
 ·injection h with h
  injection h with h1 h2
  subst h2
  repeat'(first|(with_reducible first|apply AW.seq|apply AW.skip|apply AW.ret|apply aa|apply y_e|refine ae ?_)|((with_reducible apply ai);first|refine t_v AS.v ?_|refine t_v (by exact az (hP:=bQ)) ?_)|((with_reducible apply ay);refine t_s AS.s ?_)|((with_reducible refine aq ?_);((refine ah (fun hc=>?_) (fun hc=>?_);all_goals(try(exfalso;simp[*] at hc;done)))))|fail)
  exact RetD.mk (bx:=ftB Fa.zero) (bx':=ftB Fa.zero) (.inl ⟨.inl rfl,rfl⟩) rfl (yG _) rfl (ri rfl) sr (n_c (ph _) fun n hn=>by rw[List.mem_singleton.1 hn];rfl)
 ·cases h
theorem AN {l:List Tok} (hsc:dL src= .ok l) (hbx:bx.one=true) (hg:oh g bx B sp) (h:0<l.length) {a:α} {k':Ix l} {c':Nat} (hsp:sp l ⟨0,h⟩= .ok (a,(k',c'))) (h0:¬ (tk k').kind=0) :
 MNL Tryz.prog 48 [(1001,bx)] [.c (sS src),.c (.fn g [.ptr 1001 0])] (.agg (faC (flt 9 (tk k')))) [(1001,B a)]:=by
 have hf:=fT hsc
 have ht:=tm hsc (tk k') (List.getElem_mem _)
 have sc:=oO src
 rw[hsc] at sc
 have sc:Pure Tryz.prog 77 [.c (sS src)] (.tup [.c (.lst none 4 (l.map tkC)),.agg (faC Fa.zero)]):=sc
 have hG:=hg l hf h
 have hsp':(sp l ⟨0,h⟩>>=fun x=>.ok ((),x):Except Fa (Unit×(α×(Ix l×Nat))))= .ok ((),(a,(k',c'))):=by rw[hsp];rfl
 generalize (sp l ⟨0,h⟩>>=fun x=>.ok ((),x):Except Fa (Unit×(α×(Ix l×Nat))))=q at hG hsp'
 subst hsp'
 clear hsp
 refine MNL.ofD (fn:=Tryz.f48) (fc:=101) (Nc:=[2004]) (sl:=[(0,.c (sS src)),(1,.c (.fn g [.ptr 1001 0]))]) Tryz.call48 Tryz.call101 Tryz.func48 rfl Tryz.ntmps48 Tryz.results48 rfl rfl (by decide) ?_
 refine AWD.seq ?_
 repeat'(first|(with_reducible first|apply aa|apply y_e|refine ae ?_)|((with_reducible apply ai);refine t_w (gh 2004 (by rfl) (by exact aZ rfl)) ?_)|fail)
 refine AWD.seq ?_
 repeat'(first|(with_reducible first|apply aa|apply y_e|refine ae ?_)|((with_reducible apply ai);first|refine t_v AS.v ?_|refine t_v (by exact aj (hP:=sc)) ?_)|((with_reducible apply ay);refine t_s AS.s ?_)|fail)
 refine AWD.seq ?_
 repeat'(first|(with_reducible first|apply AW.seq|apply AW.skip|apply aa|apply y_e|refine ae ?_)|((with_reducible apply ai);refine t_v AS.v ?_)|((with_reducible refine aq ?_);refine aJ ?_)|fail)
 refine AWD.defer (l:=[_]) (by decide) rfl (by decide) ?_
 repeat'(first|(with_reducible first|apply AW.seq|apply AW.skip|apply aa|apply y_e|refine ae ?_)|((with_reducible apply ai);refine t_v AS.v ?_)|((with_reducible refine aq ?_);refine aJ ?_)|fail)
 refine⟨.pl rfl,?_⟩
 repeat'((fail_if_success (with_reducible refine bA 7 ?_));(first|(with_reducible first|apply AW.seq|apply aa|apply aF|apply y_e|refine ae ?_)|((with_reducible apply ai);first|refine t_v AS.v ?_|refine t_w AS.w ?_|refine CB (hP:=hG) (k1:=fun x k h=>?_) (k2:=fun e h=>?_))|fail))
 ·injection h with h
  injection h with h1 h2
  subst h2
  repeat'(first|(with_reducible first|apply AW.seq|apply aa|apply aF|apply y_e|refine ae ?_)|((with_reducible apply ai);first|refine t_v AS.v ?_|refine t_v (by exact az (hP:=bQ)) ?_|refine FO (hP:=dD _ _) (k:=?_))|((with_reducible refine aq ?_);((refine ah (fun hc=>?_) (fun hc=>?_);all_goals(try(exfalso;simp[*] at hc;done)))))|fail)
  exact RetD.mk (bx:=ftB Fa.zero) (bx':=ftB (flt 9 (tk k'))) (.inr ⟨_,rfl,rfl⟩) rfl (qk _ _ (show(tk k').text.size≤_ by omega)) rfl (ri rfl) sr (n_c (ph _) fun n hn=>by rw[List.mem_singleton.1 hn];rfl)
 ·cases h
theorem Af {l:List Tok} (hsc:dL src= .ok l) (hbx:bx.one=true) (hg:oh g bx B sp) (h:0<l.length) {f:Fa} (hsp:sp l ⟨0,h⟩= .error f) (hs:f.name.size≤9223372036854775807) :
 MNL Tryz.prog 48 [(1001,bx)] [.c (sS src),.c (.fn g [.ptr 1001 0])] (.agg (faC f)) [(1001,.lost)]:=by
 have hf:=fT hsc
 have sc:=oO src
 rw[hsc] at sc
 have sc:Pure Tryz.prog 77 [.c (sS src)] (.tup [.c (.lst none 4 (l.map tkC)),.agg (faC Fa.zero)]):=sc
 have hG:=hg l hf h
 have hsp':(sp l ⟨0,h⟩>>=fun x=>.ok ((),x):Except Fa (Unit×(α×(Ix l×Nat))))= .error f:=by rw[hsp];rfl
 generalize (sp l ⟨0,h⟩>>=fun x=>.ok ((),x):Except Fa (Unit×(α×(Ix l×Nat))))=q at hG hsp'
 subst hsp'
 clear hsp
 refine MNL.ofD (fn:=Tryz.f48) (fc:=101) (Nc:=[2004]) (sl:=[(0,.c (sS src)),(1,.c (.fn g [.ptr 1001 0]))]) Tryz.call48 Tryz.call101 Tryz.func48 rfl Tryz.ntmps48 Tryz.results48 rfl rfl (by decide) ?_
 refine AWD.seq ?_
 repeat'(first|(with_reducible first|apply aa|apply y_e|refine ae ?_)|((with_reducible apply ai);refine t_w (gh 2004 (by rfl) (by exact aZ rfl)) ?_)|fail)
 refine AWD.seq ?_
 repeat'(first|(with_reducible first|apply aa|apply y_e|refine ae ?_)|((with_reducible apply ai);first|refine t_v AS.v ?_|refine t_v (by exact aj (hP:=sc)) ?_)|((with_reducible apply ay);refine t_s AS.s ?_)|fail)
 refine AWD.seq ?_
 repeat'(first|(with_reducible first|apply AW.seq|apply AW.skip|apply aa|apply y_e|refine ae ?_)|((with_reducible apply ai);refine t_v AS.v ?_)|((with_reducible refine aq ?_);refine aJ ?_)|fail)
 refine AWD.defer (l:=[_]) (by decide) rfl (by decide) ?_
 repeat'(first|(with_reducible first|apply AW.seq|apply AW.skip|apply aa|apply y_e|refine ae ?_)|((with_reducible apply ai);refine t_v AS.v ?_)|((with_reducible refine aq ?_);refine aJ ?_)|fail)
 refine⟨.pl rfl,?_⟩
 repeat'((fail_if_success (with_reducible refine bA 7 ?_));(first|(with_reducible first|apply AW.seq|apply aa|apply aF|apply y_e|refine ae ?_)|((with_reducible apply ai);first|refine t_v AS.v ?_|refine t_w AS.w ?_|refine CB (hP:=hG) (k1:=fun x k h=>?_) (k2:=fun e h=>?_))|fail))
 ·cases h
 ·injection h with h
  subst h
  refine RetD.mk (bx:=ftB Fa.zero) (bx':=ftB f) (.inr ⟨_,rfl,rfl⟩) rfl (qk _ _ hs) rfl (ri rfl) sr (n_c (ph _) fun n hn=>by rw[List.mem_singleton.1 hn];rfl)
theorem wU (hbx:bx.one=true) (hg:oh g bx B sp) (hz:NZs sp):(∀ a,l5 src sp= .ok a→MNL Tryz.prog 48 [(1001,bx)] [.c (sS src),.c (.fn g [.ptr 1001 0])] (.agg (faC Fa.zero)) [(1001,B a)])∧
 ∀ f,l5 src sp= .error f→f.code≠0∧∃ o:HO,((∀ d,o.within d=true)∧∀ ns,o.ren ns=o)∧MNL Tryz.prog 48 [(1001,bx)] [.c (sS src),.c (.fn g [.ptr 1001 0])] (.agg (faC f)) [(1001,o)]:=by
 refine⟨fun a ha=>?_,fun f hf=>⟨zM src hz hf,?_⟩⟩
 ·unfold l5 at ha
  obtain ⟨l,hsc,ha⟩:=aA.1 ha
  split at ha
  ·rename_i h
   obtain ⟨⟨a',k',c'⟩,hsp,ha⟩:=aA.1 ha
   dsimp only at ha
   split at ha
   ·rename_i h0
    injection ha with ha
    subst ha
    exact D8 hsc hbx hg h hsp h0
   ·cases ha
  ·cases ha
 ·unfold l5 at hf
  rcases bW hf with hsc|⟨l,hsc,hf⟩
  ·exact⟨_,⟨fun d=>cR hbx,fun ns=>fj hbx⟩,wQ hsc⟩
  ·split at hf
   ·rename_i h
    rcases bW hf with hsp|⟨⟨a',k',c'⟩,hsp,hf⟩
    ·refine⟨_,⟨fun d=>rfl,fun ns=>rfl⟩,Af hsc hbx hg h hsp ?_⟩
     rcases (hz l ⟨0,h⟩ f hsp).2 with e|⟨t,ht,e⟩
     ·rw[e];decide
     ·rw[e];have:=tm hsc t ht;omega
    ·dsimp only at hf
     split at hf
     ·cases hf
     ·rename_i h0
      injection hf with hf
      subst hf
      have ho:(B a').one=true:=by
       have:=((hg l (fT hsc) h).hO (a',(k',c'))).2
       simp only[List.all_cons,List.all_nil,Bool.and_true,Bool.and_eq_true] at this
       exact this.2
      exact⟨_,⟨fun d=>cR ho,fun ns=>fj ho⟩,AN hsc hbx hg h hsp h0⟩
   ·rename_i h
    exact absurd (fT hsc).pos h
end
section
variable {P:Program} {ρ:Operand→Option V} {H:Nat→Option HO} {d:Option Nat} {ty:TypeId} {pos:String} {af:Array Edge} {gu:Option (Nat×Bool)} {x:Operand} {args:Array Operand} {ats:Array TypeId}
theorem ug {f g n:Nat} {bx o:HO} {src:ByteArray} {r:V} (hP:MNL P f [(1001,bx)] [.c (sS src),.c (.fn g [.ptr 1001 0])] r [(1001,o)]) (hw:(∀ d,o.within d=true)∧∀ ns,o.ren ns=o) (hb:bx.one=true) (hr:V.ok noN r=true) (hx:Ev ρ x (.c (.fn f [])):=by exact aC) (hv:EvL ρ args.toList [.c (sS src),.c (.fn g [.ptr n 0])]:=by(first|((repeat(first|exact .nil|((apply EvL.cons);(· (first|(refine .wh rfl ?_;first|assumption|(rw[hp];rfl)|(simp_all;done))|exact .pl rfl)))));done)|fail)) (hn:H n=some bx:=by rfl) :
 AS P ρ H ⟨d,.call {callee:=.value x,args:=args,argTypes:=ats},ty,pos,af,gu⟩ ⟨r,[(n,o)],[n]⟩:=by
 have hk:okB [1001] [(1001,n)]=true:=by simp[okB,byT,swT]
 have hu:RnL [(1001,n)] [1001] ([.c (sS src),.c (.fn g [.ptr n 0])]++([]:List C).map V.c) [.c (sS src),.c (.fn g [.ptr 1001 0])]:=.cl rfl (.fn1 rfl rfl .nil)
 obtain ⟨k1,k2⟩:=hu.ok hk
 have hg:GvL [(1001,n)] H [(1001,bx)]:=.cons hn hb .nil
 exact Bd [(1001,n)] hx hv hP hk rfl k1 k2 hg.giv hg.within rfl (by simp[hw.1]) (kf _ hr) (kq _ hr) (by simp[tak,byT,hw.2]) rfl
end
end Am
namespace Am
open Tk Go.RowKit
set_option maxRecDepth 100000
set_option maxHeartbeats 4000000
def rtV {α:Type} (z:V) (R:α→V):Except Fa α→V
 | .ok a=>.tup [R a,.agg (faC Fa.zero)]
 | .error f=>.tup [z,.agg (faC f)]
theorem EK:oh 49 (.obj 25 (moC Mo.zero)) (fun m=>.obj 25 (moC m)) (fun _ k=>lD k):=fun l hf h=>by
 have st:=fun k=>(xn hf (CT hf) (fuel l) (fuel l) (Nat.le_refl _)).ss 0 k 0 (by decide) (by unfold fuel;omega)
 have md:=xY (k:=(⟨0,h⟩:Ix l)) (c:=0) (d:=0) hf
 have e:(lD (⟨0,h⟩:Ix l)>>=fun x=>.ok ((),x):Except Fa (Unit×(Mo×(Ix l×Nat))))=gG (⟨0,h⟩:Ix l)>>=fun x=>bH tksK (fuel l) 0 [] x.2 0>>=fun y=>.ok ((),({x.1 with stmts:=y.1},y.2)):=by
  unfold lD
  cases gG (⟨0,h⟩:Ix l) with
  |error f=>rfl
  |ok x=>
   simp only[ag]
   cases bH tksK (fuel l) 0 [] x.2 0 with
   |error f=>rfl
   |ok y=>rfl
 rw[e]
 clear e
 refine MXA (fn:=Tryz.f49) Tryz.call49 Tryz.func49 rfl Tryz.ntmps49 Tryz.results49 rfl rfl ?_
 repeat'(first|(with_reducible first|apply AW.seq|apply aa|apply aF|apply y_e|refine ae ?_)|((with_reducible apply ai);first|refine t_v AS.v ?_|refine bm (hP:=md) (k1:=fun x k h=>?_) (k2:=fun e h σx=>?_)|refine bm (hP:=st _) (k1:=fun x k h=>?_) (k2:=fun e h σx=>?_))|((with_reducible apply ay);refine t_s AS.s ?_)|((with_reducible refine aD ?_);first|(with_reducible refine aS ?_)|refine ny (k:=?_))|fail)
 ·rename_i h1
  exact⟨(),(_,_),by rw[h1,ag,h];rfl,rfl,ar rfl,ar rfl⟩
 ·rename_i h1
  rw[h1,ag,h];rfl
 ·rw[h];rfl
theorem DR {l:List Tok} {α:Type} (x:Except Fa (α×Ix l)):(zQ x>>=fun y=>.ok ((),y):Except Fa (Unit×(α×(Ix l×Nat))))=x>>=fun y=>.ok ((),(y.1,(y.2,0))):=by
 unfold zQ
 cases x <;> rfl
theorem F6:oh 79 (.obj 60 (nsC NS.zero)) (fun x=>.obj 60 (nsC x)) (fun _ k=>zQ (b6 true k)):=fun l hf h=>by
 have c:=mZ (k:=(⟨0,h⟩:Ix l)) (c:=0) (d:=0) hf true
 rw[DR]
 refine MXA (fn:=Tryz.f79) Tryz.call79 Tryz.func79 rfl Tryz.ntmps79 Tryz.results79 rfl rfl ?_
 repeat'(first|(with_reducible first|apply y_e|refine ae ?_)|((with_reducible apply ai);first|refine t_v AS.v ?_|refine bm (hP:=c) (k1:=fun x k h=>?_) (k2:=fun e h σx=>?_))|((with_reducible apply ay);refine t_s AS.s ?_)|((with_reducible refine aD ?_);first|(with_reducible refine aS ?_)|refine ny (k:=?_))|fail)
 ·exact⟨(),(_,(_,0)),by rw[h];rfl,rfl,ar rfl,ar rfl⟩
 ·rw[h];rfl
theorem Da:NZs (fun _ k=>lD k):=fun _ k=>tz k
theorem Dd:NZs (fun _ k=>zQ (b6 true k)):=fun _ k=>Ej (aX _ _)
theorem lN (src:ByteArray):Pure Tryz.prog 14 [.c (sS src)] (rtV (.agg (moC Mo.zero)) (fun x=>.agg (moC x)) (iy src)):=by
 have hb:(HO.obj 25 (moC Mo.zero)).one=true:=by rfl
 have rn:=wU (src:=src) hb EK Da
 cases hp:iy src with
 |ok x=>
  have mp:=rn.1 x hp
  have ho:(HO.obj 25 (moC x)).one=true:=by simp[HO.one,okA,okL,C.ok]
  show Pure _ _ _ (.tup [.agg (moC x),.agg (faC Fa.zero)])
  refine fn1 (fn:=Tryz.f14) Tryz.call14 Tryz.func14 rfl Tryz.ntmps14 Tryz.results14 rfl (by first|rfl|simp[V.ok,okL,C.ok,okA,okV]) ?_
  repeat'(first|(with_reducible first|apply AW.seq|apply AW.skip|apply AW.ret|apply aa|apply y_e|refine ae ?_|refine b7 ?_)|((with_reducible apply ai);first|refine t_w (ug mp ⟨fun d=>cR ho,fun ns=>fj ho⟩ hb (by simp[V.ok,okA])) ?_|refine t_v AS.v ?_|refine t_w AS.w ?_)|((with_reducible apply ay);refine t_s AS.s ?_)|((with_reducible refine aq ?_);refine aJ ?_)|((with_reducible refine aM ?_);(((refine uI ?_ ?_);all_goals(with_reducible (apply eO)))))|(refine⟨by decide +kernel,?_⟩)|fail)
  all_goals first|exact nO (ji _ _) (eM _)|exact nO rfl (eM _)|(simp only[unA];done)|(simp only[V.un,C.un,unA];done)|rfl
 |error f=>
  obtain ⟨h0,o,ho,mp⟩:=rn.2 f hp
  show Pure _ _ _ (.tup [.agg (moC Mo.zero),.agg (faC f)])
  refine fn1 (fn:=Tryz.f14) Tryz.call14 Tryz.func14 rfl Tryz.ntmps14 Tryz.results14 rfl (by first|rfl|simp[V.ok,okL,C.ok,okA,okV]) ?_
  repeat'(first|(with_reducible first|apply AW.seq|apply AW.ret|apply aa|apply ak|apply y_e|refine ae ?_|refine b7 ?_)|((with_reducible apply ai);first|refine t_w (ug mp ho hb (by simp[V.ok,okA])) ?_|refine t_v AS.v ?_|refine t_w AS.w ?_)|((with_reducible apply ay);refine t_s AS.s ?_)|((with_reducible refine aq ?_);((refine ah (fun hc=>?_) (fun hc=>?_);all_goals(try(exfalso;simp[*] at hc;done)))))|((with_reducible refine aM ?_);(((refine uI ?_ ?_);all_goals(with_reducible (apply eO)))))|(refine⟨by decide +kernel,?_⟩)|fail)
  all_goals((simp only[unA];done))
theorem AA (src:ByteArray):Pure Tryz.prog 34 [.c (sS src)] (rtV (.agg (nsC NS.zero)) (fun x=>.agg (nsC x)) (pD src)):=by
 have hb:(HO.obj 60 (nsC NS.zero)).one=true:=by rfl
 have rn:=wU (src:=src) hb F6 Dd
 cases hp:pD src with
 |ok x=>
  have mp:=rn.1 x hp
  have ho:(HO.obj 60 (nsC x)).one=true:=by simp[HO.one,okA,okL,C.ok]
  show Pure _ _ _ (.tup [.agg (nsC x),.agg (faC Fa.zero)])
  refine fn1 (fn:=Tryz.f34) Tryz.call34 Tryz.func34 rfl Tryz.ntmps34 Tryz.results34 rfl (by first|rfl|simp[V.ok,okL,C.ok,okA,okV]) ?_
  repeat'(first|(with_reducible first|apply AW.seq|apply AW.skip|apply AW.ret|apply aa|apply y_e|refine ae ?_|refine b7 ?_)|((with_reducible apply ai);first|refine t_w (ug mp ⟨fun d=>cR ho,fun ns=>fj ho⟩ hb (by simp[V.ok,okA])) ?_|refine t_v AS.v ?_|refine t_w AS.w ?_)|((with_reducible apply ay);refine t_s AS.s ?_)|((with_reducible refine aq ?_);refine aJ ?_)|((with_reducible refine aM ?_);(((refine uI ?_ ?_);all_goals(with_reducible (apply eO)))))|(refine⟨by decide +kernel,?_⟩)|fail)
  all_goals first|exact nO (ji _ _) (eM _)|exact nO rfl (eM _)|(simp only[unA];done)|(simp only[V.un,C.un,unA];done)|rfl
 |error f=>
  obtain ⟨h0,o,ho,mp⟩:=rn.2 f hp
  show Pure _ _ _ (.tup [.agg (nsC NS.zero),.agg (faC f)])
  refine fn1 (fn:=Tryz.f34) Tryz.call34 Tryz.func34 rfl Tryz.ntmps34 Tryz.results34 rfl (by first|rfl|simp[V.ok,okL,C.ok,okA,okV]) ?_
  repeat'(first|(with_reducible first|apply AW.seq|apply AW.ret|apply aa|apply ak|apply y_e|refine ae ?_|refine b7 ?_)|((with_reducible apply ai);first|refine t_w (ug mp ho hb (by simp[V.ok,okA])) ?_|refine t_v AS.v ?_|refine t_w AS.w ?_)|((with_reducible apply ay);refine t_s AS.s ?_)|((with_reducible refine aq ?_);((refine ah (fun hc=>?_) (fun hc=>?_);all_goals(try(exfalso;simp[*] at hc;done)))))|((with_reducible refine aM ?_);(((refine uI ?_ ?_);all_goals(with_reducible (apply eO)))))|(refine⟨by decide +kernel,?_⟩)|fail)
  all_goals((simp only[unA];done))
end Am
namespace Am
open Tk Go.RowKit
set_option maxRecDepth 100000
set_option maxHeartbeats 4000000
def Eo (P:Program) (rl:List ResultVar) (ty:Nat) (cs:List C):Exit→St→Prop:=fun e σ=>(e= .ret∨e= .normal)∧∃ n cs0,σ.hp n=some (.obj ty cs0)∧unL cs0=cs∧∃ vs,ARes P σ rl vs∧one vs= .c (.ptr n 0)
theorem Ea [Tb] {P:Program} {f nt:Nat} {fn:Func} {c:Code} {rl:List ResultVar} {a0:V} {ty:Nat} {cs:List C} (hc:bp P f) (hf:P.funcs[f]? =some fn) (hb:fn.body=some c) (hn:fn.ntmps=nt) (hres:fn.results=rl.toArray) (hl:Nat.ble 1 nt=true) (hr:okL noN cs=true) (h:AW P nt c (Eo P rl ty cs) (mk [(0,a0)] [])):NewC P f [a0] ty cs:=
 NewC.of hc hf hb hn (Nat.le_of_ble_eq_true hl) hr (by
  have e:(⟨fun i=>[a0][i]?,fun _=>none⟩:St)=mk [(0,a0)] []:=by
   congr 1
   funext i
   match i with
   |0=>rfl
   |i+1=>rfl
  rw[e,hres];exact h)
theorem C7 {P:Program} {l:List (Nat×V)} {h:List (Nat×HO)} {ty t0 n:Nat} {cs cs0:List C} (e:unL cs0=cs) (h0:Ev (evA (look l)) (.tmp t0) (.c (.ptr n 0)):=by exact .pl rfl) (hh:look h n=some (.obj ty cs0):=by rfl):Eo P [.tmp t0] ty cs .ret (mk l h):=⟨.inl rfl,n,cs0,hh,e,[_],.tmp h0 .nil,rfl⟩
def jo {l:List Tok} (k:Ix l) (f:Fa):Fa:=if f.code=0∧(tk k).kind≠0 then flt 9 (tk k) else f
abbrev Ep:Tok:=Tok.zero
def sw (src:ByteArray):List Tok×Fa:=match dL src with
 | .ok l=>(l,Fa.zero)
 | .error f=>([Ep],f)
theorem CF:Fine [Ep]:=⟨by decide,by decide,fun k h=>absurd (show(tk k).kind=0 from by
 obtain ⟨i,hi⟩:=k
 have:i=0:=by simp at hi;omega
 subst this;rfl) h,fun k h=>by
 obtain ⟨i,hi⟩:=k
 have:i=0:=by simp at hi;omega
 subst this;exact absurd h (show ¬ ((0:Int)=2) by decide)⟩
theorem uq {src:ByteArray} {l:List Tok} {f:Fa} (hs:sw src=(l,f)):Fine l:=by
 unfold sw at hs
 cases hsc:dL src with
 |ok ts=>
  rw[hsc] at hs
  injection hs with h1 h2
  subst h1
  exact fT hsc
 |error g=>
  rw[hsc] at hs
  injection hs with h1 h2
  subst h1
  exact CF
theorem Ah {l:List Tok} (k:Ix l) (f:Fa) (c:Int):MX Tryz.prog 58 [(0,qsO k f c)] [.c (.ptr 0 0)] (.ok (jo k f,jo k f):Except Fa (Fa×Fa)) (fun g=>.agg (faC g)) (fun g=>[(0,qsO k g c)]) pvS:=by
 have nw:=cj (l:=l) (k:=k) (f:=f) (c:=c)
 have fa:=cM (l:=l) (k:=k) (f:=f) (c:=c)
 have fl:=cw (c:=c) k f 9 (tk k)
 by_cases h:f.code=0
 ·have e1:bZ f 9 (tk k)=flt 9 (tk k):=gY h
  rw[e1] at fl
  have e2:(!decide (f.code=0))=false:=by simp[h]
  rw[e2] at fa
  by_cases hk:(tk k).kind=0
  ·have e:jo k f=f:=by unfold jo;rw[if_neg fun h=>h.2 hk]
   rw[e]
   refine MXA (fn:=Tryz.f58) Tryz.call58 Tryz.func58 rfl Tryz.ntmps58 Tryz.results58 rfl rfl ?_
   repeat'(first|(with_reducible first|apply AW.seq|apply AW.skip|apply AW.ret|apply aa|apply y_e|refine ae ?_)|((with_reducible apply ai);first|refine t_v AS.v ?_|refine t_v (by first|exact az (hP:=nw)|exact az (hP:=fa)) ?_|refine t_w AS.w ?_|refine t_w (by exact av (hP:=fl)) ?_)|((with_reducible apply aK);first|refine t_f ?_|refine t_m (hs:=fun hg=>AS.v) (k:=?_)|refine t_m (hs:=fun hg=>(by exact az (hP:=nw))) (k:=?_))|((with_reducible apply ay);refine t_s AS.s ?_)|((with_reducible refine aq ?_);first|refine aJ ?_|(refine ah (fun hc=>?_) (fun hc=>?_);all_goals(try(exfalso;simp[*] at hc;done))))|((with_reducible refine aD ?_);refine b8 (k:=?_))|fail)
   all_goals exact⟨_,_,rfl,cu _,ar rfl⟩
  ·have e:jo k f=flt 9 (tk k):=by unfold jo;rw[if_pos ⟨h,hk⟩]
   rw[e]
   refine MXA (fn:=Tryz.f58) Tryz.call58 Tryz.func58 rfl Tryz.ntmps58 Tryz.results58 rfl rfl ?_
   repeat'(first|(with_reducible first|apply AW.seq|apply AW.skip|apply AW.ret|apply aa|apply y_e|refine ae ?_)|((with_reducible apply ai);first|refine t_v AS.v ?_|refine t_v (by first|exact az (hP:=nw)|exact az (hP:=fa)) ?_|refine t_w AS.w ?_|refine t_w (by exact av (hP:=fl)) ?_)|((with_reducible apply aK);first|refine t_f ?_|refine t_m (hs:=fun hg=>AS.v) (k:=?_)|refine t_m (hs:=fun hg=>(by exact az (hP:=nw))) (k:=?_))|((with_reducible apply ay);refine t_s AS.s ?_)|((with_reducible refine aq ?_);first|refine aJ ?_|(refine ah (fun hc=>?_) (fun hc=>?_);all_goals(try(exfalso;simp[*] at hc;done))))|((with_reducible refine aD ?_);refine b8 (k:=?_))|fail)
   all_goals exact⟨_,_,rfl,cu _,ar rfl⟩
 ·have e2:(!decide (f.code=0))=true:=by simp[h]
  rw[e2] at fa
  have e:jo k f=f:=by unfold jo;rw[if_neg fun h'=>h h'.1]
  rw[e]
  refine MXA (fn:=Tryz.f58) Tryz.call58 Tryz.func58 rfl Tryz.ntmps58 Tryz.results58 rfl rfl ?_
  repeat'(first|(with_reducible first|apply AW.seq|apply AW.skip|apply AW.ret|apply aa|apply y_e|refine ae ?_)|((with_reducible apply ai);first|refine t_v AS.v ?_|refine t_v (by first|exact az (hP:=nw)|exact az (hP:=fa)) ?_|refine t_w AS.w ?_|refine t_w (by exact av (hP:=fl)) ?_)|((with_reducible apply aK);first|refine t_f ?_|refine t_m (hs:=fun hg=>AS.v) (k:=?_)|refine t_m (hs:=fun hg=>(by exact az (hP:=nw))) (k:=?_))|((with_reducible apply ay);refine t_s AS.s ?_)|((with_reducible refine aq ?_);first|refine aJ ?_|(refine ah (fun hc=>?_) (fun hc=>?_);all_goals(try(exfalso;simp[*] at hc;done))))|((with_reducible refine aD ?_);refine b8 (k:=?_))|fail)
  all_goals exact⟨_,_,rfl,cu _,ar rfl⟩
theorem pU {src:ByteArray} {l:List Tok} {f:Fa} (hs:sw src=(l,f)) (h0:0<l.length):NewC Tryz.prog 52 [.c (sS src)] 139 (qsC ⟨l,(((⟨0,h0⟩:Ix l).1:Nat):Int),f,0⟩):=by
 have sc:=zU src
 unfold sw at hs
 cases hsc:dL src with
 |ok ts=>
  rw[hsc] at hs sc
  injection hs with h1 h2
  subst h1 h2
  have sc:Pure _ _ _ (.tup [.c (.lst none 4 (ts.map tkC)),.agg (faC Fa.zero)]):=sc
  refine Ea (fn:=Tryz.f52) Tryz.call52 Tryz.func52 rfl Tryz.ntmps52 Tryz.results52 rfl (by simp[okL,C.ok,okA]) ?_
  repeat'(first|(with_reducible first|apply AW.seq|apply AW.skip|apply AW.ret|apply aa|apply ak|apply y_e|refine ae ?_)|((with_reducible apply ai);first|refine t_v AS.v ?_|refine t_v (by exact aj (hP:=sc)) ?_|refine t_w AS.w ?_)|((with_reducible apply ay);refine t_s AS.s ?_)|((with_reducible refine aq ?_);first|refine aJ ?_|(refine ah (fun hc=>?_) (fun hc=>?_);all_goals(try(exfalso;simp[*] at hc;done))))|fail)
  all_goals first|(refine C7 ?_ (.pl rfl) rfl;first|rfl|(simp only[unA];done)|(simp only[unA];rfl))|(exfalso;simp_all;done)|trace_state
 |error g=>
  rw[hsc] at hs sc
  injection hs with h1 h2
  subst h1 h2
  have sc:Pure _ _ _ (.tup [.c .nil,.agg (faC g)]):=sc
  have hg:=(kr src g hsc).1
  refine Ea (fn:=Tryz.f52) Tryz.call52 Tryz.func52 rfl Tryz.ntmps52 Tryz.results52 rfl (by simp[okL,C.ok,okA]) ?_
  repeat'(first|(with_reducible first|apply AW.seq|apply AW.skip|apply AW.ret|apply aa|apply ak|apply y_e|refine ae ?_)|((with_reducible apply ai);first|refine t_v AS.v ?_|refine t_v (by exact aj (hP:=sc)) ?_|refine t_w AS.w ?_)|((with_reducible apply ay);refine t_s AS.s ?_)|((with_reducible refine aq ?_);first|refine aJ ?_|(refine ah (fun hc=>?_) (fun hc=>?_);all_goals(try(exfalso;simp[*] at hc;done))))|fail)
  all_goals((refine C7 ?_ (.pl rfl) rfl;rfl))
theorem Bh {l:List Tok} (k:Ix l) (f:Fa) (c:Int):MNL Tryz.prog 58 [(0,qsO k f c)] [.c (.ptr 0 0)] (.agg (faC (jo k f))) [(0,qsO k (jo k f) c)]:=(Ah k f c).ok _ _ rfl
end Am
end Go.Proofs.YtkpodagbefnebaaGreatDoor
