import Derived.Test.YtkpodagbefnebaaGreatDoorYe21
import Derived.Test.YtkpodagbefnebaaGreatDoorYe31
import Derived.Test.YtkpodagbefnebaaGreatDoorYe33
import Derived.Test.YtkpodagbefnebaaGreatDoorYe16
set_option linter.unusedSimpArgs false
set_option linter.unusedVariables false
set_option linter.unusedSectionVars false
namespace Go.Proofs.YtkpodagbefnebaaGreatDoor
namespace Am
open Tk Go.RowKit
set_option maxRecDepth 100000
set_option maxHeartbeats 4000000
section
variable {ρ:Operand→Option V} {H:Nat→Option HO} {d:Option Nat} {ty:TypeId} {pos:String} {af:Array Edge} {gu:Option (Nat×Bool)} {x:Operand}
theorem Eu {f:Fa} (hx:Ev ρ x (.c (.sc (pvF 127 f))):=by exact .pl rfl) (hs:(f.name.size≤9223372036854775807):=by assumption):AS Tryz.prog ρ H ⟨d,.typeAssert x 20 127 true,ty,pos,af,gu⟩ ⟨.tup [.agg (faC f),.c (sB true)],[],[]⟩:=
 qp (us:=[.int .i64 f.code,.int .i64 f.pos.line,.int .i64 f.pos.col,.string f.name]) hx (by simp[jh,hs]) (fun w=>by kernel_rfl)
end
abbrev ftB (f:Fa):List (Nat×HO):=[(2004,.obj 30 (faC f))]
theorem qg (f g:Fa) (hs:f.name.size≤9223372036854775807):MD Tryz.prog 101 [2004] (look (ftB g)) (.panicking [{v:=pvS f,recovered:=false}]) (.panicking [{v:=pvS f,recovered:=true}]) (look (ftB f)):=by
 refine MD.of (fn:=Tryz.f101) (t:=4) (s:=1) (.inl ⟨rfl,rfl⟩) Tryz.func101 rfl Tryz.ntmps101 (fun _ _=>rfl) rfl rfl (fun _ _=>rfl) rfl rfl (by decide) (by decide) (by decide) rfl rfl (by simp[jh,hs]) ?_
 repeat'(first|(with_reducible first|apply AW.seq|apply AW.skip|apply aa|apply y_e|refine ae ?_)|((with_reducible apply ai);first|refine t_v tL ?_|refine t_v Eu ?_|refine t_v AS.v ?_|refine t_w AS.w ?_)|((with_reducible apply ay);refine t_s AS.s ?_)|((with_reducible refine aq ?_);first|refine aJ ?_|refine aI ?_)|fail)
 all_goals(refine⟨.inr rfl,fun n hn=>?_⟩;simp only[List.mem_cons,List.not_mem_nil,or_false] at hn;subst hn;rfl)
theorem xF (g:Fa):MD Tryz.prog 101 [2004] (look (ftB g)) .returning .returning (look (ftB g)):=by
 refine MD.of (fn:=Tryz.f101) (t:=4) (s:=1) (older:=[]) (.inr ⟨rfl,rfl,rfl⟩) Tryz.func101 rfl Tryz.ntmps101 (fun _ _=>rfl) rfl rfl (fun _ _=>rfl) rfl rfl (by decide) (by decide) (by decide) rfl rfl rfl ?_
 repeat'(first|(with_reducible first|apply AW.seq|apply AW.skip|apply aa|apply y_e|refine ae ?_)|((with_reducible apply ai);first|refine t_v C2 ?_|refine t_v AS.v ?_)|((with_reducible refine aq ?_);refine aI ?_)|fail)
 all_goals(refine⟨.inr rfl,fun n hn=>?_⟩;simp only[List.mem_cons,List.not_mem_nil,or_false] at hn;subst hn;rfl)
theorem sV {f:Fa} {h:List (Nat×HO)} (e:look h 2004=some (.obj 30 (faC f))):∀ m∈[2004],∃ ob,look h m=some ob∧dY ob=true∧look (ftB f) m=some ob:=fun m hn=>by
 simp only[List.mem_cons,List.not_mem_nil,or_false] at hn
 subst hn
 exact⟨_,e,by simp[dY,okA],rfl⟩
theorem rh {f:Fa}:∀ m∈[2004],∃ ob,look (ftB f) m=some ob∧dY ob=true:=fun m hn=>by
 simp only[List.mem_cons,List.not_mem_nil,or_false] at hn
 subst hn
 exact⟨_,rfl,by simp[dY,okA]⟩
theorem oM (f:Fa):(one [V.agg (faC f)]).un= .agg (faC f):=dw f
section
variable {α:Type} {bx:HO} {B:α→HO} {sp:∀ l:List Tok,Ix l→Except Fa (α×(Ix l×Nat))} {g:Nat} {src:ByteArray}
def mX (g:Nat) (bx:HO) (B:α→HO) (sp:∀ l:List Tok,Ix l→Except Fa (α×(Ix l×Nat))):Prop:=
 ∀ (l:List Tok) (_:Fine l) (h:0<l.length),MX Tryz.prog g [(0,psO (⟨0,h⟩:Ix l) 0 0),(1001,bx)] [.c (.ptr 0 0),.c (.ptr 1001 0)] (sp l ⟨0,h⟩>>=fun x=>.ok ((),x):Except Fa (Unit×(α×(Ix l×Nat)))) (fun _=>.tup []) (fun b=>[(0,psO b.2.1 b.2.2 0),(1001,B b.1)]) pvS
theorem xJ {f:Fa} (hsc:dI src= .error f):MNL Tryz.prog 48 [(1001,bx)] [.c (sS src),.c (.fn g [.ptr 1001 0])] (.agg (faC f)) [(1001,bx)]:=by
 have sc:=pz src
 rw[hsc] at sc
 have sc:Pure Tryz.prog 77 [.c (sS src)] (.tup [.c .nil,.agg (faC f)]):=sc
 have h0:=(kB src f hsc).1
 refine MNL.ofD (fn:=Tryz.f48) (fc:=101) (Nc:=[2004]) (sl:=[(0,.c (sS src)),(1,.c (.fn g [.ptr 1001 0]))]) Tryz.call48 Tryz.call101 Tryz.func48 rfl Tryz.ntmps48 Tryz.results48 rfl rfl (by decide) ?_
 refine AWD.seq ?_
 repeat'(first|(with_reducible first|apply aa|apply y_e|refine ae ?_)|((with_reducible apply ai);refine t_w (fW 2004 (by rfl) (by exact aZ rfl)) ?_)|fail)
 refine AWD.seq ?_
 repeat'(first|(with_reducible first|apply aa|apply y_e|refine ae ?_)|((with_reducible apply ai);first|refine t_v AS.v ?_|refine t_v (by exact aj (hP:=sc)) ?_)|((with_reducible apply ay);refine t_s AS.s ?_)|fail)
 refine AWD.seq ?_
 repeat'(first|(with_reducible first|apply AW.seq|apply AW.ret|apply aa|apply ak|apply y_e|refine ae ?_)|((with_reducible apply ai);refine t_v AS.v ?_)|((with_reducible apply ay);refine t_s AS.s ?_)|((with_reducible refine aq ?_);((refine ah (fun hc=>?_) (fun hc=>?_);all_goals(try(exfalso;simp[*] at hc;done)))))|fail)
 exact n_c (oM _) (fun n hn=>by rw[List.mem_singleton.1 hn];rfl)
theorem CA {l:List Tok} (hsc:dI src= .ok l) (hbx:bx.one=true) (hg:mX g bx B sp) (h:0<l.length) {a:α} {k':Ix l} {c':Nat} (hsp:sp l ⟨0,h⟩= .ok (a,(k',c'))) (h0:(tk k').kind=0) :
 MNL Tryz.prog 48 [(1001,bx)] [.c (sS src),.c (.fn g [.ptr 1001 0])] (.agg (faC Fa.zero)) [(1001,B a)]:=by
 have hf:=fU hsc
 have sc:=pz src
 rw[hsc] at sc
 have sc:Pure Tryz.prog 77 [.c (sS src)] (.tup [.c (.lst none 4 (l.map tkC)),.agg (faC Fa.zero)]):=sc
 have hG:=hg l hf h
 have hsp':(sp l ⟨0,h⟩>>=fun x=>.ok ((),x):Except Fa (Unit×(α×(Ix l×Nat))))= .ok ((),(a,(k',c'))):=by rw[hsp];rfl
 generalize (sp l ⟨0,h⟩>>=fun x=>.ok ((),x):Except Fa (Unit×(α×(Ix l×Nat))))=q at hG hsp'
 subst hsp'
 clear hsp
 refine MNL.ofD (fn:=Tryz.f48) (fc:=101) (Nc:=[2004]) (sl:=[(0,.c (sS src)),(1,.c (.fn g [.ptr 1001 0]))]) Tryz.call48 Tryz.call101 Tryz.func48 rfl Tryz.ntmps48 Tryz.results48 rfl rfl (by decide) ?_
 refine AWD.seq ?_
 repeat'(first|(with_reducible first|apply aa|apply y_e|refine ae ?_)|((with_reducible apply ai);refine t_w (fW 2004 (by rfl) (by exact aZ rfl)) ?_)|fail)
 refine AWD.seq ?_
 repeat'(first|(with_reducible first|apply aa|apply y_e|refine ae ?_)|((with_reducible apply ai);first|refine t_v AS.v ?_|refine t_v (by exact aj (hP:=sc)) ?_)|((with_reducible apply ay);refine t_s AS.s ?_)|fail)
 refine AWD.seq ?_
 repeat'(first|(with_reducible first|apply AW.seq|apply AW.skip|apply aa|apply y_e|refine ae ?_)|((with_reducible apply ai);refine t_v AS.v ?_)|((with_reducible refine aq ?_);refine aI ?_)|fail)
 refine AWD.defer (l:=[_]) (by decide) rfl (by decide) ?_
 repeat'(first|(with_reducible first|apply AW.seq|apply AW.skip|apply aa|apply y_e|refine ae ?_)|((with_reducible apply ai);refine t_v AS.v ?_)|((with_reducible refine aq ?_);refine aI ?_)|fail)
 refine⟨.pl rfl,?_⟩
 repeat'((fail_if_success (with_reducible refine bB 7 ?_));(first|(with_reducible first|apply AW.seq|apply aa|apply aF|apply y_e|refine ae ?_)|((with_reducible apply ai);first|refine t_v AS.v ?_|refine t_w AS.w ?_|refine DL (hP:=hG) (k1:=fun x k h=>?_) (k2:=fun e h=>?_))|fail))
 ·injection h with h
  injection h with h1 h2
  subst h2
  repeat'(first|(with_reducible first|apply AW.seq|apply AW.skip|apply AW.ret|apply aa|apply y_e|refine ae ?_)|((with_reducible apply ai);first|refine t_v AS.v ?_|refine t_v (by exact az (hP:=bR)) ?_)|((with_reducible apply ay);refine t_s AS.s ?_)|((with_reducible refine aq ?_);((refine ah (fun hc=>?_) (fun hc=>?_);all_goals(try(exfalso;simp[*] at hc;done)))))|fail)
  exact RetD.mk (bx:=ftB Fa.zero) (bx':=ftB Fa.zero) (.inl ⟨.inl rfl,rfl⟩) rfl (xF _) rfl (sV rfl) rh (n_c (oM _) fun n hn=>by rw[List.mem_singleton.1 hn];rfl)
 ·cases h
theorem Bh {l:List Tok} (hsc:dI src= .ok l) (hbx:bx.one=true) (hg:mX g bx B sp) (h:0<l.length) {a:α} {k':Ix l} {c':Nat} (hsp:sp l ⟨0,h⟩= .ok (a,(k',c'))) (h0:¬ (tk k').kind=0) :
 MNL Tryz.prog 48 [(1001,bx)] [.c (sS src),.c (.fn g [.ptr 1001 0])] (.agg (faC (flt 9 (tk k')))) [(1001,B a)]:=by
 have hf:=fU hsc
 have ht:=tV hsc (tk k') (List.getElem_mem _)
 have sc:=pz src
 rw[hsc] at sc
 have sc:Pure Tryz.prog 77 [.c (sS src)] (.tup [.c (.lst none 4 (l.map tkC)),.agg (faC Fa.zero)]):=sc
 have hG:=hg l hf h
 have hsp':(sp l ⟨0,h⟩>>=fun x=>.ok ((),x):Except Fa (Unit×(α×(Ix l×Nat))))= .ok ((),(a,(k',c'))):=by rw[hsp];rfl
 generalize (sp l ⟨0,h⟩>>=fun x=>.ok ((),x):Except Fa (Unit×(α×(Ix l×Nat))))=q at hG hsp'
 subst hsp'
 clear hsp
 refine MNL.ofD (fn:=Tryz.f48) (fc:=101) (Nc:=[2004]) (sl:=[(0,.c (sS src)),(1,.c (.fn g [.ptr 1001 0]))]) Tryz.call48 Tryz.call101 Tryz.func48 rfl Tryz.ntmps48 Tryz.results48 rfl rfl (by decide) ?_
 refine AWD.seq ?_
 repeat'(first|(with_reducible first|apply aa|apply y_e|refine ae ?_)|((with_reducible apply ai);refine t_w (fW 2004 (by rfl) (by exact aZ rfl)) ?_)|fail)
 refine AWD.seq ?_
 repeat'(first|(with_reducible first|apply aa|apply y_e|refine ae ?_)|((with_reducible apply ai);first|refine t_v AS.v ?_|refine t_v (by exact aj (hP:=sc)) ?_)|((with_reducible apply ay);refine t_s AS.s ?_)|fail)
 refine AWD.seq ?_
 repeat'(first|(with_reducible first|apply AW.seq|apply AW.skip|apply aa|apply y_e|refine ae ?_)|((with_reducible apply ai);refine t_v AS.v ?_)|((with_reducible refine aq ?_);refine aI ?_)|fail)
 refine AWD.defer (l:=[_]) (by decide) rfl (by decide) ?_
 repeat'(first|(with_reducible first|apply AW.seq|apply AW.skip|apply aa|apply y_e|refine ae ?_)|((with_reducible apply ai);refine t_v AS.v ?_)|((with_reducible refine aq ?_);refine aI ?_)|fail)
 refine⟨.pl rfl,?_⟩
 repeat'((fail_if_success (with_reducible refine bB 7 ?_));(first|(with_reducible first|apply AW.seq|apply aa|apply aF|apply y_e|refine ae ?_)|((with_reducible apply ai);first|refine t_v AS.v ?_|refine t_w AS.w ?_|refine DL (hP:=hG) (k1:=fun x k h=>?_) (k2:=fun e h=>?_))|fail))
 ·injection h with h
  injection h with h1 h2
  subst h2
  repeat'(first|(with_reducible first|apply AW.seq|apply aa|apply aF|apply y_e|refine ae ?_)|((with_reducible apply ai);first|refine t_v AS.v ?_|refine t_v (by exact az (hP:=bR)) ?_|refine FE (hP:=dA _ _) (k:=?_))|((with_reducible refine aq ?_);((refine ah (fun hc=>?_) (fun hc=>?_);all_goals(try(exfalso;simp[*] at hc;done)))))|fail)
  exact RetD.mk (bx:=ftB Fa.zero) (bx':=ftB (flt 9 (tk k'))) (.inr ⟨_,rfl,rfl⟩) rfl (qg _ _ (show(tk k').text.size≤_ by omega)) rfl (sV rfl) rh (n_c (oM _) fun n hn=>by rw[List.mem_singleton.1 hn];rfl)
 ·cases h
theorem zU {l:List Tok} (hsc:dI src= .ok l) (hbx:bx.one=true) (hg:mX g bx B sp) (h:0<l.length) {f:Fa} (hsp:sp l ⟨0,h⟩= .error f) (hs:f.name.size≤9223372036854775807) :
 MNL Tryz.prog 48 [(1001,bx)] [.c (sS src),.c (.fn g [.ptr 1001 0])] (.agg (faC f)) [(1001,.lost)]:=by
 have hf:=fU hsc
 have sc:=pz src
 rw[hsc] at sc
 have sc:Pure Tryz.prog 77 [.c (sS src)] (.tup [.c (.lst none 4 (l.map tkC)),.agg (faC Fa.zero)]):=sc
 have hG:=hg l hf h
 have hsp':(sp l ⟨0,h⟩>>=fun x=>.ok ((),x):Except Fa (Unit×(α×(Ix l×Nat))))= .error f:=by rw[hsp];rfl
 generalize (sp l ⟨0,h⟩>>=fun x=>.ok ((),x):Except Fa (Unit×(α×(Ix l×Nat))))=q at hG hsp'
 subst hsp'
 clear hsp
 refine MNL.ofD (fn:=Tryz.f48) (fc:=101) (Nc:=[2004]) (sl:=[(0,.c (sS src)),(1,.c (.fn g [.ptr 1001 0]))]) Tryz.call48 Tryz.call101 Tryz.func48 rfl Tryz.ntmps48 Tryz.results48 rfl rfl (by decide) ?_
 refine AWD.seq ?_
 repeat'(first|(with_reducible first|apply aa|apply y_e|refine ae ?_)|((with_reducible apply ai);refine t_w (fW 2004 (by rfl) (by exact aZ rfl)) ?_)|fail)
 refine AWD.seq ?_
 repeat'(first|(with_reducible first|apply aa|apply y_e|refine ae ?_)|((with_reducible apply ai);first|refine t_v AS.v ?_|refine t_v (by exact aj (hP:=sc)) ?_)|((with_reducible apply ay);refine t_s AS.s ?_)|fail)
 refine AWD.seq ?_
 repeat'(first|(with_reducible first|apply AW.seq|apply AW.skip|apply aa|apply y_e|refine ae ?_)|((with_reducible apply ai);refine t_v AS.v ?_)|((with_reducible refine aq ?_);refine aI ?_)|fail)
 refine AWD.defer (l:=[_]) (by decide) rfl (by decide) ?_
 repeat'(first|(with_reducible first|apply AW.seq|apply AW.skip|apply aa|apply y_e|refine ae ?_)|((with_reducible apply ai);refine t_v AS.v ?_)|((with_reducible refine aq ?_);refine aI ?_)|fail)
 refine⟨.pl rfl,?_⟩
 repeat'((fail_if_success (with_reducible refine bB 7 ?_));(first|(with_reducible first|apply AW.seq|apply aa|apply aF|apply y_e|refine ae ?_)|((with_reducible apply ai);first|refine t_v AS.v ?_|refine t_w AS.w ?_|refine DL (hP:=hG) (k1:=fun x k h=>?_) (k2:=fun e h=>?_))|fail))
 ·cases h
 ·injection h with h
  subst h
  refine RetD.mk (bx:=ftB Fa.zero) (bx':=ftB f) (.inr ⟨_,rfl,rfl⟩) rfl (qg _ _ hs) rfl (sV rfl) rh (n_c (oM _) fun n hn=>by rw[List.mem_singleton.1 hn];rfl)
theorem rp (hbx:bx.one=true) (hg:mX g bx B sp) (hz:NZs sp):(∀ a,ko src sp= .ok a→MNL Tryz.prog 48 [(1001,bx)] [.c (sS src),.c (.fn g [.ptr 1001 0])] (.agg (faC Fa.zero)) [(1001,B a)])∧
 ∀ f,ko src sp= .error f→f.code≠0∧∃ o:HO,((∀ d,o.within d=true)∧∀ ns,o.ren ns=o)∧MNL Tryz.prog 48 [(1001,bx)] [.c (sS src),.c (.fn g [.ptr 1001 0])] (.agg (faC f)) [(1001,o)]:=by
 refine⟨fun a ha=>?_,fun f hf=>⟨B4 src hz hf,?_⟩⟩
 ·unfold ko at ha
  obtain ⟨l,hsc,ha⟩:=aA.1 ha
  split at ha
  ·rename_i h
   obtain ⟨⟨a',k',c'⟩,hsp,ha⟩:=aA.1 ha
   dsimp only at ha
   split at ha
   ·rename_i h0
    injection ha with ha
    subst ha
    exact CA hsc hbx hg h hsp h0
   ·cases ha
  ·cases ha
 ·unfold ko at hf
  rcases bU hf with hsc|⟨l,hsc,hf⟩
  ·exact⟨_,⟨fun d=>cp hbx,fun ns=>eI hbx⟩,xJ hsc⟩
  ·split at hf
   ·rename_i h
    rcases bU hf with hsp|⟨⟨a',k',c'⟩,hsp,hf⟩
    ·refine⟨_,⟨fun d=>rfl,fun ns=>rfl⟩,zU hsc hbx hg h hsp ?_⟩
     rcases (hz l ⟨0,h⟩ f hsp).2 with e|⟨t,ht,e⟩
     ·rw[e];decide
     ·rw[e];have:=tV hsc t ht;omega
    ·dsimp only at hf
     split at hf
     ·cases hf
     ·rename_i h0
      injection hf with hf
      subst hf
      have ho:(B a').one=true:=by
       have:=((hg l (fU hsc) h).hO (a',(k',c'))).2
       simp only[List.all_cons,List.all_nil,Bool.and_true,Bool.and_eq_true] at this
       exact this.2
      exact⟨_,⟨fun d=>cp ho,fun ns=>eI ho⟩,Bh hsc hbx hg h hsp h0⟩
   ·rename_i h
    exact absurd (fU hsc).pos h
end
section
variable {P:Program} {ρ:Operand→Option V} {H:Nat→Option HO} {d:Option Nat} {ty:TypeId} {pos:String} {af:Array Edge} {gu:Option (Nat×Bool)} {x:Operand} {args:Array Operand} {ats:Array TypeId}
theorem oq {f g n:Nat} {bx o:HO} {src:ByteArray} {r:V} (hP:MNL P f [(1001,bx)] [.c (sS src),.c (.fn g [.ptr 1001 0])] r [(1001,o)]) (hw:(∀ d,o.within d=true)∧∀ ns,o.ren ns=o) (hb:bx.one=true) (hr:V.ok noN r=true) (hx:Ev ρ x (.c (.fn f [])):=by exact aC) (hv:EvL ρ args.toList [.c (sS src),.c (.fn g [.ptr n 0])]:=by(first|((repeat(first|exact .nil|((apply EvL.cons);(· (first|(refine .wh rfl ?_;first|assumption|(rw[hp];rfl)|(simp_all;done))|exact .pl rfl)))));done)|fail)) (hn:H n=some bx:=by rfl) :
 AS P ρ H ⟨d,.call {callee:=.value x,args:=args,argTypes:=ats},ty,pos,af,gu⟩ ⟨r,[(n,o)],[n]⟩:=by
 have hk:okB [1001] [(1001,n)]=true:=by simp[okB,byT,swT]
 have hu:RnL [(1001,n)] [1001] ([.c (sS src),.c (.fn g [.ptr n 0])]++([]:List C).map V.c) [.c (sS src),.c (.fn g [.ptr 1001 0])]:=.cl rfl (.fn1 rfl rfl .nil)
 obtain ⟨k1,k2⟩:=hu.ok hk
 have hg:GvL [(1001,n)] H [(1001,bx)]:=.cons hn hb .nil
 exact Ax [(1001,n)] hx hv hP hk rfl k1 k2 hg.giv hg.within rfl (by simp[hw.1]) (kp _ hr) (kn _ hr) (by simp[tak,byT,hw.2]) rfl
end
end Am
namespace Am
open Tk Go.RowKit
set_option maxRecDepth 100000
set_option maxHeartbeats 4000000
def rtV {α:Type} (z:V) (R:α→V):Except Fa α→V
 | .ok a=>.tup [R a,.agg (faC Fa.zero)]
 | .error f=>.tup [z,.agg (faC f)]
theorem El:mX 49 (.obj 25 (moC Mo.zero)) (fun m=>.obj 25 (moC m)) (fun _ k=>rO k):=fun l hf h=>by
 have st:=fun k=>(sj hf (xp hf) (fuel l) (fuel l) (Nat.le_refl _)).ss 0 k 0 (by decide) (by unfold fuel;omega)
 have md:=wg (k:=(⟨0,h⟩:Ix l)) (c:=0) (d:=0) hf
 have e:(rO (⟨0,h⟩:Ix l)>>=fun x=>.ok ((),x):Except Fa (Unit×(Mo×(Ix l×Nat))))=iJ (⟨0,h⟩:Ix l)>>=fun x=>bC tksK (fuel l) 0 [] x.2 0>>=fun y=>.ok ((),({x.1 with stmts:=y.1},y.2)):=by
  unfold rO
  cases iJ (⟨0,h⟩:Ix l) with
  |error f=>rfl
  |ok x=>
   simp only[ag]
   cases bC tksK (fuel l) 0 [] x.2 0 with
   |error f=>rfl
   |ok y=>rfl
 rw[e]
 clear e
 refine MXA (fn:=Tryz.f49) Tryz.call49 Tryz.func49 rfl Tryz.ntmps49 Tryz.results49 rfl rfl ?_
 repeat'(first|(with_reducible first|apply AW.seq|apply aa|apply aF|apply y_e|refine ae ?_)|((with_reducible apply ai);first|refine t_v AS.v ?_|refine bj (hP:=md) (k1:=fun x k h=>?_) (k2:=fun e h σx=>?_)|refine bj (hP:=st _) (k1:=fun x k h=>?_) (k2:=fun e h σx=>?_))|((with_reducible apply ay);refine t_s AS.s ?_)|((with_reducible refine aE ?_);first|(with_reducible refine aS ?_)|refine lA (k:=?_))|fail)
 ·rename_i h1
  exact⟨(),(_,_),by rw[h1,ag,h];rfl,rfl,ar rfl,ar rfl⟩
 ·rename_i h1
  rw[h1,ag,h];rfl
 ·rw[h];rfl
theorem Dm {l:List Tok} {α:Type} (x:Except Fa (α×Ix l)):(zQ x>>=fun y=>.ok ((),y):Except Fa (Unit×(α×(Ix l×Nat))))=x>>=fun y=>.ok ((),(y.1,(y.2,0))):=by
 unfold zQ
 cases x <;> rfl
theorem F2:mX 79 (.obj 60 (nsC NS.zero)) (fun x=>.obj 60 (nsC x)) (fun _ k=>zQ (b7 true k)):=fun l hf h=>by
 have c:=mw (k:=(⟨0,h⟩:Ix l)) (c:=0) (d:=0) hf true
 rw[Dm]
 refine MXA (fn:=Tryz.f79) Tryz.call79 Tryz.func79 rfl Tryz.ntmps79 Tryz.results79 rfl rfl ?_
 repeat'(first|(with_reducible first|apply y_e|refine ae ?_)|((with_reducible apply ai);first|refine t_v AS.v ?_|refine bj (hP:=c) (k1:=fun x k h=>?_) (k2:=fun e h σx=>?_))|((with_reducible apply ay);refine t_s AS.s ?_)|((with_reducible refine aE ?_);first|(with_reducible refine aS ?_)|refine lA (k:=?_))|fail)
 ·exact⟨(),(_,(_,0)),by rw[h];rfl,rfl,ar rfl,ar rfl⟩
 ·rw[h];rfl
theorem EB:mX 63 (.obj 23 [.nil]) (fun x=>.obj 23 [.lst none 55 (x.map stC)]) (fun _ k=>mU k):=fun l hf h=>by
 have st:MX Tryz.prog 51 [(0,psO (⟨0,h⟩:Ix l) 0 0)] [.c (.ptr 0 0)] (mU (⟨0,h⟩:Ix l)) (fun s=>.c (.lst none 55 (s.map stC))) (fun b=>[(0,psO b.1 b.2 0)]) pvS:=(sj hf (xp hf) (fuel l) (fuel l) (Nat.le_refl _)).ss 0 (⟨0,h⟩:Ix l) 0 (by decide) (by unfold fuel;omega)
 refine MXA (fn:=Tryz.f63) Tryz.call63 Tryz.func63 rfl Tryz.ntmps63 Tryz.results63 rfl rfl ?_
 repeat'(first|(with_reducible first|apply y_e|refine ae ?_)|((with_reducible apply ai);first|refine t_v AS.v ?_|refine bj (hP:=st) (k1:=fun x k h=>?_) (k2:=fun e h σx=>?_))|((with_reducible apply ay);refine t_s AS.s ?_)|((with_reducible refine aE ?_);first|(with_reducible refine aS ?_)|refine lA (k:=?_))|fail)
 ·exact⟨(),(_,(_,_)),by show(mU _>>=_)=_;rw[h];rfl,rfl,ar rfl,ar rfl⟩
 ·show(mU _>>=_)=_;rw[h];rfl
theorem CQ:NZs (fun _ k=>mU k):=fun _ k=>ua k
theorem DE:NZs (fun _ k=>rO k):=fun _ k=>zx k
theorem DY:NZs (fun _ k=>zQ (b7 true k)):=fun _ k=>F1 (aX _ _)
theorem pj (src:ByteArray):Pure Tryz.prog 14 [.c (sS src)] (rtV (.agg (moC Mo.zero)) (fun x=>.agg (moC x)) (kS src)):=by
 have hb:(HO.obj 25 (moC Mo.zero)).one=true:=by rfl
 have rn:=rp (src:=src) hb El DE
 cases hp:kS src with
 |ok x=>
  have mp:=rn.1 x hp
  have ho:(HO.obj 25 (moC x)).one=true:=by simp[HO.one,okA,okL,C.ok]
  show Pure _ _ _ (.tup [.agg (moC x),.agg (faC Fa.zero)])
  refine fn1 (fn:=Tryz.f14) Tryz.call14 Tryz.func14 rfl Tryz.ntmps14 Tryz.results14 rfl (by first|rfl|simp[V.ok,okL,C.ok,okA,okV]) ?_
  repeat'(first|(with_reducible first|apply AW.seq|apply AW.skip|apply AW.ret|apply aa|apply y_e|refine ae ?_|refine b6 ?_)|((with_reducible apply ai);first|refine t_w (oq mp ⟨fun d=>cp ho,fun ns=>eI ho⟩ hb (by simp[V.ok,okA])) ?_|refine t_v AS.v ?_|refine t_w AS.w ?_)|((with_reducible apply ay);refine t_s AS.s ?_)|((with_reducible refine aq ?_);refine aI ?_)|((with_reducible refine aM ?_);(((refine zH ?_ ?_);all_goals(with_reducible (apply fk)))))|(refine⟨by decide +kernel,?_⟩)|fail)
  all_goals first|exact jy (gD _ _) (dw _)|exact jy rfl (dw _)|(simp only[unA];done)|(simp only[V.un,C.un,unA];done)|rfl
 |error f=>
  obtain ⟨h0,o,ho,mp⟩:=rn.2 f hp
  show Pure _ _ _ (.tup [.agg (moC Mo.zero),.agg (faC f)])
  refine fn1 (fn:=Tryz.f14) Tryz.call14 Tryz.func14 rfl Tryz.ntmps14 Tryz.results14 rfl (by first|rfl|simp[V.ok,okL,C.ok,okA,okV]) ?_
  repeat'(first|(with_reducible first|apply AW.seq|apply AW.ret|apply aa|apply ak|apply y_e|refine ae ?_|refine b6 ?_)|((with_reducible apply ai);first|refine t_w (oq mp ho hb (by simp[V.ok,okA])) ?_|refine t_v AS.v ?_|refine t_w AS.w ?_)|((with_reducible apply ay);refine t_s AS.s ?_)|((with_reducible refine aq ?_);((refine ah (fun hc=>?_) (fun hc=>?_);all_goals(try(exfalso;simp[*] at hc;done)))))|((with_reducible refine aM ?_);(((refine zH ?_ ?_);all_goals(with_reducible (apply fk)))))|(refine⟨by decide +kernel,?_⟩)|fail)
  all_goals((simp only[unA];done))
theorem zD (src:ByteArray):Pure Tryz.prog 20 [.c (sS src)] (rtV (.c .nil) (fun x=>.c (.lst none 55 (x.map stC))) (mf src)):=by
 have hb:(HO.obj 23 [.nil]).one=true:=by rfl
 have rn:=rp (src:=src) hb EB CQ
 cases hp:mf src with
 |ok x=>
  have mp:=rn.1 x hp
  have ho:(HO.obj 23 [.lst none 55 (x.map stC)]).one=true:=by simp[HO.one,okA,okL,C.ok]
  show Pure _ _ _ (.tup [.c (.lst none 55 (x.map stC)),.agg (faC Fa.zero)])
  refine fn1 (fn:=Tryz.f20) Tryz.call20 Tryz.func20 rfl Tryz.ntmps20 Tryz.results20 rfl (by first|rfl|simp[V.ok,okL,C.ok,okA,okV]) ?_
  repeat'(first|(with_reducible first|apply AW.seq|apply AW.skip|apply AW.ret|apply aa|apply y_e|refine ae ?_|refine b6 ?_)|((with_reducible apply ai);first|refine t_w (oq mp ⟨fun d=>cp ho,fun ns=>eI ho⟩ hb (by simp[V.ok,okA])) ?_|refine t_v AS.v ?_|refine t_w AS.w ?_)|((with_reducible apply ay);refine t_s AS.s ?_)|((with_reducible refine aq ?_);refine aI ?_)|(refine⟨by decide +kernel,?_⟩)|fail)
  all_goals first|exact jy (gD _ _) (dw _)|exact jy rfl (dw _)|(simp only[unA];done)|(simp only[V.un,C.un,unA];done)|rfl
 |error f=>
  obtain ⟨h0,o,ho,mp⟩:=rn.2 f hp
  show Pure _ _ _ (.tup [.c .nil,.agg (faC f)])
  refine fn1 (fn:=Tryz.f20) Tryz.call20 Tryz.func20 rfl Tryz.ntmps20 Tryz.results20 rfl (by first|rfl|simp[V.ok,okL,C.ok,okA,okV]) ?_
  repeat'(first|(with_reducible first|apply AW.seq|apply AW.ret|apply aa|apply ak|apply y_e|refine ae ?_|refine b6 ?_)|((with_reducible apply ai);first|refine t_w (oq mp ho hb (by simp[V.ok,okA])) ?_|refine t_v AS.v ?_|refine t_w AS.w ?_)|((with_reducible apply ay);refine t_s AS.s ?_)|((with_reducible refine aq ?_);((refine ah (fun hc=>?_) (fun hc=>?_);all_goals(try(exfalso;simp[*] at hc;done)))))|(refine⟨by decide +kernel,?_⟩)|fail)
  all_goals exact jy rfl (dw _)
theorem A5 (src:ByteArray):Pure Tryz.prog 34 [.c (sS src)] (rtV (.agg (nsC NS.zero)) (fun x=>.agg (nsC x)) (pn src)):=by
 have hb:(HO.obj 60 (nsC NS.zero)).one=true:=by rfl
 have rn:=rp (src:=src) hb F2 DY
 cases hp:pn src with
 |ok x=>
  have mp:=rn.1 x hp
  have ho:(HO.obj 60 (nsC x)).one=true:=by simp[HO.one,okA,okL,C.ok]
  show Pure _ _ _ (.tup [.agg (nsC x),.agg (faC Fa.zero)])
  refine fn1 (fn:=Tryz.f34) Tryz.call34 Tryz.func34 rfl Tryz.ntmps34 Tryz.results34 rfl (by first|rfl|simp[V.ok,okL,C.ok,okA,okV]) ?_
  repeat'(first|(with_reducible first|apply AW.seq|apply AW.skip|apply AW.ret|apply aa|apply y_e|refine ae ?_|refine b6 ?_)|((with_reducible apply ai);first|refine t_w (oq mp ⟨fun d=>cp ho,fun ns=>eI ho⟩ hb (by simp[V.ok,okA])) ?_|refine t_v AS.v ?_|refine t_w AS.w ?_)|((with_reducible apply ay);refine t_s AS.s ?_)|((with_reducible refine aq ?_);refine aI ?_)|((with_reducible refine aM ?_);(((refine zH ?_ ?_);all_goals(with_reducible (apply fk)))))|(refine⟨by decide +kernel,?_⟩)|fail)
  all_goals first|exact jy (gD _ _) (dw _)|exact jy rfl (dw _)|(simp only[unA];done)|(simp only[V.un,C.un,unA];done)|rfl
 |error f=>
  obtain ⟨h0,o,ho,mp⟩:=rn.2 f hp
  show Pure _ _ _ (.tup [.agg (nsC NS.zero),.agg (faC f)])
  refine fn1 (fn:=Tryz.f34) Tryz.call34 Tryz.func34 rfl Tryz.ntmps34 Tryz.results34 rfl (by first|rfl|simp[V.ok,okL,C.ok,okA,okV]) ?_
  repeat'(first|(with_reducible first|apply AW.seq|apply AW.ret|apply aa|apply ak|apply y_e|refine ae ?_|refine b6 ?_)|((with_reducible apply ai);first|refine t_w (oq mp ho hb (by simp[V.ok,okA])) ?_|refine t_v AS.v ?_|refine t_w AS.w ?_)|((with_reducible apply ay);refine t_s AS.s ?_)|((with_reducible refine aq ?_);((refine ah (fun hc=>?_) (fun hc=>?_);all_goals(try(exfalso;simp[*] at hc;done)))))|((with_reducible refine aM ?_);(((refine zH ?_ ?_);all_goals(with_reducible (apply fk)))))|(refine⟨by decide +kernel,?_⟩)|fail)
  all_goals((simp only[unA];done))
end Am
end Go.Proofs.YtkpodagbefnebaaGreatDoor
