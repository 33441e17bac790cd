import Derived.Test.YtkpodagbefnebaaGreatDoorYf28
import Derived.Test.YtkpodagbefnebaaGreatDoorYf25
import Derived.Test.YtkpodagbefnebaaGreatDoorYf26
set_option linter.unusedSimpArgs false
set_option linter.unusedVariables false
set_option linter.unusedSectionVars false
namespace Go.Proofs.YtkpodagbefnebaaGreatDoor
namespace Am
open Tk
set_option maxRecDepth 10000
theorem itb {ε α β:Type} {c:Prop} [Decidable c] (a b:Except ε α) (g:α→Except ε β):((if c then a else b)>>=g)=if c then a>>=g else b>>=g:=by
 by_cases h:c
 ·rw[if_pos h,if_pos h]
 ·rw[if_neg h,if_neg h]
section
variable {l:List Tok} {f:Fa} {k:Ix l}
theorem lB (hl:Fine l) (p:Po) (k:Ix l) (f:Fa):RQ f (aG ⟨#[97,116,116,114,105,98,117,116,101]⟩ {Stm.zero with pos:=p} k) (bK {Stm.zero with kind:=3,op:=0,pos:=p} k f):=by
 have e:aG ⟨#[97,116,116,114,105,98,117,116,101]⟩ {Stm.zero with pos:=p} k=(aQ k>>=fun x=>.ok ({Stm.zero with kind:=3,op:=0,pos:=p,name:=x.1},x.2))>>=fun y=>aT ⟨#[59]⟩ y.2>>=fun z=>.ok (y.1,z.2):=by
  unfold aG bJ
  rw[if_neg (by decide),if_neg (by decide),if_pos rfl]
  simp only[exb,ag,if_true,if_false,Bool.false_eq_true]
  try rfl
 rw[e]
 refine ba ?_ (NZ.bind (aP k) fun x=>NZ.ok _)
 show RQ f _ (cm {Stm.zero with kind:=3,op:=0,pos:=p} k f)
 refine iF {Stm.zero with kind:=3,op:=0,pos:=p} (fun x k f=>?_) k f
 exact .ok _ _
theorem kA (hl:Fine l) (p:Po) (k:Ix l) (f:Fa):RQ f (aG ⟨#[115,101,110,115,105,116,105,118,105,116,121]⟩ {Stm.zero with pos:=p} k) (bK {Stm.zero with kind:=10,op:=0,pos:=p} k f):=by
 have e:aG ⟨#[115,101,110,115,105,116,105,118,105,116,121]⟩ {Stm.zero with pos:=p} k=(aQ k>>=fun x=>.ok ({Stm.zero with kind:=10,op:=0,pos:=p,name:=x.1},x.2))>>=fun y=>aT ⟨#[59]⟩ y.2>>=fun z=>.ok (y.1,z.2):=by
  unfold aG bJ
  rw[if_neg (by decide),if_neg (by decide),if_neg (by decide),if_neg (by decide),if_neg (by decide),if_neg (by decide),if_neg (by decide),if_pos rfl]
  simp only[exb,ag,if_true,if_false,Bool.false_eq_true]
  try rfl
 rw[e]
 refine ba ?_ (NZ.bind (aP k) fun x=>NZ.ok _)
 show RQ f _ (cm {Stm.zero with kind:=10,op:=0,pos:=p} k f)
 refine iF {Stm.zero with kind:=10,op:=0,pos:=p} (fun x k f=>?_) k f
 exact .ok _ _
theorem mv (hl:Fine l) (p:Po) (k:Ix l) (f:Fa):RQ f (aG ⟨#[99,97,116,101,103,111,114,121]⟩ {Stm.zero with pos:=p} k) (bK {Stm.zero with kind:=11,op:=0,pos:=p} k f):=by
 have e:aG ⟨#[99,97,116,101,103,111,114,121]⟩ {Stm.zero with pos:=p} k=(aQ k>>=fun x=>.ok ({Stm.zero with kind:=11,op:=0,pos:=p,name:=x.1},x.2))>>=fun y=>aT ⟨#[59]⟩ y.2>>=fun z=>.ok (y.1,z.2):=by
  unfold aG bJ
  rw[if_neg (by decide),if_neg (by decide),if_neg (by decide),if_neg (by decide),if_neg (by decide),if_neg (by decide),if_neg (by decide),if_neg (by decide),if_pos rfl]
  simp only[exb,ag,if_true,if_false,Bool.false_eq_true]
  try rfl
 rw[e]
 refine ba ?_ (NZ.bind (aP k) fun x=>NZ.ok _)
 show RQ f _ (cm {Stm.zero with kind:=11,op:=0,pos:=p} k f)
 refine iF {Stm.zero with kind:=11,op:=0,pos:=p} (fun x k f=>?_) k f
 exact .ok _ _
theorem jE (hl:Fine l) (p:Po) (k:Ix l) (f:Fa):RQ f (aG ⟨#[116,121,112,101,97,116,116,114,105,98,117,116,101]⟩ {Stm.zero with pos:=p} k) (bK {Stm.zero with kind:=4,op:=0,pos:=p} k f):=by
 have e:aG ⟨#[116,121,112,101,97,116,116,114,105,98,117,116,101]⟩ {Stm.zero with pos:=p} k=(aQ k>>=fun x=>cn x.2>>=fun y=>.ok ({Stm.zero with kind:=4,op:=0,pos:=p,name:=x.1,list:=y.1},y.2))>>=fun y=>aT ⟨#[59]⟩ y.2>>=fun z=>.ok (y.1,z.2):=by
  unfold aG bJ
  rw[if_neg (by decide),if_neg (by decide),if_neg (by decide),if_pos rfl]
  simp only[exb,ag,if_true,if_false,Bool.false_eq_true]
  try rfl
 rw[e]
 refine ba ?_ (NZ.bind (aP k) fun x=>NZ.bind (ju _) fun y=>NZ.ok _)
 show RQ f _ (cm {Stm.zero with kind:=4,op:=0,pos:=p} k f)
 refine iF {Stm.zero with kind:=4,op:=0,pos:=p} (fun x k f=>?_) k f
 exact yL hl {Stm.zero with kind:=4,op:=0,pos:=p,name:=x} k f
theorem rX (hl:Fine l) (p:Po) (k:Ix l) (f:Fa):RQ f (aG ⟨#[117,115,101,114]⟩ {Stm.zero with pos:=p} k) (bK {Stm.zero with kind:=8,op:=0,pos:=p} k f):=by
 have e:aG ⟨#[117,115,101,114]⟩ {Stm.zero with pos:=p} k=(aQ k>>=fun x=>cX ⟨#[114,111,108,101,115]⟩ x.2>>=fun a=>bq a.2>>=fun y=>cX ⟨#[108,101,118,101,108]⟩ y.2>>=fun b=>dH b.2>>=fun v=>cX ⟨#[114,97,110,103,101]⟩ v.2>>=fun c=>cG c.2>>=fun g=>.ok ({Stm.zero with kind:=8,op:=0,pos:=p,name:=x.1,list:=y.1,level:=v.1,range:=g.1},g.2))>>=fun y=>aT ⟨#[59]⟩ y.2>>=fun z=>.ok (y.1,z.2):=by
  unfold aG bJ
  rw[if_neg (by decide),if_neg (by decide),if_neg (by decide),if_neg (by decide),if_neg (by decide),if_pos rfl]
  simp only[exb,ag,if_true,if_false,Bool.false_eq_true]
  try rfl
 rw[e]
 refine ba ?_ (NZ.bind (aP k) fun x=>NZ.bind (eJ _ _) fun a=>NZ.bind (dz _) fun y=>NZ.bind (eJ _ _) fun b=>NZ.bind (gT _) fun v=>NZ.bind (eJ _ _) fun c=>NZ.bind (il _) fun g=>NZ.ok _)
 show RQ f _ (cm {Stm.zero with kind:=8,op:=0,pos:=p} k f)
 refine iF {Stm.zero with kind:=8,op:=0,pos:=p} (fun x k f=>?_) k f
 exact A7 hl {Stm.zero with kind:=8,op:=0,pos:=p,name:=x} k f
theorem sT (hl:Fine l) (p:Po) (k:Ix l) (f:Fa):RQ f (aG ⟨#[98,111,111,108]⟩ {Stm.zero with pos:=p} k) (bK {Stm.zero with kind:=9,op:=0,pos:=p} k f):=by
 have e:aG ⟨#[98,111,111,108]⟩ {Stm.zero with pos:=p} k=(aQ k>>=fun x=>bb [⟨#[102,97,108,115,101]⟩,⟨#[116,114,117,101]⟩] x.2>>=fun y=>.ok ({Stm.zero with kind:=9,op:=0,pos:=p,name:=x.1,value:=decide (y.1=1)},y.2))>>=fun y=>aT ⟨#[59]⟩ y.2>>=fun z=>.ok (y.1,z.2):=by
  unfold aG bJ
  rw[if_neg (by decide),if_neg (by decide),if_neg (by decide),if_neg (by decide),if_neg (by decide),if_neg (by decide),if_pos rfl]
  simp only[exb,ag,if_true,if_false,Bool.false_eq_true]
  try rfl
 rw[e]
 refine ba ?_ (NZ.bind (aP k) fun x=>NZ.bind (dy _ _) fun y=>NZ.ok _)
 show RQ f _ (cm {Stm.zero with kind:=9,op:=0,pos:=p} k f)
 refine iF {Stm.zero with kind:=9,op:=0,pos:=p} (fun x k f=>?_) k f
 exact BL {Stm.zero with kind:=9,op:=0,pos:=p,name:=x} k f
theorem lA (hl:Fine l) (p:Po) (k:Ix l) (f:Fa):RQ f (aG ⟨#[114,111,108,101,97,108,108,111,119]⟩ {Stm.zero with pos:=p} k) (bK {Stm.zero with kind:=6,op:=0,pos:=p} k f):=by
 have e:aG ⟨#[114,111,108,101,97,108,108,111,119]⟩ {Stm.zero with pos:=p} k=(b6 false k>>=fun x=>b6 false x.2>>=fun y=>.ok ({Stm.zero with kind:=6,op:=0,pos:=p,source:=x.1,target:=y.1},y.2))>>=fun y=>aT ⟨#[59]⟩ y.2>>=fun z=>.ok (y.1,z.2):=by
  unfold aG bJ
  rw[if_neg (by decide),if_neg (by decide),if_neg (by decide),if_neg (by decide),if_neg (by decide),if_neg (by decide),if_neg (by decide),if_neg (by decide),if_neg (by decide)]
  simp only[ag,Bool.false_eq_true,if_false]
  unfold dE
  have n1:¬ 0<cc ⟨#[114,111,108,101,97,108,108,111,119]⟩ ruleW:=by decide
  have n2:¬ 0<cc ⟨#[114,111,108,101,97,108,108,111,119]⟩ transW:=by decide
  rw[if_neg n1]
  try rw[if_neg n2]
  rw[if_neg (show ¬ (⟨#[114,111,108,101,97,108,108,111,119]⟩:ByteArray)=⟨#[114,97,110,103,101,95,116,114,97,110,115,105,116,105,111,110]⟩ by decide),if_neg (show ¬ (⟨#[114,111,108,101,97,108,108,111,119]⟩:ByteArray)=⟨#[114,111,108,101,95,116,114,97,110,115,105,116,105,111,110]⟩ by decide),if_pos rfl]
  try unfold cJ
  simp only[exb,ag,if_true,if_false,Bool.false_eq_true]
  try rfl
 rw[e]
 refine ba ?_ (NZ.bind (aX _ k) fun x=>NZ.bind (aX _ _) fun y=>NZ.ok _)
 exact vV hl {Stm.zero with kind:=6,op:=0,pos:=p} rfl k f
theorem iQ (hl:Fine l) (p:Po) (k:Ix l) (f:Fa):RQ f (aG ⟨#[114,111,108,101,95,116,114,97,110,115,105,116,105,111,110]⟩ {Stm.zero with pos:=p} k) (bK {Stm.zero with kind:=7,op:=0,pos:=p} k f):=by
 have e:aG ⟨#[114,111,108,101,95,116,114,97,110,115,105,116,105,111,110]⟩ {Stm.zero with pos:=p} k=(b6 false k>>=fun x=>b6 false x.2>>=fun y=>aT ⟨#[58]⟩ y.2>>=fun a=>b6 false a.2>>=fun z=>aQ z.2>>=fun q=>.ok ({Stm.zero with kind:=7,op:=0,pos:=p,source:=x.1,target:=y.1,cls:=z.1,result:=q.1},q.2))>>=fun y=>aT ⟨#[59]⟩ y.2>>=fun z=>.ok (y.1,z.2):=by
  unfold aG bJ
  rw[if_neg (by decide),if_neg (by decide),if_neg (by decide),if_neg (by decide),if_neg (by decide),if_neg (by decide),if_neg (by decide),if_neg (by decide),if_neg (by decide)]
  simp only[ag,Bool.false_eq_true,if_false]
  unfold dE
  have n1:¬ 0<cc ⟨#[114,111,108,101,95,116,114,97,110,115,105,116,105,111,110]⟩ ruleW:=by decide
  have n2:¬ 0<cc ⟨#[114,111,108,101,95,116,114,97,110,115,105,116,105,111,110]⟩ transW:=by decide
  rw[if_neg n1]
  try rw[if_neg n2]
  rw[if_neg (show ¬ (⟨#[114,111,108,101,95,116,114,97,110,115,105,116,105,111,110]⟩:ByteArray)=⟨#[114,97,110,103,101,95,116,114,97,110,115,105,116,105,111,110]⟩ by decide),if_pos rfl]
  try unfold cJ
  simp only[exb,ag,if_true,if_false,Bool.false_eq_true]
  try rfl
 rw[e]
 refine ba ?_ (NZ.bind (aX _ k) fun x=>NZ.bind (aX _ _) fun y=>NZ.bind (bo _ _) fun a=>NZ.bind (aX _ _) fun z=>NZ.bind (aP _) fun q=>NZ.ok _)
 exact yy hl {Stm.zero with kind:=7,op:=0,pos:=p} rfl k f
theorem iJ (hl:Fine l) (p:Po) (k:Ix l) (f:Fa):RQ f (aG ⟨#[114,97,110,103,101,95,116,114,97,110,115,105,116,105,111,110]⟩ {Stm.zero with pos:=p} k) (bK {Stm.zero with kind:=14,op:=0,pos:=p} k f):=by
 have e:aG ⟨#[114,97,110,103,101,95,116,114,97,110,115,105,116,105,111,110]⟩ {Stm.zero with pos:=p} k=(b6 false k>>=fun x=>b6 false x.2>>=fun y=>aT ⟨#[58]⟩ y.2>>=fun a=>b6 false a.2>>=fun z=>cG z.2>>=fun q=>.ok ({Stm.zero with kind:=14,op:=0,pos:=p,source:=x.1,target:=y.1,cls:=z.1,range:=q.1},q.2))>>=fun y=>aT ⟨#[59]⟩ y.2>>=fun z=>.ok (y.1,z.2):=by
  unfold aG bJ
  rw[if_neg (by decide),if_neg (by decide),if_neg (by decide),if_neg (by decide),if_neg (by decide),if_neg (by decide),if_neg (by decide),if_neg (by decide),if_neg (by decide)]
  simp only[ag,Bool.false_eq_true,if_false]
  unfold dE
  have n1:¬ 0<cc ⟨#[114,97,110,103,101,95,116,114,97,110,115,105,116,105,111,110]⟩ ruleW:=by decide
  have n2:¬ 0<cc ⟨#[114,97,110,103,101,95,116,114,97,110,115,105,116,105,111,110]⟩ transW:=by decide
  rw[if_neg n1]
  try rw[if_neg n2]
  rw[if_pos rfl]
  try unfold cJ
  simp only[exb,ag,if_true,if_false,Bool.false_eq_true]
  try rfl
 rw[e]
 refine ba ?_ (NZ.bind (aX _ k) fun x=>NZ.bind (aX _ _) fun y=>NZ.bind (bo _ _) fun a=>NZ.bind (aX _ _) fun z=>NZ.bind (il _) fun q=>NZ.ok _)
 exact uT hl {Stm.zero with kind:=14,op:=0,pos:=p} rfl k f
theorem ly (hl:Fine l) (p:Po) (k:Ix l) (f:Fa):RQ f (aG ⟨#[99,111,110,115,116,114,97,105,110]⟩ {Stm.zero with pos:=p} k) (bK {Stm.zero with kind:=15,op:=0,pos:=p} k f):=by
 have e:aG ⟨#[99,111,110,115,116,114,97,105,110]⟩ {Stm.zero with pos:=p} k=(b6 false k>>=fun x=>b6 false x.2>>=fun y=>cI false y.2>>=fun z=>.ok ({Stm.zero with kind:=15,op:=0,pos:=p,cls:=x.1,perms:=y.1,cond:=z.1},z.2))>>=fun y=>aT ⟨#[59]⟩ y.2>>=fun z=>.ok (y.1,z.2):=by
  unfold aG bJ
  rw[if_neg (by decide),if_neg (by decide),if_neg (by decide),if_neg (by decide),if_neg (by decide),if_neg (by decide),if_neg (by decide),if_neg (by decide),if_neg (by decide)]
  simp only[ag,Bool.false_eq_true,if_false]
  unfold dE
  have n1:¬ 0<cc ⟨#[99,111,110,115,116,114,97,105,110]⟩ ruleW:=by decide
  have n2:¬ 0<cc ⟨#[99,111,110,115,116,114,97,105,110]⟩ transW:=by decide
  rw[if_neg n1]
  try rw[if_neg n2]
  rw[if_neg (show ¬ (⟨#[99,111,110,115,116,114,97,105,110]⟩:ByteArray)=⟨#[114,97,110,103,101,95,116,114,97,110,115,105,116,105,111,110]⟩ by decide),if_neg (show ¬ (⟨#[99,111,110,115,116,114,97,105,110]⟩:ByteArray)=⟨#[114,111,108,101,95,116,114,97,110,115,105,116,105,111,110]⟩ by decide),if_neg (show ¬ (⟨#[99,111,110,115,116,114,97,105,110]⟩:ByteArray)=⟨#[114,111,108,101,97,108,108,111,119]⟩ by decide),if_pos rfl]
  try unfold cJ
  simp only[exb,ag,if_true,if_false,Bool.false_eq_true]
  try rfl
 rw[e]
 refine ba ?_ (NZ.bind (aX _ k) fun x=>NZ.bind (aX _ _) fun y=>NZ.bind (kO _ _) fun z=>NZ.ok _)
 exact Dx hl {Stm.zero with kind:=15,op:=0,pos:=p} k f
theorem jD (hl:Fine l) (p:Po) (k:Ix l) (f:Fa):RQ f (aG ⟨#[118,97,108,105,100,97,116,101,116,114,97,110,115]⟩ {Stm.zero with pos:=p} k) (bK {Stm.zero with kind:=16,op:=0,pos:=p} k f):=by
 have e:aG ⟨#[118,97,108,105,100,97,116,101,116,114,97,110,115]⟩ {Stm.zero with pos:=p} k=(b6 false k>>=fun x=>cI true x.2>>=fun z=>.ok ({Stm.zero with kind:=16,op:=0,pos:=p,cls:=x.1,cond:=z.1},z.2))>>=fun y=>aT ⟨#[59]⟩ y.2>>=fun z=>.ok (y.1,z.2):=by
  unfold aG bJ
  rw[if_neg (by decide),if_neg (by decide),if_neg (by decide),if_neg (by decide),if_neg (by decide),if_neg (by decide),if_neg (by decide),if_neg (by decide),if_neg (by decide)]
  simp only[ag,Bool.false_eq_true,if_false]
  unfold dE
  have n1:¬ 0<cc ⟨#[118,97,108,105,100,97,116,101,116,114,97,110,115]⟩ ruleW:=by decide
  have n2:¬ 0<cc ⟨#[118,97,108,105,100,97,116,101,116,114,97,110,115]⟩ transW:=by decide
  rw[if_neg n1]
  try rw[if_neg n2]
  rw[if_neg (show ¬ (⟨#[118,97,108,105,100,97,116,101,116,114,97,110,115]⟩:ByteArray)=⟨#[114,97,110,103,101,95,116,114,97,110,115,105,116,105,111,110]⟩ by decide),if_neg (show ¬ (⟨#[118,97,108,105,100,97,116,101,116,114,97,110,115]⟩:ByteArray)=⟨#[114,111,108,101,95,116,114,97,110,115,105,116,105,111,110]⟩ by decide),if_neg (show ¬ (⟨#[118,97,108,105,100,97,116,101,116,114,97,110,115]⟩:ByteArray)=⟨#[114,111,108,101,97,108,108,111,119]⟩ by decide),if_neg (show ¬ (⟨#[118,97,108,105,100,97,116,101,116,114,97,110,115]⟩:ByteArray)=⟨#[99,111,110,115,116,114,97,105,110]⟩ by decide),if_pos rfl]
  try unfold cJ
  simp only[exb,ag,if_true,if_false,Bool.false_eq_true]
  try rfl
 rw[e]
 refine ba ?_ (NZ.bind (aX _ k) fun x=>NZ.bind (kO _ _) fun z=>NZ.ok _)
 exact Db hl {Stm.zero with kind:=16,op:=0,pos:=p} k f
theorem uy (hl:Fine l) (p:Po) (k:Ix l) (f:Fa):RQ f (aG ⟨#[115,105,100]⟩ {Stm.zero with pos:=p} k) (bK {Stm.zero with kind:=20,op:=0,pos:=p} k f):=by
 have e:aG ⟨#[115,105,100]⟩ {Stm.zero with pos:=p} k=(aQ k>>=fun x=>bR x.2>>=fun y=>.ok ({Stm.zero with kind:=20,op:=0,pos:=p,name:=x.1,ctx:=y.1},y.2))>>=fun y=>aT ⟨#[59]⟩ y.2>>=fun z=>.ok (y.1,z.2):=by
  unfold aG bJ
  rw[if_neg (by decide),if_neg (by decide),if_neg (by decide),if_neg (by decide),if_neg (by decide),if_neg (by decide),if_neg (by decide),if_neg (by decide),if_neg (by decide)]
  simp only[ag,Bool.false_eq_true,if_false]
  unfold dE
  have n1:¬ 0<cc ⟨#[115,105,100]⟩ ruleW:=by decide
  have n2:¬ 0<cc ⟨#[115,105,100]⟩ transW:=by decide
  rw[if_neg n1]
  try rw[if_neg n2]
  rw[if_neg (show ¬ (⟨#[115,105,100]⟩:ByteArray)=⟨#[114,97,110,103,101,95,116,114,97,110,115,105,116,105,111,110]⟩ by decide),if_neg (show ¬ (⟨#[115,105,100]⟩:ByteArray)=⟨#[114,111,108,101,95,116,114,97,110,115,105,116,105,111,110]⟩ by decide),if_neg (show ¬ (⟨#[115,105,100]⟩:ByteArray)=⟨#[114,111,108,101,97,108,108,111,119]⟩ by decide),if_neg (show ¬ (⟨#[115,105,100]⟩:ByteArray)=⟨#[99,111,110,115,116,114,97,105,110]⟩ by decide),if_neg (show ¬ (⟨#[115,105,100]⟩:ByteArray)=⟨#[118,97,108,105,100,97,116,101,116,114,97,110,115]⟩ by decide)]
  simp only[ag,Bool.false_eq_true,if_false]
  unfold dw
  rw[if_neg (show ¬ (⟨#[115,105,100]⟩:ByteArray)=⟨#[114,101,113,117,105,114,101]⟩ by decide),if_pos rfl]
  try unfold cJ
  simp only[exb,ag,if_true,if_false,Bool.false_eq_true]
  try rfl
 rw[e]
 refine ba ?_ (NZ.bind (aP k) fun x=>NZ.bind (jU _) fun y=>NZ.ok _)
 exact CQ hl {Stm.zero with kind:=20,op:=0,pos:=p} k f
theorem nN (hl:Fine l) (p:Po) (k:Ix l) (f:Fa):RQ f (aG ⟨#[102,105,108,101,99,111,110]⟩ {Stm.zero with pos:=p} k) (bK {Stm.zero with kind:=21,op:=0,pos:=p} k f):=by
 have e:aG ⟨#[102,105,108,101,99,111,110]⟩ {Stm.zero with pos:=p} k=(gQ k>>=fun x=>bb eU x.2>>=fun y=>bR y.2>>=fun z=>.ok ({{Stm.zero with kind:=21,op:=0,pos:=p} with text:=x.1,op:=y.1,ctx:=z.1},z.2))>>=fun y=>aT ⟨#[59]⟩ y.2>>=fun z=>.ok (y.1,z.2):=by
  unfold aG bJ
  rw[if_neg (by decide),if_neg (by decide),if_neg (by decide),if_neg (by decide),if_neg (by decide),if_neg (by decide),if_neg (by decide),if_neg (by decide),if_neg (by decide)]
  simp only[ag,Bool.false_eq_true,if_false]
  unfold dE
  have n1:¬ 0<cc ⟨#[102,105,108,101,99,111,110]⟩ ruleW:=by decide
  have n2:¬ 0<cc ⟨#[102,105,108,101,99,111,110]⟩ transW:=by decide
  rw[if_neg n1]
  try rw[if_neg n2]
  rw[if_neg (show ¬ (⟨#[102,105,108,101,99,111,110]⟩:ByteArray)=⟨#[114,97,110,103,101,95,116,114,97,110,115,105,116,105,111,110]⟩ by decide),if_neg (show ¬ (⟨#[102,105,108,101,99,111,110]⟩:ByteArray)=⟨#[114,111,108,101,95,116,114,97,110,115,105,116,105,111,110]⟩ by decide),if_neg (show ¬ (⟨#[102,105,108,101,99,111,110]⟩:ByteArray)=⟨#[114,111,108,101,97,108,108,111,119]⟩ by decide),if_neg (show ¬ (⟨#[102,105,108,101,99,111,110]⟩:ByteArray)=⟨#[99,111,110,115,116,114,97,105,110]⟩ by decide),if_neg (show ¬ (⟨#[102,105,108,101,99,111,110]⟩:ByteArray)=⟨#[118,97,108,105,100,97,116,101,116,114,97,110,115]⟩ by decide)]
  simp only[ag,Bool.false_eq_true,if_false]
  unfold dw
  rw[if_neg (show ¬ (⟨#[102,105,108,101,99,111,110]⟩:ByteArray)=⟨#[114,101,113,117,105,114,101]⟩ by decide),if_neg (show ¬ (⟨#[102,105,108,101,99,111,110]⟩:ByteArray)=⟨#[115,105,100]⟩ by decide),if_pos rfl]
  try unfold cJ
  simp only[exb,ag,if_true,if_false,Bool.false_eq_true]
  try rfl
 rw[e]
 refine ba ?_ (NZ.bind (oW k) fun x=>NZ.bind (dy _ _) fun y=>NZ.bind (jU _) fun z=>NZ.ok _)
 exact Aj hl {Stm.zero with kind:=21,op:=0,pos:=p} k f
theorem kU (hl:Fine l) (p:Po) (k:Ix l) (f:Fa):RQ f (aG ⟨#[112,101,114,109,105,115,115,105,118,101]⟩ {Stm.zero with pos:=p} k) (bK {Stm.zero with kind:=22,op:=0,pos:=p} k f):=by
 have e:aG ⟨#[112,101,114,109,105,115,115,105,118,101]⟩ {Stm.zero with pos:=p} k=(b6 false k>>=fun x=>.ok ({Stm.zero with kind:=22,op:=0,pos:=p,source:=x.1},x.2))>>=fun y=>aT ⟨#[59]⟩ y.2>>=fun z=>.ok (y.1,z.2):=by
  unfold aG bJ
  rw[if_neg (by decide),if_neg (by decide),if_neg (by decide),if_neg (by decide),if_neg (by decide),if_neg (by decide),if_neg (by decide),if_neg (by decide),if_neg (by decide)]
  simp only[ag,Bool.false_eq_true,if_false]
  unfold dE
  have n1:¬ 0<cc ⟨#[112,101,114,109,105,115,115,105,118,101]⟩ ruleW:=by decide
  have n2:¬ 0<cc ⟨#[112,101,114,109,105,115,115,105,118,101]⟩ transW:=by decide
  rw[if_neg n1]
  try rw[if_neg n2]
  rw[if_neg (show ¬ (⟨#[112,101,114,109,105,115,115,105,118,101]⟩:ByteArray)=⟨#[114,97,110,103,101,95,116,114,97,110,115,105,116,105,111,110]⟩ by decide),if_neg (show ¬ (⟨#[112,101,114,109,105,115,115,105,118,101]⟩:ByteArray)=⟨#[114,111,108,101,95,116,114,97,110,115,105,116,105,111,110]⟩ by decide),if_neg (show ¬ (⟨#[112,101,114,109,105,115,115,105,118,101]⟩:ByteArray)=⟨#[114,111,108,101,97,108,108,111,119]⟩ by decide),if_neg (show ¬ (⟨#[112,101,114,109,105,115,115,105,118,101]⟩:ByteArray)=⟨#[99,111,110,115,116,114,97,105,110]⟩ by decide),if_neg (show ¬ (⟨#[112,101,114,109,105,115,115,105,118,101]⟩:ByteArray)=⟨#[118,97,108,105,100,97,116,101,116,114,97,110,115]⟩ by decide)]
  simp only[ag,Bool.false_eq_true,if_false]
  unfold dw
  rw[if_neg (show ¬ (⟨#[112,101,114,109,105,115,115,105,118,101]⟩:ByteArray)=⟨#[114,101,113,117,105,114,101]⟩ by decide),if_neg (show ¬ (⟨#[112,101,114,109,105,115,115,105,118,101]⟩:ByteArray)=⟨#[115,105,100]⟩ by decide),if_neg (show ¬ (⟨#[112,101,114,109,105,115,115,105,118,101]⟩:ByteArray)=⟨#[102,105,108,101,99,111,110]⟩ by decide),if_pos rfl]
  try unfold cJ
  simp only[exb,ag,if_true,if_false,Bool.false_eq_true]
  try rfl
 rw[e]
 refine ba ?_ (NZ.bind (aX _ k) fun x=>NZ.ok _)
 show RQ f _ (tr {Stm.zero with kind:=22,op:=0,pos:=p} k f)
 exact BQ hl {Stm.zero with kind:=22,op:=0,pos:=p} k f
theorem qK (hl:Fine l) (p:Po) (k:Ix l) (f:Fa):RQ f (aG ⟨#[97,108,108,111,119]⟩ {Stm.zero with pos:=p} k) (bK {Stm.zero with kind:=12,op:=1,pos:=p} k f):=by
 have e:aG ⟨#[97,108,108,111,119]⟩ {Stm.zero with pos:=p} k=(b6 false k>>=fun x=>b6 true x.2>>=fun y=>aT ⟨#[58]⟩ y.2>>=fun a=>b6 false a.2>>=fun z=>b6 false z.2>>=fun q=>.ok ({Stm.zero with kind:=12,op:=1,pos:=p,source:=x.1,target:=y.1,cls:=z.1,perms:=q.1},q.2))>>=fun y=>aT ⟨#[59]⟩ y.2>>=fun z=>.ok (y.1,z.2):=by
  unfold aG bJ
  rw[if_neg (by decide),if_neg (by decide),if_neg (by decide),if_neg (by decide),if_neg (by decide),if_neg (by decide),if_neg (by decide),if_neg (by decide),if_neg (by decide)]
  simp only[ag,Bool.false_eq_true,if_false]
  unfold dE
  have n1:0<cc ⟨#[97,108,108,111,119]⟩ ruleW:=by decide
  have n3:cc ⟨#[97,108,108,111,119]⟩ ruleW=1:=by decide
  rw[if_pos n1,n3]
  unfold cJ
  simp only[exb,ag,if_true,if_false,Bool.false_eq_true]
  try rfl
 rw[e]
 refine ba ?_ (NZ.bind (aX _ k) fun x=>NZ.bind (aX _ _) fun y=>NZ.bind (bo _ _) fun a=>NZ.bind (aX _ _) fun z=>NZ.bind (aX _ _) fun q=>NZ.ok _)
 show RQ f _ (bL {Stm.zero with kind:=12,op:=1,pos:=p} k f)
 exact jw hl {Stm.zero with kind:=12,op:=1,pos:=p} rfl k f
theorem kS (hl:Fine l) (p:Po) (k:Ix l) (f:Fa):RQ f (aG ⟨#[97,117,100,105,116,97,108,108,111,119]⟩ {Stm.zero with pos:=p} k) (bK {Stm.zero with kind:=12,op:=2,pos:=p} k f):=by
 have e:aG ⟨#[97,117,100,105,116,97,108,108,111,119]⟩ {Stm.zero with pos:=p} k=(b6 false k>>=fun x=>b6 true x.2>>=fun y=>aT ⟨#[58]⟩ y.2>>=fun a=>b6 false a.2>>=fun z=>b6 false z.2>>=fun q=>.ok ({Stm.zero with kind:=12,op:=2,pos:=p,source:=x.1,target:=y.1,cls:=z.1,perms:=q.1},q.2))>>=fun y=>aT ⟨#[59]⟩ y.2>>=fun z=>.ok (y.1,z.2):=by
  unfold aG bJ
  rw[if_neg (by decide),if_neg (by decide),if_neg (by decide),if_neg (by decide),if_neg (by decide),if_neg (by decide),if_neg (by decide),if_neg (by decide),if_neg (by decide)]
  simp only[ag,Bool.false_eq_true,if_false]
  unfold dE
  have n1:0<cc ⟨#[97,117,100,105,116,97,108,108,111,119]⟩ ruleW:=by decide
  have n3:cc ⟨#[97,117,100,105,116,97,108,108,111,119]⟩ ruleW=2:=by decide
  rw[if_pos n1,n3]
  unfold cJ
  simp only[exb,ag,if_true,if_false,Bool.false_eq_true]
  try rfl
 rw[e]
 refine ba ?_ (NZ.bind (aX _ k) fun x=>NZ.bind (aX _ _) fun y=>NZ.bind (bo _ _) fun a=>NZ.bind (aX _ _) fun z=>NZ.bind (aX _ _) fun q=>NZ.ok _)
 show RQ f _ (bL {Stm.zero with kind:=12,op:=2,pos:=p} k f)
 exact jw hl {Stm.zero with kind:=12,op:=2,pos:=p} rfl k f
theorem lC (hl:Fine l) (p:Po) (k:Ix l) (f:Fa):RQ f (aG ⟨#[100,111,110,116,97,117,100,105,116]⟩ {Stm.zero with pos:=p} k) (bK {Stm.zero with kind:=12,op:=3,pos:=p} k f):=by
 have e:aG ⟨#[100,111,110,116,97,117,100,105,116]⟩ {Stm.zero with pos:=p} k=(b6 false k>>=fun x=>b6 true x.2>>=fun y=>aT ⟨#[58]⟩ y.2>>=fun a=>b6 false a.2>>=fun z=>b6 false z.2>>=fun q=>.ok ({Stm.zero with kind:=12,op:=3,pos:=p,source:=x.1,target:=y.1,cls:=z.1,perms:=q.1},q.2))>>=fun y=>aT ⟨#[59]⟩ y.2>>=fun z=>.ok (y.1,z.2):=by
  unfold aG bJ
  rw[if_neg (by decide),if_neg (by decide),if_neg (by decide),if_neg (by decide),if_neg (by decide),if_neg (by decide),if_neg (by decide),if_neg (by decide),if_neg (by decide)]
  simp only[ag,Bool.false_eq_true,if_false]
  unfold dE
  have n1:0<cc ⟨#[100,111,110,116,97,117,100,105,116]⟩ ruleW:=by decide
  have n3:cc ⟨#[100,111,110,116,97,117,100,105,116]⟩ ruleW=3:=by decide
  rw[if_pos n1,n3]
  unfold cJ
  simp only[exb,ag,if_true,if_false,Bool.false_eq_true]
  try rfl
 rw[e]
 refine ba ?_ (NZ.bind (aX _ k) fun x=>NZ.bind (aX _ _) fun y=>NZ.bind (bo _ _) fun a=>NZ.bind (aX _ _) fun z=>NZ.bind (aX _ _) fun q=>NZ.ok _)
 show RQ f _ (bL {Stm.zero with kind:=12,op:=3,pos:=p} k f)
 exact jw hl {Stm.zero with kind:=12,op:=3,pos:=p} rfl k f
theorem l3 (hl:Fine l) (p:Po) (k:Ix l) (f:Fa):RQ f (aG ⟨#[110,101,118,101,114,97,108,108,111,119]⟩ {Stm.zero with pos:=p} k) (bK {Stm.zero with kind:=12,op:=4,pos:=p} k f):=by
 have e:aG ⟨#[110,101,118,101,114,97,108,108,111,119]⟩ {Stm.zero with pos:=p} k=(b6 false k>>=fun x=>b6 true x.2>>=fun y=>aT ⟨#[58]⟩ y.2>>=fun a=>b6 false a.2>>=fun z=>b6 false z.2>>=fun q=>.ok ({Stm.zero with kind:=12,op:=4,pos:=p,source:=x.1,target:=y.1,cls:=z.1,perms:=q.1},q.2))>>=fun y=>aT ⟨#[59]⟩ y.2>>=fun z=>.ok (y.1,z.2):=by
  unfold aG bJ
  rw[if_neg (by decide),if_neg (by decide),if_neg (by decide),if_neg (by decide),if_neg (by decide),if_neg (by decide),if_neg (by decide),if_neg (by decide),if_neg (by decide)]
  simp only[ag,Bool.false_eq_true,if_false]
  unfold dE
  have n1:0<cc ⟨#[110,101,118,101,114,97,108,108,111,119]⟩ ruleW:=by decide
  have n3:cc ⟨#[110,101,118,101,114,97,108,108,111,119]⟩ ruleW=4:=by decide
  rw[if_pos n1,n3]
  unfold cJ
  simp only[exb,ag,if_true,if_false,Bool.false_eq_true]
  try rfl
 rw[e]
 refine ba ?_ (NZ.bind (aX _ k) fun x=>NZ.bind (aX _ _) fun y=>NZ.bind (bo _ _) fun a=>NZ.bind (aX _ _) fun z=>NZ.bind (aX _ _) fun q=>NZ.ok _)
 show RQ f _ (bL {Stm.zero with kind:=12,op:=4,pos:=p} k f)
 exact jw hl {Stm.zero with kind:=12,op:=4,pos:=p} rfl k f
theorem pA (hl:Fine l) (p:Po) (k:Ix l) (f:Fa):RQ f (aG ⟨#[97,115,115,101,114,116]⟩ {Stm.zero with pos:=p} k) (bK {Stm.zero with kind:=23,op:=0,pos:=p} k f):=by
 have e:aG ⟨#[97,115,115,101,114,116]⟩ {Stm.zero with pos:=p} k=(aQ k>>=fun x=>bb iK x.2>>=fun y=>b6 false y.2>>=fun z=>b6 false z.2>>=fun u=>.ok ({{Stm.zero with kind:=23,op:=0,pos:=p} with name:=x.1,op:=y.1+1,source:=z.1,target:=u.1},u.2))>>=fun y=>aT ⟨#[59]⟩ y.2>>=fun z=>.ok (y.1,z.2):=by
  unfold aG bJ
  rw[if_neg (by decide),if_neg (by decide),if_neg (by decide),if_neg (by decide),if_neg (by decide),if_neg (by decide),if_neg (by decide),if_neg (by decide),if_neg (by decide)]
  simp only[ag,Bool.false_eq_true,if_false]
  unfold dE
  have n1:¬ 0<cc ⟨#[97,115,115,101,114,116]⟩ ruleW:=by decide
  have n2:¬ 0<cc ⟨#[97,115,115,101,114,116]⟩ transW:=by decide
  rw[if_neg n1]
  try rw[if_neg n2]
  rw[if_neg (show ¬ (⟨#[97,115,115,101,114,116]⟩:ByteArray)=⟨#[114,97,110,103,101,95,116,114,97,110,115,105,116,105,111,110]⟩ by decide),if_neg (show ¬ (⟨#[97,115,115,101,114,116]⟩:ByteArray)=⟨#[114,111,108,101,95,116,114,97,110,115,105,116,105,111,110]⟩ by decide),if_neg (show ¬ (⟨#[97,115,115,101,114,116]⟩:ByteArray)=⟨#[114,111,108,101,97,108,108,111,119]⟩ by decide),if_neg (show ¬ (⟨#[97,115,115,101,114,116]⟩:ByteArray)=⟨#[99,111,110,115,116,114,97,105,110]⟩ by decide),if_neg (show ¬ (⟨#[97,115,115,101,114,116]⟩:ByteArray)=⟨#[118,97,108,105,100,97,116,101,116,114,97,110,115]⟩ by decide)]
  simp only[ag,Bool.false_eq_true,if_false]
  unfold dw
  rw[if_neg (show ¬ (⟨#[97,115,115,101,114,116]⟩:ByteArray)=⟨#[114,101,113,117,105,114,101]⟩ by decide),if_neg (show ¬ (⟨#[97,115,115,101,114,116]⟩:ByteArray)=⟨#[115,105,100]⟩ by decide),if_neg (show ¬ (⟨#[97,115,115,101,114,116]⟩:ByteArray)=⟨#[102,105,108,101,99,111,110]⟩ by decide),if_neg (show ¬ (⟨#[97,115,115,101,114,116]⟩:ByteArray)=⟨#[112,101,114,109,105,115,115,105,118,101]⟩ by decide),if_pos rfl]
  try unfold cJ
  simp only[exb,ag,if_true,if_false,Bool.false_eq_true,Int.add_comm 1]
  try rfl
 rw[e]
 refine ba ?_ (NZ.bind (aP k) fun x=>NZ.bind (dy _ _) fun y=>NZ.bind (aX _ _) fun z=>NZ.bind (aX _ _) fun u=>NZ.ok _)
 show RQ f _ (wS {Stm.zero with kind:=23,op:=0,pos:=p} k f)
 exact D0 hl {Stm.zero with kind:=23,op:=0,pos:=p} k f
theorem rE (hl:Fine l) (p:Po) (k:Ix l) (f:Fa):RQ f (aG ⟨#[116,121,112,101]⟩ {Stm.zero with pos:=p} k) (bK {Stm.zero with kind:=2,op:=0,pos:=p} k f):=by
 have e:aG ⟨#[116,121,112,101]⟩ {Stm.zero with pos:=p} k=(aQ k>>=fun x=>if isW ⟨#[97,108,105,97,115]⟩ x.2 then bq (nx x.2)>>=fun y=>b5 (fuel l) [] y.2>>=fun z=>.ok ({Stm.zero with kind:=2,op:=0,pos:=p,name:=x.1,aliases:=y.1,list:=z.1},z.2) else b5 (fuel l) [] x.2>>=fun z=>.ok ({Stm.zero with kind:=2,op:=0,pos:=p,name:=x.1,list:=z.1},z.2))>>=fun y=>aT ⟨#[59]⟩ y.2>>=fun z=>.ok (y.1,z.2):=by
  unfold aG bJ
  rw[if_neg (by decide),if_pos rfl]
  simp only[exb,itb,ag,au,if_true,if_false,Bool.false_eq_true]
  try rfl
 rw[e]
 refine ba ?_ (NZ.bind (aP k) fun x=>NZ.ite (NZ.bind (dz _) fun y=>NZ.bind (gf _ _ _) fun z=>NZ.ok _) (NZ.bind (gf _ _ _) fun z=>NZ.ok _))
 show RQ f _ (cm {Stm.zero with kind:=2,op:=0,pos:=p} k f)
 refine iF {Stm.zero with kind:=2,op:=0,pos:=p} (fun x k f=>?_) k f
 exact Bq hl {Stm.zero with kind:=2,op:=0,pos:=p,name:=x} k f
theorem rp (hl:Fine l) (p:Po) (k:Ix l) (f:Fa):RQ f (aG ⟨#[114,111,108,101]⟩ {Stm.zero with pos:=p} k) (bK {Stm.zero with kind:=5,op:=0,pos:=p} k f):=by
 have e:aG ⟨#[114,111,108,101]⟩ {Stm.zero with pos:=p} k=(aQ k>>=fun x=>if isW ⟨#[116,121,112,101,115]⟩ x.2 then b6 false (nx x.2)>>=fun y=>.ok ({Stm.zero with kind:=5,op:=0,pos:=p,name:=x.1,source:=y.1},y.2) else .ok ({Stm.zero with kind:=5,op:=0,pos:=p,name:=x.1},x.2))>>=fun y=>aT ⟨#[59]⟩ y.2>>=fun z=>.ok (y.1,z.2):=by
  unfold aG bJ
  rw[if_neg (by decide),if_neg (by decide),if_neg (by decide),if_neg (by decide),if_pos rfl]
  simp only[exb,itb,ag,au,if_true,if_false,Bool.false_eq_true]
  try rfl
 rw[e]
 refine ba ?_ (NZ.bind (aP k) fun x=>NZ.ite (NZ.bind (aX _ _) fun y=>NZ.ok _) (NZ.ok _))
 show RQ f _ (cm {Stm.zero with kind:=5,op:=0,pos:=p} k f)
 refine iF {Stm.zero with kind:=5,op:=0,pos:=p} (fun x k f=>?_) k f
 exact zA hl {Stm.zero with kind:=5,op:=0,pos:=p,name:=x} k f
theorem nK (hl:Fine l) (p:Po) (k:Ix l) (f:Fa):RQ f (aG ⟨#[114,101,113,117,105,114,101]⟩ {Stm.zero with pos:=p} k) (bK {Stm.zero with kind:=19,op:=0,pos:=p} k f):=by
 have e:aG ⟨#[114,101,113,117,105,114,101]⟩ {Stm.zero with pos:=p} k=(bb gX k>>=fun x=>if x.1=0 then aQ x.2>>=fun y=>bq y.2>>=fun z=>.ok ({{Stm.zero with kind:=19,op:=0,pos:=p} with op:=1,name:=y.1,list:=z.1},z.2) else cn x.2>>=fun y=>.ok ({{Stm.zero with kind:=19,op:=0,pos:=p} with op:=1+x.1,list:=y.1},y.2))>>=fun y=>aT ⟨#[59]⟩ y.2>>=fun z=>.ok (y.1,z.2):=by
  unfold aG bJ
  rw[if_neg (by decide),if_neg (by decide),if_neg (by decide),if_neg (by decide),if_neg (by decide),if_neg (by decide),if_neg (by decide),if_neg (by decide),if_neg (by decide)]
  simp only[ag,Bool.false_eq_true,if_false]
  unfold dE
  have n1:¬ 0<cc ⟨#[114,101,113,117,105,114,101]⟩ ruleW:=by decide
  have n2:¬ 0<cc ⟨#[114,101,113,117,105,114,101]⟩ transW:=by decide
  rw[if_neg n1]
  try rw[if_neg n2]
  rw[if_neg (show ¬ (⟨#[114,101,113,117,105,114,101]⟩:ByteArray)=⟨#[114,97,110,103,101,95,116,114,97,110,115,105,116,105,111,110]⟩ by decide),if_neg (show ¬ (⟨#[114,101,113,117,105,114,101]⟩:ByteArray)=⟨#[114,111,108,101,95,116,114,97,110,115,105,116,105,111,110]⟩ by decide),if_neg (show ¬ (⟨#[114,101,113,117,105,114,101]⟩:ByteArray)=⟨#[114,111,108,101,97,108,108,111,119]⟩ by decide),if_neg (show ¬ (⟨#[114,101,113,117,105,114,101]⟩:ByteArray)=⟨#[99,111,110,115,116,114,97,105,110]⟩ by decide),if_neg (show ¬ (⟨#[114,101,113,117,105,114,101]⟩:ByteArray)=⟨#[118,97,108,105,100,97,116,101,116,114,97,110,115]⟩ by decide)]
  simp only[ag,Bool.false_eq_true,if_false]
  unfold dw
  rw[if_pos rfl]
  try unfold cJ
  simp only[exb,itb,ag,au,if_true,if_false,Bool.false_eq_true]
  try rfl
 rw[e]
 refine ba ?_ (NZ.bind (dy _ k) fun x=>NZ.ite (NZ.bind (aP _) fun y=>NZ.bind (dz _) fun z=>NZ.ok _) (NZ.bind (ju _) fun y=>NZ.ok _))
 show RQ f _ (lE {Stm.zero with kind:=19,op:=0,pos:=p} k f)
 exact E1 hl {Stm.zero with kind:=19,op:=0,pos:=p} k f
theorem iT (hl:Fine l) (p:Po) (k:Ix l) (f:Fa):RQ f (aG ⟨#[116,121,112,101,95,116,114,97,110,115,105,116,105,111,110]⟩ {Stm.zero with pos:=p} k) (bK {Stm.zero with kind:=13,op:=1,pos:=p} k f):=by
 have e:aG ⟨#[116,121,112,101,95,116,114,97,110,115,105,116,105,111,110]⟩ {Stm.zero with pos:=p} k=(b6 false k>>=fun x=>b6 false x.2>>=fun y=>aT ⟨#[58]⟩ y.2>>=fun a=>b6 false a.2>>=fun z=>aQ z.2>>=fun q=>if(1:Int)=1∧(tk q.2).kind=3 then(if gr (tk q.2).text then .ok ({Stm.zero with kind:=13,op:=1,pos:=p,source:=x.1,target:=y.1,cls:=z.1,result:=q.1,text:=(tk q.2).text},nx q.2) else .error (flt 10 (tk q.2))) else .ok ({Stm.zero with kind:=13,op:=1,pos:=p,source:=x.1,target:=y.1,cls:=z.1,result:=q.1},q.2))>>=fun y=>aT ⟨#[59]⟩ y.2>>=fun z=>.ok (y.1,z.2):=by
  unfold aG bJ
  rw[if_neg (by decide),if_neg (by decide),if_neg (by decide),if_neg (by decide),if_neg (by decide),if_neg (by decide),if_neg (by decide),if_neg (by decide),if_neg (by decide)]
  simp only[ag,Bool.false_eq_true,if_false]
  unfold dE
  have n1:¬ 0<cc ⟨#[116,121,112,101,95,116,114,97,110,115,105,116,105,111,110]⟩ ruleW:=by decide
  have n2:0<cc ⟨#[116,121,112,101,95,116,114,97,110,115,105,116,105,111,110]⟩ transW:=by decide
  have n3:cc ⟨#[116,121,112,101,95,116,114,97,110,115,105,116,105,111,110]⟩ transW=1:=by decide
  rw[if_neg n1,if_pos n2,n3]
  unfold cJ
  simp only[exb,itb,ag,au,if_true,if_false,Bool.false_eq_true]
  try rfl
 rw[e]
 refine ba ?_ (NZ.bind (aX _ k) fun x=>NZ.bind (aX _ _) fun y=>NZ.bind (bo _ _) fun a=>NZ.bind (aX _ _) fun z=>NZ.bind (aP _) fun q=>NZ.ite (NZ.ite (NZ.ok _) (NZ.fl (by decide))) (NZ.ok _))
 show RQ f _ (bL {Stm.zero with kind:=13,op:=1,pos:=p} k f)
 exact kQ hl {Stm.zero with kind:=13,op:=1,pos:=p} rfl k f
theorem kg (hl:Fine l) (p:Po) (k:Ix l) (f:Fa):RQ f (aG ⟨#[116,121,112,101,95,99,104,97,110,103,101]⟩ {Stm.zero with pos:=p} k) (bK {Stm.zero with kind:=13,op:=2,pos:=p} k f):=by
 have e:aG ⟨#[116,121,112,101,95,99,104,97,110,103,101]⟩ {Stm.zero with pos:=p} k=(b6 false k>>=fun x=>b6 false x.2>>=fun y=>aT ⟨#[58]⟩ y.2>>=fun a=>b6 false a.2>>=fun z=>aQ z.2>>=fun q=>if(2:Int)=1∧(tk q.2).kind=3 then(if gr (tk q.2).text then .ok ({Stm.zero with kind:=13,op:=2,pos:=p,source:=x.1,target:=y.1,cls:=z.1,result:=q.1,text:=(tk q.2).text},nx q.2) else .error (flt 10 (tk q.2))) else .ok ({Stm.zero with kind:=13,op:=2,pos:=p,source:=x.1,target:=y.1,cls:=z.1,result:=q.1},q.2))>>=fun y=>aT ⟨#[59]⟩ y.2>>=fun z=>.ok (y.1,z.2):=by
  unfold aG bJ
  rw[if_neg (by decide),if_neg (by decide),if_neg (by decide),if_neg (by decide),if_neg (by decide),if_neg (by decide),if_neg (by decide),if_neg (by decide),if_neg (by decide)]
  simp only[ag,Bool.false_eq_true,if_false]
  unfold dE
  have n1:¬ 0<cc ⟨#[116,121,112,101,95,99,104,97,110,103,101]⟩ ruleW:=by decide
  have n2:0<cc ⟨#[116,121,112,101,95,99,104,97,110,103,101]⟩ transW:=by decide
  have n3:cc ⟨#[116,121,112,101,95,99,104,97,110,103,101]⟩ transW=2:=by decide
  rw[if_neg n1,if_pos n2,n3]
  unfold cJ
  simp only[exb,itb,ag,au,if_true,if_false,Bool.false_eq_true]
  try rfl
 rw[e]
 refine ba ?_ (NZ.bind (aX _ k) fun x=>NZ.bind (aX _ _) fun y=>NZ.bind (bo _ _) fun a=>NZ.bind (aX _ _) fun z=>NZ.bind (aP _) fun q=>NZ.ite (NZ.ite (NZ.ok _) (NZ.fl (by decide))) (NZ.ok _))
 show RQ f _ (bL {Stm.zero with kind:=13,op:=2,pos:=p} k f)
 exact kQ hl {Stm.zero with kind:=13,op:=2,pos:=p} rfl k f
theorem kB (hl:Fine l) (p:Po) (k:Ix l) (f:Fa):RQ f (aG ⟨#[116,121,112,101,95,109,101,109,98,101,114]⟩ {Stm.zero with pos:=p} k) (bK {Stm.zero with kind:=13,op:=3,pos:=p} k f):=by
 have e:aG ⟨#[116,121,112,101,95,109,101,109,98,101,114]⟩ {Stm.zero with pos:=p} k=(b6 false k>>=fun x=>b6 false x.2>>=fun y=>aT ⟨#[58]⟩ y.2>>=fun a=>b6 false a.2>>=fun z=>aQ z.2>>=fun q=>if(3:Int)=1∧(tk q.2).kind=3 then(if gr (tk q.2).text then .ok ({Stm.zero with kind:=13,op:=3,pos:=p,source:=x.1,target:=y.1,cls:=z.1,result:=q.1,text:=(tk q.2).text},nx q.2) else .error (flt 10 (tk q.2))) else .ok ({Stm.zero with kind:=13,op:=3,pos:=p,source:=x.1,target:=y.1,cls:=z.1,result:=q.1},q.2))>>=fun y=>aT ⟨#[59]⟩ y.2>>=fun z=>.ok (y.1,z.2):=by
  unfold aG bJ
  rw[if_neg (by decide),if_neg (by decide),if_neg (by decide),if_neg (by decide),if_neg (by decide),if_neg (by decide),if_neg (by decide),if_neg (by decide),if_neg (by decide)]
  simp only[ag,Bool.false_eq_true,if_false]
  unfold dE
  have n1:¬ 0<cc ⟨#[116,121,112,101,95,109,101,109,98,101,114]⟩ ruleW:=by decide
  have n2:0<cc ⟨#[116,121,112,101,95,109,101,109,98,101,114]⟩ transW:=by decide
  have n3:cc ⟨#[116,121,112,101,95,109,101,109,98,101,114]⟩ transW=3:=by decide
  rw[if_neg n1,if_pos n2,n3]
  unfold cJ
  simp only[exb,itb,ag,au,if_true,if_false,Bool.false_eq_true]
  try rfl
 rw[e]
 refine ba ?_ (NZ.bind (aX _ k) fun x=>NZ.bind (aX _ _) fun y=>NZ.bind (bo _ _) fun a=>NZ.bind (aX _ _) fun z=>NZ.bind (aP _) fun q=>NZ.ite (NZ.ite (NZ.ok _) (NZ.fl (by decide))) (NZ.ok _))
 show RQ f _ (bL {Stm.zero with kind:=13,op:=3,pos:=p} k f)
 exact kQ hl {Stm.zero with kind:=13,op:=3,pos:=p} rfl k f
end
end Am
namespace Am
open Tk
set_option maxRecDepth 100000
section
variable {l:List Tok}
theorem z8 (hl:Fine l) {w:ByteArray} (hb:iS w=true) (hi:¬ (w=⟨#[105,102]⟩∨w=⟨#[111,112,116,105,111,110,97,108]⟩)) (p:Po) (k:Ix l) (f:Fa):RQ f (aG w {Stm.zero with pos:=p} k) (bK {Stm.zero with kind:=fY (kwN w),op:=zH (kwN w),pos:=p} k f):=by
 unfold iS beginW at hb
 simp only[List.any_cons,List.any_nil,Bool.or_false,Bool.or_eq_true,decide_eq_true_eq] at hb
 rcases hb with rfl|rfl|rfl|rfl|rfl|rfl|rfl|rfl|rfl|rfl|rfl|rfl|rfl|rfl|rfl|rfl|rfl|rfl|rfl|rfl|rfl|rfl|rfl|rfl|rfl|rfl|rfl|rfl
 ·have e:kwN ⟨#[99,108,97,115,115]⟩=1:=by decide
  rw[e]
  exact qa hl p k f
 ·have e:kwN ⟨#[116,121,112,101]⟩=2:=by decide
  rw[e]
  exact rE hl p k f
 ·have e:kwN ⟨#[97,116,116,114,105,98,117,116,101]⟩=3:=by decide
  rw[e]
  exact lB hl p k f
 ·have e:kwN ⟨#[116,121,112,101,97,116,116,114,105,98,117,116,101]⟩=4:=by decide
  rw[e]
  exact jE hl p k f
 ·have e:kwN ⟨#[114,111,108,101]⟩=5:=by decide
  rw[e]
  exact rp hl p k f
 ·have e:kwN ⟨#[114,111,108,101,97,108,108,111,119]⟩=6:=by decide
  rw[e]
  exact lA hl p k f
 ·have e:kwN ⟨#[114,111,108,101,95,116,114,97,110,115,105,116,105,111,110]⟩=7:=by decide
  rw[e]
  exact iQ hl p k f
 ·have e:kwN ⟨#[117,115,101,114]⟩=8:=by decide
  rw[e]
  exact rX hl p k f
 ·have e:kwN ⟨#[98,111,111,108]⟩=9:=by decide
  rw[e]
  exact sT hl p k f
 ·have e:kwN ⟨#[115,101,110,115,105,116,105,118,105,116,121]⟩=10:=by decide
  rw[e]
  exact kA hl p k f
 ·have e:kwN ⟨#[99,97,116,101,103,111,114,121]⟩=11:=by decide
  rw[e]
  exact mv hl p k f
 ·have e:kwN ⟨#[97,108,108,111,119]⟩=24:=by decide
  rw[e]
  exact qK hl p k f
 ·have e:kwN ⟨#[97,117,100,105,116,97,108,108,111,119]⟩=25:=by decide
  rw[e]
  exact kS hl p k f
 ·have e:kwN ⟨#[100,111,110,116,97,117,100,105,116]⟩=26:=by decide
  rw[e]
  exact lC hl p k f
 ·have e:kwN ⟨#[110,101,118,101,114,97,108,108,111,119]⟩=27:=by decide
  rw[e]
  exact l3 hl p k f
 ·have e:kwN ⟨#[116,121,112,101,95,116,114,97,110,115,105,116,105,111,110]⟩=28:=by decide
  rw[e]
  exact iT hl p k f
 ·have e:kwN ⟨#[116,121,112,101,95,99,104,97,110,103,101]⟩=29:=by decide
  rw[e]
  exact kg hl p k f
 ·have e:kwN ⟨#[116,121,112,101,95,109,101,109,98,101,114]⟩=30:=by decide
  rw[e]
  exact kB hl p k f
 ·have e:kwN ⟨#[114,97,110,103,101,95,116,114,97,110,115,105,116,105,111,110]⟩=14:=by decide
  rw[e]
  exact iJ hl p k f
 ·have e:kwN ⟨#[99,111,110,115,116,114,97,105,110]⟩=15:=by decide
  rw[e]
  exact ly hl p k f
 ·have e:kwN ⟨#[118,97,108,105,100,97,116,101,116,114,97,110,115]⟩=16:=by decide
  rw[e]
  exact jD hl p k f
 ·exact absurd (.inl rfl) hi
 ·exact absurd (.inr rfl) hi
 ·have e:kwN ⟨#[114,101,113,117,105,114,101]⟩=19:=by decide
  rw[e]
  exact nK hl p k f
 ·have e:kwN ⟨#[115,105,100]⟩=20:=by decide
  rw[e]
  exact uy hl p k f
 ·have e:kwN ⟨#[102,105,108,101,99,111,110]⟩=21:=by decide
  rw[e]
  exact nN hl p k f
 ·have e:kwN ⟨#[112,101,114,109,105,115,115,105,118,101]⟩=22:=by decide
  rw[e]
  exact kU hl p k f
 ·have e:kwN ⟨#[97,115,115,101,114,116]⟩=23:=by decide
  rw[e]
  exact pA hl p k f
theorem Do:kwN ⟨#[105,102]⟩=17:=by decide
theorem pz:kwN ⟨#[111,112,116,105,111,110,97,108]⟩=18:=by decide
end
end Am
namespace Am
open Tk
section
variable {l:List Tok}
abbrev QS (l:List Tok) (α:Type):=α×(Ix l×(Fa×Int))
def nM {α:Type} (t:QS l α):QS l α:=(t.1,((aO ⟨#[125]⟩ t.2.1 t.2.2.1).1,((aO ⟨#[125]⟩ t.2.1 t.2.2.1).2,t.2.2.2)))
def RS {α:Type} (f:Fa) (sp:Except Fa (α×(Ix l×Nat))) (t:QS l α):Prop:=(f.code≠0→t.2.2.1=f)∧(f.code=0→match sp with| .ok x=>t=(x.1,(x.2.1,(f,(x.2.2:Int))))| .error g=>t.2.2.1=g)
def mi (i:Bool) (s:Stm) (k:Ix l) (f:Fa):Stm×(Ix l×Fa):=if i=true then({s with cond:=(eI k f).1},(eI k f).2) else(s,(k,f))
def eV (B:Ix l→Fa→Int→QS l (List Stm)) (s:Stm) (k:Ix l) (f:Fa) (c:Int):QS l Stm:=
 if okW (B k f c).2.2.1 ⟨#[101,108,115,101]⟩ (B k f c).2.1=true then
  ({s with thn:=(B k f c).1,els:=(B (nx (B k f c).2.1) (B k f c).2.2.1 (B k f c).2.2.2).1},(B (nx (B k f c).2.1) (B k f c).2.2.1 (B k f c).2.2.2).2)
 else({s with thn:=(B k f c).1},(B k f c).2)
mutual
def stQ:Nat→Nat→Ix l→Fa→Int→QS l Stm
 |0,_,k,f,c=>(Stm.zero,(k,(bZ f 9 (tk k),c)))
 |n+1,d,k,f,c=>
  if ¬ (eQ d k f (eg c)).code=0 then(gN k f,(nx k,(eQ d k f (eg c),eg c)))
  else if(gN k f).kind=17∨(gN k f).kind=18 then lf n d (decide ((gN k f).kind=17)) (gN k f) (nx k) (eQ d k f (eg c)) (eg c)
  else((bK (gN k f) (nx k) (eQ d k f (eg c))).1,((bK (gN k f) (nx k) (eQ d k f (eg c))).2.1,((bK (gN k f) (nx k) (eQ d k f (eg c))).2.2,eg c)))
def lf:Nat→Nat→Bool→Stm→Ix l→Fa→Int→QS l Stm
 |0,_,_,s,k,f,c=>(s,(k,(bZ f 9 (tk k),c)))
 |n+1,d,i,s,k,f,c=>eV (fun k f c=>cE n d k f c) (mi i s k f).1 (mi i s k f).2.1 (mi i s k f).2.2 c
def cE:Nat→Nat→Ix l→Fa→Int→QS l (List Stm)
 |0,_,k,f,c=>([],(k,(bZ f 9 (tk k),c)))
 |n+1,d,k,f,c=>nM (iP n (d+1) (aO ⟨#[123]⟩ k f).1 (aO ⟨#[123]⟩ k f).2 c)
def iP:Nat→Nat→Ix l→Fa→Int→QS l (List Stm)
 |0,_,k,f,c=>([],(k,(bZ f 9 (tk k),c)))
 |n+1,d,k,f,c=>gV n d [(stQ n d k f c).1] (stQ n d k f c).2.1 (stQ n d k f c).2.2.1 (stQ n d k f c).2.2.2
def gV:Nat→Nat→List Stm→Ix l→Fa→Int→QS l (List Stm)
 |0,_,acc,k,f,c=>(acc,(k,(bZ f 9 (tk k),c)))
 |n+1,d,acc,k,f,c=>if(decide (f.code=0)&& !okM f ⟨#[125]⟩ k)=true then gV n d (acc++[(stQ n d k f c).1]) (stQ n d k f c).2.1 (stQ n d k f c).2.2.1 (stQ n d k f c).2.2.2 else(acc,(k,(f,c)))
end
variable {α β:Type} {f:Fa}
theorem RS.ok (v:α) (k:Ix l) (c:Nat):RS f (.ok (v,(k,c))) (v,(k,(f,(c:Int)))):=⟨fun _=>rfl,fun _=>rfl⟩
theorem RS.err (v:α) (k k':Ix l) (c:Int) {e:Int} {t:Tok}:RS f (.error (flt e t)) (v,(k',(bZ f e t,c))):=⟨fun h=>dJ h,fun h=>gY h⟩
theorem RS.bind {sp:Except Fa (α×(Ix l×Nat))} {t:QS l α} {g:α×(Ix l×Nat)→Except Fa (β×(Ix l×Nat))} {u:α→Ix l→Fa→Int→QS l β} (h:RS f sp t) (hz:NZ l sp) (hk:∀ v k (c:Nat),sp= .ok (v,(k,c))→RS f (g (v,(k,c))) (u v k f (c:Int))) (hb:∀ v k f c,f.code≠0→(u v k f c).2.2.1=f):RS f (sp>>=g) (u t.1 t.2.1 t.2.2.1 t.2.2.2):=by
 refine⟨fun hf=>?_,fun hf=>?_⟩
 ·rw[h.1 hf]
  exact hb _ _ f _ hf
 ·have h2:=h.2 hf
  cases sp with
  |ok x=>
   have h2:t=(x.1,(x.2.1,(f,(x.2.2:Int)))):=h2
   rw[h2]
   exact(hk x.1 x.2.1 x.2.2 rfl).2 hf
  |error e=>
   have h2:t.2.2.1=e:=h2
   show(u t.1 t.2.1 t.2.2.1 t.2.2.2).2.2.1=e
   rw[h2]
   exact hb _ _ e _ (hz e rfl).1
theorem RS.lift {sp:Except Fa (α×Ix l)} {t:α×(Ix l×Fa)} (h:RQ f sp t) (c:Nat):RS f (sp>>=fun x=>.ok (x.1,(x.2,c))) (t.1,(t.2.1,(t.2.2,(c:Int)))):=by
 refine⟨fun hf=>h.1 hf,fun hf=>?_⟩
 have h2:=h.2 hf
 cases sp with
 |ok x=>
  have h2:t=(x.1,(x.2,f)):=h2
  rw[h2];rfl
 |error e=>exact h2
theorem qc {d:Nat} {k:Ix l} {c:Int} (h:f.code≠0):eQ d k f c=f:=by
 have e:gB k f=f:=by
  unfold gB
  rw[BU h,if_pos rfl];exact dJ h
 unfold eQ
 rw[e]
 split
 ·exact dJ h
 ·rfl
theorem oy {k:Ix l} (h:f.code≠0):(eI k f).2.2=f:=by unfold eI;rw[if_neg h]
theorem vu (i:Bool) (s:Stm) (k:Ix l) (h:f.code≠0):(mi i s k f).2.2=f:=by
 unfold mi
 split
 ·exact oy h
 ·rfl
theorem od {B:Ix l→Fa→Int→QS l (List Stm)} (hB:∀ k f c,f.code≠0→(B k f c).2.2.1=f) {s:Stm} {k:Ix l} {c:Int} (h:f.code≠0):(eV B s k f c).2.2.1=f:=by
 have e:=hB k f c h
 unfold eV
 rw[e,kD h,if_neg ff]
 exact e
theorem eo:∀ n:Nat,(∀ (d:Nat) (k:Ix l) (f:Fa) (c:Int),f.code≠0→(stQ n d k f c).2.2.1=f)∧(∀ (d:Nat) (i:Bool) (s:Stm) (k:Ix l) (f:Fa) (c:Int),f.code≠0→(lf n d i s k f c).2.2.1=f)∧(∀ (d:Nat) (k:Ix l) (f:Fa) (c:Int),f.code≠0→(cE n d k f c).2.2.1=f)∧
 (∀ (d:Nat) (k:Ix l) (f:Fa) (c:Int),f.code≠0→(iP n d k f c).2.2.1=f)∧(∀ (d:Nat) (acc:List Stm) (k:Ix l) (f:Fa) (c:Int),f.code≠0→(gV n d acc k f c).2.2.1=f)
 |0=>⟨fun d k f c h=>(by rw[stQ];exact dJ h),fun d i s k f c h=>(by rw[lf];exact dJ h),fun d k f c h=>(by rw[cE];exact dJ h),fun d k f c h=>(by rw[iP];exact dJ h),fun d acc k f c h=>(by rw[gV];exact dJ h)⟩
 |n+1=>by
  obtain ⟨i1,i2,i3,i4,i5⟩:=eo n
  refine⟨fun d k f c h=>?_,fun d i s k f c h=>?_,fun d k f c h=>?_,fun d k f c h=>?_,fun d acc k f c h=>?_⟩
  ·rw[stQ,qc h,if_pos h]
  ·have e:=vu i s k h
   rw[lf,e]
   exact od (fun k f c h=>i3 d k f c h) h
  ·have e1:(aO ⟨#[123]⟩ k f).2=f:=dm _ h
   have e2:=i4 (d+1) (aO ⟨#[123]⟩ k f).1 f c h
   rw[cE,e1]
   show(aO ⟨#[125]⟩ _ (iP n (d+1) (aO ⟨#[123]⟩ k f).1 f c).2.2.1).2=f
   rw[e2];exact dm _ h
  ·have e:=i1 d k f c h
   rw[iP,e]
   exact i5 _ _ _ _ _ h
  ·rw[gV,if_neg (by simp[h])]
end
end Am
namespace Am
open Tk
set_option maxRecDepth 100000
theorem mH {w:ByteArray} (hb:iS w=true):kwN w≠0∧(kwN w=17↔w=⟨#[105,102]⟩)∧(kwN w=18↔w=⟨#[111,112,116,105,111,110,97,108]⟩):=by
 unfold iS beginW at hb
 simp only[List.any_cons,List.any_nil,Bool.or_false,Bool.or_eq_true,decide_eq_true_eq] at hb
 rcases hb with rfl|rfl|rfl|rfl|rfl|rfl|rfl|rfl|rfl|rfl|rfl|rfl|rfl|rfl|rfl|rfl|rfl|rfl|rfl|rfl|rfl|rfl|rfl|rfl|rfl|rfl|rfl|rfl <;> decide
theorem A1 {c:Nat} (h:c≤4294967296):eg (c:Int)=((c+1:Nat):Int):=by
 unfold eg
 rw[wrap64 (by omega) (by omega)];rfl
section
variable {l:List Tok} {f:Fa}
theorem wA {k:Ix l} {d:Nat} {c:Int} (hf:f.code=0) (h:¬ ((tk k).kind=1∧iS (tk k).text=true)):eQ d k f c=flt 9 (tk k):=by
 have e0:kwQ k f=0:=by
  by_cases h1:(tk k).kind=1
  ·rw[kh hf h1]
   refine xZ ?_
   cases hb:iS (tk k).text with
   |false=>rfl
   |true=>exact absurd ⟨h1,hb⟩ h
  ·exact kZ h1
 have e:gB k f=flt 9 (tk k):=by
  unfold gB
  rw[e0,if_pos rfl];exact gY hf
 unfold eQ
 rw[e]
 split
 ·exact dJ (show(9:Int)≠0 by decide)
 ·rfl
theorem qd {k:Ix l} {d:Nat} {c:Int} (hf:f.code=0) (h1:(tk k).kind=1) (hb:iS (tk k).text=true) (h:1024<c∨(((tk k).text=⟨#[105,102]⟩∨(tk k).text=⟨#[111,112,116,105,111,110,97,108]⟩)∧12≤d)):eQ d k f c=flt 4 (tk k):=by
 obtain ⟨n0,n17,n18⟩:=mH hb
 have e0:kwQ k f=kwN (tk k).text:=kh hf h1
 have e:gB k f=f:=by
  unfold gB
  rw[e0,if_neg n0]
 unfold eQ
 rw[e,e0]
 simp only[n17,n18]
 rw[if_pos h]
 exact gY hf
theorem we {k:Ix l} {d:Nat} {c:Int} (hf:f.code=0) (h1:(tk k).kind=1) (hb:iS (tk k).text=true) (h:¬ (1024<c∨(((tk k).text=⟨#[105,102]⟩∨(tk k).text=⟨#[111,112,116,105,111,110,97,108]⟩)∧12≤d))):eQ d k f c=f∧gN k f= {Stm.zero with kind:=fY (kwN (tk k).text),op:=zH (kwN (tk k).text),pos:=(tk k).pos}:=by
 obtain ⟨n0,n17,n18⟩:=mH hb
 have e0:kwQ k f=kwN (tk k).text:=kh hf h1
 have e:gB k f=f:=by
  unfold gB
  rw[e0,if_neg n0]
 refine⟨?_,by unfold gN;rw[e0]⟩
 unfold eQ
 rw[e,e0]
 simp only[n17,n18]
 rw[if_neg h]
end
end Am
namespace Am
open Tk
set_option maxRecDepth 100000
section
variable {l:List Tok}
theorem iG:∀ n:Nat,(∀ {d:Nat} {k:Ix l} {c:Nat} {s:Stm} {k':Ix l} {c':Nat},cq tksK n d k c= .ok (s,(k',c'))→c'≤max c 1024)∧
 (∀ {d:Nat} {i:Bool} {s:Stm} {k:Ix l} {c:Nat} {x:Unit×(Stm×(Ix l×Nat))},bU tksK n d i s k c= .ok x→x.2.2.2≤max c 1024)∧
 (∀ {d:Nat} {k:Ix l} {c:Nat} {x:List Stm×(Ix l×Nat)},bF tksK n d k c= .ok x→x.2.2≤max c 1024)∧
 (∀ {d:Nat} {acc:List Stm} {k:Ix l} {c:Nat} {x:List Stm×(Ix l×Nat)},bH tksK n d acc k c= .ok x→x.2.2≤max c 1024)
 |0=>⟨fun h=>(by rw[cq] at h;cases h),fun h=>(by rw[bU] at h;cases h),fun h=>(by rw[bF] at h;cases h),fun h=>(by rw[bH] at h;cases h)⟩
 |n+1=>by
  obtain ⟨i1,i2,i3,i4⟩:=iG n
  refine⟨fun {d k c s k' c'} h=>?_,fun {d i s k c x} h=>?_,fun {d k c x} h=>?_,fun {d acc k c x} h=>?_⟩
  ·rw[cq] at h
   split at h
   ·split at h
    ·cases h
    ·split at h
     ·split at h
      ·cases h
      ·obtain ⟨x,h1,h⟩:=aA.1 h
       have:=i2 h1
       injection h with h
       have:x.2.2.2=c':=by
        injection h with _ h
        rw[h]
       omega
     ·obtain ⟨x,_,h⟩:=aA.1 h
      injection h with h;injection h with _ h;injection h with _ h
      omega
   ·cases h
  ·rw[bU] at h
   obtain ⟨y,_,h⟩:=aA.1 h
   obtain ⟨z,h1,h⟩:=aA.1 h
   have e1:=i3 h1
   split at h
   ·obtain ⟨u,h2,h⟩:=aA.1 h
    have e2:=i3 h2
    injection h with h;subst h
    dsimp only;omega
   ·injection h with h;subst h
    exact e1
  ·rw[bF] at h
   obtain ⟨a,_,h⟩:=aA.1 h
   split at h
   ·cases h
   ·obtain ⟨y,h1,h⟩:=aA.1 h
    obtain ⟨z,_,h⟩:=aA.1 h
    injection h with h;subst h
    have e:=i4 h1
    dsimp only;omega
  ·rw[bH] at h
   split at h
   ·injection h with h;subst h;dsimp only;omega
   ·obtain ⟨⟨s,k1,c1⟩,h1,h⟩:=aA.1 h
    have e1:=i1 h1
    have e2:x.2.2≤max c1 1024:=i4 h
    omega
end
end Am
namespace Am
open Tk
set_option maxRecDepth 100000
section
variable {l:List Tok}
theorem dZ {α:Type} {t:QS l α} {g:Fa} (h:t.2.2.1=g) (hg:g.code≠0):(nM t).2.2.1=g:=by
 subst h
 exact dm _ hg
theorem AM {α:Type} (v:α) (k:Ix l) (f:Fa) (c:Nat):RS f (aT ⟨#[125]⟩ k>>=fun y=>.ok (v,(y.2,c))) (nM (v,(k,(f,(c:Int))))):=by
 have h:=RS.lift (RQ.map (g:=fun _=>v) (fm ⟨#[125]⟩ k f)) c
 rw[exb] at h
 exact h
theorem yn {n d:Nat} {k:Ix l} {f:Fa} {c:Int} (hf:f.code=0) (h:¬ (tk k).kind=1):(stQ n d k f c).2.2.1=flt 9 (tk k):=by
 cases n with
 |zero=>rw[stQ];exact gY hf
 |succ n=>
  have e:eQ d k f (eg c)=flt 9 (tk k):=wA hf fun h'=>h h'.1
  have e9:¬ (flt 9 (tk k)).code=0:=show ¬ (9:Int)=0 by decide
  rw[stQ,e,if_pos e9]
theorem tW {n:Nat} (hS:∀ m,m<n→∀ (d:Nat) (k:Ix l) (f:Fa) (c:Nat),c≤4294967296→RS f (cq tksK m d k c) (stQ m d k f c)):∀ (m:Nat),m≤n→∀ (d:Nat) (acc:List Stm) (k:Ix l) (f:Fa) (c:Nat),0<d→c≤4294967296→
 RS f (bH tksK m d acc k c>>=fun x=>aT ⟨#[125]⟩ x.2.1>>=fun y=>.ok (x.1,(y.2,x.2.2))) (nM (gV m d acc k f c))
 |0,_,d,acc,k,f,c,_,_=>by
  rw[bH,gV]
  refine⟨fun h=>dZ (dJ h) h,fun h=>?_⟩
  exact dZ (gY h) (show(9:Int)≠0 by decide)
 |m+1,hm,d,acc,k,f,c,hd,hc=>by
  by_cases hf:f.code=0
  ·rw[bH,gV,jn hf]
   by_cases hb:isM ⟨#[125]⟩ k=true
   ·rw[if_pos (.inr ⟨hd,hb⟩),if_neg (by simp[hb]),ag]
    exact AM acc k f c
   ·rw[if_pos (show(decide (f.code=0)&& !isM ⟨#[125]⟩ k)=true by simp[hf,hb])]
    by_cases h0:(tk k).kind=0
    ·rw[if_pos (.inl h0),ag]
     have e:aT ⟨#[125]⟩ k= .error (flt 9 (tk k)):=by unfold aT;rw[if_neg hb]
     dsimp only
     rw[e]
     have es:(stQ m d k f (c:Int)).2.2.1=flt 9 (tk k):=yn hf (by rw[h0];decide)
     have e9:(flt 9 (tk k)).code≠0:=show(9:Int)≠0 by decide
     refine⟨fun h=>absurd hf h,fun _=>?_⟩
     refine dZ ?_ e9
     rw[es]
     exact(eo m).2.2.2.2 _ _ _ _ _ e9
    ·rw[if_neg (by rintro (h|h);exact h0 h;exact hb h.2),exb]
     refine RS.bind (t:=stQ m d k f (c:Int)) (u:=fun s k f c=>nM (gV m d (acc++[s]) k f c)) (hS m (by omega) d k f c hc) ((fC m).1 d k c) (fun s k' c' h=>?_) fun s k' f' c' h=>?_
     ·have e:=(iG m).1 h
      exact tW hS m (by omega) d (acc++[s]) k' f c' hd (by omega)
     ·exact dZ ((eo m).2.2.2.2 _ _ _ _ _ h) h
  ·refine⟨fun h=>?_,fun h=>absurd h hf⟩
   exact dZ ((eo (m+1)).2.2.2.2 _ _ _ _ _ h) h
end
end Am
namespace Am
open Tk
set_option maxRecDepth 100000
section
variable {l:List Tok}
theorem RS.bindQ {α β:Type} {f:Fa} {sp:Except Fa (α×Ix l)} {t:α×(Ix l×Fa)} {g:α×Ix l→Except Fa (β×(Ix l×Nat))} {u:α→Ix l→Fa→QS l β} (h:RQ f sp t) (hz:NZ l sp) (hk:∀ v k,RS f (g (v,k)) (u v k f)) (hb:∀ v k f,f.code≠0→(u v k f).2.2.1=f):RS f (sp>>=g) (u t.1 t.2.1 t.2.2):=by
 refine⟨fun hf=>?_,fun hf=>?_⟩
 ·rw[h.1 hf]
  exact hb _ _ f hf
 ·have h2:=h.2 hf
  cases sp with
  |ok x=>
   have h2:t=(x.1,(x.2,f)):=h2
   rw[h2]
   exact(hk x.1 x.2).2 hf
  |error e=>
   have h2:t.2.2=e:=h2
   show(u t.1 t.2.1 t.2.2).2.2.1=e
   rw[h2]
   exact hb _ _ e (hz e rfl).1
theorem AC {n:Nat} (hS:∀ m,m<n→∀ (d:Nat) (k:Ix l) (f:Fa) (c:Nat),c≤4294967296→RS f (cq tksK m d k c) (stQ m d k f c)) {m:Nat} (hm:m≤n) (d:Nat) (k:Ix l) (f:Fa) (c:Nat) (hd:0<d) (hc:c≤4294967296) :
 RS f (if isM ⟨#[125]⟩ k then .error (flt 9 (tk k)) else bH tksK m d [] k c>>=fun x=>aT ⟨#[125]⟩ x.2.1>>=fun y=>.ok (x.1,(y.2,x.2.2))) (nM (iP m d k f c)):=by
 have e9:(flt 9 (tk k)).code≠0:=show(9:Int)≠0 by decide
 by_cases hf:f.code=0
 ·cases m with
  |zero=>
   rw[bH,iP]
   refine⟨fun h=>absurd hf h,fun _=>?_⟩
   have e:(if isM ⟨#[125]⟩ k then .error (flt 9 (tk k)) else((.error (flt 9 (tk k)):Except Fa (List Stm×(Ix l×Nat)))>>=fun x=>aT ⟨#[125]⟩ x.2.1>>=fun y=>.ok (x.1,(y.2,x.2.2))):Except Fa (List Stm×(Ix l×Nat)))= .error (flt 9 (tk k)):=by
    by_cases hb:isM ⟨#[125]⟩ k=true
    ·rw[if_pos hb]
    ·rw[if_neg hb];rfl
   rw[e]
   exact dZ (gY hf) e9
  |succ m=>
   have stuck:(tk k).kind≠1→(nM (iP (m+1) d k f (c:Int))).2.2.1=flt 9 (tk k):=fun h1=>by
    have es:(stQ m d k f (c:Int)).2.2.1=flt 9 (tk k):=yn hf h1
    rw[iP,es]
    exact dZ ((eo m).2.2.2.2 _ _ _ _ _ e9) e9
   by_cases hb:isM ⟨#[125]⟩ k=true
   ·rw[if_pos hb]
    refine⟨fun h=>absurd hf h,fun _=>stuck ?_⟩
    unfold isM at hb
    rw[of_decide_eq_true ((Bool.and_eq_true _ _).mp hb).1];decide
   ·rw[if_neg hb,bH]
    by_cases h0:(tk k).kind=0
    ·have e:aT ⟨#[125]⟩ k= .error (flt 9 (tk k)):=by unfold aT;rw[if_neg hb]
     rw[if_pos (.inl h0),ag]
     dsimp only
     rw[e]
     exact⟨fun h=>absurd hf h,fun _=>stuck (by rw[h0];decide)⟩
    ·rw[if_neg (by rintro (h|h);exact h0 h;exact hb h.2),exb,iP]
     refine RS.bind (t:=stQ m d k f (c:Int)) (u:=fun s k f c=>nM (gV m d [s] k f c)) (hS m (by omega) d k f c hc) ((fC m).1 d k c) (fun s k' c' h=>?_) fun s k' f' c' h=>?_
     ·have e:=(iG m).1 h
      exact tW hS m (by omega) d [s] k' f c' hd (by omega)
     ·exact dZ ((eo m).2.2.2.2 _ _ _ _ _ h) h
 ·exact⟨fun h=>dZ ((eo m).2.2.2.1 _ _ _ _ h) h,fun h=>absurd h hf⟩
theorem sP {n:Nat} (hS:∀ m,m<n→∀ (d:Nat) (k:Ix l) (f:Fa) (c:Nat),c≤4294967296→RS f (cq tksK m d k c) (stQ m d k f c)) {m:Nat} (hm:m≤n) (d:Nat) (k:Ix l) (f:Fa) (c:Nat) (hc:c≤4294967296):RS f (bF tksK m d k c) (cE m d k f c):=by
 cases m with
 |zero=>rw[bF,cE];exact .err _ k _ _
 |succ m=>
  rw[bF,cE]
  refine RS.bindQ (t:=((),aO ⟨#[123]⟩ k f)) (u:=fun _ k f=>nM (iP m (d+1) k f c)) (fm _ k f) (bo _ k) (fun _ k'=>?_) fun _ k' f' h=>?_
  ·exact AC hS (by omega) (d+1) k' f c (by omega) hc
  ·exact dZ ((eo m).2.2.2.1 _ _ _ _ h) h
end
end Am
namespace Am
open Tk
set_option maxRecDepth 100000
section
variable {l:List Tok}
theorem RS.map {α β:Type} {f:Fa} {sp:Except Fa (α×(Ix l×Nat))} {t:QS l α} {g:α→β} (h:RS f sp t):RS f (sp>>=fun x=>.ok (g x.1,x.2)) (g t.1,t.2):=by
 refine⟨fun hf=>h.1 hf,fun hf=>?_⟩
 have h2:=h.2 hf
 cases sp with
 |ok x=>
  have h2:t=(x.1,(x.2.1,(f,(x.2.2:Int)))):=h2
  rw[h2];rfl
 |error e=>exact h2
theorem qW {n:Nat} (hS:∀ m,m<n→∀ (d:Nat) (k:Ix l) (f:Fa) (c:Nat),c≤4294967296→RS f (cq tksK m d k c) (stQ m d k f c)) {m:Nat} (hm:m≤n) (d:Nat) (s:Stm) (k:Ix l) (f:Fa) (c:Nat) (hc:c≤4294967296) :
 RS f (bF tksK m d k c>>=fun z=>if isW ⟨#[101,108,115,101]⟩ z.2.1 then bF tksK m d (nx z.2.1) z.2.2>>=fun u=>.ok ({s with thn:=z.1,els:=u.1},u.2) else .ok ({s with thn:=z.1},z.2)) (eV (fun k f c=>cE m d k f c) s k f c):=by
 unfold eV
 refine RS.bind (t:=cE m d k f (c:Int)) (u:=fun z k f c=>if okW f ⟨#[101,108,115,101]⟩ k=true then({s with thn:=z,els:=(cE m d (nx k) f c).1},(cE m d (nx k) f c).2) else({s with thn:=z},(k,(f,c)))) (sP hS hm d k f c hc) ((fC m).2.2.1 d k c) (fun z k' c' h=>?_) fun z k' f' c' h=>?_
 ·have e:=(iG m).2.2.1 h
  have e:c'≤max c 1024:=e
  dsimp only
  by_cases hf:f.code=0
  ·rw[oI hf]
   by_cases hw:isW ⟨#[101,108,115,101]⟩ k'=true
   ·rw[if_pos hw,if_pos hw]
    exact RS.map (g:=fun u=>{s with thn:=z,els:=u}) (sP hS hm d (nx k') f c' (by omega))
   ·rw[if_neg hw,if_neg hw]
    exact .ok _ _ _
  ·rw[kD hf,if_neg ff]
   exact⟨fun _=>rfl,fun h=>absurd h hf⟩
 ·simp only[kD h,Bool.false_eq_true,if_false]
theorem tN {n:Nat} (hS:∀ m,m<n→∀ (d:Nat) (k:Ix l) (f:Fa) (c:Nat),c≤4294967296→RS f (cq tksK m d k c) (stQ m d k f c)) {m:Nat} (hm:m≤n) (d:Nat) (i:Bool) (s:Stm) (k:Ix l) (f:Fa) (c:Nat) (hc:c≤4294967296) (hs:s.kind=if i then 17 else 18) :
 RS f (bU tksK m d i {Stm.zero with pos:=s.pos} k c>>=fun x=>.ok (x.2.1,x.2.2)) (lf m d i {Stm.zero with kind:=s.kind,pos:=s.pos} k f c):=by
 cases m with
 |zero=>rw[bU,lf];exact .err _ k _ _
 |succ m=>
  have hS':∀ j,j<m→∀ (d:Nat) (k:Ix l) (f:Fa) (c:Nat),c≤4294967296→RS f (cq tksK j d k c) (stQ j d k f c):=fun j hj=>hS j (by omega)
  rw[bU,lf]
  have e2:∀ (y:Stm) (k:Ix l),((bF tksK m d k c>>=fun z=>if isW ⟨#[101,108,115,101]⟩ z.2.1 then bF tksK m d (nx z.2.1) z.2.2>>=fun u=>.ok ((),({y with thn:=z.1,els:=u.1},u.2)) else .ok ((),({y with thn:=z.1},z.2)))>>=fun x=>.ok (x.2.1,x.2.2):Except Fa (Stm×(Ix l×Nat)))=bF tksK m d k c>>=fun z=>if isW ⟨#[101,108,115,101]⟩ z.2.1 then bF tksK m d (nx z.2.1) z.2.2>>=fun u=>.ok ({y with thn:=z.1,els:=u.1},u.2) else .ok ({y with thn:=z.1},z.2):=fun y k=>by
   cases bF tksK m d k c with
   |error e=>rfl
   |ok z=>
    rw[ag,ag]
    split
    ·cases bF tksK m d (nx z.2.1) z.2.2 <;> rfl
    ·rfl
  rw[exb]
  simp only[e2]
  cases i with
  |true=>
   have hs:s.kind=17:=hs
   rw[if_pos rfl,hs,exb]
   refine RS.bindQ (t:=eI k f) (u:=fun x k f=>eV (fun k f c=>cE m d k f c) {Stm.zero with kind:=17,cond:=x,pos:=s.pos} k f c) (tB k f) (jB k) (fun x k'=>?_) fun x k' f' h=>?_
   ·exact qW hS' (Nat.le_refl m) d _ k' f c hc
   ·exact od (fun k f c h=>(eo m).2.2.1 d k f c h) h
  |false=>
   have hs:s.kind=18:=hs
   rw[if_neg ff,hs,ag]
   exact qW hS' (Nat.le_refl m) d _ k f c hc
end
end Am
namespace Am
open Tk
set_option maxRecDepth 100000
section
variable {l:List Tok}
theorem Cj {n:Int} (h:n≠17) (h2:n≠18):¬ (fY n=17∨fY n=18):=by
 unfold fY
 repeat' split
 all_goals omega
theorem wb (hl:Fine l):∀ (n d:Nat) (k:Ix l) (f:Fa) (c:Nat),c≤4294967296→RS f (cq tksK n d k c) (stQ n d k f c):=by
 intro n
 induction n using Nat.strongRecOn with
 |ind n hS=>
  intro d k f c hc
  by_cases hf:f.code=0
  ·cases n with
   |zero=>rw[cq,stQ];exact .err _ k _ _
   |succ n=>
    rw[cq,stQ,A1 hc]
    have e9:¬ (flt 9 (tk k)).code=0:=show ¬ (9:Int)=0 by decide
    have e4:¬ (flt 4 (tk k)).code=0:=show ¬ (4:Int)=0 by decide
    by_cases h:(tk k).kind=1∧iS (tk k).text=true
    ·rw[if_pos h]
     by_cases h4:1024≤c
     ·rw[if_pos h4,qd hf h.1 h.2 (.inl (by omega)),if_pos e4]
      exact⟨fun h=>absurd hf h,fun _=>rfl⟩
     rw[if_neg h4]
     by_cases hi:(tk k).text=⟨#[105,102]⟩∨(tk k).text=⟨#[111,112,116,105,111,110,97,108]⟩
     ·rw[if_pos hi]
      by_cases hd:12≤d
      ·rw[if_pos hd,qd hf h.1 h.2 (.inr ⟨hi,hd⟩),if_pos e4]
       exact⟨fun h=>absurd hf h,fun _=>rfl⟩
      rw[if_neg hd]
      have hno:¬ (1024<((c+1:Nat):Int)∨(((tk k).text=⟨#[105,102]⟩∨(tk k).text=⟨#[111,112,116,105,111,110,97,108]⟩)∧12≤d)):=by
       rintro (h|h)
       ·omega
       ·exact hd h.2
      obtain ⟨e1,e2⟩:=we hf h.1 h.2 hno
      rw[e1,e2,if_neg (fun h=>h hf)]
      clear e1 e2 hno
      rcases hi with hi|hi
      ·rw[hi,Do]
       exact tN hS (Nat.le_succ n) d true {Stm.zero with kind:=17,pos:=(tk k).pos} (nx k) f (c+1) (by omega) rfl
      ·rw[hi,pz]
       exact tN hS (Nat.le_succ n) d false {Stm.zero with kind:=18,pos:=(tk k).pos} (nx k) f (c+1) (by omega) rfl
     ·rw[if_neg hi]
      have hno:¬ (1024<((c+1:Nat):Int)∨(((tk k).text=⟨#[105,102]⟩∨(tk k).text=⟨#[111,112,116,105,111,110,97,108]⟩)∧12≤d)):=by
       rintro (h|h)
       ·omega
       ·exact hi h.1
      obtain ⟨e1,e2⟩:=we hf h.1 h.2 hno
      obtain ⟨_,n17,n18⟩:=mH h.2
      rw[e1,e2,if_neg (fun h=>h hf),if_neg (Cj (fun h=>hi (.inl (n17.1 h))) (fun h=>hi (.inr (n18.1 h))))]
      exact RS.lift (z8 hl h.2 hi (tk k).pos (nx k) f) (c+1)
    ·rw[if_neg h,wA hf h,if_pos e9]
     exact⟨fun h=>absurd hf h,fun _=>rfl⟩
  ·exact⟨fun h=>(eo n).1 d k f c h,fun h=>absurd h hf⟩
def iL:Nat→List Stm→Ix l→Fa→Int→QS l (List Stm)
 |0,acc,k,f,c=>(acc,(k,(bZ f 9 (tk k),c)))
 |n+1,acc,k,f,c=>if(decide (f.code=0)&& !decide ((tk k).kind=0))=true then iL n (acc++[(stQ n 0 k f c).1]) (stQ n 0 k f c).2.1 (stQ n 0 k f c).2.2.1 (stQ n 0 k f c).2.2.2 else(acc,(k,(f,c)))
theorem nz {f:Fa} (n:Nat) (acc:List Stm) (k:Ix l) (c:Int) (h:f.code≠0):(iL n acc k f c).2.2.1=f:=by
 cases n with
 |zero=>rw[iL];exact dJ h
 |succ n=>rw[iL,if_neg (by simp[h])]
theorem xD (hl:Fine l):∀ (n:Nat) (acc:List Stm) (k:Ix l) (f:Fa) (c:Nat),c≤4294967296→RS f (bH tksK n 0 acc k c) (iL n acc k f c)
 |0,acc,k,f,c,_=>by rw[bH,iL];exact .err _ k _ _
 |n+1,acc,k,f,c,hc=>by
  by_cases hf:f.code=0
  ·rw[bH,iL]
   by_cases h0:(tk k).kind=0
   ·rw[if_pos (.inl h0),if_neg (by simp[h0])]
    exact .ok _ _ _
   ·rw[if_neg (by rintro (h|h);exact h0 h;exact absurd h.1 (by omega)),if_pos (by simp[hf,h0])]
    refine RS.bind (t:=stQ n 0 k f (c:Int)) (u:=fun s k f c=>iL n (acc++[s]) k f c) (wb hl n 0 k f c hc) ((fC n).1 0 k c) (fun s k' c' h=>?_) fun s k' f' c' h=>nz _ _ _ _ h
    have e:=(iG n).1 h
    exact xD hl n (acc++[s]) k' f c' (by omega)
  ·exact⟨fun h=>nz _ _ _ _ h,fun h=>absurd h hf⟩
def gl (k:Ix l) (f:Fa):Int×(Ix l×Fa):=if(decide (f.code=0)&&decide ((tk k).kind=2))=true then((ja (tk k).text:Int),(nx k,if 9999<ja (tk k).text then bZ f 3 (tk k) else f)) else(0,(k,bZ f 9 (tk k)))
def rY (s:ByteArray) (v:Int) (k:Ix l) (f:Fa):Mo×(Ix l×Fa):=(⟨s,v,[]⟩,aO ⟨#[59]⟩ k f)
def jW (s:ByteArray) (k:Ix l) (f:Fa):Mo×(Ix l×Fa):=rY s (gl k f).1 (gl k f).2.1 (gl k f).2.2
def px (k:Ix l) (f:Fa):Mo×(Ix l×Fa):=jW (aB k f).1 (aB k f).2.1 (aB k f).2.2
def mB (k:Ix l) (f:Fa):Mo×(Ix l×Fa):=px (iu ⟨#[109,111,100,117,108,101]⟩ k f).1 (iu ⟨#[109,111,100,117,108,101]⟩ k f).2
def E3 (m:Mo) (k:Ix l) (f:Fa):QS l Mo:=({m with stmts:=(iL (fuel l) [] k f 0).1},(iL (fuel l) [] k f 0).2)
def mdT (k:Ix l) (f:Fa):QS l Mo:=E3 (mB k f).1 (mB k f).2.1 (mB k f).2.2
theorem kM {f:Fa} (s:ByteArray) (v:Int) (k:Ix l) (h:f.code≠0):(rY s v k f).2.2=f:=dm _ h
theorem uK {f:Fa} (k:Ix l) (h:f.code≠0):(gl k f).2.2=f:=by
 unfold gl
 rw[if_neg (by simp[h])]
 exact dJ h
theorem vo {f:Fa} (s:ByteArray) (k:Ix l) (h:f.code≠0):(jW s k f).2.2=f:=by
 have e:=uK k h
 unfold jW
 rw[e];exact kM _ _ _ h
theorem C0 (k:Ix l) (f:Fa):RQ f (gG k) (mB k f):=by
 unfold gG mB
 refine RQ.bind (t:=((),iu ⟨#[109,111,100,117,108,101]⟩ k f)) (u:=fun _ k f=>px k f) (oV _ k f) (eJ _ k) fun _ k f=>?_
 unfold px
 refine RQ.bind (t:=aB k f) (u:=fun s k f=>jW s k f) (bT k f) (aP k) fun s k f=>?_
 refine⟨fun h=>vo s k h,fun hf=>?_⟩
 dsimp only
 by_cases h2:(tk k).kind=2
 ·have e:gl k f=((ja (tk k).text:Int),(nx k,if 9999<ja (tk k).text then bZ f 3 (tk k) else f)):=by
   unfold gl
   rw[if_pos (by simp[hf,h2])]
  unfold jW
  rw[e,if_pos h2]
  by_cases h9:9999<ja (tk k).text
  ·rw[if_pos h9,if_pos h9]
   dsimp only
   rw[gY hf]
   exact kM _ _ _ (show(3:Int)≠0 by decide)
  ·rw[if_neg h9,if_neg h9]
   exact(RQ.map (g:=fun _=>(⟨s,(ja (tk k).text:Int),[]⟩:Mo)) (fm ⟨#[59]⟩ (nx k) f)).2 hf
 ·have e:gl k f=(0,(k,bZ f 9 (tk k))):=by
   unfold gl
   rw[if_neg (by simp[h2])]
  unfold jW
  rw[e,if_neg h2]
  dsimp only
  rw[gY hf]
  exact kM _ _ _ (show(9:Int)≠0 by decide)
theorem CK (hl:Fine l) (k:Ix l) (f:Fa):RS f (lD k) (mdT k f):=by
 unfold lD mdT
 refine RS.bindQ (t:=mB k f) (u:=fun m k f=>E3 m k f) (C0 k f) (tM k) (fun m k'=>?_) fun m k' f' h=>nz _ _ _ _ h
 exact RS.map (g:=fun y=>{m with stmts:=y}) (xD hl (fuel l) [] k' f 0 (by omega))
end
end Am
namespace Am
open Tk
set_option maxRecDepth 100000
section
variable {l:List Tok}
def En (a b n:Nat) (k:Ix l) (f:Fa) (c:Int):Prop:=b≤n∧(f.code=0→0≤c∧c≤4294967296∧4*(l.length - k.1)+a≤n)
theorem Ci {α:Type} {f:Fa} {sp:Except Fa (α×(Ix l×Nat))} {t:QS l α} (h:RS f sp t) (hz:NZ l sp) (h0:f.code=0) (h1:t.2.2.1.code=0):∃ x,sp= .ok x∧t=(x.1,(x.2.1,(f,(x.2.2:Int)))):=by
 have h2:=h.2 h0
 cases sp with
 |ok x=>exact⟨x,rfl,h2⟩
 |error g=>
  have h2:t.2.2.1=g:=h2
  rw[h2] at h1
  exact absurd h1 (hz g rfl).1
theorem vZ (hf:Fine l) {n d:Nat} {k:Ix l} {f:Fa} {c:Int} (h0:f.code=0) (hc:0≤c∧c≤4294967296) (h1:(stQ n d k f c).2.2.1.code=0):k.1<(stQ n d k f c).2.1.1∧0≤(stQ n d k f c).2.2.2∧(stQ n d k f c).2.2.2≤4294967296:=by
 obtain ⟨m,rfl⟩:=Int.eq_ofNat_of_zero_le hc.1
 obtain ⟨⟨s,k',c'⟩,e1,e2⟩:=Ci (wb hf n d k f m (by omega)) ((fC n).1 d k m) h0 h1
 have a:=(fU hf tksK n).1 e1
 have b:=(iG n).1 e1
 rw[e2]
 exact⟨a,by dsimp only;omega,by dsimp only;omega⟩
theorem D1 (hf:Fine l) {n d:Nat} {k:Ix l} {f:Fa} {c:Int} (h0:f.code=0) (hc:0≤c∧c≤4294967296) (h1:(cE n d k f c).2.2.1.code=0):k.1<(cE n d k f c).2.1.1∧0≤(cE n d k f c).2.2.2∧(cE n d k f c).2.2.2≤4294967296:=by
 obtain ⟨m,rfl⟩:=Int.eq_ofNat_of_zero_le hc.1
 obtain ⟨⟨s,k',c'⟩,e1,e2⟩:=Ci (sP (n:=n) (fun m _ d k f c hc=>wb hf m d k f c hc) (Nat.le_refl n) d k f m (by omega)) ((fC n).2.2.1 d k m) h0 h1
 have a:=(fU hf tksK n).2.2.1 e1
 have b:=(iG n).2.2.1 e1
 have b:c'≤max m 1024:=b
 rw[e2]
 exact⟨a,by dsimp only;omega,by dsimp only;omega⟩
theorem yj {k:Ix l} {f:Fa} (h1:(eI k f).2.2.code=0):f.code=0∧k.1≤(eI k f).2.1.1:=by
 by_cases h0:f.code=0
 ·refine⟨h0,?_⟩
  have h2:=(tB k f).2 h0
  cases hc:ig tksK k with
  |ok x=>
   rw[hc] at h2
   have h2:eI k f=(x.1,(x.2,f)):=h2
   rw[h2]
   obtain ⟨x1,x2⟩:=x
   exact n7 hc
  |error g=>
   rw[hc] at h2
   have h2:(eI k f).2.2=g:=h2
   rw[h2] at h1
   exact absurd h1 (jB k g hc).1
 ·rw[oy h0] at h1;exact absurd h1 h0
theorem tq (hf:Fine l) {d:Nat} {k:Ix l} {f:Fa} {c:Int} (h:(eQ d k f c).code=0):f.code=0∧eQ d k f c=f∧(nx k).1=k.1+1∧c≤1024∧((gN k f).kind=17∨(gN k f).kind=18→d<12):=by
 by_cases h0:f.code=0
 ·have nb:∀ {g:Fa} {e:Int} {t:Tok},e≠0→(bZ g e t).code=0→False:=fun {g e t} he hb=>by
   by_cases hg:g.code=0
   ·rw[gY hg] at hb;exact he hb
   ·rw[dJ hg] at hb;exact hg hb
  unfold eQ at h ⊢
  by_cases h1:1024<c∨((kwQ k f=17∨kwQ k f=18)∧12≤d)
  ·rw[if_pos h1] at h
   exact(nb (by decide) h).elim
  ·rw[if_neg h1] at h ⊢
   unfold gB at h ⊢
   by_cases h2:kwQ k f=0
   ·rw[if_pos h2] at h
    exact(nb (by decide) h).elim
   ·rw[if_neg h2]
    refine⟨h0,rfl,eG hf ?_,by omega,fun hk=>?_⟩
    ·intro e
     exact h2 (kZ (by rw[e];decide))
    ·have hk:fY (kwQ k f)=17∨fY (kwQ k f)=18:=hk
     rcases Nat.lt_or_ge d 12 with hd|hd
     ·exact hd
     ·refine absurd hk (Cj ?_ ?_)
      ·exact fun e=>h1 (.inr ⟨.inl e,hd⟩)
      ·exact fun e=>h1 (.inr ⟨.inr e,hd⟩)
 ·rw[qc h0] at h;exact absurd h h0
theorem ux (hf:Fine l) {d:Nat} {k:Ix l} {f:Fa} {c:Int} (h:(eQ d k f c).code=0):1≤(gN k f).kind∧(gN k f).kind≤23:=by
 obtain ⟨h0,e,-⟩:=tq hf h
 by_cases hk:kwQ k f=0
 ·have e1:gB k f=flt 9 (tk k):=by
   unfold gB
   rw[if_pos hk];exact gY h0
  unfold eQ at h
  rw[e1] at h
  split at h
  ·rw[dJ (show(9:Int)≠0 by decide)] at h
   exact absurd (show(9:Int)=0 from h) (by decide)
  ·exact absurd (show(9:Int)=0 from h) (by decide)
 ·by_cases h1:(tk k).kind=1
  ·have hb:=kh h0 h1
   cases hbb:iS (tk k).text with
   |false=>rw[hb,xZ hbb] at hk;exact absurd rfl hk
   |true=>
    show 1≤fY (kwQ k f)∧fY (kwQ k f)≤23
    rw[hb]
    unfold iS beginW at hbb
    simp only[List.any_cons,List.any_nil,Bool.or_false,Bool.or_eq_true,decide_eq_true_eq] at hbb
    rcases hbb with h|h|h|h|h|h|h|h|h|h|h|h|h|h|h|h|h|h|h|h|h|h|h|h|h|h|h|h <;> rw[h] <;> decide
  ·exact absurd (kZ h1) hk
end
end Am
namespace Am
open Tk Go.RowKit
set_option maxRecDepth 100000
set_option maxHeartbeats 4000000
section
variable {l:List Tok} {c:Int}
theorem BO (hf:Fine l) (s:Stm) (h:s.kind=1∨s.kind=2∨s.kind=3∨s.kind=4∨s.kind=5∨s.kind=8∨s.kind=9∨s.kind=10∨s.kind=11) (k:Ix l) (f:Fa):MNL Tryz.prog 188 [(0,qsO k f c)] [.c (.ptr 0 0),.agg (stC s)] (.agg (stC (cm s k f).1)) [(0,qsO (cm s k f).2.1 (cm s k f).2.2 c)]:=by
 rcases h with h|h|h|h|h|h|h|h|h
 ·exact(zi hf s h k f).ok (cm s k f).1 (cm s k f).2 rfl
 ·exact(vX hf s h k f).ok (cm s k f).1 (cm s k f).2 rfl
 ·exact(me hf s (.inl h) k f).ok (cm s k f).1 (cm s k f).2 rfl
 ·exact(y7 hf s h k f).ok (cm s k f).1 (cm s k f).2 rfl
 ·exact(wk hf s h k f).ok (cm s k f).1 (cm s k f).2 rfl
 ·exact(wX hf s h k f).ok (cm s k f).1 (cm s k f).2 rfl
 ·exact(yp hf s h k f).ok (cm s k f).1 (cm s k f).2 rfl
 ·exact(me hf s (.inr (.inl h)) k f).ok (cm s k f).1 (cm s k f).2 rfl
 ·exact(me hf s (.inr (.inr h)) k f).ok (cm s k f).1 (cm s k f).2 rfl
theorem wH (hf:Fine l) (s:Stm) (h:s.kind=6∨s.kind=7∨s.kind=12∨s.kind=13∨s.kind=14) (k:Ix l) (f:Fa):MNL Tryz.prog 189 [(0,qsO k f c)] [.c (.ptr 0 0),.agg (stC s)] (.agg (stC (bL s k f).1)) [(0,qsO (bL s k f).2.1 (bL s k f).2.2 c)]:=by
 rcases h with h|h|h|h|h
 ·exact(vC hf s h k f).ok (bL s k f).1 (bL s k f).2 rfl
 ·exact(uA hf s h k f).ok (bL s k f).1 (bL s k f).2 rfl
 ·exact(sJ hf s h k f).ok (bL s k f).1 (bL s k f).2 rfl
 ·exact(sY hf s h k f).ok (bL s k f).1 (bL s k f).2 rfl
 ·exact(sM hf s h k f).ok (bL s k f).1 (bL s k f).2 rfl
theorem BR (hf:Fine l) (s:Stm) (h:s.kind=15∨s.kind=16∨s.kind=19∨s.kind=20∨s.kind=21∨s.kind=22∨s.kind=23) (k:Ix l) (f:Fa):MNL Tryz.prog 190 [(0,qsO k f c)] [.c (.ptr 0 0),.agg (stC s)] (.agg (stC (bB s k f).1)) [(0,qsO (bB s k f).2.1 (bB s k f).2.2 c)]:=by
 rcases h with h|h|h|h|h|h|h
 ·exact(uM hf s h k f).ok (bB s k f).1 (bB s k f).2 rfl
 ·exact(ur hf s h k f).ok (bB s k f).1 (bB s k f).2 rfl
 ·exact(uU hf s h k f).ok (bB s k f).1 (bB s k f).2 rfl
 ·exact(vd hf s h k f).ok (bB s k f).1 (bB s k f).2 rfl
 ·exact(vD hf s h k f).ok (bB s k f).1 (bB s k f).2 rfl
 ·exact(uH hf s h k f).ok (bB s k f).1 (bB s k f).2 rfl
 ·exact(vE hf s h k f).ok (bB s k f).1 (bB s k f).2 rfl
end
end Am
end Go.Proofs.YtkpodagbefnebaaGreatDoor
