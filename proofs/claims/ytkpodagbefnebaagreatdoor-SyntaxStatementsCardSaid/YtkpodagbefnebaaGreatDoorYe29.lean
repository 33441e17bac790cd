import Derived.Test.YtkpodagbefnebaaGreatDoorYe28
import Derived.Test.YtkpodagbefnebaaGreatDoorYe25
import Derived.Test.YtkpodagbefnebaaGreatDoorYe26
set_option linter.unusedSimpArgs false
set_option linter.unusedVariables false
set_option linter.unusedSectionVars false
namespace Go.Proofs.YtkpodagbefnebaaGreatDoor
namespace Am
open Tk
set_option maxRecDepth 10000
theorem itb {ε α β:Type} {c:Prop} [Decidable c] (a b:Except ε α) (g:α→Except ε β):((if c then a else b)>>=g)=if c then a>>=g else b>>=g:=by
 by_cases h:c
 ·rw[if_pos h,if_pos h]
 ·rw[if_neg h,if_neg h]
section
variable {l:List Tok} {f:Fa} {k:Ix l}
theorem lx (hl:Fine l) (p:Po) (k:Ix l) (f:Fa):RQ f (aG ⟨#[97,116,116,114,105,98,117,116,101]⟩ {Stm.zero with pos:=p} k) (bK {Stm.zero with kind:=3,op:=0,pos:=p} k f):=by
 have e:aG ⟨#[97,116,116,114,105,98,117,116,101]⟩ {Stm.zero with pos:=p} k=(aP k>>=fun x=>.ok ({Stm.zero with kind:=3,op:=0,pos:=p,name:=x.1},x.2))>>=fun y=>aT ⟨#[59]⟩ y.2>>=fun z=>.ok (y.1,z.2):=by
  unfold aG bJ
  rw[if_neg (by decide),if_neg (by decide),if_pos rfl]
  simp only[exb,ag,if_true,if_false,Bool.false_eq_true]
  try rfl
 rw[e]
 refine ba ?_ (NZ.bind (aQ k) fun x=>NZ.ok _)
 show RQ f _ (cg {Stm.zero with kind:=3,op:=0,pos:=p} k f)
 refine il {Stm.zero with kind:=3,op:=0,pos:=p} (fun x k f=>?_) k f
 exact .ok _ _
theorem jV (hl:Fine l) (p:Po) (k:Ix l) (f:Fa):RQ f (aG ⟨#[115,101,110,115,105,116,105,118,105,116,121]⟩ {Stm.zero with pos:=p} k) (bK {Stm.zero with kind:=10,op:=0,pos:=p} k f):=by
 have e:aG ⟨#[115,101,110,115,105,116,105,118,105,116,121]⟩ {Stm.zero with pos:=p} k=(aP k>>=fun x=>.ok ({Stm.zero with kind:=10,op:=0,pos:=p,name:=x.1},x.2))>>=fun y=>aT ⟨#[59]⟩ y.2>>=fun z=>.ok (y.1,z.2):=by
  unfold aG bJ
  rw[if_neg (by decide),if_neg (by decide),if_neg (by decide),if_neg (by decide),if_neg (by decide),if_neg (by decide),if_neg (by decide),if_pos rfl]
  simp only[exb,ag,if_true,if_false,Bool.false_eq_true]
  try rfl
 rw[e]
 refine ba ?_ (NZ.bind (aQ k) fun x=>NZ.ok _)
 show RQ f _ (cg {Stm.zero with kind:=10,op:=0,pos:=p} k f)
 refine il {Stm.zero with kind:=10,op:=0,pos:=p} (fun x k f=>?_) k f
 exact .ok _ _
theorem nr (hl:Fine l) (p:Po) (k:Ix l) (f:Fa):RQ f (aG ⟨#[99,97,116,101,103,111,114,121]⟩ {Stm.zero with pos:=p} k) (bK {Stm.zero with kind:=11,op:=0,pos:=p} k f):=by
 have e:aG ⟨#[99,97,116,101,103,111,114,121]⟩ {Stm.zero with pos:=p} k=(aP k>>=fun x=>.ok ({Stm.zero with kind:=11,op:=0,pos:=p,name:=x.1},x.2))>>=fun y=>aT ⟨#[59]⟩ y.2>>=fun z=>.ok (y.1,z.2):=by
  unfold aG bJ
  rw[if_neg (by decide),if_neg (by decide),if_neg (by decide),if_neg (by decide),if_neg (by decide),if_neg (by decide),if_neg (by decide),if_neg (by decide),if_pos rfl]
  simp only[exb,ag,if_true,if_false,Bool.false_eq_true]
  try rfl
 rw[e]
 refine ba ?_ (NZ.bind (aQ k) fun x=>NZ.ok _)
 show RQ f _ (cg {Stm.zero with kind:=11,op:=0,pos:=p} k f)
 refine il {Stm.zero with kind:=11,op:=0,pos:=p} (fun x k f=>?_) k f
 exact .ok _ _
theorem jz (hl:Fine l) (p:Po) (k:Ix l) (f:Fa):RQ f (aG ⟨#[116,121,112,101,97,116,116,114,105,98,117,116,101]⟩ {Stm.zero with pos:=p} k) (bK {Stm.zero with kind:=4,op:=0,pos:=p} k f):=by
 have e:aG ⟨#[116,121,112,101,97,116,116,114,105,98,117,116,101]⟩ {Stm.zero with pos:=p} k=(aP k>>=fun x=>ch x.2>>=fun y=>.ok ({Stm.zero with kind:=4,op:=0,pos:=p,name:=x.1,list:=y.1},y.2))>>=fun y=>aT ⟨#[59]⟩ y.2>>=fun z=>.ok (y.1,z.2):=by
  unfold aG bJ
  rw[if_neg (by decide),if_neg (by decide),if_neg (by decide),if_pos rfl]
  simp only[exb,ag,if_true,if_false,Bool.false_eq_true]
  try rfl
 rw[e]
 refine ba ?_ (NZ.bind (aQ k) fun x=>NZ.bind (jw _) fun y=>NZ.ok _)
 show RQ f _ (cg {Stm.zero with kind:=4,op:=0,pos:=p} k f)
 refine il {Stm.zero with kind:=4,op:=0,pos:=p} (fun x k f=>?_) k f
 exact wI hl {Stm.zero with kind:=4,op:=0,pos:=p,name:=x} k f
theorem rH (hl:Fine l) (p:Po) (k:Ix l) (f:Fa):RQ f (aG ⟨#[117,115,101,114]⟩ {Stm.zero with pos:=p} k) (bK {Stm.zero with kind:=8,op:=0,pos:=p} k f):=by
 have e:aG ⟨#[117,115,101,114]⟩ {Stm.zero with pos:=p} k=(aP k>>=fun x=>cX ⟨#[114,111,108,101,115]⟩ x.2>>=fun a=>bq a.2>>=fun y=>cX ⟨#[108,101,118,101,108]⟩ y.2>>=fun b=>dJ b.2>>=fun v=>cX ⟨#[114,97,110,103,101]⟩ v.2>>=fun c=>cG c.2>>=fun g=>.ok ({Stm.zero with kind:=8,op:=0,pos:=p,name:=x.1,list:=y.1,level:=v.1,range:=g.1},g.2))>>=fun y=>aT ⟨#[59]⟩ y.2>>=fun z=>.ok (y.1,z.2):=by
  unfold aG bJ
  rw[if_neg (by decide),if_neg (by decide),if_neg (by decide),if_neg (by decide),if_neg (by decide),if_pos rfl]
  simp only[exb,ag,if_true,if_false,Bool.false_eq_true]
  try rfl
 rw[e]
 refine ba ?_ (NZ.bind (aQ k) fun x=>NZ.bind (fo _ _) fun a=>NZ.bind (dx _) fun y=>NZ.bind (fo _ _) fun b=>NZ.bind (hZ _) fun v=>NZ.bind (fo _ _) fun c=>NZ.bind (gN _) fun g=>NZ.ok _)
 show RQ f _ (cg {Stm.zero with kind:=8,op:=0,pos:=p} k f)
 refine il {Stm.zero with kind:=8,op:=0,pos:=p} (fun x k f=>?_) k f
 exact BS hl {Stm.zero with kind:=8,op:=0,pos:=p,name:=x} k f
theorem sR (hl:Fine l) (p:Po) (k:Ix l) (f:Fa):RQ f (aG ⟨#[98,111,111,108]⟩ {Stm.zero with pos:=p} k) (bK {Stm.zero with kind:=9,op:=0,pos:=p} k f):=by
 have e:aG ⟨#[98,111,111,108]⟩ {Stm.zero with pos:=p} k=(aP k>>=fun x=>bb [⟨#[102,97,108,115,101]⟩,⟨#[116,114,117,101]⟩] x.2>>=fun y=>.ok ({Stm.zero with kind:=9,op:=0,pos:=p,name:=x.1,value:=decide (y.1=1)},y.2))>>=fun y=>aT ⟨#[59]⟩ y.2>>=fun z=>.ok (y.1,z.2):=by
  unfold aG bJ
  rw[if_neg (by decide),if_neg (by decide),if_neg (by decide),if_neg (by decide),if_neg (by decide),if_neg (by decide),if_pos rfl]
  simp only[exb,ag,if_true,if_false,Bool.false_eq_true]
  try rfl
 rw[e]
 refine ba ?_ (NZ.bind (aQ k) fun x=>NZ.bind (dz _ _) fun y=>NZ.ok _)
 show RQ f _ (cg {Stm.zero with kind:=9,op:=0,pos:=p} k f)
 refine il {Stm.zero with kind:=9,op:=0,pos:=p} (fun x k f=>?_) k f
 exact zy {Stm.zero with kind:=9,op:=0,pos:=p,name:=x} k f
theorem lC (hl:Fine l) (p:Po) (k:Ix l) (f:Fa):RQ f (aG ⟨#[114,111,108,101,97,108,108,111,119]⟩ {Stm.zero with pos:=p} k) (bK {Stm.zero with kind:=6,op:=0,pos:=p} k f):=by
 have e:aG ⟨#[114,111,108,101,97,108,108,111,119]⟩ {Stm.zero with pos:=p} k=(b7 false k>>=fun x=>b7 false x.2>>=fun y=>.ok ({Stm.zero with kind:=6,op:=0,pos:=p,source:=x.1,target:=y.1},y.2))>>=fun y=>aT ⟨#[59]⟩ y.2>>=fun z=>.ok (y.1,z.2):=by
  unfold aG bJ
  rw[if_neg (by decide),if_neg (by decide),if_neg (by decide),if_neg (by decide),if_neg (by decide),if_neg (by decide),if_neg (by decide),if_neg (by decide),if_neg (by decide)]
  simp only[ag,Bool.false_eq_true,if_false]
  unfold dF
  have n1:¬ 0<cf ⟨#[114,111,108,101,97,108,108,111,119]⟩ ruleW:=by decide
  have n2:¬ 0<cf ⟨#[114,111,108,101,97,108,108,111,119]⟩ transW:=by decide
  rw[if_neg n1]
  try rw[if_neg n2]
  rw[if_neg (show ¬ (⟨#[114,111,108,101,97,108,108,111,119]⟩:ByteArray)=⟨#[114,97,110,103,101,95,116,114,97,110,115,105,116,105,111,110]⟩ by decide),if_neg (show ¬ (⟨#[114,111,108,101,97,108,108,111,119]⟩:ByteArray)=⟨#[114,111,108,101,95,116,114,97,110,115,105,116,105,111,110]⟩ by decide),if_pos rfl]
  try unfold cJ
  simp only[exb,ag,if_true,if_false,Bool.false_eq_true]
  try rfl
 rw[e]
 refine ba ?_ (NZ.bind (aX _ k) fun x=>NZ.bind (aX _ _) fun y=>NZ.ok _)
 exact xY hl {Stm.zero with kind:=6,op:=0,pos:=p} rfl k f
theorem iL (hl:Fine l) (p:Po) (k:Ix l) (f:Fa):RQ f (aG ⟨#[114,111,108,101,95,116,114,97,110,115,105,116,105,111,110]⟩ {Stm.zero with pos:=p} k) (bK {Stm.zero with kind:=7,op:=0,pos:=p} k f):=by
 have e:aG ⟨#[114,111,108,101,95,116,114,97,110,115,105,116,105,111,110]⟩ {Stm.zero with pos:=p} k=(b7 false k>>=fun x=>b7 false x.2>>=fun y=>aT ⟨#[58]⟩ y.2>>=fun a=>b7 false a.2>>=fun z=>aP z.2>>=fun q=>.ok ({Stm.zero with kind:=7,op:=0,pos:=p,source:=x.1,target:=y.1,cls:=z.1,result:=q.1},q.2))>>=fun y=>aT ⟨#[59]⟩ y.2>>=fun z=>.ok (y.1,z.2):=by
  unfold aG bJ
  rw[if_neg (by decide),if_neg (by decide),if_neg (by decide),if_neg (by decide),if_neg (by decide),if_neg (by decide),if_neg (by decide),if_neg (by decide),if_neg (by decide)]
  simp only[ag,Bool.false_eq_true,if_false]
  unfold dF
  have n1:¬ 0<cf ⟨#[114,111,108,101,95,116,114,97,110,115,105,116,105,111,110]⟩ ruleW:=by decide
  have n2:¬ 0<cf ⟨#[114,111,108,101,95,116,114,97,110,115,105,116,105,111,110]⟩ transW:=by decide
  rw[if_neg n1]
  try rw[if_neg n2]
  rw[if_neg (show ¬ (⟨#[114,111,108,101,95,116,114,97,110,115,105,116,105,111,110]⟩:ByteArray)=⟨#[114,97,110,103,101,95,116,114,97,110,115,105,116,105,111,110]⟩ by decide),if_pos rfl]
  try unfold cJ
  simp only[exb,ag,if_true,if_false,Bool.false_eq_true]
  try rfl
 rw[e]
 refine ba ?_ (NZ.bind (aX _ k) fun x=>NZ.bind (aX _ _) fun y=>NZ.bind (bo _ _) fun a=>NZ.bind (aX _ _) fun z=>NZ.bind (aQ _) fun q=>NZ.ok _)
 exact yd hl {Stm.zero with kind:=7,op:=0,pos:=p} rfl k f
theorem iA (hl:Fine l) (p:Po) (k:Ix l) (f:Fa):RQ f (aG ⟨#[114,97,110,103,101,95,116,114,97,110,115,105,116,105,111,110]⟩ {Stm.zero with pos:=p} k) (bK {Stm.zero with kind:=14,op:=0,pos:=p} k f):=by
 have e:aG ⟨#[114,97,110,103,101,95,116,114,97,110,115,105,116,105,111,110]⟩ {Stm.zero with pos:=p} k=(b7 false k>>=fun x=>b7 false x.2>>=fun y=>aT ⟨#[58]⟩ y.2>>=fun a=>b7 false a.2>>=fun z=>cG z.2>>=fun q=>.ok ({Stm.zero with kind:=14,op:=0,pos:=p,source:=x.1,target:=y.1,cls:=z.1,range:=q.1},q.2))>>=fun y=>aT ⟨#[59]⟩ y.2>>=fun z=>.ok (y.1,z.2):=by
  unfold aG bJ
  rw[if_neg (by decide),if_neg (by decide),if_neg (by decide),if_neg (by decide),if_neg (by decide),if_neg (by decide),if_neg (by decide),if_neg (by decide),if_neg (by decide)]
  simp only[ag,Bool.false_eq_true,if_false]
  unfold dF
  have n1:¬ 0<cf ⟨#[114,97,110,103,101,95,116,114,97,110,115,105,116,105,111,110]⟩ ruleW:=by decide
  have n2:¬ 0<cf ⟨#[114,97,110,103,101,95,116,114,97,110,115,105,116,105,111,110]⟩ transW:=by decide
  rw[if_neg n1]
  try rw[if_neg n2]
  rw[if_pos rfl]
  try unfold cJ
  simp only[exb,ag,if_true,if_false,Bool.false_eq_true]
  try rfl
 rw[e]
 refine ba ?_ (NZ.bind (aX _ k) fun x=>NZ.bind (aX _ _) fun y=>NZ.bind (bo _ _) fun a=>NZ.bind (aX _ _) fun z=>NZ.bind (gN _) fun q=>NZ.ok _)
 exact vk hl {Stm.zero with kind:=14,op:=0,pos:=p} rfl k f
theorem ly (hl:Fine l) (p:Po) (k:Ix l) (f:Fa):RQ f (aG ⟨#[99,111,110,115,116,114,97,105,110]⟩ {Stm.zero with pos:=p} k) (bK {Stm.zero with kind:=15,op:=0,pos:=p} k f):=by
 have e:aG ⟨#[99,111,110,115,116,114,97,105,110]⟩ {Stm.zero with pos:=p} k=(b7 false k>>=fun x=>b7 false x.2>>=fun y=>cI false y.2>>=fun z=>.ok ({Stm.zero with kind:=15,op:=0,pos:=p,cls:=x.1,perms:=y.1,cond:=z.1},z.2))>>=fun y=>aT ⟨#[59]⟩ y.2>>=fun z=>.ok (y.1,z.2):=by
  unfold aG bJ
  rw[if_neg (by decide),if_neg (by decide),if_neg (by decide),if_neg (by decide),if_neg (by decide),if_neg (by decide),if_neg (by decide),if_neg (by decide),if_neg (by decide)]
  simp only[ag,Bool.false_eq_true,if_false]
  unfold dF
  have n1:¬ 0<cf ⟨#[99,111,110,115,116,114,97,105,110]⟩ ruleW:=by decide
  have n2:¬ 0<cf ⟨#[99,111,110,115,116,114,97,105,110]⟩ transW:=by decide
  rw[if_neg n1]
  try rw[if_neg n2]
  rw[if_neg (show ¬ (⟨#[99,111,110,115,116,114,97,105,110]⟩:ByteArray)=⟨#[114,97,110,103,101,95,116,114,97,110,115,105,116,105,111,110]⟩ by decide),if_neg (show ¬ (⟨#[99,111,110,115,116,114,97,105,110]⟩:ByteArray)=⟨#[114,111,108,101,95,116,114,97,110,115,105,116,105,111,110]⟩ by decide),if_neg (show ¬ (⟨#[99,111,110,115,116,114,97,105,110]⟩:ByteArray)=⟨#[114,111,108,101,97,108,108,111,119]⟩ by decide),if_pos rfl]
  try unfold cJ
  simp only[exb,ag,if_true,if_false,Bool.false_eq_true]
  try rfl
 rw[e]
 refine ba ?_ (NZ.bind (aX _ k) fun x=>NZ.bind (aX _ _) fun y=>NZ.bind (kG _ _) fun z=>NZ.ok _)
 exact Dg hl {Stm.zero with kind:=15,op:=0,pos:=p} k f
theorem jD (hl:Fine l) (p:Po) (k:Ix l) (f:Fa):RQ f (aG ⟨#[118,97,108,105,100,97,116,101,116,114,97,110,115]⟩ {Stm.zero with pos:=p} k) (bK {Stm.zero with kind:=16,op:=0,pos:=p} k f):=by
 have e:aG ⟨#[118,97,108,105,100,97,116,101,116,114,97,110,115]⟩ {Stm.zero with pos:=p} k=(b7 false k>>=fun x=>cI true x.2>>=fun z=>.ok ({Stm.zero with kind:=16,op:=0,pos:=p,cls:=x.1,cond:=z.1},z.2))>>=fun y=>aT ⟨#[59]⟩ y.2>>=fun z=>.ok (y.1,z.2):=by
  unfold aG bJ
  rw[if_neg (by decide),if_neg (by decide),if_neg (by decide),if_neg (by decide),if_neg (by decide),if_neg (by decide),if_neg (by decide),if_neg (by decide),if_neg (by decide)]
  simp only[ag,Bool.false_eq_true,if_false]
  unfold dF
  have n1:¬ 0<cf ⟨#[118,97,108,105,100,97,116,101,116,114,97,110,115]⟩ ruleW:=by decide
  have n2:¬ 0<cf ⟨#[118,97,108,105,100,97,116,101,116,114,97,110,115]⟩ transW:=by decide
  rw[if_neg n1]
  try rw[if_neg n2]
  rw[if_neg (show ¬ (⟨#[118,97,108,105,100,97,116,101,116,114,97,110,115]⟩:ByteArray)=⟨#[114,97,110,103,101,95,116,114,97,110,115,105,116,105,111,110]⟩ by decide),if_neg (show ¬ (⟨#[118,97,108,105,100,97,116,101,116,114,97,110,115]⟩:ByteArray)=⟨#[114,111,108,101,95,116,114,97,110,115,105,116,105,111,110]⟩ by decide),if_neg (show ¬ (⟨#[118,97,108,105,100,97,116,101,116,114,97,110,115]⟩:ByteArray)=⟨#[114,111,108,101,97,108,108,111,119]⟩ by decide),if_neg (show ¬ (⟨#[118,97,108,105,100,97,116,101,116,114,97,110,115]⟩:ByteArray)=⟨#[99,111,110,115,116,114,97,105,110]⟩ by decide),if_pos rfl]
  try unfold cJ
  simp only[exb,ag,if_true,if_false,Bool.false_eq_true]
  try rfl
 rw[e]
 refine ba ?_ (NZ.bind (aX _ k) fun x=>NZ.bind (kG _ _) fun z=>NZ.ok _)
 exact Dl hl {Stm.zero with kind:=16,op:=0,pos:=p} k f
theorem vu (hl:Fine l) (p:Po) (k:Ix l) (f:Fa):RQ f (aG ⟨#[115,105,100]⟩ {Stm.zero with pos:=p} k) (bK {Stm.zero with kind:=20,op:=0,pos:=p} k f):=by
 have e:aG ⟨#[115,105,100]⟩ {Stm.zero with pos:=p} k=(aP k>>=fun x=>bP x.2>>=fun y=>.ok ({Stm.zero with kind:=20,op:=0,pos:=p,name:=x.1,ctx:=y.1},y.2))>>=fun y=>aT ⟨#[59]⟩ y.2>>=fun z=>.ok (y.1,z.2):=by
  unfold aG bJ
  rw[if_neg (by decide),if_neg (by decide),if_neg (by decide),if_neg (by decide),if_neg (by decide),if_neg (by decide),if_neg (by decide),if_neg (by decide),if_neg (by decide)]
  simp only[ag,Bool.false_eq_true,if_false]
  unfold dF
  have n1:¬ 0<cf ⟨#[115,105,100]⟩ ruleW:=by decide
  have n2:¬ 0<cf ⟨#[115,105,100]⟩ transW:=by decide
  rw[if_neg n1]
  try rw[if_neg n2]
  rw[if_neg (show ¬ (⟨#[115,105,100]⟩:ByteArray)=⟨#[114,97,110,103,101,95,116,114,97,110,115,105,116,105,111,110]⟩ by decide),if_neg (show ¬ (⟨#[115,105,100]⟩:ByteArray)=⟨#[114,111,108,101,95,116,114,97,110,115,105,116,105,111,110]⟩ by decide),if_neg (show ¬ (⟨#[115,105,100]⟩:ByteArray)=⟨#[114,111,108,101,97,108,108,111,119]⟩ by decide),if_neg (show ¬ (⟨#[115,105,100]⟩:ByteArray)=⟨#[99,111,110,115,116,114,97,105,110]⟩ by decide),if_neg (show ¬ (⟨#[115,105,100]⟩:ByteArray)=⟨#[118,97,108,105,100,97,116,101,116,114,97,110,115]⟩ by decide)]
  simp only[ag,Bool.false_eq_true,if_false]
  unfold dp
  rw[if_neg (show ¬ (⟨#[115,105,100]⟩:ByteArray)=⟨#[114,101,113,117,105,114,101]⟩ by decide),if_pos rfl]
  try unfold cJ
  simp only[exb,ag,if_true,if_false,Bool.false_eq_true]
  try rfl
 rw[e]
 refine ba ?_ (NZ.bind (aQ k) fun x=>NZ.bind (jU _) fun y=>NZ.ok _)
 exact Dn hl {Stm.zero with kind:=20,op:=0,pos:=p} k f
theorem nH (hl:Fine l) (p:Po) (k:Ix l) (f:Fa):RQ f (aG ⟨#[102,105,108,101,99,111,110]⟩ {Stm.zero with pos:=p} k) (bK {Stm.zero with kind:=21,op:=0,pos:=p} k f):=by
 have e:aG ⟨#[102,105,108,101,99,111,110]⟩ {Stm.zero with pos:=p} k=(hY k>>=fun x=>bb eQ x.2>>=fun y=>bP y.2>>=fun z=>.ok ({{Stm.zero with kind:=21,op:=0,pos:=p} with text:=x.1,op:=y.1,ctx:=z.1},z.2))>>=fun y=>aT ⟨#[59]⟩ y.2>>=fun z=>.ok (y.1,z.2):=by
  unfold aG bJ
  rw[if_neg (by decide),if_neg (by decide),if_neg (by decide),if_neg (by decide),if_neg (by decide),if_neg (by decide),if_neg (by decide),if_neg (by decide),if_neg (by decide)]
  simp only[ag,Bool.false_eq_true,if_false]
  unfold dF
  have n1:¬ 0<cf ⟨#[102,105,108,101,99,111,110]⟩ ruleW:=by decide
  have n2:¬ 0<cf ⟨#[102,105,108,101,99,111,110]⟩ transW:=by decide
  rw[if_neg n1]
  try rw[if_neg n2]
  rw[if_neg (show ¬ (⟨#[102,105,108,101,99,111,110]⟩:ByteArray)=⟨#[114,97,110,103,101,95,116,114,97,110,115,105,116,105,111,110]⟩ by decide),if_neg (show ¬ (⟨#[102,105,108,101,99,111,110]⟩:ByteArray)=⟨#[114,111,108,101,95,116,114,97,110,115,105,116,105,111,110]⟩ by decide),if_neg (show ¬ (⟨#[102,105,108,101,99,111,110]⟩:ByteArray)=⟨#[114,111,108,101,97,108,108,111,119]⟩ by decide),if_neg (show ¬ (⟨#[102,105,108,101,99,111,110]⟩:ByteArray)=⟨#[99,111,110,115,116,114,97,105,110]⟩ by decide),if_neg (show ¬ (⟨#[102,105,108,101,99,111,110]⟩:ByteArray)=⟨#[118,97,108,105,100,97,116,101,116,114,97,110,115]⟩ by decide)]
  simp only[ag,Bool.false_eq_true,if_false]
  unfold dp
  rw[if_neg (show ¬ (⟨#[102,105,108,101,99,111,110]⟩:ByteArray)=⟨#[114,101,113,117,105,114,101]⟩ by decide),if_neg (show ¬ (⟨#[102,105,108,101,99,111,110]⟩:ByteArray)=⟨#[115,105,100]⟩ by decide),if_pos rfl]
  try unfold cJ
  simp only[exb,ag,if_true,if_false,Bool.false_eq_true]
  try rfl
 rw[e]
 refine ba ?_ (NZ.bind (pA k) fun x=>NZ.bind (dz _ _) fun y=>NZ.bind (jU _) fun z=>NZ.ok _)
 exact An hl {Stm.zero with kind:=21,op:=0,pos:=p} k f
theorem kK (hl:Fine l) (p:Po) (k:Ix l) (f:Fa):RQ f (aG ⟨#[112,101,114,109,105,115,115,105,118,101]⟩ {Stm.zero with pos:=p} k) (bK {Stm.zero with kind:=22,op:=0,pos:=p} k f):=by
 have e:aG ⟨#[112,101,114,109,105,115,115,105,118,101]⟩ {Stm.zero with pos:=p} k=(b7 false k>>=fun x=>.ok ({Stm.zero with kind:=22,op:=0,pos:=p,source:=x.1},x.2))>>=fun y=>aT ⟨#[59]⟩ y.2>>=fun z=>.ok (y.1,z.2):=by
  unfold aG bJ
  rw[if_neg (by decide),if_neg (by decide),if_neg (by decide),if_neg (by decide),if_neg (by decide),if_neg (by decide),if_neg (by decide),if_neg (by decide),if_neg (by decide)]
  simp only[ag,Bool.false_eq_true,if_false]
  unfold dF
  have n1:¬ 0<cf ⟨#[112,101,114,109,105,115,115,105,118,101]⟩ ruleW:=by decide
  have n2:¬ 0<cf ⟨#[112,101,114,109,105,115,115,105,118,101]⟩ transW:=by decide
  rw[if_neg n1]
  try rw[if_neg n2]
  rw[if_neg (show ¬ (⟨#[112,101,114,109,105,115,115,105,118,101]⟩:ByteArray)=⟨#[114,97,110,103,101,95,116,114,97,110,115,105,116,105,111,110]⟩ by decide),if_neg (show ¬ (⟨#[112,101,114,109,105,115,115,105,118,101]⟩:ByteArray)=⟨#[114,111,108,101,95,116,114,97,110,115,105,116,105,111,110]⟩ by decide),if_neg (show ¬ (⟨#[112,101,114,109,105,115,115,105,118,101]⟩:ByteArray)=⟨#[114,111,108,101,97,108,108,111,119]⟩ by decide),if_neg (show ¬ (⟨#[112,101,114,109,105,115,115,105,118,101]⟩:ByteArray)=⟨#[99,111,110,115,116,114,97,105,110]⟩ by decide),if_neg (show ¬ (⟨#[112,101,114,109,105,115,115,105,118,101]⟩:ByteArray)=⟨#[118,97,108,105,100,97,116,101,116,114,97,110,115]⟩ by decide)]
  simp only[ag,Bool.false_eq_true,if_false]
  unfold dp
  rw[if_neg (show ¬ (⟨#[112,101,114,109,105,115,115,105,118,101]⟩:ByteArray)=⟨#[114,101,113,117,105,114,101]⟩ by decide),if_neg (show ¬ (⟨#[112,101,114,109,105,115,115,105,118,101]⟩:ByteArray)=⟨#[115,105,100]⟩ by decide),if_neg (show ¬ (⟨#[112,101,114,109,105,115,115,105,118,101]⟩:ByteArray)=⟨#[102,105,108,101,99,111,110]⟩ by decide),if_pos rfl]
  try unfold cJ
  simp only[exb,ag,if_true,if_false,Bool.false_eq_true]
  try rfl
 rw[e]
 refine ba ?_ (NZ.bind (aX _ k) fun x=>NZ.ok _)
 show RQ f _ (ub {Stm.zero with kind:=22,op:=0,pos:=p} k f)
 exact zq hl {Stm.zero with kind:=22,op:=0,pos:=p} k f
theorem r5 (hl:Fine l) (p:Po) (k:Ix l) (f:Fa):RQ f (aG ⟨#[97,108,108,111,119]⟩ {Stm.zero with pos:=p} k) (bK {Stm.zero with kind:=12,op:=1,pos:=p} k f):=by
 have e:aG ⟨#[97,108,108,111,119]⟩ {Stm.zero with pos:=p} k=(b7 false k>>=fun x=>b7 true x.2>>=fun y=>aT ⟨#[58]⟩ y.2>>=fun a=>b7 false a.2>>=fun z=>b7 false z.2>>=fun q=>.ok ({Stm.zero with kind:=12,op:=1,pos:=p,source:=x.1,target:=y.1,cls:=z.1,perms:=q.1},q.2))>>=fun y=>aT ⟨#[59]⟩ y.2>>=fun z=>.ok (y.1,z.2):=by
  unfold aG bJ
  rw[if_neg (by decide),if_neg (by decide),if_neg (by decide),if_neg (by decide),if_neg (by decide),if_neg (by decide),if_neg (by decide),if_neg (by decide),if_neg (by decide)]
  simp only[ag,Bool.false_eq_true,if_false]
  unfold dF
  have n1:0<cf ⟨#[97,108,108,111,119]⟩ ruleW:=by decide
  have n3:cf ⟨#[97,108,108,111,119]⟩ ruleW=1:=by decide
  rw[if_pos n1,n3]
  unfold cJ
  simp only[exb,ag,if_true,if_false,Bool.false_eq_true]
  try rfl
 rw[e]
 refine ba ?_ (NZ.bind (aX _ k) fun x=>NZ.bind (aX _ _) fun y=>NZ.bind (bo _ _) fun a=>NZ.bind (aX _ _) fun z=>NZ.bind (aX _ _) fun q=>NZ.ok _)
 show RQ f _ (bL {Stm.zero with kind:=12,op:=1,pos:=p} k f)
 exact jk hl {Stm.zero with kind:=12,op:=1,pos:=p} rfl k f
theorem kD (hl:Fine l) (p:Po) (k:Ix l) (f:Fa):RQ f (aG ⟨#[97,117,100,105,116,97,108,108,111,119]⟩ {Stm.zero with pos:=p} k) (bK {Stm.zero with kind:=12,op:=2,pos:=p} k f):=by
 have e:aG ⟨#[97,117,100,105,116,97,108,108,111,119]⟩ {Stm.zero with pos:=p} k=(b7 false k>>=fun x=>b7 true x.2>>=fun y=>aT ⟨#[58]⟩ y.2>>=fun a=>b7 false a.2>>=fun z=>b7 false z.2>>=fun q=>.ok ({Stm.zero with kind:=12,op:=2,pos:=p,source:=x.1,target:=y.1,cls:=z.1,perms:=q.1},q.2))>>=fun y=>aT ⟨#[59]⟩ y.2>>=fun z=>.ok (y.1,z.2):=by
  unfold aG bJ
  rw[if_neg (by decide),if_neg (by decide),if_neg (by decide),if_neg (by decide),if_neg (by decide),if_neg (by decide),if_neg (by decide),if_neg (by decide),if_neg (by decide)]
  simp only[ag,Bool.false_eq_true,if_false]
  unfold dF
  have n1:0<cf ⟨#[97,117,100,105,116,97,108,108,111,119]⟩ ruleW:=by decide
  have n3:cf ⟨#[97,117,100,105,116,97,108,108,111,119]⟩ ruleW=2:=by decide
  rw[if_pos n1,n3]
  unfold cJ
  simp only[exb,ag,if_true,if_false,Bool.false_eq_true]
  try rfl
 rw[e]
 refine ba ?_ (NZ.bind (aX _ k) fun x=>NZ.bind (aX _ _) fun y=>NZ.bind (bo _ _) fun a=>NZ.bind (aX _ _) fun z=>NZ.bind (aX _ _) fun q=>NZ.ok _)
 show RQ f _ (bL {Stm.zero with kind:=12,op:=2,pos:=p} k f)
 exact jk hl {Stm.zero with kind:=12,op:=2,pos:=p} rfl k f
theorem lu (hl:Fine l) (p:Po) (k:Ix l) (f:Fa):RQ f (aG ⟨#[100,111,110,116,97,117,100,105,116]⟩ {Stm.zero with pos:=p} k) (bK {Stm.zero with kind:=12,op:=3,pos:=p} k f):=by
 have e:aG ⟨#[100,111,110,116,97,117,100,105,116]⟩ {Stm.zero with pos:=p} k=(b7 false k>>=fun x=>b7 true x.2>>=fun y=>aT ⟨#[58]⟩ y.2>>=fun a=>b7 false a.2>>=fun z=>b7 false z.2>>=fun q=>.ok ({Stm.zero with kind:=12,op:=3,pos:=p,source:=x.1,target:=y.1,cls:=z.1,perms:=q.1},q.2))>>=fun y=>aT ⟨#[59]⟩ y.2>>=fun z=>.ok (y.1,z.2):=by
  unfold aG bJ
  rw[if_neg (by decide),if_neg (by decide),if_neg (by decide),if_neg (by decide),if_neg (by decide),if_neg (by decide),if_neg (by decide),if_neg (by decide),if_neg (by decide)]
  simp only[ag,Bool.false_eq_true,if_false]
  unfold dF
  have n1:0<cf ⟨#[100,111,110,116,97,117,100,105,116]⟩ ruleW:=by decide
  have n3:cf ⟨#[100,111,110,116,97,117,100,105,116]⟩ ruleW=3:=by decide
  rw[if_pos n1,n3]
  unfold cJ
  simp only[exb,ag,if_true,if_false,Bool.false_eq_true]
  try rfl
 rw[e]
 refine ba ?_ (NZ.bind (aX _ k) fun x=>NZ.bind (aX _ _) fun y=>NZ.bind (bo _ _) fun a=>NZ.bind (aX _ _) fun z=>NZ.bind (aX _ _) fun q=>NZ.ok _)
 show RQ f _ (bL {Stm.zero with kind:=12,op:=3,pos:=p} k f)
 exact jk hl {Stm.zero with kind:=12,op:=3,pos:=p} rfl k f
theorem kW (hl:Fine l) (p:Po) (k:Ix l) (f:Fa):RQ f (aG ⟨#[110,101,118,101,114,97,108,108,111,119]⟩ {Stm.zero with pos:=p} k) (bK {Stm.zero with kind:=12,op:=4,pos:=p} k f):=by
 have e:aG ⟨#[110,101,118,101,114,97,108,108,111,119]⟩ {Stm.zero with pos:=p} k=(b7 false k>>=fun x=>b7 true x.2>>=fun y=>aT ⟨#[58]⟩ y.2>>=fun a=>b7 false a.2>>=fun z=>b7 false z.2>>=fun q=>.ok ({Stm.zero with kind:=12,op:=4,pos:=p,source:=x.1,target:=y.1,cls:=z.1,perms:=q.1},q.2))>>=fun y=>aT ⟨#[59]⟩ y.2>>=fun z=>.ok (y.1,z.2):=by
  unfold aG bJ
  rw[if_neg (by decide),if_neg (by decide),if_neg (by decide),if_neg (by decide),if_neg (by decide),if_neg (by decide),if_neg (by decide),if_neg (by decide),if_neg (by decide)]
  simp only[ag,Bool.false_eq_true,if_false]
  unfold dF
  have n1:0<cf ⟨#[110,101,118,101,114,97,108,108,111,119]⟩ ruleW:=by decide
  have n3:cf ⟨#[110,101,118,101,114,97,108,108,111,119]⟩ ruleW=4:=by decide
  rw[if_pos n1,n3]
  unfold cJ
  simp only[exb,ag,if_true,if_false,Bool.false_eq_true]
  try rfl
 rw[e]
 refine ba ?_ (NZ.bind (aX _ k) fun x=>NZ.bind (aX _ _) fun y=>NZ.bind (bo _ _) fun a=>NZ.bind (aX _ _) fun z=>NZ.bind (aX _ _) fun q=>NZ.ok _)
 show RQ f _ (bL {Stm.zero with kind:=12,op:=4,pos:=p} k f)
 exact jk hl {Stm.zero with kind:=12,op:=4,pos:=p} rfl k f
theorem pk (hl:Fine l) (p:Po) (k:Ix l) (f:Fa):RQ f (aG ⟨#[97,115,115,101,114,116]⟩ {Stm.zero with pos:=p} k) (bK {Stm.zero with kind:=23,op:=0,pos:=p} k f):=by
 have e:aG ⟨#[97,115,115,101,114,116]⟩ {Stm.zero with pos:=p} k=(aP k>>=fun x=>bb ir x.2>>=fun y=>b7 false y.2>>=fun z=>b7 false z.2>>=fun u=>.ok ({{Stm.zero with kind:=23,op:=0,pos:=p} with name:=x.1,op:=y.1+1,source:=z.1,target:=u.1},u.2))>>=fun y=>aT ⟨#[59]⟩ y.2>>=fun z=>.ok (y.1,z.2):=by
  unfold aG bJ
  rw[if_neg (by decide),if_neg (by decide),if_neg (by decide),if_neg (by decide),if_neg (by decide),if_neg (by decide),if_neg (by decide),if_neg (by decide),if_neg (by decide)]
  simp only[ag,Bool.false_eq_true,if_false]
  unfold dF
  have n1:¬ 0<cf ⟨#[97,115,115,101,114,116]⟩ ruleW:=by decide
  have n2:¬ 0<cf ⟨#[97,115,115,101,114,116]⟩ transW:=by decide
  rw[if_neg n1]
  try rw[if_neg n2]
  rw[if_neg (show ¬ (⟨#[97,115,115,101,114,116]⟩:ByteArray)=⟨#[114,97,110,103,101,95,116,114,97,110,115,105,116,105,111,110]⟩ by decide),if_neg (show ¬ (⟨#[97,115,115,101,114,116]⟩:ByteArray)=⟨#[114,111,108,101,95,116,114,97,110,115,105,116,105,111,110]⟩ by decide),if_neg (show ¬ (⟨#[97,115,115,101,114,116]⟩:ByteArray)=⟨#[114,111,108,101,97,108,108,111,119]⟩ by decide),if_neg (show ¬ (⟨#[97,115,115,101,114,116]⟩:ByteArray)=⟨#[99,111,110,115,116,114,97,105,110]⟩ by decide),if_neg (show ¬ (⟨#[97,115,115,101,114,116]⟩:ByteArray)=⟨#[118,97,108,105,100,97,116,101,116,114,97,110,115]⟩ by decide)]
  simp only[ag,Bool.false_eq_true,if_false]
  unfold dp
  rw[if_neg (show ¬ (⟨#[97,115,115,101,114,116]⟩:ByteArray)=⟨#[114,101,113,117,105,114,101]⟩ by decide),if_neg (show ¬ (⟨#[97,115,115,101,114,116]⟩:ByteArray)=⟨#[115,105,100]⟩ by decide),if_neg (show ¬ (⟨#[97,115,115,101,114,116]⟩:ByteArray)=⟨#[102,105,108,101,99,111,110]⟩ by decide),if_neg (show ¬ (⟨#[97,115,115,101,114,116]⟩:ByteArray)=⟨#[112,101,114,109,105,115,115,105,118,101]⟩ by decide),if_pos rfl]
  try unfold cJ
  simp only[exb,ag,if_true,if_false,Bool.false_eq_true,Int.add_comm 1]
  try rfl
 rw[e]
 refine ba ?_ (NZ.bind (aQ k) fun x=>NZ.bind (dz _ _) fun y=>NZ.bind (aX _ _) fun z=>NZ.bind (aX _ _) fun u=>NZ.ok _)
 show RQ f _ (xz {Stm.zero with kind:=23,op:=0,pos:=p} k f)
 exact CJ hl {Stm.zero with kind:=23,op:=0,pos:=p} k f
theorem s7 (hl:Fine l) (p:Po) (k:Ix l) (f:Fa):RQ f (aG ⟨#[116,121,112,101]⟩ {Stm.zero with pos:=p} k) (bK {Stm.zero with kind:=2,op:=0,pos:=p} k f):=by
 have e:aG ⟨#[116,121,112,101]⟩ {Stm.zero with pos:=p} k=(aP k>>=fun x=>if isW ⟨#[97,108,105,97,115]⟩ x.2 then bq (nx x.2)>>=fun y=>b5 (fuel l) [] y.2>>=fun z=>.ok ({Stm.zero with kind:=2,op:=0,pos:=p,name:=x.1,aliases:=y.1,list:=z.1},z.2) else b5 (fuel l) [] x.2>>=fun z=>.ok ({Stm.zero with kind:=2,op:=0,pos:=p,name:=x.1,list:=z.1},z.2))>>=fun y=>aT ⟨#[59]⟩ y.2>>=fun z=>.ok (y.1,z.2):=by
  unfold aG bJ
  rw[if_neg (by decide),if_pos rfl]
  simp only[exb,itb,ag,au,if_true,if_false,Bool.false_eq_true]
  try rfl
 rw[e]
 refine ba ?_ (NZ.bind (aQ k) fun x=>NZ.ite (NZ.bind (dx _) fun y=>NZ.bind (fY _ _ _) fun z=>NZ.ok _) (NZ.bind (fY _ _ _) fun z=>NZ.ok _))
 show RQ f _ (cg {Stm.zero with kind:=2,op:=0,pos:=p} k f)
 refine il {Stm.zero with kind:=2,op:=0,pos:=p} (fun x k f=>?_) k f
 exact Bi hl {Stm.zero with kind:=2,op:=0,pos:=p,name:=x} k f
theorem sN (hl:Fine l) (p:Po) (k:Ix l) (f:Fa):RQ f (aG ⟨#[114,111,108,101]⟩ {Stm.zero with pos:=p} k) (bK {Stm.zero with kind:=5,op:=0,pos:=p} k f):=by
 have e:aG ⟨#[114,111,108,101]⟩ {Stm.zero with pos:=p} k=(aP k>>=fun x=>if isW ⟨#[116,121,112,101,115]⟩ x.2 then b7 false (nx x.2)>>=fun y=>.ok ({Stm.zero with kind:=5,op:=0,pos:=p,name:=x.1,source:=y.1},y.2) else .ok ({Stm.zero with kind:=5,op:=0,pos:=p,name:=x.1},x.2))>>=fun y=>aT ⟨#[59]⟩ y.2>>=fun z=>.ok (y.1,z.2):=by
  unfold aG bJ
  rw[if_neg (by decide),if_neg (by decide),if_neg (by decide),if_neg (by decide),if_pos rfl]
  simp only[exb,itb,ag,au,if_true,if_false,Bool.false_eq_true]
  try rfl
 rw[e]
 refine ba ?_ (NZ.bind (aQ k) fun x=>NZ.ite (NZ.bind (aX _ _) fun y=>NZ.ok _) (NZ.ok _))
 show RQ f _ (cg {Stm.zero with kind:=5,op:=0,pos:=p} k f)
 refine il {Stm.zero with kind:=5,op:=0,pos:=p} (fun x k f=>?_) k f
 exact BM hl {Stm.zero with kind:=5,op:=0,pos:=p,name:=x} k f
theorem nI (hl:Fine l) (p:Po) (k:Ix l) (f:Fa):RQ f (aG ⟨#[114,101,113,117,105,114,101]⟩ {Stm.zero with pos:=p} k) (bK {Stm.zero with kind:=19,op:=0,pos:=p} k f):=by
 have e:aG ⟨#[114,101,113,117,105,114,101]⟩ {Stm.zero with pos:=p} k=(bb hC k>>=fun x=>if x.1=0 then aP x.2>>=fun y=>bq y.2>>=fun z=>.ok ({{Stm.zero with kind:=19,op:=0,pos:=p} with op:=1,name:=y.1,list:=z.1},z.2) else ch x.2>>=fun y=>.ok ({{Stm.zero with kind:=19,op:=0,pos:=p} with op:=1+x.1,list:=y.1},y.2))>>=fun y=>aT ⟨#[59]⟩ y.2>>=fun z=>.ok (y.1,z.2):=by
  unfold aG bJ
  rw[if_neg (by decide),if_neg (by decide),if_neg (by decide),if_neg (by decide),if_neg (by decide),if_neg (by decide),if_neg (by decide),if_neg (by decide),if_neg (by decide)]
  simp only[ag,Bool.false_eq_true,if_false]
  unfold dF
  have n1:¬ 0<cf ⟨#[114,101,113,117,105,114,101]⟩ ruleW:=by decide
  have n2:¬ 0<cf ⟨#[114,101,113,117,105,114,101]⟩ transW:=by decide
  rw[if_neg n1]
  try rw[if_neg n2]
  rw[if_neg (show ¬ (⟨#[114,101,113,117,105,114,101]⟩:ByteArray)=⟨#[114,97,110,103,101,95,116,114,97,110,115,105,116,105,111,110]⟩ by decide),if_neg (show ¬ (⟨#[114,101,113,117,105,114,101]⟩:ByteArray)=⟨#[114,111,108,101,95,116,114,97,110,115,105,116,105,111,110]⟩ by decide),if_neg (show ¬ (⟨#[114,101,113,117,105,114,101]⟩:ByteArray)=⟨#[114,111,108,101,97,108,108,111,119]⟩ by decide),if_neg (show ¬ (⟨#[114,101,113,117,105,114,101]⟩:ByteArray)=⟨#[99,111,110,115,116,114,97,105,110]⟩ by decide),if_neg (show ¬ (⟨#[114,101,113,117,105,114,101]⟩:ByteArray)=⟨#[118,97,108,105,100,97,116,101,116,114,97,110,115]⟩ by decide)]
  simp only[ag,Bool.false_eq_true,if_false]
  unfold dp
  rw[if_pos rfl]
  try unfold cJ
  simp only[exb,itb,ag,au,if_true,if_false,Bool.false_eq_true]
  try rfl
 rw[e]
 refine ba ?_ (NZ.bind (dz _ k) fun x=>NZ.ite (NZ.bind (aQ _) fun y=>NZ.bind (dx _) fun z=>NZ.ok _) (NZ.bind (jw _) fun y=>NZ.ok _))
 show RQ f _ (lq {Stm.zero with kind:=19,op:=0,pos:=p} k f)
 exact CP hl {Stm.zero with kind:=19,op:=0,pos:=p} k f
theorem iM (hl:Fine l) (p:Po) (k:Ix l) (f:Fa):RQ f (aG ⟨#[116,121,112,101,95,116,114,97,110,115,105,116,105,111,110]⟩ {Stm.zero with pos:=p} k) (bK {Stm.zero with kind:=13,op:=1,pos:=p} k f):=by
 have e:aG ⟨#[116,121,112,101,95,116,114,97,110,115,105,116,105,111,110]⟩ {Stm.zero with pos:=p} k=(b7 false k>>=fun x=>b7 false x.2>>=fun y=>aT ⟨#[58]⟩ y.2>>=fun a=>b7 false a.2>>=fun z=>aP z.2>>=fun q=>if(1:Int)=1∧(tk q.2).kind=3 then(if gk (tk q.2).text then .ok ({Stm.zero with kind:=13,op:=1,pos:=p,source:=x.1,target:=y.1,cls:=z.1,result:=q.1,text:=(tk q.2).text},nx q.2) else .error (flt 10 (tk q.2))) else .ok ({Stm.zero with kind:=13,op:=1,pos:=p,source:=x.1,target:=y.1,cls:=z.1,result:=q.1},q.2))>>=fun y=>aT ⟨#[59]⟩ y.2>>=fun z=>.ok (y.1,z.2):=by
  unfold aG bJ
  rw[if_neg (by decide),if_neg (by decide),if_neg (by decide),if_neg (by decide),if_neg (by decide),if_neg (by decide),if_neg (by decide),if_neg (by decide),if_neg (by decide)]
  simp only[ag,Bool.false_eq_true,if_false]
  unfold dF
  have n1:¬ 0<cf ⟨#[116,121,112,101,95,116,114,97,110,115,105,116,105,111,110]⟩ ruleW:=by decide
  have n2:0<cf ⟨#[116,121,112,101,95,116,114,97,110,115,105,116,105,111,110]⟩ transW:=by decide
  have n3:cf ⟨#[116,121,112,101,95,116,114,97,110,115,105,116,105,111,110]⟩ transW=1:=by decide
  rw[if_neg n1,if_pos n2,n3]
  unfold cJ
  simp only[exb,itb,ag,au,if_true,if_false,Bool.false_eq_true]
  try rfl
 rw[e]
 refine ba ?_ (NZ.bind (aX _ k) fun x=>NZ.bind (aX _ _) fun y=>NZ.bind (bo _ _) fun a=>NZ.bind (aX _ _) fun z=>NZ.bind (aQ _) fun q=>NZ.ite (NZ.ite (NZ.ok _) (NZ.fl (by decide))) (NZ.ok _))
 show RQ f _ (bL {Stm.zero with kind:=13,op:=1,pos:=p} k f)
 exact kP hl {Stm.zero with kind:=13,op:=1,pos:=p} rfl k f
theorem kl (hl:Fine l) (p:Po) (k:Ix l) (f:Fa):RQ f (aG ⟨#[116,121,112,101,95,99,104,97,110,103,101]⟩ {Stm.zero with pos:=p} k) (bK {Stm.zero with kind:=13,op:=2,pos:=p} k f):=by
 have e:aG ⟨#[116,121,112,101,95,99,104,97,110,103,101]⟩ {Stm.zero with pos:=p} k=(b7 false k>>=fun x=>b7 false x.2>>=fun y=>aT ⟨#[58]⟩ y.2>>=fun a=>b7 false a.2>>=fun z=>aP z.2>>=fun q=>if(2:Int)=1∧(tk q.2).kind=3 then(if gk (tk q.2).text then .ok ({Stm.zero with kind:=13,op:=2,pos:=p,source:=x.1,target:=y.1,cls:=z.1,result:=q.1,text:=(tk q.2).text},nx q.2) else .error (flt 10 (tk q.2))) else .ok ({Stm.zero with kind:=13,op:=2,pos:=p,source:=x.1,target:=y.1,cls:=z.1,result:=q.1},q.2))>>=fun y=>aT ⟨#[59]⟩ y.2>>=fun z=>.ok (y.1,z.2):=by
  unfold aG bJ
  rw[if_neg (by decide),if_neg (by decide),if_neg (by decide),if_neg (by decide),if_neg (by decide),if_neg (by decide),if_neg (by decide),if_neg (by decide),if_neg (by decide)]
  simp only[ag,Bool.false_eq_true,if_false]
  unfold dF
  have n1:¬ 0<cf ⟨#[116,121,112,101,95,99,104,97,110,103,101]⟩ ruleW:=by decide
  have n2:0<cf ⟨#[116,121,112,101,95,99,104,97,110,103,101]⟩ transW:=by decide
  have n3:cf ⟨#[116,121,112,101,95,99,104,97,110,103,101]⟩ transW=2:=by decide
  rw[if_neg n1,if_pos n2,n3]
  unfold cJ
  simp only[exb,itb,ag,au,if_true,if_false,Bool.false_eq_true]
  try rfl
 rw[e]
 refine ba ?_ (NZ.bind (aX _ k) fun x=>NZ.bind (aX _ _) fun y=>NZ.bind (bo _ _) fun a=>NZ.bind (aX _ _) fun z=>NZ.bind (aQ _) fun q=>NZ.ite (NZ.ite (NZ.ok _) (NZ.fl (by decide))) (NZ.ok _))
 show RQ f _ (bL {Stm.zero with kind:=13,op:=2,pos:=p} k f)
 exact kP hl {Stm.zero with kind:=13,op:=2,pos:=p} rfl k f
theorem k9 (hl:Fine l) (p:Po) (k:Ix l) (f:Fa):RQ f (aG ⟨#[116,121,112,101,95,109,101,109,98,101,114]⟩ {Stm.zero with pos:=p} k) (bK {Stm.zero with kind:=13,op:=3,pos:=p} k f):=by
 have e:aG ⟨#[116,121,112,101,95,109,101,109,98,101,114]⟩ {Stm.zero with pos:=p} k=(b7 false k>>=fun x=>b7 false x.2>>=fun y=>aT ⟨#[58]⟩ y.2>>=fun a=>b7 false a.2>>=fun z=>aP z.2>>=fun q=>if(3:Int)=1∧(tk q.2).kind=3 then(if gk (tk q.2).text then .ok ({Stm.zero with kind:=13,op:=3,pos:=p,source:=x.1,target:=y.1,cls:=z.1,result:=q.1,text:=(tk q.2).text},nx q.2) else .error (flt 10 (tk q.2))) else .ok ({Stm.zero with kind:=13,op:=3,pos:=p,source:=x.1,target:=y.1,cls:=z.1,result:=q.1},q.2))>>=fun y=>aT ⟨#[59]⟩ y.2>>=fun z=>.ok (y.1,z.2):=by
  unfold aG bJ
  rw[if_neg (by decide),if_neg (by decide),if_neg (by decide),if_neg (by decide),if_neg (by decide),if_neg (by decide),if_neg (by decide),if_neg (by decide),if_neg (by decide)]
  simp only[ag,Bool.false_eq_true,if_false]
  unfold dF
  have n1:¬ 0<cf ⟨#[116,121,112,101,95,109,101,109,98,101,114]⟩ ruleW:=by decide
  have n2:0<cf ⟨#[116,121,112,101,95,109,101,109,98,101,114]⟩ transW:=by decide
  have n3:cf ⟨#[116,121,112,101,95,109,101,109,98,101,114]⟩ transW=3:=by decide
  rw[if_neg n1,if_pos n2,n3]
  unfold cJ
  simp only[exb,itb,ag,au,if_true,if_false,Bool.false_eq_true]
  try rfl
 rw[e]
 refine ba ?_ (NZ.bind (aX _ k) fun x=>NZ.bind (aX _ _) fun y=>NZ.bind (bo _ _) fun a=>NZ.bind (aX _ _) fun z=>NZ.bind (aQ _) fun q=>NZ.ite (NZ.ite (NZ.ok _) (NZ.fl (by decide))) (NZ.ok _))
 show RQ f _ (bL {Stm.zero with kind:=13,op:=3,pos:=p} k f)
 exact kP hl {Stm.zero with kind:=13,op:=3,pos:=p} rfl k f
end
end Am
namespace Am
open Tk
set_option maxRecDepth 100000
section
variable {l:List Tok}
theorem vU (hl:Fine l) {w:ByteArray} (hb:iP w=true) (hi:¬ (w=⟨#[105,102]⟩∨w=⟨#[111,112,116,105,111,110,97,108]⟩)) (p:Po) (k:Ix l) (f:Fa):RQ f (aG w {Stm.zero with pos:=p} k) (bK {Stm.zero with kind:=ga (kwN w),op:=A3 (kwN w),pos:=p} k f):=by
 unfold iP beginW at hb
 simp only[List.any_cons,List.any_nil,Bool.or_false,Bool.or_eq_true,decide_eq_true_eq] at hb
 rcases hb with rfl|rfl|rfl|rfl|rfl|rfl|rfl|rfl|rfl|rfl|rfl|rfl|rfl|rfl|rfl|rfl|rfl|rfl|rfl|rfl|rfl|rfl|rfl|rfl|rfl|rfl|rfl|rfl
 ·have e:kwN ⟨#[99,108,97,115,115]⟩=1:=by decide
  rw[e]
  exact pK hl p k f
 ·have e:kwN ⟨#[116,121,112,101]⟩=2:=by decide
  rw[e]
  exact s7 hl p k f
 ·have e:kwN ⟨#[97,116,116,114,105,98,117,116,101]⟩=3:=by decide
  rw[e]
  exact lx hl p k f
 ·have e:kwN ⟨#[116,121,112,101,97,116,116,114,105,98,117,116,101]⟩=4:=by decide
  rw[e]
  exact jz hl p k f
 ·have e:kwN ⟨#[114,111,108,101]⟩=5:=by decide
  rw[e]
  exact sN hl p k f
 ·have e:kwN ⟨#[114,111,108,101,97,108,108,111,119]⟩=6:=by decide
  rw[e]
  exact lC hl p k f
 ·have e:kwN ⟨#[114,111,108,101,95,116,114,97,110,115,105,116,105,111,110]⟩=7:=by decide
  rw[e]
  exact iL hl p k f
 ·have e:kwN ⟨#[117,115,101,114]⟩=8:=by decide
  rw[e]
  exact rH hl p k f
 ·have e:kwN ⟨#[98,111,111,108]⟩=9:=by decide
  rw[e]
  exact sR hl p k f
 ·have e:kwN ⟨#[115,101,110,115,105,116,105,118,105,116,121]⟩=10:=by decide
  rw[e]
  exact jV hl p k f
 ·have e:kwN ⟨#[99,97,116,101,103,111,114,121]⟩=11:=by decide
  rw[e]
  exact nr hl p k f
 ·have e:kwN ⟨#[97,108,108,111,119]⟩=24:=by decide
  rw[e]
  exact r5 hl p k f
 ·have e:kwN ⟨#[97,117,100,105,116,97,108,108,111,119]⟩=25:=by decide
  rw[e]
  exact kD hl p k f
 ·have e:kwN ⟨#[100,111,110,116,97,117,100,105,116]⟩=26:=by decide
  rw[e]
  exact lu hl p k f
 ·have e:kwN ⟨#[110,101,118,101,114,97,108,108,111,119]⟩=27:=by decide
  rw[e]
  exact kW hl p k f
 ·have e:kwN ⟨#[116,121,112,101,95,116,114,97,110,115,105,116,105,111,110]⟩=28:=by decide
  rw[e]
  exact iM hl p k f
 ·have e:kwN ⟨#[116,121,112,101,95,99,104,97,110,103,101]⟩=29:=by decide
  rw[e]
  exact kl hl p k f
 ·have e:kwN ⟨#[116,121,112,101,95,109,101,109,98,101,114]⟩=30:=by decide
  rw[e]
  exact k9 hl p k f
 ·have e:kwN ⟨#[114,97,110,103,101,95,116,114,97,110,115,105,116,105,111,110]⟩=14:=by decide
  rw[e]
  exact iA hl p k f
 ·have e:kwN ⟨#[99,111,110,115,116,114,97,105,110]⟩=15:=by decide
  rw[e]
  exact ly hl p k f
 ·have e:kwN ⟨#[118,97,108,105,100,97,116,101,116,114,97,110,115]⟩=16:=by decide
  rw[e]
  exact jD hl p k f
 ·exact absurd (.inl rfl) hi
 ·exact absurd (.inr rfl) hi
 ·have e:kwN ⟨#[114,101,113,117,105,114,101]⟩=19:=by decide
  rw[e]
  exact nI hl p k f
 ·have e:kwN ⟨#[115,105,100]⟩=20:=by decide
  rw[e]
  exact vu hl p k f
 ·have e:kwN ⟨#[102,105,108,101,99,111,110]⟩=21:=by decide
  rw[e]
  exact nH hl p k f
 ·have e:kwN ⟨#[112,101,114,109,105,115,115,105,118,101]⟩=22:=by decide
  rw[e]
  exact kK hl p k f
 ·have e:kwN ⟨#[97,115,115,101,114,116]⟩=23:=by decide
  rw[e]
  exact pk hl p k f
theorem CE:kwN ⟨#[105,102]⟩=17:=by decide
theorem pF:kwN ⟨#[111,112,116,105,111,110,97,108]⟩=18:=by decide
end
end Am
namespace Am
open Tk
section
variable {l:List Tok}
abbrev QS (l:List Tok) (α:Type):=α×(Ix l×(Fa×Int))
def nE {α:Type} (t:QS l α):QS l α:=(t.1,((aO ⟨#[125]⟩ t.2.1 t.2.2.1).1,((aO ⟨#[125]⟩ t.2.1 t.2.2.1).2,t.2.2.2)))
def RS {α:Type} (f:Fa) (sp:Except Fa (α×(Ix l×Nat))) (t:QS l α):Prop:=(f.code≠0→t.2.2.1=f)∧(f.code=0→match sp with| .ok x=>t=(x.1,(x.2.1,(f,(x.2.2:Int))))| .error g=>t.2.2.1=g)
def np (i:Bool) (s:Stm) (k:Ix l) (f:Fa):Stm×(Ix l×Fa):=if i=true then({s with cond:=(eC k f).1},(eC k f).2) else(s,(k,f))
def eP (B:Ix l→Fa→Int→QS l (List Stm)) (s:Stm) (k:Ix l) (f:Fa) (c:Int):QS l Stm:=
 if okW (B k f c).2.2.1 ⟨#[101,108,115,101]⟩ (B k f c).2.1=true then
  ({s with thn:=(B k f c).1,els:=(B (nx (B k f c).2.1) (B k f c).2.2.1 (B k f c).2.2.2).1},(B (nx (B k f c).2.1) (B k f c).2.2.1 (B k f c).2.2.2).2)
 else({s with thn:=(B k f c).1},(B k f c).2)
mutual
def stQ:Nat→Nat→Ix l→Fa→Int→QS l Stm
 |0,_,k,f,c=>(Stm.zero,(k,(cA f 9 (tk k),c)))
 |n+1,d,k,f,c=>
  if ¬ (eO d k f (ee c)).code=0 then(gL k f,(nx k,(eO d k f (ee c),ee c)))
  else if(gL k f).kind=17∨(gL k f).kind=18 then lj n d (decide ((gL k f).kind=17)) (gL k f) (nx k) (eO d k f (ee c)) (ee c)
  else((bK (gL k f) (nx k) (eO d k f (ee c))).1,((bK (gL k f) (nx k) (eO d k f (ee c))).2.1,((bK (gL k f) (nx k) (eO d k f (ee c))).2.2,ee c)))
def lj:Nat→Nat→Bool→Stm→Ix l→Fa→Int→QS l Stm
 |0,_,_,s,k,f,c=>(s,(k,(cA f 9 (tk k),c)))
 |n+1,d,i,s,k,f,c=>eP (fun k f c=>cD n d k f c) (np i s k f).1 (np i s k f).2.1 (np i s k f).2.2 c
def cD:Nat→Nat→Ix l→Fa→Int→QS l (List Stm)
 |0,_,k,f,c=>([],(k,(cA f 9 (tk k),c)))
 |n+1,d,k,f,c=>nE (iH n (d+1) (aO ⟨#[123]⟩ k f).1 (aO ⟨#[123]⟩ k f).2 c)
def iH:Nat→Nat→Ix l→Fa→Int→QS l (List Stm)
 |0,_,k,f,c=>([],(k,(cA f 9 (tk k),c)))
 |n+1,d,k,f,c=>ig n d [(stQ n d k f c).1] (stQ n d k f c).2.1 (stQ n d k f c).2.2.1 (stQ n d k f c).2.2.2
def ig:Nat→Nat→List Stm→Ix l→Fa→Int→QS l (List Stm)
 |0,_,acc,k,f,c=>(acc,(k,(cA f 9 (tk k),c)))
 |n+1,d,acc,k,f,c=>if(decide (f.code=0)&& !okM f ⟨#[125]⟩ k)=true then ig n d (acc++[(stQ n d k f c).1]) (stQ n d k f c).2.1 (stQ n d k f c).2.2.1 (stQ n d k f c).2.2.2 else(acc,(k,(f,c)))
end
variable {α β:Type} {f:Fa}
theorem RS.ok (v:α) (k:Ix l) (c:Nat):RS f (.ok (v,(k,c))) (v,(k,(f,(c:Int)))):=⟨fun _=>rfl,fun _=>rfl⟩
theorem RS.err (v:α) (k k':Ix l) (c:Int) {e:Int} {t:Tok}:RS f (.error (flt e t)) (v,(k',(cA f e t,c))):=⟨fun h=>dT h,fun h=>iR h⟩
theorem RS.bind {sp:Except Fa (α×(Ix l×Nat))} {t:QS l α} {g:α×(Ix l×Nat)→Except Fa (β×(Ix l×Nat))} {u:α→Ix l→Fa→Int→QS l β} (h:RS f sp t) (hz:NZ l sp) (hk:∀ v k (c:Nat),sp= .ok (v,(k,c))→RS f (g (v,(k,c))) (u v k f (c:Int))) (hb:∀ v k f c,f.code≠0→(u v k f c).2.2.1=f):RS f (sp>>=g) (u t.1 t.2.1 t.2.2.1 t.2.2.2):=by
 refine⟨fun hf=>?_,fun hf=>?_⟩
 ·rw[h.1 hf]
  exact hb _ _ f _ hf
 ·have h2:=h.2 hf
  cases sp with
  |ok x=>
   have h2:t=(x.1,(x.2.1,(f,(x.2.2:Int)))):=h2
   rw[h2]
   exact(hk x.1 x.2.1 x.2.2 rfl).2 hf
  |error e=>
   have h2:t.2.2.1=e:=h2
   show(u t.1 t.2.1 t.2.2.1 t.2.2.2).2.2.1=e
   rw[h2]
   exact hb _ _ e _ (hz e rfl).1
theorem RS.lift {sp:Except Fa (α×Ix l)} {t:α×(Ix l×Fa)} (h:RQ f sp t) (c:Nat):RS f (sp>>=fun x=>.ok (x.1,(x.2,c))) (t.1,(t.2.1,(t.2.2,(c:Int)))):=by
 refine⟨fun hf=>h.1 hf,fun hf=>?_⟩
 have h2:=h.2 hf
 cases sp with
 |ok x=>
  have h2:t=(x.1,(x.2,f)):=h2
  rw[h2];rfl
 |error e=>exact h2
theorem qO {d:Nat} {k:Ix l} {c:Int} (h:f.code≠0):eO d k f c=f:=by
 have e:gA k f=f:=by
  unfold gA
  rw[Aw h,if_pos rfl];exact dT h
 unfold eO
 rw[e]
 split
 ·exact dT h
 ·rfl
theorem nV {k:Ix l} (h:f.code≠0):(eC k f).2.2=f:=by unfold eC;rw[if_neg h]
theorem vq (i:Bool) (s:Stm) (k:Ix l) (h:f.code≠0):(np i s k f).2.2=f:=by
 unfold np
 split
 ·exact nV h
 ·rfl
theorem og {B:Ix l→Fa→Int→QS l (List Stm)} (hB:∀ k f c,f.code≠0→(B k f c).2.2.1=f) {s:Stm} {k:Ix l} {c:Int} (h:f.code≠0):(eP B s k f c).2.2.1=f:=by
 have e:=hB k f c h
 unfold eP
 rw[e,kq h,if_neg ff]
 exact e
theorem ek:∀ n:Nat,(∀ (d:Nat) (k:Ix l) (f:Fa) (c:Int),f.code≠0→(stQ n d k f c).2.2.1=f)∧(∀ (d:Nat) (i:Bool) (s:Stm) (k:Ix l) (f:Fa) (c:Int),f.code≠0→(lj n d i s k f c).2.2.1=f)∧(∀ (d:Nat) (k:Ix l) (f:Fa) (c:Int),f.code≠0→(cD n d k f c).2.2.1=f)∧
 (∀ (d:Nat) (k:Ix l) (f:Fa) (c:Int),f.code≠0→(iH n d k f c).2.2.1=f)∧(∀ (d:Nat) (acc:List Stm) (k:Ix l) (f:Fa) (c:Int),f.code≠0→(ig n d acc k f c).2.2.1=f)
 |0=>⟨fun d k f c h=>(by rw[stQ];exact dT h),fun d i s k f c h=>(by rw[lj];exact dT h),fun d k f c h=>(by rw[cD];exact dT h),fun d k f c h=>(by rw[iH];exact dT h),fun d acc k f c h=>(by rw[ig];exact dT h)⟩
 |n+1=>by
  obtain ⟨i1,i2,i3,i4,i5⟩:=ek n
  refine⟨fun d k f c h=>?_,fun d i s k f c h=>?_,fun d k f c h=>?_,fun d k f c h=>?_,fun d acc k f c h=>?_⟩
  ·rw[stQ,qO h,if_pos h]
  ·have e:=vq i s k h
   rw[lj,e]
   exact og (fun k f c h=>i3 d k f c h) h
  ·have e1:(aO ⟨#[123]⟩ k f).2=f:=dy _ h
   have e2:=i4 (d+1) (aO ⟨#[123]⟩ k f).1 f c h
   rw[cD,e1]
   show(aO ⟨#[125]⟩ _ (iH n (d+1) (aO ⟨#[123]⟩ k f).1 f c).2.2.1).2=f
   rw[e2];exact dy _ h
  ·have e:=i1 d k f c h
   rw[iH,e]
   exact i5 _ _ _ _ _ h
  ·rw[ig,if_neg (by simp[h])]
end
end Am
namespace Am
open Tk
set_option maxRecDepth 100000
theorem nj {w:ByteArray} (hb:iP w=true):kwN w≠0∧(kwN w=17↔w=⟨#[105,102]⟩)∧(kwN w=18↔w=⟨#[111,112,116,105,111,110,97,108]⟩):=by
 unfold iP beginW at hb
 simp only[List.any_cons,List.any_nil,Bool.or_false,Bool.or_eq_true,decide_eq_true_eq] at hb
 rcases hb with rfl|rfl|rfl|rfl|rfl|rfl|rfl|rfl|rfl|rfl|rfl|rfl|rfl|rfl|rfl|rfl|rfl|rfl|rfl|rfl|rfl|rfl|rfl|rfl|rfl|rfl|rfl|rfl <;> decide
theorem AV {c:Nat} (h:c≤4294967296):ee (c:Int)=((c+1:Nat):Int):=by
 unfold ee
 rw[wrap64 (by omega) (by omega)];rfl
section
variable {l:List Tok} {f:Fa}
theorem xy {k:Ix l} {d:Nat} {c:Int} (hf:f.code=0) (h:¬ ((tk k).kind=1∧iP (tk k).text=true)):eO d k f c=flt 9 (tk k):=by
 have e0:kwQ k f=0:=by
  by_cases h1:(tk k).kind=1
  ·rw[ky hf h1]
   refine yD ?_
   cases hb:iP (tk k).text with
   |false=>rfl
   |true=>exact absurd ⟨h1,hb⟩ h
  ·exact kI h1
 have e:gA k f=flt 9 (tk k):=by
  unfold gA
  rw[e0,if_pos rfl];exact iR hf
 unfold eO
 rw[e]
 split
 ·exact dT (show(9:Int)≠0 by decide)
 ·rfl
theorem pY {k:Ix l} {d:Nat} {c:Int} (hf:f.code=0) (h1:(tk k).kind=1) (hb:iP (tk k).text=true) (h:1024<c∨(((tk k).text=⟨#[105,102]⟩∨(tk k).text=⟨#[111,112,116,105,111,110,97,108]⟩)∧12≤d)):eO d k f c=flt 4 (tk k):=by
 obtain ⟨n0,n17,n18⟩:=nj hb
 have e0:kwQ k f=kwN (tk k).text:=ky hf h1
 have e:gA k f=f:=by
  unfold gA
  rw[e0,if_neg n0]
 unfold eO
 rw[e,e0]
 simp only[n17,n18]
 rw[if_pos h]
 exact iR hf
theorem xH {k:Ix l} {d:Nat} {c:Int} (hf:f.code=0) (h1:(tk k).kind=1) (hb:iP (tk k).text=true) (h:¬ (1024<c∨(((tk k).text=⟨#[105,102]⟩∨(tk k).text=⟨#[111,112,116,105,111,110,97,108]⟩)∧12≤d))):eO d k f c=f∧gL k f= {Stm.zero with kind:=ga (kwN (tk k).text),op:=A3 (kwN (tk k).text),pos:=(tk k).pos}:=by
 obtain ⟨n0,n17,n18⟩:=nj hb
 have e0:kwQ k f=kwN (tk k).text:=ky hf h1
 have e:gA k f=f:=by
  unfold gA
  rw[e0,if_neg n0]
 refine⟨?_,by unfold gL;rw[e0]⟩
 unfold eO
 rw[e,e0]
 simp only[n17,n18]
 rw[if_neg h]
end
end Am
namespace Am
open Tk
set_option maxRecDepth 100000
section
variable {l:List Tok}
theorem iD:∀ n:Nat,(∀ {d:Nat} {k:Ix l} {c:Nat} {s:Stm} {k':Ix l} {c':Nat},cm tksK n d k c= .ok (s,(k',c'))→c'≤max c 1024)∧
 (∀ {d:Nat} {i:Bool} {s:Stm} {k:Ix l} {c:Nat} {x:Unit×(Stm×(Ix l×Nat))},bT tksK n d i s k c= .ok x→x.2.2.2≤max c 1024)∧
 (∀ {d:Nat} {k:Ix l} {c:Nat} {x:List Stm×(Ix l×Nat)},bF tksK n d k c= .ok x→x.2.2≤max c 1024)∧
 (∀ {d:Nat} {acc:List Stm} {k:Ix l} {c:Nat} {x:List Stm×(Ix l×Nat)},bC tksK n d acc k c= .ok x→x.2.2≤max c 1024)
 |0=>⟨fun h=>(by rw[cm] at h;cases h),fun h=>(by rw[bT] at h;cases h),fun h=>(by rw[bF] at h;cases h),fun h=>(by rw[bC] at h;cases h)⟩
 |n+1=>by
  obtain ⟨i1,i2,i3,i4⟩:=iD n
  refine⟨fun {d k c s k' c'} h=>?_,fun {d i s k c x} h=>?_,fun {d k c x} h=>?_,fun {d acc k c x} h=>?_⟩
  ·rw[cm] at h
   split at h
   ·split at h
    ·cases h
    ·split at h
     ·split at h
      ·cases h
      ·obtain ⟨x,h1,h⟩:=aA.1 h
       have:=i2 h1
       injection h with h
       have:x.2.2.2=c':=by
        injection h with _ h
        rw[h]
       omega
     ·obtain ⟨x,_,h⟩:=aA.1 h
      injection h with h;injection h with _ h;injection h with _ h
      omega
   ·cases h
  ·rw[bT] at h
   obtain ⟨y,_,h⟩:=aA.1 h
   obtain ⟨z,h1,h⟩:=aA.1 h
   have e1:=i3 h1
   split at h
   ·obtain ⟨u,h2,h⟩:=aA.1 h
    have e2:=i3 h2
    injection h with h;subst h
    dsimp only;omega
   ·injection h with h;subst h
    exact e1
  ·rw[bF] at h
   obtain ⟨a,_,h⟩:=aA.1 h
   split at h
   ·cases h
   ·obtain ⟨y,h1,h⟩:=aA.1 h
    obtain ⟨z,_,h⟩:=aA.1 h
    injection h with h;subst h
    have e:=i4 h1
    dsimp only;omega
  ·rw[bC] at h
   split at h
   ·injection h with h;subst h;dsimp only;omega
   ·obtain ⟨⟨s,k1,c1⟩,h1,h⟩:=aA.1 h
    have e1:=i1 h1
    have e2:x.2.2≤max c1 1024:=i4 h
    omega
end
end Am
namespace Am
open Tk
set_option maxRecDepth 100000
section
variable {l:List Tok}
theorem ef {α:Type} {t:QS l α} {g:Fa} (h:t.2.2.1=g) (hg:g.code≠0):(nE t).2.2.1=g:=by
 subst h
 exact dy _ hg
theorem Ao {α:Type} (v:α) (k:Ix l) (f:Fa) (c:Nat):RS f (aT ⟨#[125]⟩ k>>=fun y=>.ok (v,(y.2,c))) (nE (v,(k,(f,(c:Int))))):=by
 have h:=RS.lift (RQ.map (g:=fun _=>v) (fP ⟨#[125]⟩ k f)) c
 rw[exb] at h
 exact h
theorem zg {n d:Nat} {k:Ix l} {f:Fa} {c:Int} (hf:f.code=0) (h:¬ (tk k).kind=1):(stQ n d k f c).2.2.1=flt 9 (tk k):=by
 cases n with
 |zero=>rw[stQ];exact iR hf
 |succ n=>
  have e:eO d k f (ee c)=flt 9 (tk k):=xy hf fun h'=>h h'.1
  have e9:¬ (flt 9 (tk k)).code=0:=show ¬ (9:Int)=0 by decide
  rw[stQ,e,if_pos e9]
theorem tX {n:Nat} (hS:∀ m,m<n→∀ (d:Nat) (k:Ix l) (f:Fa) (c:Nat),c≤4294967296→RS f (cm tksK m d k c) (stQ m d k f c)):∀ (m:Nat),m≤n→∀ (d:Nat) (acc:List Stm) (k:Ix l) (f:Fa) (c:Nat),0<d→c≤4294967296→
 RS f (bC tksK m d acc k c>>=fun x=>aT ⟨#[125]⟩ x.2.1>>=fun y=>.ok (x.1,(y.2,x.2.2))) (nE (ig m d acc k f c))
 |0,_,d,acc,k,f,c,_,_=>by
  rw[bC,ig]
  refine⟨fun h=>ef (dT h) h,fun h=>?_⟩
  exact ef (iR h) (show(9:Int)≠0 by decide)
 |m+1,hm,d,acc,k,f,c,hd,hc=>by
  by_cases hf:f.code=0
  ·rw[bC,ig,jf hf]
   by_cases hb:isM ⟨#[125]⟩ k=true
   ·rw[if_pos (.inr ⟨hd,hb⟩),if_neg (by simp[hb]),ag]
    exact Ao acc k f c
   ·rw[if_pos (show(decide (f.code=0)&& !isM ⟨#[125]⟩ k)=true by simp[hf,hb])]
    by_cases h0:(tk k).kind=0
    ·rw[if_pos (.inl h0),ag]
     have e:aT ⟨#[125]⟩ k= .error (flt 9 (tk k)):=by unfold aT;rw[if_neg hb]
     dsimp only
     rw[e]
     have es:(stQ m d k f (c:Int)).2.2.1=flt 9 (tk k):=zg hf (by rw[h0];decide)
     have e9:(flt 9 (tk k)).code≠0:=show(9:Int)≠0 by decide
     refine⟨fun h=>absurd hf h,fun _=>?_⟩
     refine ef ?_ e9
     rw[es]
     exact(ek m).2.2.2.2 _ _ _ _ _ e9
    ·rw[if_neg (by rintro (h|h);exact h0 h;exact hb h.2),exb]
     refine RS.bind (t:=stQ m d k f (c:Int)) (u:=fun s k f c=>nE (ig m d (acc++[s]) k f c)) (hS m (by omega) d k f c hc) ((eF m).1 d k c) (fun s k' c' h=>?_) fun s k' f' c' h=>?_
     ·have e:=(iD m).1 h
      exact tX hS m (by omega) d (acc++[s]) k' f c' hd (by omega)
     ·exact ef ((ek m).2.2.2.2 _ _ _ _ _ h) h
  ·refine⟨fun h=>?_,fun h=>absurd h hf⟩
   exact ef ((ek (m+1)).2.2.2.2 _ _ _ _ _ h) h
end
end Am
namespace Am
open Tk
set_option maxRecDepth 100000
section
variable {l:List Tok}
theorem RS.bindQ {α β:Type} {f:Fa} {sp:Except Fa (α×Ix l)} {t:α×(Ix l×Fa)} {g:α×Ix l→Except Fa (β×(Ix l×Nat))} {u:α→Ix l→Fa→QS l β} (h:RQ f sp t) (hz:NZ l sp) (hk:∀ v k,RS f (g (v,k)) (u v k f)) (hb:∀ v k f,f.code≠0→(u v k f).2.2.1=f):RS f (sp>>=g) (u t.1 t.2.1 t.2.2):=by
 refine⟨fun hf=>?_,fun hf=>?_⟩
 ·rw[h.1 hf]
  exact hb _ _ f hf
 ·have h2:=h.2 hf
  cases sp with
  |ok x=>
   have h2:t=(x.1,(x.2,f)):=h2
   rw[h2]
   exact(hk x.1 x.2).2 hf
  |error e=>
   have h2:t.2.2=e:=h2
   show(u t.1 t.2.1 t.2.2).2.2.1=e
   rw[h2]
   exact hb _ _ e (hz e rfl).1
theorem Bn {n:Nat} (hS:∀ m,m<n→∀ (d:Nat) (k:Ix l) (f:Fa) (c:Nat),c≤4294967296→RS f (cm tksK m d k c) (stQ m d k f c)) {m:Nat} (hm:m≤n) (d:Nat) (k:Ix l) (f:Fa) (c:Nat) (hd:0<d) (hc:c≤4294967296) :
 RS f (if isM ⟨#[125]⟩ k then .error (flt 9 (tk k)) else bC tksK m d [] k c>>=fun x=>aT ⟨#[125]⟩ x.2.1>>=fun y=>.ok (x.1,(y.2,x.2.2))) (nE (iH m d k f c)):=by
 have e9:(flt 9 (tk k)).code≠0:=show(9:Int)≠0 by decide
 by_cases hf:f.code=0
 ·cases m with
  |zero=>
   rw[bC,iH]
   refine⟨fun h=>absurd hf h,fun _=>?_⟩
   have e:(if isM ⟨#[125]⟩ k then .error (flt 9 (tk k)) else((.error (flt 9 (tk k)):Except Fa (List Stm×(Ix l×Nat)))>>=fun x=>aT ⟨#[125]⟩ x.2.1>>=fun y=>.ok (x.1,(y.2,x.2.2))):Except Fa (List Stm×(Ix l×Nat)))= .error (flt 9 (tk k)):=by
    by_cases hb:isM ⟨#[125]⟩ k=true
    ·rw[if_pos hb]
    ·rw[if_neg hb];rfl
   rw[e]
   exact ef (iR hf) e9
  |succ m=>
   have stuck:(tk k).kind≠1→(nE (iH (m+1) d k f (c:Int))).2.2.1=flt 9 (tk k):=fun h1=>by
    have es:(stQ m d k f (c:Int)).2.2.1=flt 9 (tk k):=zg hf h1
    rw[iH,es]
    exact ef ((ek m).2.2.2.2 _ _ _ _ _ e9) e9
   by_cases hb:isM ⟨#[125]⟩ k=true
   ·rw[if_pos hb]
    refine⟨fun h=>absurd hf h,fun _=>stuck ?_⟩
    unfold isM at hb
    rw[of_decide_eq_true ((Bool.and_eq_true _ _).mp hb).1];decide
   ·rw[if_neg hb,bC]
    by_cases h0:(tk k).kind=0
    ·have e:aT ⟨#[125]⟩ k= .error (flt 9 (tk k)):=by unfold aT;rw[if_neg hb]
     rw[if_pos (.inl h0),ag]
     dsimp only
     rw[e]
     exact⟨fun h=>absurd hf h,fun _=>stuck (by rw[h0];decide)⟩
    ·rw[if_neg (by rintro (h|h);exact h0 h;exact hb h.2),exb,iH]
     refine RS.bind (t:=stQ m d k f (c:Int)) (u:=fun s k f c=>nE (ig m d [s] k f c)) (hS m (by omega) d k f c hc) ((eF m).1 d k c) (fun s k' c' h=>?_) fun s k' f' c' h=>?_
     ·have e:=(iD m).1 h
      exact tX hS m (by omega) d [s] k' f c' hd (by omega)
     ·exact ef ((ek m).2.2.2.2 _ _ _ _ _ h) h
 ·exact⟨fun h=>ef ((ek m).2.2.2.1 _ _ _ _ h) h,fun h=>absurd h hf⟩
theorem rZ {n:Nat} (hS:∀ m,m<n→∀ (d:Nat) (k:Ix l) (f:Fa) (c:Nat),c≤4294967296→RS f (cm tksK m d k c) (stQ m d k f c)) {m:Nat} (hm:m≤n) (d:Nat) (k:Ix l) (f:Fa) (c:Nat) (hc:c≤4294967296):RS f (bF tksK m d k c) (cD m d k f c):=by
 cases m with
 |zero=>rw[bF,cD];exact .err _ k _ _
 |succ m=>
  rw[bF,cD]
  refine RS.bindQ (t:=((),aO ⟨#[123]⟩ k f)) (u:=fun _ k f=>nE (iH m (d+1) k f c)) (fP _ k f) (bo _ k) (fun _ k'=>?_) fun _ k' f' h=>?_
  ·exact Bn hS (by omega) (d+1) k' f c (by omega) hc
  ·exact ef ((ek m).2.2.2.1 _ _ _ _ h) h
end
end Am
namespace Am
open Tk
set_option maxRecDepth 100000
section
variable {l:List Tok}
theorem RS.map {α β:Type} {f:Fa} {sp:Except Fa (α×(Ix l×Nat))} {t:QS l α} {g:α→β} (h:RS f sp t):RS f (sp>>=fun x=>.ok (g x.1,x.2)) (g t.1,t.2):=by
 refine⟨fun hf=>h.1 hf,fun hf=>?_⟩
 have h2:=h.2 hf
 cases sp with
 |ok x=>
  have h2:t=(x.1,(x.2.1,(f,(x.2.2:Int)))):=h2
  rw[h2];rfl
 |error e=>exact h2
theorem qY {n:Nat} (hS:∀ m,m<n→∀ (d:Nat) (k:Ix l) (f:Fa) (c:Nat),c≤4294967296→RS f (cm tksK m d k c) (stQ m d k f c)) {m:Nat} (hm:m≤n) (d:Nat) (s:Stm) (k:Ix l) (f:Fa) (c:Nat) (hc:c≤4294967296) :
 RS f (bF tksK m d k c>>=fun z=>if isW ⟨#[101,108,115,101]⟩ z.2.1 then bF tksK m d (nx z.2.1) z.2.2>>=fun u=>.ok ({s with thn:=z.1,els:=u.1},u.2) else .ok ({s with thn:=z.1},z.2)) (eP (fun k f c=>cD m d k f c) s k f c):=by
 unfold eP
 refine RS.bind (t:=cD m d k f (c:Int)) (u:=fun z k f c=>if okW f ⟨#[101,108,115,101]⟩ k=true then({s with thn:=z,els:=(cD m d (nx k) f c).1},(cD m d (nx k) f c).2) else({s with thn:=z},(k,(f,c)))) (rZ hS hm d k f c hc) ((eF m).2.2.1 d k c) (fun z k' c' h=>?_) fun z k' f' c' h=>?_
 ·have e:=(iD m).2.2.1 h
  have e:c'≤max c 1024:=e
  dsimp only
  by_cases hf:f.code=0
  ·rw[nR hf]
   by_cases hw:isW ⟨#[101,108,115,101]⟩ k'=true
   ·rw[if_pos hw,if_pos hw]
    exact RS.map (g:=fun u=>{s with thn:=z,els:=u}) (rZ hS hm d (nx k') f c' (by omega))
   ·rw[if_neg hw,if_neg hw]
    exact .ok _ _ _
  ·rw[kq hf,if_neg ff]
   exact⟨fun _=>rfl,fun h=>absurd h hf⟩
 ·simp only[kq h,Bool.false_eq_true,if_false]
theorem te {n:Nat} (hS:∀ m,m<n→∀ (d:Nat) (k:Ix l) (f:Fa) (c:Nat),c≤4294967296→RS f (cm tksK m d k c) (stQ m d k f c)) {m:Nat} (hm:m≤n) (d:Nat) (i:Bool) (s:Stm) (k:Ix l) (f:Fa) (c:Nat) (hc:c≤4294967296) (hs:s.kind=if i then 17 else 18) :
 RS f (bT tksK m d i {Stm.zero with pos:=s.pos} k c>>=fun x=>.ok (x.2.1,x.2.2)) (lj m d i {Stm.zero with kind:=s.kind,pos:=s.pos} k f c):=by
 cases m with
 |zero=>rw[bT,lj];exact .err _ k _ _
 |succ m=>
  have hS':∀ j,j<m→∀ (d:Nat) (k:Ix l) (f:Fa) (c:Nat),c≤4294967296→RS f (cm tksK j d k c) (stQ j d k f c):=fun j hj=>hS j (by omega)
  rw[bT,lj]
  have e2:∀ (y:Stm) (k:Ix l),((bF tksK m d k c>>=fun z=>if isW ⟨#[101,108,115,101]⟩ z.2.1 then bF tksK m d (nx z.2.1) z.2.2>>=fun u=>.ok ((),({y with thn:=z.1,els:=u.1},u.2)) else .ok ((),({y with thn:=z.1},z.2)))>>=fun x=>.ok (x.2.1,x.2.2):Except Fa (Stm×(Ix l×Nat)))=bF tksK m d k c>>=fun z=>if isW ⟨#[101,108,115,101]⟩ z.2.1 then bF tksK m d (nx z.2.1) z.2.2>>=fun u=>.ok ({y with thn:=z.1,els:=u.1},u.2) else .ok ({y with thn:=z.1},z.2):=fun y k=>by
   cases bF tksK m d k c with
   |error e=>rfl
   |ok z=>
    rw[ag,ag]
    split
    ·cases bF tksK m d (nx z.2.1) z.2.2 <;> rfl
    ·rfl
  rw[exb]
  simp only[e2]
  cases i with
  |true=>
   have hs:s.kind=17:=hs
   rw[if_pos rfl,hs,exb]
   refine RS.bindQ (t:=eC k f) (u:=fun x k f=>eP (fun k f c=>cD m d k f c) {Stm.zero with kind:=17,cond:=x,pos:=s.pos} k f c) (tK k f) (jq k) (fun x k'=>?_) fun x k' f' h=>?_
   ·exact qY hS' (Nat.le_refl m) d _ k' f c hc
   ·exact og (fun k f c h=>(ek m).2.2.1 d k f c h) h
  |false=>
   have hs:s.kind=18:=hs
   rw[if_neg ff,hs,ag]
   exact qY hS' (Nat.le_refl m) d _ k f c hc
end
end Am
namespace Am
open Tk
set_option maxRecDepth 100000
section
variable {l:List Tok}
theorem Cs {n:Int} (h:n≠17) (h2:n≠18):¬ (ga n=17∨ga n=18):=by
 unfold ga
 repeat' split
 all_goals omega
theorem yl (hl:Fine l):∀ (n d:Nat) (k:Ix l) (f:Fa) (c:Nat),c≤4294967296→RS f (cm tksK n d k c) (stQ n d k f c):=by
 intro n
 induction n using Nat.strongRecOn with
 |ind n hS=>
  intro d k f c hc
  by_cases hf:f.code=0
  ·cases n with
   |zero=>rw[cm,stQ];exact .err _ k _ _
   |succ n=>
    rw[cm,stQ,AV hc]
    have e9:¬ (flt 9 (tk k)).code=0:=show ¬ (9:Int)=0 by decide
    have e4:¬ (flt 4 (tk k)).code=0:=show ¬ (4:Int)=0 by decide
    by_cases h:(tk k).kind=1∧iP (tk k).text=true
    ·rw[if_pos h]
     by_cases h4:1024≤c
     ·rw[if_pos h4,pY hf h.1 h.2 (.inl (by omega)),if_pos e4]
      exact⟨fun h=>absurd hf h,fun _=>rfl⟩
     rw[if_neg h4]
     by_cases hi:(tk k).text=⟨#[105,102]⟩∨(tk k).text=⟨#[111,112,116,105,111,110,97,108]⟩
     ·rw[if_pos hi]
      by_cases hd:12≤d
      ·rw[if_pos hd,pY hf h.1 h.2 (.inr ⟨hi,hd⟩),if_pos e4]
       exact⟨fun h=>absurd hf h,fun _=>rfl⟩
      rw[if_neg hd]
      have hno:¬ (1024<((c+1:Nat):Int)∨(((tk k).text=⟨#[105,102]⟩∨(tk k).text=⟨#[111,112,116,105,111,110,97,108]⟩)∧12≤d)):=by
       rintro (h|h)
       ·omega
       ·exact hd h.2
      obtain ⟨e1,e2⟩:=xH hf h.1 h.2 hno
      rw[e1,e2,if_neg (fun h=>h hf)]
      clear e1 e2 hno
      rcases hi with hi|hi
      ·rw[hi,CE]
       exact te hS (Nat.le_succ n) d true {Stm.zero with kind:=17,pos:=(tk k).pos} (nx k) f (c+1) (by omega) rfl
      ·rw[hi,pF]
       exact te hS (Nat.le_succ n) d false {Stm.zero with kind:=18,pos:=(tk k).pos} (nx k) f (c+1) (by omega) rfl
     ·rw[if_neg hi]
      have hno:¬ (1024<((c+1:Nat):Int)∨(((tk k).text=⟨#[105,102]⟩∨(tk k).text=⟨#[111,112,116,105,111,110,97,108]⟩)∧12≤d)):=by
       rintro (h|h)
       ·omega
       ·exact hi h.1
      obtain ⟨e1,e2⟩:=xH hf h.1 h.2 hno
      obtain ⟨_,n17,n18⟩:=nj h.2
      rw[e1,e2,if_neg (fun h=>h hf),if_neg (Cs (fun h=>hi (.inl (n17.1 h))) (fun h=>hi (.inr (n18.1 h))))]
      exact RS.lift (vU hl h.2 hi (tk k).pos (nx k) f) (c+1)
    ·rw[if_neg h,xy hf h,if_pos e9]
     exact⟨fun h=>absurd hf h,fun _=>rfl⟩
  ·exact⟨fun h=>(ek n).1 d k f c h,fun h=>absurd h hf⟩
def iO:Nat→List Stm→Ix l→Fa→Int→QS l (List Stm)
 |0,acc,k,f,c=>(acc,(k,(cA f 9 (tk k),c)))
 |n+1,acc,k,f,c=>if(decide (f.code=0)&& !decide ((tk k).kind=0))=true then iO n (acc++[(stQ n 0 k f c).1]) (stQ n 0 k f c).2.1 (stQ n 0 k f c).2.2.1 (stQ n 0 k f c).2.2.2 else(acc,(k,(f,c)))
theorem pJ {f:Fa} (n:Nat) (acc:List Stm) (k:Ix l) (c:Int) (h:f.code≠0):(iO n acc k f c).2.2.1=f:=by
 cases n with
 |zero=>rw[iO];exact dT h
 |succ n=>rw[iO,if_neg (by simp[h])]
theorem xl (hl:Fine l):∀ (n:Nat) (acc:List Stm) (k:Ix l) (f:Fa) (c:Nat),c≤4294967296→RS f (bC tksK n 0 acc k c) (iO n acc k f c)
 |0,acc,k,f,c,_=>by rw[bC,iO];exact .err _ k _ _
 |n+1,acc,k,f,c,hc=>by
  by_cases hf:f.code=0
  ·rw[bC,iO]
   by_cases h0:(tk k).kind=0
   ·rw[if_pos (.inl h0),if_neg (by simp[h0])]
    exact .ok _ _ _
   ·rw[if_neg (by rintro (h|h);exact h0 h;exact absurd h.1 (by omega)),if_pos (by simp[hf,h0])]
    refine RS.bind (t:=stQ n 0 k f (c:Int)) (u:=fun s k f c=>iO n (acc++[s]) k f c) (yl hl n 0 k f c hc) ((eF n).1 0 k c) (fun s k' c' h=>?_) fun s k' f' c' h=>pJ _ _ _ _ h
    have e:=(iD n).1 h
    exact xl hl n (acc++[s]) k' f c' (by omega)
  ·exact⟨fun h=>pJ _ _ _ _ h,fun h=>absurd h hf⟩
theorem CX (hl:Fine l) (k:Ix l) (f:Fa):RS f (mU k) (iO (fuel l) [] k f 0):=xl hl (fuel l) [] k f 0 (by omega)
end
end Am
namespace Am
open Tk
set_option maxRecDepth 100000
section
variable {l:List Tok}
def En (a b n:Nat) (k:Ix l) (f:Fa) (c:Int):Prop:=b≤n∧(f.code=0→0≤c∧c≤4294967296∧4*(l.length - k.1)+a≤n)
theorem BZ {α:Type} {f:Fa} {sp:Except Fa (α×(Ix l×Nat))} {t:QS l α} (h:RS f sp t) (hz:NZ l sp) (h0:f.code=0) (h1:t.2.2.1.code=0):∃ x,sp= .ok x∧t=(x.1,(x.2.1,(f,(x.2.2:Int)))):=by
 have h2:=h.2 h0
 cases sp with
 |ok x=>exact⟨x,rfl,h2⟩
 |error g=>
  have h2:t.2.2.1=g:=h2
  rw[h2] at h1
  exact absurd h1 (hz g rfl).1
theorem yR (hf:Fine l) {n d:Nat} {k:Ix l} {f:Fa} {c:Int} (h0:f.code=0) (hc:0≤c∧c≤4294967296) (h1:(stQ n d k f c).2.2.1.code=0):k.1<(stQ n d k f c).2.1.1∧0≤(stQ n d k f c).2.2.2∧(stQ n d k f c).2.2.2≤4294967296:=by
 obtain ⟨m,rfl⟩:=Int.eq_ofNat_of_zero_le hc.1
 obtain ⟨⟨s,k',c'⟩,e1,e2⟩:=BZ (yl hf n d k f m (by omega)) ((eF n).1 d k m) h0 h1
 have a:=(fQ hf tksK n).1 e1
 have b:=(iD n).1 e1
 rw[e2]
 exact⟨a,by dsimp only;omega,by dsimp only;omega⟩
theorem CK (hf:Fine l) {n d:Nat} {k:Ix l} {f:Fa} {c:Int} (h0:f.code=0) (hc:0≤c∧c≤4294967296) (h1:(cD n d k f c).2.2.1.code=0):k.1<(cD n d k f c).2.1.1∧0≤(cD n d k f c).2.2.2∧(cD n d k f c).2.2.2≤4294967296:=by
 obtain ⟨m,rfl⟩:=Int.eq_ofNat_of_zero_le hc.1
 obtain ⟨⟨s,k',c'⟩,e1,e2⟩:=BZ (rZ (n:=n) (fun m _ d k f c hc=>yl hf m d k f c hc) (Nat.le_refl n) d k f m (by omega)) ((eF n).2.2.1 d k m) h0 h1
 have a:=(fQ hf tksK n).2.2.1 e1
 have b:=(iD n).2.2.1 e1
 have b:c'≤max m 1024:=b
 rw[e2]
 exact⟨a,by dsimp only;omega,by dsimp only;omega⟩
theorem yw {k:Ix l} {f:Fa} (h1:(eC k f).2.2.code=0):f.code=0∧k.1≤(eC k f).2.1.1:=by
 by_cases h0:f.code=0
 ·refine⟨h0,?_⟩
  have h2:=(tK k f).2 h0
  cases hc:gM tksK k with
  |ok x=>
   rw[hc] at h2
   have h2:eC k f=(x.1,(x.2,f)):=h2
   rw[h2]
   obtain ⟨x1,x2⟩:=x
   exact mI hc
  |error g=>
   rw[hc] at h2
   have h2:(eC k f).2.2=g:=h2
   rw[h2] at h1
   exact absurd h1 (jq k g hc).1
 ·rw[nV h0] at h1;exact absurd h1 h0
theorem tB (hf:Fine l) {d:Nat} {k:Ix l} {f:Fa} {c:Int} (h:(eO d k f c).code=0):f.code=0∧eO d k f c=f∧(nx k).1=k.1+1∧c≤1024∧((gL k f).kind=17∨(gL k f).kind=18→d<12):=by
 by_cases h0:f.code=0
 ·have nb:∀ {g:Fa} {e:Int} {t:Tok},e≠0→(cA g e t).code=0→False:=fun {g e t} he hb=>by
   by_cases hg:g.code=0
   ·rw[iR hg] at hb;exact he hb
   ·rw[dT hg] at hb;exact hg hb
  unfold eO at h ⊢
  by_cases h1:1024<c∨((kwQ k f=17∨kwQ k f=18)∧12≤d)
  ·rw[if_pos h1] at h
   exact(nb (by decide) h).elim
  ·rw[if_neg h1] at h ⊢
   unfold gA at h ⊢
   by_cases h2:kwQ k f=0
   ·rw[if_pos h2] at h
    exact(nb (by decide) h).elim
   ·rw[if_neg h2]
    refine⟨h0,rfl,eJ hf ?_,by omega,fun hk=>?_⟩
    ·intro e
     exact h2 (kI (by rw[e];decide))
    ·have hk:ga (kwQ k f)=17∨ga (kwQ k f)=18:=hk
     rcases Nat.lt_or_ge d 12 with hd|hd
     ·exact hd
     ·refine absurd hk (Cs ?_ ?_)
      ·exact fun e=>h1 (.inr ⟨.inl e,hd⟩)
      ·exact fun e=>h1 (.inr ⟨.inr e,hd⟩)
 ·rw[qO h0] at h;exact absurd h h0
theorem uh (hf:Fine l) {d:Nat} {k:Ix l} {f:Fa} {c:Int} (h:(eO d k f c).code=0):1≤(gL k f).kind∧(gL k f).kind≤23:=by
 obtain ⟨h0,e,-⟩:=tB hf h
 by_cases hk:kwQ k f=0
 ·have e1:gA k f=flt 9 (tk k):=by
   unfold gA
   rw[if_pos hk];exact iR h0
  unfold eO at h
  rw[e1] at h
  split at h
  ·rw[dT (show(9:Int)≠0 by decide)] at h
   exact absurd (show(9:Int)=0 from h) (by decide)
  ·exact absurd (show(9:Int)=0 from h) (by decide)
 ·by_cases h1:(tk k).kind=1
  ·have hb:=ky h0 h1
   cases hbb:iP (tk k).text with
   |false=>rw[hb,yD hbb] at hk;exact absurd rfl hk
   |true=>
    show 1≤ga (kwQ k f)∧ga (kwQ k f)≤23
    rw[hb]
    unfold iP beginW at hbb
    simp only[List.any_cons,List.any_nil,Bool.or_false,Bool.or_eq_true,decide_eq_true_eq] at hbb
    rcases hbb with h|h|h|h|h|h|h|h|h|h|h|h|h|h|h|h|h|h|h|h|h|h|h|h|h|h|h|h <;> rw[h] <;> decide
  ·exact absurd (kI h1) hk
end
end Am
namespace Am
open Tk Go.RowKit
set_option maxRecDepth 100000
set_option maxHeartbeats 4000000
section
variable {l:List Tok} {c:Int}
theorem A1 (hf:Fine l) (s:Stm) (h:s.kind=1∨s.kind=2∨s.kind=3∨s.kind=4∨s.kind=5∨s.kind=8∨s.kind=9∨s.kind=10∨s.kind=11) (k:Ix l) (f:Fa):MNL Tryz.prog 188 [(0,qsO k f c)] [.c (.ptr 0 0),.agg (stC s)] (.agg (stC (cg s k f).1)) [(0,qsO (cg s k f).2.1 (cg s k f).2.2 c)]:=by
 rcases h with h|h|h|h|h|h|h|h|h
 ·exact(yx hf s h k f).ok (cg s k f).1 (cg s k f).2 rfl
 ·exact(yi hf s h k f).ok (cg s k f).1 (cg s k f).2 rfl
 ·exact(mW hf s (.inl h) k f).ok (cg s k f).1 (cg s k f).2 rfl
 ·exact(yE hf s h k f).ok (cg s k f).1 (cg s k f).2 rfl
 ·exact(x9 hf s h k f).ok (cg s k f).1 (cg s k f).2 rfl
 ·exact(z8 hf s h k f).ok (cg s k f).1 (cg s k f).2 rfl
 ·exact(wv hf s h k f).ok (cg s k f).1 (cg s k f).2 rfl
 ·exact(mW hf s (.inr (.inl h)) k f).ok (cg s k f).1 (cg s k f).2 rfl
 ·exact(mW hf s (.inr (.inr h)) k f).ok (cg s k f).1 (cg s k f).2 rfl
theorem yT (hf:Fine l) (s:Stm) (h:s.kind=6∨s.kind=7∨s.kind=12∨s.kind=13∨s.kind=14) (k:Ix l) (f:Fa):MNL Tryz.prog 189 [(0,qsO k f c)] [.c (.ptr 0 0),.agg (stC s)] (.agg (stC (bL s k f).1)) [(0,qsO (bL s k f).2.1 (bL s k f).2.2 c)]:=by
 rcases h with h|h|h|h|h
 ·exact(uU hf s h k f).ok (bL s k f).1 (bL s k f).2 rfl
 ·exact(ve hf s h k f).ok (bL s k f).1 (bL s k f).2 rfl
 ·exact(sv hf s h k f).ok (bL s k f).1 (bL s k f).2 rfl
 ·exact(sE hf s h k f).ok (bL s k f).1 (bL s k f).2 rfl
 ·exact(si hf s h k f).ok (bL s k f).1 (bL s k f).2 rfl
theorem B1 (hf:Fine l) (s:Stm) (h:s.kind=15∨s.kind=16∨s.kind=19∨s.kind=20∨s.kind=21∨s.kind=22∨s.kind=23) (k:Ix l) (f:Fa):MNL Tryz.prog 190 [(0,qsO k f c)] [.c (.ptr 0 0),.agg (stC s)] (.agg (stC (bA s k f).1)) [(0,qsO (bA s k f).2.1 (bA s k f).2.2 c)]:=by
 rcases h with h|h|h|h|h|h|h
 ·exact(uK hf s h k f).ok (bA s k f).1 (bA s k f).2 rfl
 ·exact(uJ hf s h k f).ok (bA s k f).1 (bA s k f).2 rfl
 ·exact(vD hf s h k f).ok (bA s k f).1 (bA s k f).2 rfl
 ·exact(uA hf s h k f).ok (bA s k f).1 (bA s k f).2 rfl
 ·exact(uk hf s h k f).ok (bA s k f).1 (bA s k f).2 rfl
 ·exact(uW hf s h k f).ok (bA s k f).1 (bA s k f).2 rfl
 ·exact(uE hf s h k f).ok (bA s k f).1 (bA s k f).2 rfl
end
end Am
end Go.Proofs.YtkpodagbefnebaaGreatDoor
