import Derived.Test.YtkpodagbefnebaaGreatDoorYd6
set_option linter.unusedSimpArgs false
set_option linter.unusedVariables false
set_option linter.unusedSectionVars false
namespace Go.Proofs.YtkpodagbefnebaaGreatDoor
namespace Am
open Go.RowKit
set_option maxRecDepth 100000
section
variable {ρ : Operand → Option V} {H : Nat → Option HO} {d : Option Nat} {ty t2 : TypeId} {pos : String} {af : Array Edge} {gu : Option (Nat × Bool)} {x y : Operand}
theorem u_bl25_0 {x0 : Operand} {y0 : ByteArray} (h0 : Ev ρ x0 (.c (sS y0)) := by (first | (refine .wh rfl ?_; first | assumption | (rw [hp]; rfl) | (simp_all; done)) | exact .pl rfl)) : AS Tryz.prog ρ H ⟨d, .build 25 #[(0, x0)], ty, pos, af, gu⟩ ⟨.agg (moC { Mo.zero with name := y0 }), [], []⟩ := a_bl25_0 h0
end
section
variable {ρ : Operand → Option V} {H : Nat → Option HO} {d : Option Nat} {ty t2 : TypeId} {pos : String} {af : Array Edge} {gu : Option (Nat × Bool)} {x y : Operand}
theorem u_bl25_0_1_2 {x0 x1 x2 : Operand} {y0 : ByteArray} {y1 : Int} {y2 : List Stm} (h0 : Ev ρ x0 (.c (sS y0)) := by (first | (refine .wh rfl ?_; first | assumption | (rw [hp]; rfl) | (simp_all; done)) | exact .pl rfl)) (h1 : Ev ρ x1 (.c (sI y1)) := by (first | (refine .wh rfl ?_; first | assumption | (rw [hp]; rfl) | (simp_all; done)) | exact .pl rfl)) (h2 : Ev ρ x2 (.c (.lst none 55 (y2.map stC))) := by (first | (refine .wh rfl ?_; first | assumption | (rw [hp]; rfl) | (simp_all; done)) | exact .pl rfl)) : AS Tryz.prog ρ H ⟨d, .build 25 #[(0, x0), (1, x1), (2, x2)], ty, pos, af, gu⟩ ⟨.agg (moC { Mo.zero with name := y0, version := y1, stmts := y2 }), [], []⟩ := a_bl25_0_1_2 h0 h1 h2
end
section
variable {ρ : Operand → Option V} {H : Nat → Option HO} {d : Option Nat} {ty t2 : TypeId} {pos : String} {af : Array Edge} {gu : Option (Nat × Bool)} {x y : Operand}
theorem u_bl25_2 {x0 : Operand} {y0 : List Stm} (h0 : Ev ρ x0 (.c (.lst none 55 (y0.map stC))) := by (first | (refine .wh rfl ?_; first | assumption | (rw [hp]; rfl) | (simp_all; done)) | exact .pl rfl)) : AS Tryz.prog ρ H ⟨d, .build 25 #[(2, x0)], ty, pos, af, gu⟩ ⟨.agg (moC { Mo.zero with stmts := y0 }), [], []⟩ := a_bl25_2 h0
end
section
variable {ρ : Operand → Option V} {H : Nat → Option HO} {d : Option Nat} {ty t2 : TypeId} {pos : String} {af : Array Edge} {gu : Option (Nat × Bool)} {x y : Operand}
theorem u_bl28_0_1 {x0 x1 : Operand} {y0 : Int} {y1 : Int} (h0 : Ev ρ x0 (.c (sI y0)) := by (first | (refine .wh rfl ?_; first | assumption | (rw [hp]; rfl) | (simp_all; done)) | exact .pl rfl)) (h1 : Ev ρ x1 (.c (sI y1)) := by (first | (refine .wh rfl ?_; first | assumption | (rw [hp]; rfl) | (simp_all; done)) | exact .pl rfl)) : AS Tryz.prog ρ H ⟨d, .build 28 #[(0, x0), (1, x1)], ty, pos, af, gu⟩ ⟨.agg (poC { Po.zero with line := y0, col := y1 }), [], []⟩ := a_bl28_0_1 h0 h1
end
section
variable {ρ : Operand → Option V} {H : Nat → Option HO} {d : Option Nat} {ty t2 : TypeId} {pos : String} {af : Array Edge} {gu : Option (Nat × Bool)} {x y : Operand}
theorem u_bl30_0 {x0 : Operand} {y0 : Int} (h0 : Ev ρ x0 (.c (sI y0)) := by (first | (refine .wh rfl ?_; first | assumption | (rw [hp]; rfl) | (simp_all; done)) | exact .pl rfl)) : AS Tryz.prog ρ H ⟨d, .build 30 #[(0, x0)], ty, pos, af, gu⟩ ⟨.agg (faC { Fa.zero with code := y0 }), [], []⟩ := a_bl30_0 h0
end
section
variable {ρ : Operand → Option V} {H : Nat → Option HO} {d : Option Nat} {ty t2 : TypeId} {pos : String} {af : Array Edge} {gu : Option (Nat × Bool)} {x y : Operand}
theorem u_bl30_0_1 {x0 x1 : Operand} {y0 : Int} {y1 : Po} (h0 : Ev ρ x0 (.c (sI y0)) := by (first | (refine .wh rfl ?_; first | assumption | (rw [hp]; rfl) | (simp_all; done)) | exact .pl rfl)) (h1 : Ev ρ x1 (.agg (poC y1)) := by (first | (refine .wh rfl ?_; first | assumption | (rw [hp]; rfl) | (simp_all; done)) | exact .pl rfl)) : AS Tryz.prog ρ H ⟨d, .build 30 #[(0, x0), (1, x1)], ty, pos, af, gu⟩ ⟨.agg (faC { Fa.zero with code := y0, pos := y1 }), [], []⟩ := a_bl30_0_1 h0 h1
end
section
variable {ρ : Operand → Option V} {H : Nat → Option HO} {d : Option Nat} {ty t2 : TypeId} {pos : String} {af : Array Edge} {gu : Option (Nat × Bool)} {x y : Operand}
theorem u_bl30_0_1_2 {x0 x1 x2 : Operand} {y0 : Int} {y1 : Po} {y2 : ByteArray} (h0 : Ev ρ x0 (.c (sI y0)) := by (first | (refine .wh rfl ?_; first | assumption | (rw [hp]; rfl) | (simp_all; done)) | exact .pl rfl)) (h1 : Ev ρ x1 (.agg (poC y1)) := by (first | (refine .wh rfl ?_; first | assumption | (rw [hp]; rfl) | (simp_all; done)) | exact .pl rfl)) (h2 : Ev ρ x2 (.c (sS y2)) := by (first | (refine .wh rfl ?_; first | assumption | (rw [hp]; rfl) | (simp_all; done)) | exact .pl rfl)) : AS Tryz.prog ρ H ⟨d, .build 30 #[(0, x0), (1, x1), (2, x2)], ty, pos, af, gu⟩ ⟨.agg (faC { Fa.zero with code := y0, pos := y1, name := y2 }), [], []⟩ := a_bl30_0_1_2 h0 h1 h2
end
section
variable {ρ : Operand → Option V} {H : Nat → Option HO} {d : Option Nat} {ty t2 : TypeId} {pos : String} {af : Array Edge} {gu : Option (Nat × Bool)} {x y : Operand}
theorem u_bl49_0_1 {x0 x1 : Operand} {y0 : Int} {y1 : Int} (h0 : Ev ρ x0 (.c (sI y0)) := by (first | (refine .wh rfl ?_; first | assumption | (rw [hp]; rfl) | (simp_all; done)) | exact .pl rfl)) (h1 : Ev ρ x1 (.c (sI y1)) := by (first | (refine .wh rfl ?_; first | assumption | (rw [hp]; rfl) | (simp_all; done)) | exact .pl rfl)) : AS Tryz.prog ρ H ⟨d, .build 49 #[(0, x0), (1, x1)], ty, pos, af, gu⟩ ⟨.agg (exC { Ex.zero with op := y0, a := y1 }), [], []⟩ := a_bl49_0_1 h0 h1
end
section
variable {ρ : Operand → Option V} {H : Nat → Option HO} {d : Option Nat} {ty t2 : TypeId} {pos : String} {af : Array Edge} {gu : Option (Nat × Bool)} {x y : Operand}
theorem u_bl49_0_1_2_3 {x0 x1 x2 x3 : Operand} {y0 : Int} {y1 : Int} {y2 : Int} {y3 : Int} (h0 : Ev ρ x0 (.c (sI y0)) := by (first | (refine .wh rfl ?_; first | assumption | (rw [hp]; rfl) | (simp_all; done)) | exact .pl rfl)) (h1 : Ev ρ x1 (.c (sI y1)) := by (first | (refine .wh rfl ?_; first | assumption | (rw [hp]; rfl) | (simp_all; done)) | exact .pl rfl)) (h2 : Ev ρ x2 (.c (sI y2)) := by (first | (refine .wh rfl ?_; first | assumption | (rw [hp]; rfl) | (simp_all; done)) | exact .pl rfl)) (h3 : Ev ρ x3 (.c (sI y3)) := by (first | (refine .wh rfl ?_; first | assumption | (rw [hp]; rfl) | (simp_all; done)) | exact .pl rfl)) : AS Tryz.prog ρ H ⟨d, .build 49 #[(0, x0), (1, x1), (2, x2), (3, x3)], ty, pos, af, gu⟩ ⟨.agg (exC { Ex.zero with op := y0, a := y1, rel := y2, b := y3 }), [], []⟩ := a_bl49_0_1_2_3 h0 h1 h2 h3
end
section
variable {ρ : Operand → Option V} {H : Nat → Option HO} {d : Option Nat} {ty t2 : TypeId} {pos : String} {af : Array Edge} {gu : Option (Nat × Bool)} {x y : Operand}
theorem u_bl49_0_1_4 {x0 x1 x2 : Operand} {y0 : Int} {y1 : Int} {y2 : List ByteArray} (h0 : Ev ρ x0 (.c (sI y0)) := by (first | (refine .wh rfl ?_; first | assumption | (rw [hp]; rfl) | (simp_all; done)) | exact .pl rfl)) (h1 : Ev ρ x1 (.c (sI y1)) := by (first | (refine .wh rfl ?_; first | assumption | (rw [hp]; rfl) | (simp_all; done)) | exact .pl rfl)) (h2 : Ev ρ x2 (.c (strL y2)) := by (first | (refine .wh rfl ?_; first | assumption | (rw [hp]; rfl) | (simp_all; done)) | exact .pl rfl)) : AS Tryz.prog ρ H ⟨d, .build 49 #[(0, x0), (1, x1), (4, x2)], ty, pos, af, gu⟩ ⟨.agg (exC { Ex.zero with op := y0, a := y1, names := y2 }), [], []⟩ := a_bl49_0_1_4 h0 h1 h2
end
section
variable {ρ : Operand → Option V} {H : Nat → Option HO} {d : Option Nat} {ty t2 : TypeId} {pos : String} {af : Array Edge} {gu : Option (Nat × Bool)} {x y : Operand}
theorem u_bl49_0_3 {x0 x1 : Operand} {y0 : Int} {y1 : Int} (h0 : Ev ρ x0 (.c (sI y0)) := by (first | (refine .wh rfl ?_; first | assumption | (rw [hp]; rfl) | (simp_all; done)) | exact .pl rfl)) (h1 : Ev ρ x1 (.c (sI y1)) := by (first | (refine .wh rfl ?_; first | assumption | (rw [hp]; rfl) | (simp_all; done)) | exact .pl rfl)) : AS Tryz.prog ρ H ⟨d, .build 49 #[(0, x0), (3, x1)], ty, pos, af, gu⟩ ⟨.agg (exC { Ex.zero with op := y0, b := y1 }), [], []⟩ := a_bl49_0_3 h0 h1
end
section
variable {ρ : Operand → Option V} {H : Nat → Option HO} {d : Option Nat} {ty t2 : TypeId} {pos : String} {af : Array Edge} {gu : Option (Nat × Bool)} {x y : Operand}
theorem u_bl49_0_4 {x0 x1 : Operand} {y0 : Int} {y1 : List ByteArray} (h0 : Ev ρ x0 (.c (sI y0)) := by (first | (refine .wh rfl ?_; first | assumption | (rw [hp]; rfl) | (simp_all; done)) | exact .pl rfl)) (h1 : Ev ρ x1 (.c (strL y1)) := by (first | (refine .wh rfl ?_; first | assumption | (rw [hp]; rfl) | (simp_all; done)) | exact .pl rfl)) : AS Tryz.prog ρ H ⟨d, .build 49 #[(0, x0), (4, x1)], ty, pos, af, gu⟩ ⟨.agg (exC { Ex.zero with op := y0, names := y1 }), [], []⟩ := a_bl49_0_4 h0 h1
end
section
variable {ρ : Operand → Option V} {H : Nat → Option HO} {d : Option Nat} {ty t2 : TypeId} {pos : String} {af : Array Edge} {gu : Option (Nat × Bool)} {x y : Operand}
theorem u_bl49_0_6 {x0 x1 : Operand} {y0 : Int} {y1 : List Ex} (h0 : Ev ρ x0 (.c (sI y0)) := by (first | (refine .wh rfl ?_; first | assumption | (rw [hp]; rfl) | (simp_all; done)) | exact .pl rfl)) (h1 : Ev ρ x1 (.c (.lst none 10 (y1.map exC))) := by (first | (refine .wh rfl ?_; first | assumption | (rw [hp]; rfl) | (simp_all; done)) | exact .pl rfl)) : AS Tryz.prog ρ H ⟨d, .build 49 #[(0, x0), (6, x1)], ty, pos, af, gu⟩ ⟨.agg (exC { Ex.zero with op := y0, kids := y1 }), [], []⟩ := a_bl49_0_6 h0 h1
end
section
variable {ρ : Operand → Option V} {H : Nat → Option HO} {d : Option Nat} {ty t2 : TypeId} {pos : String} {af : Array Edge} {gu : Option (Nat × Bool)} {x y : Operand}
theorem u_bl60_0_4 {x0 x1 : Operand} {y0 : Bool} {y1 : List ByteArray} (h0 : Ev ρ x0 (.c (sB y0)) := by (first | (refine .wh rfl ?_; first | assumption | (rw [hp]; rfl) | (simp_all; done)) | exact .pl rfl)) (h1 : Ev ρ x1 (.c (strL y1)) := by (first | (refine .wh rfl ?_; first | assumption | (rw [hp]; rfl) | (simp_all; done)) | exact .pl rfl)) : AS Tryz.prog ρ H ⟨d, .build 60 #[(0, x0), (4, x1)], ty, pos, af, gu⟩ ⟨.agg (nsC { NS.zero with all := y0, except := y1 }), [], []⟩ := a_bl60_0_4 h0 h1
end
section
variable {ρ : Operand → Option V} {H : Nat → Option HO} {d : Option Nat} {ty t2 : TypeId} {pos : String} {af : Array Edge} {gu : Option (Nat × Bool)} {x y : Operand}
theorem u_bl60_1_3 {x0 x1 : Operand} {y0 : Bool} {y1 : List ByteArray} (h0 : Ev ρ x0 (.c (sB y0)) := by (first | (refine .wh rfl ?_; first | assumption | (rw [hp]; rfl) | (simp_all; done)) | exact .pl rfl)) (h1 : Ev ρ x1 (.c (strL y1)) := by (first | (refine .wh rfl ?_; first | assumption | (rw [hp]; rfl) | (simp_all; done)) | exact .pl rfl)) : AS Tryz.prog ρ H ⟨d, .build 60 #[(1, x0), (3, x1)], ty, pos, af, gu⟩ ⟨.agg (nsC { NS.zero with nt := y0, names := y1 }), [], []⟩ := a_bl60_1_3 h0 h1
end
section
variable {ρ : Operand → Option V} {H : Nat → Option HO} {d : Option Nat} {ty t2 : TypeId} {pos : String} {af : Array Edge} {gu : Option (Nat × Bool)} {x y : Operand}
theorem u_bl60_2 {x0 : Operand} {y0 : Bool} (h0 : Ev ρ x0 (.c (sB y0)) := by (first | (refine .wh rfl ?_; first | assumption | (rw [hp]; rfl) | (simp_all; done)) | exact .pl rfl)) : AS Tryz.prog ρ H ⟨d, .build 60 #[(2, x0)], ty, pos, af, gu⟩ ⟨.agg (nsC { NS.zero with self := y0 }), [], []⟩ := a_bl60_2 h0
end
section
variable {ρ : Operand → Option V} {H : Nat → Option HO} {d : Option Nat} {ty t2 : TypeId} {pos : String} {af : Array Edge} {gu : Option (Nat × Bool)} {x y : Operand}
theorem u_bl60_3 {x0 : Operand} {y0 : List ByteArray} (h0 : Ev ρ x0 (.c (strL y0)) := by (first | (refine .wh rfl ?_; first | assumption | (rw [hp]; rfl) | (simp_all; done)) | exact .pl rfl)) : AS Tryz.prog ρ H ⟨d, .build 60 #[(3, x0)], ty, pos, af, gu⟩ ⟨.agg (nsC { NS.zero with names := y0 }), [], []⟩ := a_bl60_3 h0
end
section
variable {ρ : Operand → Option V} {H : Nat → Option HO} {d : Option Nat} {ty t2 : TypeId} {pos : String} {af : Array Edge} {gu : Option (Nat × Bool)} {x y : Operand}
theorem u_bl63_0 {x0 : Operand} {y0 : ByteArray} (h0 : Ev ρ x0 (.c (sS y0)) := by (first | (refine .wh rfl ?_; first | assumption | (rw [hp]; rfl) | (simp_all; done)) | exact .pl rfl)) : AS Tryz.prog ρ H ⟨d, .build 63 #[(0, x0)], ty, pos, af, gu⟩ ⟨.agg (lvC { Lv.zero with sens := y0 }), [], []⟩ := a_bl63_0 h0
end
section
variable {ρ : Operand → Option V} {H : Nat → Option HO} {d : Option Nat} {ty t2 : TypeId} {pos : String} {af : Array Edge} {gu : Option (Nat × Bool)} {x y : Operand}
theorem u_bl65_0 {x0 : Operand} {y0 : Lv} (h0 : Ev ρ x0 (.agg (lvC y0)) := by (first | (refine .wh rfl ?_; first | assumption | (rw [hp]; rfl) | (simp_all; done)) | exact .pl rfl)) : AS Tryz.prog ρ H ⟨d, .build 65 #[(0, x0)], ty, pos, af, gu⟩ ⟨.agg (rgC { Rg.zero with lo := y0 }), [], []⟩ := a_bl65_0 h0
end
section
variable {ρ : Operand → Option V} {H : Nat → Option HO} {d : Option Nat} {ty t2 : TypeId} {pos : String} {af : Array Edge} {gu : Option (Nat × Bool)} {x y : Operand}
theorem u_bl67_0 {x0 : Operand} {y0 : ByteArray} (h0 : Ev ρ x0 (.c (sS y0)) := by (first | (refine .wh rfl ?_; first | assumption | (rw [hp]; rfl) | (simp_all; done)) | exact .pl rfl)) : AS Tryz.prog ρ H ⟨d, .build 67 #[(0, x0)], ty, pos, af, gu⟩ ⟨.agg (cxC { Ct.zero with user := y0 }), [], []⟩ := a_bl67_0 h0
end
section
variable {ρ : Operand → Option V} {H : Nat → Option HO} {d : Option Nat} {ty t2 : TypeId} {pos : String} {af : Array Edge} {gu : Option (Nat × Bool)} {x y : Operand}
theorem u_bl69_0 {x0 : Operand} {y0 : Int} (h0 : Ev ρ x0 (.c (sI y0)) := by (first | (refine .wh rfl ?_; first | assumption | (rw [hp]; rfl) | (simp_all; done)) | exact .pl rfl)) : AS Tryz.prog ρ H ⟨d, .build 69 #[(0, x0)], ty, pos, af, gu⟩ ⟨.agg (stC { Stm.zero with kind := y0 }), [], []⟩ := a_bl69_0 h0
end
section
variable {ρ : Operand → Option V} {H : Nat → Option HO} {d : Option Nat} {ty t2 : TypeId} {pos : String} {af : Array Edge} {gu : Option (Nat × Bool)} {x y : Operand}
theorem u_bl69_0_1_8_9_10_11 {x0 x1 x2 x3 x4 x5 : Operand} {y0 : Int} {y1 : Int} {y2 : NS} {y3 : NS} {y4 : NS} {y5 : NS} (h0 : Ev ρ x0 (.c (sI y0)) := by (first | (refine .wh rfl ?_; first | assumption | (rw [hp]; rfl) | (simp_all; done)) | exact .pl rfl)) (h1 : Ev ρ x1 (.c (sI y1)) := by (first | (refine .wh rfl ?_; first | assumption | (rw [hp]; rfl) | (simp_all; done)) | exact .pl rfl)) (h2 : Ev ρ x2 (.agg (nsC y2)) := by (first | (refine .wh rfl ?_; first | assumption | (rw [hp]; rfl) | (simp_all; done)) | exact .pl rfl)) (h3 : Ev ρ x3 (.agg (nsC y3)) := by (first | (refine .wh rfl ?_; first | assumption | (rw [hp]; rfl) | (simp_all; done)) | exact .pl rfl)) (h4 : Ev ρ x4 (.agg (nsC y4)) := by (first | (refine .wh rfl ?_; first | assumption | (rw [hp]; rfl) | (simp_all; done)) | exact .pl rfl)) (h5 : Ev ρ x5 (.agg (nsC y5)) := by (first | (refine .wh rfl ?_; first | assumption | (rw [hp]; rfl) | (simp_all; done)) | exact .pl rfl)) : AS Tryz.prog ρ H ⟨d, .build 69 #[(0, x0), (1, x1), (8, x2), (9, x3), (10, x4), (11, x5)], ty, pos, af, gu⟩ ⟨.agg (stC { Stm.zero with kind := y0, op := y1, source := y2, target := y3, cls := y4, perms := y5 }), [], []⟩ := a_bl69_0_1_8_9_10_11 h0 h1 h2 h3 h4 h5
end
section
variable {ρ : Operand → Option V} {H : Nat → Option HO} {d : Option Nat} {ty t2 : TypeId} {pos : String} {af : Array Edge} {gu : Option (Nat × Bool)} {x y : Operand}
theorem u_bl69_0_3_7_6 {x0 x1 x2 x3 : Operand} {y0 : Int} {y1 : ByteArray} {y2 : List ByteArray} {y3 : List ByteArray} (h0 : Ev ρ x0 (.c (sI y0)) := by (first | (refine .wh rfl ?_; first | assumption | (rw [hp]; rfl) | (simp_all; done)) | exact .pl rfl)) (h1 : Ev ρ x1 (.c (sS y1)) := by (first | (refine .wh rfl ?_; first | assumption | (rw [hp]; rfl) | (simp_all; done)) | exact .pl rfl)) (h2 : Ev ρ x2 (.c (strL y2)) := by (first | (refine .wh rfl ?_; first | assumption | (rw [hp]; rfl) | (simp_all; done)) | exact .pl rfl)) (h3 : Ev ρ x3 (.c (strL y3)) := by (first | (refine .wh rfl ?_; first | assumption | (rw [hp]; rfl) | (simp_all; done)) | exact .pl rfl)) : AS Tryz.prog ρ H ⟨d, .build 69 #[(0, x0), (3, x1), (7, x2), (6, x3)], ty, pos, af, gu⟩ ⟨.agg (stC { Stm.zero with kind := y0, name := y1, aliases := y2, list := y3 }), [], []⟩ := a_bl69_0_3_7_6 h0 h1 h2 h3
end
section
variable {ρ : Operand → Option V} {H : Nat → Option HO} {d : Option Nat} {ty t2 : TypeId} {pos : String} {af : Array Edge} {gu : Option (Nat × Bool)} {x y : Operand}
theorem u_bl69_2 {x0 : Operand} {y0 : Po} (h0 : Ev ρ x0 (.agg (poC y0)) := by (first | (refine .wh rfl ?_; first | assumption | (rw [hp]; rfl) | (simp_all; done)) | exact .pl rfl)) : AS Tryz.prog ρ H ⟨d, .build 69 #[(2, x0)], ty, pos, af, gu⟩ ⟨.agg (stC { Stm.zero with pos := y0 }), [], []⟩ := a_bl69_2 h0
end
section
variable {ρ : Operand → Option V} {H : Nat → Option HO} {d : Option Nat} {ty t2 : TypeId} {pos : String} {af : Array Edge} {gu : Option (Nat × Bool)} {x y : Operand}
theorem u_bl99_0_1 {x0 x1 : Operand} {y0 : Int} {y1 : ByteArray} (h0 : Ev ρ x0 (.c (sI y0)) := by (first | (refine .wh rfl ?_; first | assumption | (rw [hp]; rfl) | (simp_all; done)) | exact .pl rfl)) (h1 : Ev ρ x1 (.c (sS y1)) := by (first | (refine .wh rfl ?_; first | assumption | (rw [hp]; rfl) | (simp_all; done)) | exact .pl rfl)) : AS Tryz.prog ρ H ⟨d, .build 99 #[(0, x0), (1, x1)], ty, pos, af, gu⟩ ⟨.agg (tkC { Tok.zero with kind := y0, text := y1 }), [], []⟩ := a_bl99_0_1 h0 h1
end
section
variable {ρ : Operand → Option V} {H : Nat → Option HO} {d : Option Nat} {ty t2 : TypeId} {pos : String} {af : Array Edge} {gu : Option (Nat × Bool)} {x y : Operand}
theorem u_bl99_0_1_2 {x0 x1 x2 : Operand} {y0 : Int} {y1 : ByteArray} {y2 : Po} (h0 : Ev ρ x0 (.c (sI y0)) := by (first | (refine .wh rfl ?_; first | assumption | (rw [hp]; rfl) | (simp_all; done)) | exact .pl rfl)) (h1 : Ev ρ x1 (.c (sS y1)) := by (first | (refine .wh rfl ?_; first | assumption | (rw [hp]; rfl) | (simp_all; done)) | exact .pl rfl)) (h2 : Ev ρ x2 (.agg (poC y2)) := by (first | (refine .wh rfl ?_; first | assumption | (rw [hp]; rfl) | (simp_all; done)) | exact .pl rfl)) : AS Tryz.prog ρ H ⟨d, .build 99 #[(0, x0), (1, x1), (2, x2)], ty, pos, af, gu⟩ ⟨.agg (tkC { Tok.zero with kind := y0, text := y1, pos := y2 }), [], []⟩ := a_bl99_0_1_2 h0 h1 h2
end
section
variable {ρ : Operand → Option V} {H : Nat → Option HO} {d : Option Nat} {ty t2 : TypeId} {pos : String} {af : Array Edge} {gu : Option (Nat × Bool)} {x y : Operand}
theorem u_bl99_0_2 {x0 x1 : Operand} {y0 : Int} {y1 : Po} (h0 : Ev ρ x0 (.c (sI y0)) := by (first | (refine .wh rfl ?_; first | assumption | (rw [hp]; rfl) | (simp_all; done)) | exact .pl rfl)) (h1 : Ev ρ x1 (.agg (poC y1)) := by (first | (refine .wh rfl ?_; first | assumption | (rw [hp]; rfl) | (simp_all; done)) | exact .pl rfl)) : AS Tryz.prog ρ H ⟨d, .build 99 #[(0, x0), (2, x1)], ty, pos, af, gu⟩ ⟨.agg (tkC { Tok.zero with kind := y0, pos := y1 }), [], []⟩ := a_bl99_0_2 h0 h1
end
section
variable {ρ : Operand → Option V} {H : Nat → Option HO} {d : Option Nat} {ty t2 : TypeId} {pos : String} {af : Array Edge} {gu : Option (Nat × Bool)} {x y : Operand}
theorem u_bl99_2 {x0 : Operand} {y0 : Po} (h0 : Ev ρ x0 (.agg (poC y0)) := by (first | (refine .wh rfl ?_; first | assumption | (rw [hp]; rfl) | (simp_all; done)) | exact .pl rfl)) : AS Tryz.prog ρ H ⟨d, .build 99 #[(2, x0)], ty, pos, af, gu⟩ ⟨.agg (tkC { Tok.zero with pos := y0 }), [], []⟩ := a_bl99_2 h0
end
section
variable {ρ : Operand → Option V} {H : Nat → Option HO} {d : Option Nat} {ty t2 : TypeId} {pos : String} {af : Array Edge} {gu : Option (Nat × Bool)} {x y : Operand}
theorem u_bl127 {x0 : Operand} {y0 : Fa} (h0 : Ev ρ x0 (.agg (faC y0)) := by (first | (refine .wh rfl ?_; first | assumption | (rw [hp]; rfl) | (simp_all; done)) | exact .pl rfl)) : AS Tryz.prog ρ H ⟨d, .build 127 #[(0, x0)], ty, pos, af, gu⟩ ⟨.agg (faC y0), [], []⟩ := a_bl127 h0
end
section
variable {ρ : Operand → Option V} {H : Nat → Option HO} {d : Option Nat} {ty t2 : TypeId} {pos : String} {af : Array Edge} {gu : Option (Nat × Bool)} {x y : Operand}
theorem u_bl130_0 {x0 : Operand} {y0 : List Tok} (h0 : Ev ρ x0 (.c (.lst none 4 (y0.map tkC))) := by (first | (refine .wh rfl ?_; first | assumption | (rw [hp]; rfl) | (simp_all; done)) | exact .pl rfl)) : AS Tryz.prog ρ H ⟨d, .build 130 #[(0, x0)], ty, pos, af, gu⟩ ⟨.agg (psC { Ps.zero with l := y0 }), [], []⟩ := a_bl130_0 h0
end
section
variable {ρ : Operand → Option V} {H : Nat → Option HO} {d : Option Nat} {ty t2 : TypeId} {pos : String} {af : Array Edge} {gu : Option (Nat × Bool)} {x y : Operand}
theorem u_bl139_0 {x0 : Operand} {y0 : List Tok} (h0 : Ev ρ x0 (.c (.lst none 4 (y0.map tkC))) := by (first | (refine .wh rfl ?_; first | assumption | (rw [hp]; rfl) | (simp_all; done)) | exact .pl rfl)) : AS Tryz.prog ρ H ⟨d, .build 139 #[(0, x0)], ty, pos, af, gu⟩ ⟨.agg (qsC { Qs.zero with l := y0 }), [], []⟩ := a_bl139_0 h0
end
section
variable {ρ : Operand → Option V} {H : Nat → Option HO} {d : Option Nat} {ty t2 : TypeId} {pos : String} {af : Array Edge} {gu : Option (Nat × Bool)} {x y : Operand}
theorem u_bl139_0_2 {x0 x1 : Operand} {y0 : List Tok} {y1 : Fa} (h0 : Ev ρ x0 (.c (.lst none 4 (y0.map tkC))) := by (first | (refine .wh rfl ?_; first | assumption | (rw [hp]; rfl) | (simp_all; done)) | exact .pl rfl)) (h1 : Ev ρ x1 (.agg (faC y1)) := by (first | (refine .wh rfl ?_; first | assumption | (rw [hp]; rfl) | (simp_all; done)) | exact .pl rfl)) : AS Tryz.prog ρ H ⟨d, .build 139 #[(0, x0), (2, x1)], ty, pos, af, gu⟩ ⟨.agg (qsC { Qs.zero with l := y0, bad := y1 }), [], []⟩ := a_bl139_0_2 h0 h1
end
section
variable {ρ : Operand → Option V} {H : Nat → Option HO} {d : Option Nat} {ty t2 : TypeId} {pos : String} {af : Array Edge} {gu : Option (Nat × Bool)} {x y : Operand}
theorem u_bl154_0_2 {x0 x1 : Operand} {y0 : ByteArray} {y1 : Po} (h0 : Ev ρ x0 (.c (sS y0)) := by (first | (refine .wh rfl ?_; first | assumption | (rw [hp]; rfl) | (simp_all; done)) | exact .pl rfl)) (h1 : Ev ρ x1 (.agg (poC y1)) := by (first | (refine .wh rfl ?_; first | assumption | (rw [hp]; rfl) | (simp_all; done)) | exact .pl rfl)) : AS Tryz.prog ρ H ⟨d, .build 154 #[(0, x0), (2, x1)], ty, pos, af, gu⟩ ⟨.agg (snR { Sc.zero with src := y0, pos := y1 }), [], []⟩ := a_bl154_0_2 h0 h1
end
section
variable {ρ : Operand → Option V} {H : Nat → Option HO} {d : Option Nat} {ty t2 : TypeId} {pos : String} {af : Array Edge} {gu : Option (Nat × Bool)} {x y : Operand}
theorem u_bl158 {x0 : Operand} {y0 : Fa} (h0 : Ev ρ x0 (.agg (faC y0)) := by (first | (refine .wh rfl ?_; first | assumption | (rw [hp]; rfl) | (simp_all; done)) | exact .pl rfl)) : AS Tryz.prog ρ H ⟨d, .build 158 #[(0, x0)], ty, pos, af, gu⟩ ⟨.agg (faC y0), [], []⟩ := a_bl158 h0
end
section
variable {ρ : Operand → Option V} {H : Nat → Option HO} {d : Option Nat} {ty t2 : TypeId} {pos : String} {af : Array Edge} {gu : Option (Nat × Bool)} {x y : Operand}
theorem u_bl162_0 {x0 : Operand} {y0 : List Tok} (h0 : Ev ρ x0 (.c (.lst none 4 (y0.map tkC))) := by (first | (refine .wh rfl ?_; first | assumption | (rw [hp]; rfl) | (simp_all; done)) | exact .pl rfl)) : AS Tryz.prog ρ H ⟨d, .build 162 #[(0, x0)], ty, pos, af, gu⟩ ⟨.agg (bsC { Bs.zero with l := y0 }), [], []⟩ := a_bl162_0 h0
end
section
variable {ρ : Operand → Option V} {H : Nat → Option HO} {d : Option Nat} {ty t2 : TypeId} {pos : String} {af : Array Edge} {gu : Option (Nat × Bool)} {x y : Operand}
theorem u_bl170_0 {x0 : Operand} {y0 : ByteArray} (h0 : Ev ρ x0 (.c (sS y0)) := by (first | (refine .wh rfl ?_; first | assumption | (rw [hp]; rfl) | (simp_all; done)) | exact .pl rfl)) : AS Tryz.prog ρ H ⟨d, .build 170 #[(0, x0)], ty, pos, af, gu⟩ ⟨.agg (spC { Sp.zero with frm := y0 }), [], []⟩ := a_bl170_0 h0
end
section
variable {ρ : Operand → Option V} {H : Nat → Option HO} {d : Option Nat} {ty t2 : TypeId} {pos : String} {af : Array Edge} {gu : Option (Nat × Bool)} {x y : Operand}
theorem u_sl23_1 {x0 : Operand} {a0 : Stm} (h0 : Ev ρ x0 (.agg (stC a0)) := by (first | (refine .wh rfl ?_; first | assumption | (rw [hp]; rfl) | (simp_all; done)) | exact .pl rfl)) : AS Tryz.prog ρ H ⟨d, .buildSlice 23 1 #[(0, x0)], ty, pos, af, gu⟩ ⟨.c (.lst none 55 ([a0].map stC)), [], []⟩ := a_sl23_1 h0
end
section
variable {ρ : Operand → Option V} {H : Nat → Option HO} {d : Option Nat} {ty t2 : TypeId} {pos : String} {af : Array Edge} {gu : Option (Nat × Bool)} {x y : Operand}
theorem u_sl36_1 {x0 : Operand} {a0 : Tok} (h0 : Ev ρ x0 (.agg (tkC a0)) := by (first | (refine .wh rfl ?_; first | assumption | (rw [hp]; rfl) | (simp_all; done)) | exact .pl rfl)) : AS Tryz.prog ρ H ⟨d, .buildSlice 36 1 #[(0, x0)], ty, pos, af, gu⟩ ⟨.c (.lst none 4 ([a0].map tkC)), [], []⟩ := a_sl36_1 h0
end
section
variable {ρ : Operand → Option V} {H : Nat → Option HO} {d : Option Nat} {ty t2 : TypeId} {pos : String} {af : Array Edge} {gu : Option (Nat × Bool)} {x y : Operand}
theorem u_sl47_1 {x0 : Operand} {a0 : Ex} (h0 : Ev ρ x0 (.agg (exC a0)) := by (first | (refine .wh rfl ?_; first | assumption | (rw [hp]; rfl) | (simp_all; done)) | exact .pl rfl)) : AS Tryz.prog ρ H ⟨d, .buildSlice 47 1 #[(0, x0)], ty, pos, af, gu⟩ ⟨.c (.lst none 10 ([a0].map exC)), [], []⟩ := a_sl47_1 h0
end
section
variable {ρ : Operand → Option V} {H : Nat → Option HO} {d : Option Nat} {ty t2 : TypeId} {pos : String} {af : Array Edge} {gu : Option (Nat × Bool)} {x y : Operand}
theorem u_sl47_2 {x0 x1 : Operand} {a0 a1 : Ex} (h0 : Ev ρ x0 (.agg (exC a0)) := by (first | (refine .wh rfl ?_; first | assumption | (rw [hp]; rfl) | (simp_all; done)) | exact .pl rfl)) (h1 : Ev ρ x1 (.agg (exC a1)) := by (first | (refine .wh rfl ?_; first | assumption | (rw [hp]; rfl) | (simp_all; done)) | exact .pl rfl)) : AS Tryz.prog ρ H ⟨d, .buildSlice 47 2 #[(0, x0), (1, x1)], ty, pos, af, gu⟩ ⟨.c (.lst none 10 ([a0, a1].map exC)), [], []⟩ := a_sl47_2 h0 h1
end
section
variable {ρ : Operand → Option V} {H : Nat → Option HO} {d : Option Nat} {ty t2 : TypeId} {pos : String} {af : Array Edge} {gu : Option (Nat × Bool)} {x y : Operand}
theorem u_sl61_1 {x0 : Operand} {a0 : Sp} (h0 : Ev ρ x0 (.agg (spC a0)) := by (first | (refine .wh rfl ?_; first | assumption | (rw [hp]; rfl) | (simp_all; done)) | exact .pl rfl)) : AS Tryz.prog ρ H ⟨d, .buildSlice 61 1 #[(0, x0)], ty, pos, af, gu⟩ ⟨.c (.lst none 2 ([a0].map spC)), [], []⟩ := a_sl61_1 h0
end
section
variable {ρ : Operand → Option V} {H : Nat → Option HO} {d : Option Nat} {ty t2 : TypeId} {pos : String} {af : Array Edge} {gu : Option (Nat × Bool)} {x y : Operand}
theorem u_sl208_2 {x0 x1 : Operand} {a0 a1 : Lv} (h0 : Ev ρ x0 (.agg (lvC a0)) := by (first | (refine .wh rfl ?_; first | assumption | (rw [hp]; rfl) | (simp_all; done)) | exact .pl rfl)) (h1 : Ev ρ x1 (.agg (lvC a1)) := by (first | (refine .wh rfl ?_; first | assumption | (rw [hp]; rfl) | (simp_all; done)) | exact .pl rfl)) : AS Tryz.prog ρ H ⟨d, .buildSlice 208 2 #[(0, x0), (1, x1)], ty, pos, af, gu⟩ ⟨.c (.lst none 2 ([a0, a1].map lvC)), [], []⟩ := a_sl208_2 h0 h1
end
section
variable [Tb]
variable {P : Program} {ρ : Operand → Option V} {H : Nat → Option HO} {d : Option Nat} {ty : TypeId} {pos : String} {af : Array Edge} {gu : Option (Nat × Bool)} {x y : Operand} {v : V} {t e n off k i : Nat} {cs ds cs' : List C} {b : Bool}
theorem u_assign (hx : Ev ρ x v := by (first | (refine .wh rfl ?_; first | assumption | (rw [hp]; rfl) | (simp_all; done)) | exact .pl rfl)) : AS P ρ H ⟨d, .assign x, ty, pos, af, gu⟩ ⟨v, [], []⟩ := a_assign hx
end
section
variable [Tb]
variable {P : Program} {ρ : Operand → Option V} {H : Nat → Option HO} {d : Option Nat} {ty : TypeId} {pos : String} {af : Array Edge} {gu : Option (Nat × Bool)} {x y : Operand} {v : V} {t e n off k i : Nat} {cs ds cs' : List C} {b : Bool}
theorem u_move (hx : Ev ρ x v := by (first | (refine .wh rfl ?_; first | assumption | (rw [hp]; rfl) | (simp_all; done)) | exact .pl rfl)) : AS P ρ H ⟨d, .move x, ty, pos, af, gu⟩ ⟨v, [], []⟩ := a_move hx
end
section
variable [Tb]
variable {P : Program} {ρ : Operand → Option V} {H : Nat → Option HO} {d : Option Nat} {ty : TypeId} {pos : String} {af : Array Edge} {gu : Option (Nat × Bool)} {x y : Operand} {v : V} {t e n off k i : Nat} {cs ds cs' : List C} {b : Bool}
theorem u_nil (hx : Ev ρ x v := by (first | (refine .wh rfl ?_; first | assumption | (rw [hp]; rfl) | (simp_all; done)) | exact .pl rfl)) (hv : isPl v = true := by rfl) : AS P ρ H ⟨d, .nilCheck x, ty, pos, af, gu⟩ ⟨v, [], []⟩ := a_nil hx hv
end
section
variable [Tb]
variable {P : Program} {ρ : Operand → Option V} {H : Nat → Option HO} {d : Option Nat} {ty : TypeId} {pos : String} {af : Array Edge} {gu : Option (Nat × Bool)} {x y : Operand} {v : V} {t e n off k i : Nat} {cs ds cs' : List C} {b : Bool}
theorem u_loadP {ty0 : Nat} (hx : Ev ρ x (.c (.ptr n off)) := by (first | (refine .wh rfl ?_; first | assumption | (rw [hp]; rfl) | (simp_all; done)) | exact .pl rfl)) (hh : H n = some (.obj ty0 cs) := by rfl) (ht : tyi P e = some (k, b) := by exact tyT_ok rfl) (hc : cutV b cs off k = some v := by (first | (simp only [cutA]; rfl) | (rw [cutDrop _ _ _ _ _ (by (try simp only [lenA]); decide)]; simp only [cutA, Nat.reduceAdd]; rfl) | rfl)) : AS P ρ H ⟨d, .load e x, ty, pos, af, gu⟩ ⟨v, [], [n]⟩ := a_loadP hx hh ht hc
end
section
variable [Tb]
variable {P : Program} {ρ : Operand → Option V} {H : Nat → Option HO} {d : Option Nat} {ty : TypeId} {pos : String} {af : Array Edge} {gu : Option (Nat × Bool)} {x y : Operand} {v : V} {t e n off k i : Nat} {cs ds cs' : List C} {b : Bool}
theorem u_loadE (hx : Ev ρ x (.c (.ep cs)) := by (first | (refine .wh rfl ?_; first | assumption | (rw [hp]; rfl) | (simp_all; done)) | exact .pl rfl)) (ht : tyi P e = some (k, b) := by exact tyT_ok rfl) (hc : cutV b cs 0 k = some v := by (first | (simp only [cutA]; rfl) | (rw [cutDrop _ _ _ _ _ (by (try simp only [lenA]); decide)]; simp only [cutA, Nat.reduceAdd]; rfl) | rfl)) : AS P ρ H ⟨d, .load e x, ty, pos, af, gu⟩ ⟨v, [], []⟩ := a_loadE hx ht hc
end
section
variable [Tb]
variable {P : Program} {ρ : Operand → Option V} {H : Nat → Option HO} {d : Option Nat} {ty : TypeId} {pos : String} {af : Array Edge} {gu : Option (Nat × Bool)} {x y : Operand} {v : V} {t e n off k i : Nat} {cs ds cs' : List C} {b : Bool}
theorem u_fldP {s f o2 ft q : Nat} (hx : Ev ρ x (.c (.ptr n off)) := by (first | (refine .wh rfl ?_; first | assumption | (rw [hp]; rfl) | (simp_all; done)) | exact .pl rfl)) (hf : fld P s f = some (o2, ft) := by exact fldT_ok' rfl rfl) (he : off + o2 = q := by (first | exact Nat.zero_add _ | (simp only [Nat.reduceAdd]; rfl) | rfl)) : AS P ρ H ⟨d, .fieldAddr s x f, ty, pos, af, gu⟩ ⟨.c (.ptr n q), [], []⟩ := a_fldP hx hf he
end
section
variable [Tb]
variable {P : Program} {ρ : Operand → Option V} {H : Nat → Option HO} {d : Option Nat} {ty : TypeId} {pos : String} {af : Array Edge} {gu : Option (Nat × Bool)} {x y : Operand} {v : V} {t e n off k i : Nat} {cs ds cs' : List C} {b : Bool}
theorem u_fldE {s f o2 ft : Nat} (hx : Ev ρ x (.c (.ep cs)) := by (first | (refine .wh rfl ?_; first | assumption | (rw [hp]; rfl) | (simp_all; done)) | exact .pl rfl)) (hf : fld P s f = some (o2, ft) := by exact fldT_ok' rfl rfl) (he : cs.drop o2 = ds := by rfl) : AS P ρ H ⟨d, .fieldAddr s x f, ty, pos, af, gu⟩ ⟨.c (.ep ds), [], []⟩ := a_fldE hx hf he
end
section
variable [Tb]
variable {P : Program} {ρ : Operand → Option V} {H : Nat → Option HO} {d : Option Nat} {ty : TypeId} {pos : String} {af : Array Edge} {gu : Option (Nat × Bool)} {x y : Operand} {v : V} {t e n off k i : Nat} {cs ds cs' : List C} {b : Bool}
theorem u_fld {s f o2 ft : Nat} (hx : Ev ρ x (.agg cs) := by (first | (refine .wh rfl ?_; first | assumption | (rw [hp]; rfl) | (simp_all; done)) | exact .pl rfl)) (hf : fld P s f = some (o2, ft) := by exact fldT_ok' rfl rfl) (ht : tyi P ft = some (k, b) := by exact tyT_ok rfl) (hc : cutV b cs o2 k = some v := by (first | (simp only [cutA]; rfl) | (rw [cutDrop _ _ _ _ _ (by (try simp only [lenA]); decide)]; simp only [cutA, Nat.reduceAdd]; rfl) | rfl)) : AS P ρ H ⟨d, .field s x f, ty, pos, af, gu⟩ ⟨v, [], []⟩ := a_fld hx hf ht hc
end
section
variable [Tb]
variable {P : Program} {ρ : Operand → Option V} {H : Nat → Option HO} {d : Option Nat} {ty : TypeId} {pos : String} {af : Array Edge} {gu : Option (Nat × Bool)} {x y : Operand} {v : V} {t e n off k i : Nat} {cs ds cs' : List C} {b : Bool}
theorem u_and {c a : Operand} {p q : Bool} (hc : Ev ρ c (.c (.sc (.bool p))) := by (first | (refine .wh rfl ?_; first | assumption | (rw [hp]; rfl) | (simp_all; done)) | exact .pl rfl)) (h0 : ρ (.const (.bool false)) = some (.c (.sc (.bool false))) := by rfl) (ha : p = true → Ev ρ a (.c (.sc (.bool q))) := by (first | (intro hp; (first | (refine .wh rfl ?_; first | assumption | (rw [hp]; rfl) | (simp_all; done)) | exact .pl rfl); done) | fail)) : AS P ρ H ⟨d, .pick c a (.const (.bool false)), ty, pos, af, gu⟩ ⟨.c (.sc (.bool (p && q))), [], []⟩ := a_and hc h0 ha
end
section
variable [Tb]
variable {P : Program} {ρ : Operand → Option V} {H : Nat → Option HO} {d : Option Nat} {ty : TypeId} {pos : String} {af : Array Edge} {gu : Option (Nat × Bool)} {x y : Operand} {v : V} {t e n off k i : Nat} {cs ds cs' : List C} {b : Bool}
theorem u_or {c a : Operand} {p q : Bool} (hc : Ev ρ c (.c (.sc (.bool p))) := by (first | (refine .wh rfl ?_; first | assumption | (rw [hp]; rfl) | (simp_all; done)) | exact .pl rfl)) (h0 : ρ (.const (.bool true)) = some (.c (.sc (.bool true))) := by rfl) (ha : p = false → Ev ρ a (.c (.sc (.bool q))) := by (first | (intro hp; (first | (refine .wh rfl ?_; first | assumption | (rw [hp]; rfl) | (simp_all; done)) | exact .pl rfl); done) | fail)) : AS P ρ H ⟨d, .pick c (.const (.bool true)) a, ty, pos, af, gu⟩ ⟨.c (.sc (.bool (p || q))), [], []⟩ := a_or hc h0 ha
end
section
variable [Tb]
variable {P : Program} {ρ : Operand → Option V} {H : Nat → Option HO} {d : Option Nat} {ty : TypeId} {pos : String} {af : Array Edge} {gu : Option (Nat × Bool)} {x y : Operand} {v : V} {t e n off k i : Nat} {cs ds cs' : List C} {b : Bool}
theorem u_pick {c a b : Operand} {p : Bool} (hc : Ev ρ c (.c (.sc (.bool p))) := by (first | (refine .wh rfl ?_; first | assumption | (rw [hp]; rfl) | (simp_all; done)) | exact .pl rfl)) (ha : p = true → Ev ρ a v := by (first | (intro hp; (first | (refine .wh rfl ?_; first | assumption | (rw [hp]; rfl) | (simp_all; done)) | exact .pl rfl); done) | fail)) (hb : p = false → Ev ρ b v := by (first | (intro hp; (first | (refine .wh rfl ?_; first | assumption | (rw [hp]; rfl) | (simp_all; done)) | exact .pl rfl); done) | fail)) : AS P ρ H ⟨d, .pick c a b, ty, pos, af, gu⟩ ⟨v, [], []⟩ := a_pick hc ha hb
end
section
variable [Tb]
theorem u_pickF {P : Program} {ρ : Operand → Option V} {H : Nat → Option HO} {d : Option Nat} {ty : TypeId} {pos : String} {af : Array Edge} {gu : Option (Nat × Bool)} {v : V} {c a b : Operand} {p : Bool} (hc : Ev ρ c (.c (.sc (.bool p))) := by (first | (refine .wh rfl ?_; first | assumption | (rw [hp]; rfl) | (simp_all; done)) | exact .pl rfl)) (hp : p = false := by (first | (simp [*]; done) | (simp_all; done) | fail)) (hb : Ev ρ b v := by (first | (refine .wh rfl ?_; first | assumption | (rw [hp]; rfl) | (simp_all; done)) | exact .pl rfl)) : AS P ρ H ⟨d, .pick c a b, ty, pos, af, gu⟩ ⟨v, [], []⟩ := a_pickF hc hp hb
end
section
variable [Tb]
theorem u_pickT {P : Program} {ρ : Operand → Option V} {H : Nat → Option HO} {d : Option Nat} {ty : TypeId} {pos : String} {af : Array Edge} {gu : Option (Nat × Bool)} {v : V} {c a b : Operand} {p : Bool} (hc : Ev ρ c (.c (.sc (.bool p))) := by (first | (refine .wh rfl ?_; first | assumption | (rw [hp]; rfl) | (simp_all; done)) | exact .pl rfl)) (hp : p = true := by (first | (simp [*]; done) | (simp_all; done) | fail)) (hb : Ev ρ a v := by (first | (refine .wh rfl ?_; first | assumption | (rw [hp]; rfl) | (simp_all; done)) | exact .pl rfl)) : AS P ρ H ⟨d, .pick c a b, ty, pos, af, gu⟩ ⟨v, [], []⟩ := a_pickT hc hp hb
end
section
variable [Tb]
variable {P : Program} {ρ : Operand → Option V} {H : Nat → Option HO} {d : Option Nat} {ty : TypeId} {pos : String} {af : Array Edge} {gu : Option (Nat × Bool)} {x y : Operand} {v : V} {t e n off k i : Nat} {cs ds cs' : List C} {b : Bool}
variable {t2 : TypeId} {kd : IntKind} {p q : Int} {s u : ByteArray} {f g : Bool}
theorem u_eq (hx : Ev ρ x (.c (.sc (.int kd p))) := by (first | (refine .wh rfl ?_; first | assumption | (rw [hp]; rfl) | (simp_all; done)) | exact .pl rfl)) (hy : Ev ρ y (.c (.sc (.int kd q))) := by (first | (refine .wh rfl ?_; first | assumption | (rw [hp]; rfl) | (simp_all; done)) | exact .pl rfl)) : AS P ρ H ⟨d, .binOp .eql t x y t2, ty, pos, af, gu⟩ ⟨.c (.sc (.bool (decide (p = q)))), [], []⟩ := a_eq hx hy
end
section
variable [Tb]
variable {P : Program} {ρ : Operand → Option V} {H : Nat → Option HO} {d : Option Nat} {ty : TypeId} {pos : String} {af : Array Edge} {gu : Option (Nat × Bool)} {x y : Operand} {v : V} {t e n off k i : Nat} {cs ds cs' : List C} {b : Bool}
variable {t2 : TypeId} {kd : IntKind} {p q : Int} {s u : ByteArray} {f g : Bool}
theorem u_seq (hx : Ev ρ x (.c (.sc (.string s))) := by (first | (refine .wh rfl ?_; first | assumption | (rw [hp]; rfl) | (simp_all; done)) | exact .pl rfl)) (hy : Ev ρ y (.c (.sc (.string u))) := by (first | (refine .wh rfl ?_; first | assumption | (rw [hp]; rfl) | (simp_all; done)) | exact .pl rfl)) : AS P ρ H ⟨d, .binOp .eql t x y t2, ty, pos, af, gu⟩ ⟨.c (.sc (.bool (decide (s = u)))), [], []⟩ := a_seq hx hy
end
section
variable [Tb]
variable {P : Program} {ρ : Operand → Option V} {H : Nat → Option HO} {d : Option Nat} {ty : TypeId} {pos : String} {af : Array Edge} {gu : Option (Nat × Bool)} {x y : Operand} {v : V} {t e n off k i : Nat} {cs ds cs' : List C} {b : Bool}
variable {t2 : TypeId} {kd : IntKind} {p q : Int} {s u : ByteArray} {f g : Bool}
theorem u_ne (hx : Ev ρ x (.c (.sc (.int kd p))) := by (first | (refine .wh rfl ?_; first | assumption | (rw [hp]; rfl) | (simp_all; done)) | exact .pl rfl)) (hy : Ev ρ y (.c (.sc (.int kd q))) := by (first | (refine .wh rfl ?_; first | assumption | (rw [hp]; rfl) | (simp_all; done)) | exact .pl rfl)) : AS P ρ H ⟨d, .binOp .neq t x y t2, ty, pos, af, gu⟩ ⟨.c (.sc (.bool (!decide (p = q)))), [], []⟩ := a_ne hx hy
end
section
variable [Tb]
variable {P : Program} {ρ : Operand → Option V} {H : Nat → Option HO} {d : Option Nat} {ty : TypeId} {pos : String} {af : Array Edge} {gu : Option (Nat × Bool)} {x y : Operand} {v : V} {t e n off k i : Nat} {cs ds cs' : List C} {b : Bool}
variable {t2 : TypeId} {kd : IntKind} {p q : Int} {s u : ByteArray} {f g : Bool}
theorem u_sne (hx : Ev ρ x (.c (.sc (.string s))) := by (first | (refine .wh rfl ?_; first | assumption | (rw [hp]; rfl) | (simp_all; done)) | exact .pl rfl)) (hy : Ev ρ y (.c (.sc (.string u))) := by (first | (refine .wh rfl ?_; first | assumption | (rw [hp]; rfl) | (simp_all; done)) | exact .pl rfl)) : AS P ρ H ⟨d, .binOp .neq t x y t2, ty, pos, af, gu⟩ ⟨.c (.sc (.bool (!decide (s = u)))), [], []⟩ := a_sne hx hy
end
section
variable [Tb]
variable {P : Program} {ρ : Operand → Option V} {H : Nat → Option HO} {d : Option Nat} {ty : TypeId} {pos : String} {af : Array Edge} {gu : Option (Nat × Bool)} {x y : Operand} {v : V} {t e n off k i : Nat} {cs ds cs' : List C} {b : Bool}
variable {t2 : TypeId} {kd : IntKind} {p q : Int} {s u : ByteArray} {f g : Bool}
theorem u_lt (hx : Ev ρ x (.c (.sc (.int kd p))) := by (first | (refine .wh rfl ?_; first | assumption | (rw [hp]; rfl) | (simp_all; done)) | exact .pl rfl)) (hy : Ev ρ y (.c (.sc (.int kd q))) := by (first | (refine .wh rfl ?_; first | assumption | (rw [hp]; rfl) | (simp_all; done)) | exact .pl rfl)) : AS P ρ H ⟨d, .binOp .lss t x y t2, ty, pos, af, gu⟩ ⟨.c (.sc (.bool (decide (p < q)))), [], []⟩ := a_lt hx hy
end
section
variable [Tb]
variable {P : Program} {ρ : Operand → Option V} {H : Nat → Option HO} {d : Option Nat} {ty : TypeId} {pos : String} {af : Array Edge} {gu : Option (Nat × Bool)} {x y : Operand} {v : V} {t e n off k i : Nat} {cs ds cs' : List C} {b : Bool}
variable {t2 : TypeId} {kd : IntKind} {p q : Int} {s u : ByteArray} {f g : Bool}
theorem u_le (hx : Ev ρ x (.c (.sc (.int kd p))) := by (first | (refine .wh rfl ?_; first | assumption | (rw [hp]; rfl) | (simp_all; done)) | exact .pl rfl)) (hy : Ev ρ y (.c (.sc (.int kd q))) := by (first | (refine .wh rfl ?_; first | assumption | (rw [hp]; rfl) | (simp_all; done)) | exact .pl rfl)) : AS P ρ H ⟨d, .binOp .leq t x y t2, ty, pos, af, gu⟩ ⟨.c (.sc (.bool (decide (p ≤ q)))), [], []⟩ := a_le hx hy
end
section
variable [Tb]
variable {P : Program} {ρ : Operand → Option V} {H : Nat → Option HO} {d : Option Nat} {ty : TypeId} {pos : String} {af : Array Edge} {gu : Option (Nat × Bool)} {x y : Operand} {v : V} {t e n off k i : Nat} {cs ds cs' : List C} {b : Bool}
variable {t2 : TypeId} {kd : IntKind} {p q : Int} {s u : ByteArray} {f g : Bool}
theorem u_gt (hx : Ev ρ x (.c (.sc (.int kd p))) := by (first | (refine .wh rfl ?_; first | assumption | (rw [hp]; rfl) | (simp_all; done)) | exact .pl rfl)) (hy : Ev ρ y (.c (.sc (.int kd q))) := by (first | (refine .wh rfl ?_; first | assumption | (rw [hp]; rfl) | (simp_all; done)) | exact .pl rfl)) : AS P ρ H ⟨d, .binOp .gtr t x y t2, ty, pos, af, gu⟩ ⟨.c (.sc (.bool (decide (q < p)))), [], []⟩ := a_gt hx hy
end
section
variable [Tb]
variable {P : Program} {ρ : Operand → Option V} {H : Nat → Option HO} {d : Option Nat} {ty : TypeId} {pos : String} {af : Array Edge} {gu : Option (Nat × Bool)} {x y : Operand} {v : V} {t e n off k i : Nat} {cs ds cs' : List C} {b : Bool}
variable {t2 : TypeId} {kd : IntKind} {p q : Int} {s u : ByteArray} {f g : Bool}
theorem u_ge (hx : Ev ρ x (.c (.sc (.int kd p))) := by (first | (refine .wh rfl ?_; first | assumption | (rw [hp]; rfl) | (simp_all; done)) | exact .pl rfl)) (hy : Ev ρ y (.c (.sc (.int kd q))) := by (first | (refine .wh rfl ?_; first | assumption | (rw [hp]; rfl) | (simp_all; done)) | exact .pl rfl)) : AS P ρ H ⟨d, .binOp .geq t x y t2, ty, pos, af, gu⟩ ⟨.c (.sc (.bool (decide (q ≤ p)))), [], []⟩ := a_ge hx hy
end
section
variable [Tb]
variable {P : Program} {ρ : Operand → Option V} {H : Nat → Option HO} {d : Option Nat} {ty : TypeId} {pos : String} {af : Array Edge} {gu : Option (Nat × Bool)} {x y : Operand} {v : V} {t e n off k i : Nat} {cs ds cs' : List C} {b : Bool}
variable {t2 : TypeId} {kd : IntKind} {p q : Int} {s u : ByteArray} {f g : Bool}
theorem u_not (hx : Ev ρ x (.c (.sc (.bool f))) := by (first | (refine .wh rfl ?_; first | assumption | (rw [hp]; rfl) | (simp_all; done)) | exact .pl rfl)) : AS P ρ H ⟨d, .unOp .not t x, ty, pos, af, gu⟩ ⟨.c (.sc (.bool (!f))), [], []⟩ := a_not hx
end
section
variable [Tb]
variable {P : Program} {ρ : Operand → Option V} {H : Nat → Option HO} {d : Option Nat} {ty : TypeId} {pos : String} {af : Array Edge} {gu : Option (Nat × Bool)} {x y : Operand} {v : V} {t e n off k i : Nat} {cs ds cs' : List C} {b : Bool}
variable {t2 : TypeId} {kd : IntKind} {p q : Int} {s u : ByteArray} {f g : Bool}
theorem u_beq (hx : Ev ρ x (.c (.sc (.bool f))) := by (first | (refine .wh rfl ?_; first | assumption | (rw [hp]; rfl) | (simp_all; done)) | exact .pl rfl)) (hy : Ev ρ y (.c (.sc (.bool g))) := by (first | (refine .wh rfl ?_; first | assumption | (rw [hp]; rfl) | (simp_all; done)) | exact .pl rfl)) (ht : P.underlying t = some .bool := by kernel_rfl) : AS P ρ H ⟨d, .binOp .eql t x y t2, ty, pos, af, gu⟩ ⟨.c (.sc (.bool (f == g))), [], []⟩ := a_beq hx hy ht
end
section
variable [Tb]
variable {P : Program} {ρ : Operand → Option V} {H : Nat → Option HO} {d : Option Nat} {ty : TypeId} {pos : String} {af : Array Edge} {gu : Option (Nat × Bool)} {x y : Operand} {v : V} {t e n off k i : Nat} {cs ds cs' : List C} {b : Bool}
variable {t2 : TypeId} {kd : IntKind} {p q : Int} {s u : ByteArray} {f g : Bool}
theorem u_bne (hx : Ev ρ x (.c (.sc (.bool f))) := by (first | (refine .wh rfl ?_; first | assumption | (rw [hp]; rfl) | (simp_all; done)) | exact .pl rfl)) (hy : Ev ρ y (.c (.sc (.bool g))) := by (first | (refine .wh rfl ?_; first | assumption | (rw [hp]; rfl) | (simp_all; done)) | exact .pl rfl)) (ht : P.underlying t = some .bool := by kernel_rfl) : AS P ρ H ⟨d, .binOp .neq t x y t2, ty, pos, af, gu⟩ ⟨.c (.sc (.bool (f != g))), [], []⟩ := a_bne hx hy ht
end
section
variable [Tb]
variable {P : Program} {ρ : Operand → Option V} {H : Nat → Option HO} {d : Option Nat} {ty : TypeId} {pos : String} {af : Array Edge} {gu : Option (Nat × Bool)} {x y : Operand} {v : V} {t e n off k i : Nat} {cs ds cs' : List C} {b : Bool}
variable {t2 : TypeId} {kd : IntKind} {p q : Int} {s u : ByteArray} {f g : Bool}
theorem u_add (hx : Ev ρ x (.c (.sc (.int .i64 p))) := by (first | (refine .wh rfl ?_; first | assumption | (rw [hp]; rfl) | (simp_all; done)) | exact .pl rfl)) (hy : Ev ρ y (.c (.sc (.int .i64 q))) := by (first | (refine .wh rfl ?_; first | assumption | (rw [hp]; rfl) | (simp_all; done)) | exact .pl rfl)) (h0 : -9223372036854775808 ≤ p + q := by omega) (h1 : p + q < 9223372036854775808 := by omega) : AS P ρ H ⟨d, .binOp .add t x y t2, ty, pos, af, gu⟩ ⟨.c (.sc (.int .i64 (p + q))), [], []⟩ := a_add hx hy h0 h1
end
section
variable {P : Program} {ρ : Operand → Option V} {H : Nat → Option HO} {d : Option Nat} {ty : TypeId} {pos : String} {af : Array Edge} {gu : Option (Nat × Bool)} {x y : Operand} {t t2 : TypeId} {p q : Int}
theorem u_addW (hx : Ev ρ x (.c (.sc (.int .i64 p))) := by (first | (refine .wh rfl ?_; first | assumption | (rw [hp]; rfl) | (simp_all; done)) | exact .pl rfl)) (hy : Ev ρ y (.c (.sc (.int .i64 q))) := by (first | (refine .wh rfl ?_; first | assumption | (rw [hp]; rfl) | (simp_all; done)) | exact .pl rfl)) : AS P ρ H ⟨d, .binOp .add t x y t2, ty, pos, af, gu⟩ ⟨.c (.sc (.int .i64 (IntKind.i64.wrap (p + q)))), [], []⟩ := a_addW hx hy
end
section
variable [Tb]
variable {P : Program} {ρ : Operand → Option V} {H : Nat → Option HO} {d : Option Nat} {ty : TypeId} {pos : String} {af : Array Edge} {gu : Option (Nat × Bool)} {x y : Operand} {v : V} {t e n off k i : Nat} {cs ds cs' : List C} {b : Bool}
variable {t2 : TypeId} {kd : IntKind} {p q : Int} {s u : ByteArray} {f g : Bool}
theorem u_sub (hx : Ev ρ x (.c (.sc (.int .i64 p))) := by (first | (refine .wh rfl ?_; first | assumption | (rw [hp]; rfl) | (simp_all; done)) | exact .pl rfl)) (hy : Ev ρ y (.c (.sc (.int .i64 q))) := by (first | (refine .wh rfl ?_; first | assumption | (rw [hp]; rfl) | (simp_all; done)) | exact .pl rfl)) (h0 : -9223372036854775808 ≤ p - q := by omega) (h1 : p - q < 9223372036854775808 := by omega) : AS P ρ H ⟨d, .binOp .sub t x y t2, ty, pos, af, gu⟩ ⟨.c (.sc (.int .i64 (p - q))), [], []⟩ := a_sub hx hy h0 h1
end
section
variable [Tb]
variable {P : Program} {ρ : Operand → Option V} {H : Nat → Option HO} {d : Option Nat} {ty : TypeId} {pos : String} {af : Array Edge} {gu : Option (Nat × Bool)} {x y : Operand} {v : V} {t e n off k i : Nat} {cs ds cs' : List C} {b : Bool}
variable {t2 : TypeId} {kd : IntKind} {p q : Int} {s u : ByteArray} {f g : Bool}
theorem u_cat (hx : Ev ρ x (.c (.sc (.string s))) := by (first | (refine .wh rfl ?_; first | assumption | (rw [hp]; rfl) | (simp_all; done)) | exact .pl rfl)) (hy : Ev ρ y (.c (.sc (.string u))) := by (first | (refine .wh rfl ?_; first | assumption | (rw [hp]; rfl) | (simp_all; done)) | exact .pl rfl)) (h : s.size + u.size ≤ 9223372036854775807 := by ((try simp only [ByteArray.size_append, ba_size, List.size_toArray, List.length_cons, List.length_nil]); omega)) : AS P ρ H ⟨d, .binOp .add t x y t2, ty, pos, af, gu⟩ ⟨.c (.sc (.string (s ++ u))), [], []⟩ := a_cat hx hy h
end
section
variable [Tb]
variable {P : Program} {ρ : Operand → Option V} {H : Nat → Option HO} {d : Option Nat} {ty : TypeId} {pos : String} {af : Array Edge} {gu : Option (Nat × Bool)} {x y : Operand} {v : V} {t e n off k i : Nat} {cs ds cs' : List C} {b : Bool}
theorem u_lenL {tg : Option Nat} {xs : List (List C)} (hx : Ev ρ x (.c (.lst tg k xs)) := by (first | (refine .wh rfl ?_; first | assumption | (rw [hp]; rfl) | (simp_all; done)) | exact .pl rfl)) (ht : sle P t = some (e, k) := by exact sleT_ok rfl) : AS P ρ H ⟨d, .call { callee := .builtin .len, args := #[x], argTypes := #[t] }, ty, pos, af, gu⟩ ⟨.c (.sc (.int .i64 xs.length)), [], []⟩ := a_lenL hx ht
end
section
variable [Tb]
variable {P : Program} {ρ : Operand → Option V} {H : Nat → Option HO} {d : Option Nat} {ty : TypeId} {pos : String} {af : Array Edge} {gu : Option (Nat × Bool)} {x y : Operand} {v : V} {t e n off k i : Nat} {cs ds cs' : List C} {b : Bool}
theorem u_lenN (hx : Ev ρ x (.c .nil) := by (first | (refine .wh rfl ?_; first | assumption | (rw [hp]; rfl) | (simp_all; done)) | exact .pl rfl)) (ht : sle P t = some (e, k) := by exact sleT_ok rfl) : AS P ρ H ⟨d, .call { callee := .builtin .len, args := #[x], argTypes := #[t] }, ty, pos, af, gu⟩ ⟨.c (.sc (.int .i64 0)), [], []⟩ := a_lenN hx ht
end
section
variable [Tb]
variable {P : Program} {ρ : Operand → Option V} {H : Nat → Option HO} {d : Option Nat} {ty : TypeId} {pos : String} {af : Array Edge} {gu : Option (Nat × Bool)} {x y : Operand} {v : V} {t e n off k i : Nat} {cs ds cs' : List C} {b : Bool}
variable {t2 : TypeId} {kd : IntKind} {p q : Int} {s u : ByteArray} {f g : Bool}
theorem u_lenS (hx : Ev ρ x (.c (.sc (.string s))) := by (first | (refine .wh rfl ?_; first | assumption | (rw [hp]; rfl) | (simp_all; done)) | exact .pl rfl)) (ht : P.underlying t = some .string := by kernel_rfl) : AS P ρ H ⟨d, .call { callee := .builtin .len, args := #[x], argTypes := #[t] }, ty, pos, af, gu⟩ ⟨.c (.sc (.int .i64 s.size)), [], []⟩ := a_lenS hx ht
end
section
variable [Tb]
variable {P : Program} {ρ : Operand → Option V} {H : Nat → Option HO} {d : Option Nat} {ty : TypeId} {pos : String} {af : Array Edge} {gu : Option (Nat × Bool)} {x y : Operand} {v : V} {t e n off k i : Nat} {cs ds cs' : List C} {b : Bool}
theorem u_idx {j : Nat} {ix : Operand} {tg : Option Nat} {xs : List (List C)} {kd : IntKind} {z : Int} (hx : Ev ρ x (.c (.lst tg k xs)) := by (first | (refine .wh rfl ?_; first | assumption | (rw [hp]; rfl) | (simp_all; done)) | exact .pl rfl)) (hi : Ev ρ ix (.c (.sc (.int kd z))) := by (first | (refine .wh rfl ?_; first | assumption | (rw [hp]; rfl) | (simp_all; done)) | exact .pl rfl)) (ht : sle P t = some (e, k) := by exact sleT_ok rfl) (hz : z = (j : Nat) := by rfl) (hg : xs[j]? = some cs := by first | exact mapget (by assumption) | assumption) : AS P ρ H ⟨d, .indexAddr t x ix, ty, pos, af, gu⟩ ⟨.c (.ep cs), [], []⟩ := a_idx hx hi ht hz hg
end
section
theorem u_idxO {P : Program} {ρ : Operand → Option V} {H : Nat → Option HO} {d : Option Nat} {ty : TypeId} {pos : String} {af : Array Edge} {gu : Option (Nat × Bool)} {x y : Operand} {t e k j : Nat} {tg : Option Nat} {xs : List (List C)} {kd : IntKind} {z : Int} {cs : List C} (hx : Ev ρ x (.c (.lst tg k xs)) := by (first | (refine .wh rfl ?_; first | assumption | (rw [hp]; rfl) | (simp_all; done)) | exact .pl rfl)) (hi : Ev ρ y (.c (.sc (.int kd z))) := by (first | (refine .wh rfl ?_; first | assumption | (rw [hp]; rfl) | (simp_all; done)) | exact .pl rfl)) (ht : sle P t = some (e, k) := by exact sleT_ok rfl) (hj : xs[j]? = some cs := by exact mapget (by assumption)) (hz : z = (j : Nat) := by omega) : AS P ρ H ⟨d, .indexAddr t x y, ty, pos, af, gu⟩ ⟨.c (.ep cs), [], []⟩ := a_idxO hx hi ht hj hz
end
section
variable [Tb]
variable {P : Program} {ρ : Operand → Option V} {H : Nat → Option HO} {d : Option Nat} {ty : TypeId} {pos : String} {af : Array Edge} {gu : Option (Nat × Bool)} {x y : Operand} {v : V} {t e n off k i : Nat} {cs ds cs' : List C} {b : Bool}
theorem u_ext {l : List V} (hx : Ev ρ x (.tup l) := by (first | (refine .wh rfl ?_; first | assumption | (rw [hp]; rfl) | (simp_all; done)) | exact .pl rfl)) (hl : l[i]? = some v := by rfl) : AS P ρ H ⟨d, .extract x i, ty, pos, af, gu⟩ ⟨v, [], []⟩ := a_ext hx hl
end
section
variable [Tb]
variable {P : Program} {ρ : Operand → Option V} {H : Nat → Option HO} {d : Option Nat} {ty : TypeId} {pos : String} {af : Array Edge} {gu : Option (Nat × Bool)} {x y : Operand} {v : V} {t e n off k i : Nat} {cs ds cs' : List C} {b : Bool}
theorem u_fn {f : Nat} {caps : Array Operand} {cs : List C} (hv : EvCs ρ caps.toList cs := by (first | ((repeat (first | exact .nil | ((apply EvCs.cons); (· (first | (refine .wh rfl ?_; first | assumption | (rw [hp]; rfl) | (simp_all; done)) | exact .pl rfl))))); done) | fail)) : AS P ρ H ⟨d, .makeFunc (.func f) #[] caps, ty, pos, af, gu⟩ ⟨.c (.fn f cs), [], []⟩ := a_fn hv
end
section
variable {ρ : Operand → Option V} {H : Nat → Option HO} {d : Option Nat} {ty : TypeId} {pos : String} {af : Array Edge} {gu : Option (Nat × Bool)}
theorem u_words1 {x0 : Operand} {a0 : ByteArray} (h0 : Ev ρ x0 (.c (sS a0)) := by (first | (refine .wh rfl ?_; first | assumption | (rw [hp]; rfl) | (simp_all; done)) | exact .pl rfl)) : AS Tryz.prog ρ H ⟨d, .buildSlice 43 1 #[(0, x0)], ty, pos, af, gu⟩ ⟨.c (strL [a0]), [], []⟩ := a_words1 h0
end
section
variable {ρ : Operand → Option V} {H : Nat → Option HO} {d : Option Nat} {ty : TypeId} {pos : String} {af : Array Edge} {gu : Option (Nat × Bool)}
theorem u_stm1 {x0 : Operand} {s : Stm} (h0 : Ev ρ x0 (.agg (stC s)) := by (first | (refine .wh rfl ?_; first | assumption | (rw [hp]; rfl) | (simp_all; done)) | exact .pl rfl)) : AS Tryz.prog ρ H ⟨d, .buildSlice 23 1 #[(0, x0)], ty, pos, af, gu⟩ ⟨.c (.lst none 55 ([s].map stC)), [], []⟩ := a_stm1 h0
end
section
variable {ρ : Operand → Option V} {H : Nat → Option HO} {d : Option Nat} {ty : TypeId} {pos : String} {af : Array Edge} {gu : Option (Nat × Bool)}
theorem u_lv2 {x0 x1 : Operand} {a b : Lv} (h0 : Ev ρ x0 (.agg (lvC a)) := by (first | (refine .wh rfl ?_; first | assumption | (rw [hp]; rfl) | (simp_all; done)) | exact .pl rfl)) (h1 : Ev ρ x1 (.agg (lvC b)) := by (first | (refine .wh rfl ?_; first | assumption | (rw [hp]; rfl) | (simp_all; done)) | exact .pl rfl)) : AS Tryz.prog ρ H ⟨d, .buildSlice 208 2 #[(0, x0), (1, x1)], ty, pos, af, gu⟩ ⟨.c (.lst none 2 ([a, b].map lvC)), [], []⟩ := a_lv2 h0 h1
end
section
variable {ρ : Operand → Option V} {H : Nat → Option HO} {d : Option Nat} {ty : TypeId} {pos : String} {af : Array Edge} {gu : Option (Nat × Bool)}
theorem u_words2 {x0 x1 : Operand} {a0 a1 : ByteArray} (h0 : Ev ρ x0 (.c (sS a0)) := by (first | (refine .wh rfl ?_; first | assumption | (rw [hp]; rfl) | (simp_all; done)) | exact .pl rfl)) (h1 : Ev ρ x1 (.c (sS a1)) := by (first | (refine .wh rfl ?_; first | assumption | (rw [hp]; rfl) | (simp_all; done)) | exact .pl rfl)) : AS Tryz.prog ρ H ⟨d, .buildSlice 43 2 #[(0, x0), (1, x1)], ty, pos, af, gu⟩ ⟨.c (strL [a0, a1]), [], []⟩ := a_words2 h0 h1
end
section
variable {ρ : Operand → Option V} {H : Nat → Option HO} {d : Option Nat} {ty : TypeId} {pos : String} {af : Array Edge} {gu : Option (Nat × Bool)}
theorem u_words3 {x0 x1 x2 : Operand} {a0 a1 a2 : ByteArray} (h0 : Ev ρ x0 (.c (sS a0)) := by (first | (refine .wh rfl ?_; first | assumption | (rw [hp]; rfl) | (simp_all; done)) | exact .pl rfl)) (h1 : Ev ρ x1 (.c (sS a1)) := by (first | (refine .wh rfl ?_; first | assumption | (rw [hp]; rfl) | (simp_all; done)) | exact .pl rfl)) (h2 : Ev ρ x2 (.c (sS a2)) := by (first | (refine .wh rfl ?_; first | assumption | (rw [hp]; rfl) | (simp_all; done)) | exact .pl rfl)) : AS Tryz.prog ρ H ⟨d, .buildSlice 43 3 #[(0, x0), (1, x1), (2, x2)], ty, pos, af, gu⟩ ⟨.c (strL [a0, a1, a2]), [], []⟩ := a_words3 h0 h1 h2
end
section
variable {ρ : Operand → Option V} {H : Nat → Option HO} {d : Option Nat} {ty : TypeId} {pos : String} {af : Array Edge} {gu : Option (Nat × Bool)}
theorem u_words4 {x0 x1 x2 x3 : Operand} {a0 a1 a2 a3 : ByteArray} (h0 : Ev ρ x0 (.c (sS a0)) := by (first | (refine .wh rfl ?_; first | assumption | (rw [hp]; rfl) | (simp_all; done)) | exact .pl rfl)) (h1 : Ev ρ x1 (.c (sS a1)) := by (first | (refine .wh rfl ?_; first | assumption | (rw [hp]; rfl) | (simp_all; done)) | exact .pl rfl)) (h2 : Ev ρ x2 (.c (sS a2)) := by (first | (refine .wh rfl ?_; first | assumption | (rw [hp]; rfl) | (simp_all; done)) | exact .pl rfl)) (h3 : Ev ρ x3 (.c (sS a3)) := by (first | (refine .wh rfl ?_; first | assumption | (rw [hp]; rfl) | (simp_all; done)) | exact .pl rfl)) : AS Tryz.prog ρ H ⟨d, .buildSlice 43 4 #[(0, x0), (1, x1), (2, x2), (3, x3)], ty, pos, af, gu⟩ ⟨.c (strL [a0, a1, a2, a3]), [], []⟩ := a_words4 h0 h1 h2 h3
end
section
variable {ρ : Operand → Option V} {H : Nat → Option HO} {d : Option Nat} {ty : TypeId} {pos : String} {af : Array Edge} {gu : Option (Nat × Bool)}
theorem u_words5 {x0 x1 x2 x3 x4 : Operand} {a0 a1 a2 a3 a4 : ByteArray} (h0 : Ev ρ x0 (.c (sS a0)) := by (first | (refine .wh rfl ?_; first | assumption | (rw [hp]; rfl) | (simp_all; done)) | exact .pl rfl)) (h1 : Ev ρ x1 (.c (sS a1)) := by (first | (refine .wh rfl ?_; first | assumption | (rw [hp]; rfl) | (simp_all; done)) | exact .pl rfl)) (h2 : Ev ρ x2 (.c (sS a2)) := by (first | (refine .wh rfl ?_; first | assumption | (rw [hp]; rfl) | (simp_all; done)) | exact .pl rfl)) (h3 : Ev ρ x3 (.c (sS a3)) := by (first | (refine .wh rfl ?_; first | assumption | (rw [hp]; rfl) | (simp_all; done)) | exact .pl rfl)) (h4 : Ev ρ x4 (.c (sS a4)) := by (first | (refine .wh rfl ?_; first | assumption | (rw [hp]; rfl) | (simp_all; done)) | exact .pl rfl)) : AS Tryz.prog ρ H ⟨d, .buildSlice 43 5 #[(0, x0), (1, x1), (2, x2), (3, x3), (4, x4)], ty, pos, af, gu⟩ ⟨.c (strL [a0, a1, a2, a3, a4]), [], []⟩ := a_words5 h0 h1 h2 h3 h4
end
section
variable {ρ : Operand → Option V} {H : Nat → Option HO} {d : Option Nat} {ty : TypeId} {pos : String} {af : Array Edge} {gu : Option (Nat × Bool)}
theorem u_words8 {x0 x1 x2 x3 x4 x5 x6 x7 : Operand} {a0 a1 a2 a3 a4 a5 a6 a7 : ByteArray} (h0 : Ev ρ x0 (.c (sS a0)) := by (first | (refine .wh rfl ?_; first | assumption | (rw [hp]; rfl) | (simp_all; done)) | exact .pl rfl)) (h1 : Ev ρ x1 (.c (sS a1)) := by (first | (refine .wh rfl ?_; first | assumption | (rw [hp]; rfl) | (simp_all; done)) | exact .pl rfl)) (h2 : Ev ρ x2 (.c (sS a2)) := by (first | (refine .wh rfl ?_; first | assumption | (rw [hp]; rfl) | (simp_all; done)) | exact .pl rfl)) (h3 : Ev ρ x3 (.c (sS a3)) := by (first | (refine .wh rfl ?_; first | assumption | (rw [hp]; rfl) | (simp_all; done)) | exact .pl rfl)) (h4 : Ev ρ x4 (.c (sS a4)) := by (first | (refine .wh rfl ?_; first | assumption | (rw [hp]; rfl) | (simp_all; done)) | exact .pl rfl)) (h5 : Ev ρ x5 (.c (sS a5)) := by (first | (refine .wh rfl ?_; first | assumption | (rw [hp]; rfl) | (simp_all; done)) | exact .pl rfl)) (h6 : Ev ρ x6 (.c (sS a6)) := by (first | (refine .wh rfl ?_; first | assumption | (rw [hp]; rfl) | (simp_all; done)) | exact .pl rfl)) (h7 : Ev ρ x7 (.c (sS a7)) := by (first | (refine .wh rfl ?_; first | assumption | (rw [hp]; rfl) | (simp_all; done)) | exact .pl rfl)) : AS Tryz.prog ρ H ⟨d, .buildSlice 43 8 #[(0, x0), (1, x1), (2, x2), (3, x3), (4, x4), (5, x5), (6, x6), (7, x7)], ty, pos, af, gu⟩ ⟨.c (strL [a0, a1, a2, a3, a4, a5, a6, a7]), [], []⟩ := a_words8 h0 h1 h2 h3 h4 h5 h6 h7
end
section
variable {ρ : Operand → Option V} {H : Nat → Option HO} {d : Option Nat} {ty : TypeId} {pos : String} {af : Array Edge} {gu : Option (Nat × Bool)} {x y : Operand} {t t2 : TypeId} {p q : Int}
theorem u_rem {r : Int} (hx : Ev ρ x (.c (.sc (.int .i64 p))) := by (first | (refine .wh rfl ?_; first | assumption | (rw [hp]; rfl) | (simp_all; done)) | exact .pl rfl)) (hy : Ev ρ y (.c (.sc (.int .i64 q))) := by (first | (refine .wh rfl ?_; first | assumption | (rw [hp]; rfl) | (simp_all; done)) | exact .pl rfl)) (hq : q ≠ 0 := by decide) (h1 : q ≠ -1 := by decide) (hr : Int.tmod p q = r := by assumption) (hw : IntKind.i64.wrap r = r := by exact wrap64 (by omega) (by omega)) : AS Tryz.prog ρ H ⟨d, .binOp .rem t x y t2, ty, pos, af, gu⟩ ⟨.c (.sc (.int .i64 r)), [], []⟩ := a_rem hx hy hq h1 hr hw
end
section
variable {ρ : Operand → Option V} {H : Nat → Option HO} {d : Option Nat} {ty : TypeId} {pos : String} {af : Array Edge} {gu : Option (Nat × Bool)} {x y : Operand} {t t2 : TypeId} {p q : Int}
theorem u_quo {r : Int} (hx : Ev ρ x (.c (.sc (.int .i64 p))) := by (first | (refine .wh rfl ?_; first | assumption | (rw [hp]; rfl) | (simp_all; done)) | exact .pl rfl)) (hy : Ev ρ y (.c (.sc (.int .i64 q))) := by (first | (refine .wh rfl ?_; first | assumption | (rw [hp]; rfl) | (simp_all; done)) | exact .pl rfl)) (hq : q ≠ 0 := by decide) (h1 : q ≠ -1 := by decide) (hr : Int.tdiv p q = r := by assumption) (hw : IntKind.i64.wrap r = r := by exact wrap64 (by omega) (by omega)) : AS Tryz.prog ρ H ⟨d, .binOp .quo t x y t2, ty, pos, af, gu⟩ ⟨.c (.sc (.int .i64 r)), [], []⟩ := a_quo hx hy hq h1 hr hw
end
section
variable {ρ : Operand → Option V} {H : Nat → Option HO} {d : Option Nat} {ty : TypeId} {pos : String} {af : Array Edge} {gu : Option (Nat × Bool)} {x y : Operand} {t t2 : TypeId} {p q : Int}
theorem u_substr {lo hi : Operand} {s : ByteArray} {i j : Nat} {p q : Int} (hx : Ev ρ x (.c (.sc (.string s))) := by (first | (refine .wh rfl ?_; first | assumption | (rw [hp]; rfl) | (simp_all; done)) | exact .pl rfl)) (hlo : Ev ρ lo (.c (.sc (.int .i64 p))) := by (first | (refine .wh rfl ?_; first | assumption | (rw [hp]; rfl) | (simp_all; done)) | exact .pl rfl)) (hhi : Ev ρ hi (.c (.sc (.int .i64 q))) := by (first | (refine .wh rfl ?_; first | assumption | (rw [hp]; rfl) | (simp_all; done)) | exact .pl rfl)) (hp : p = i := by rfl) (hq : q = j := by (first | exact cast1 _ | rfl)) (hij : i ≤ j := by omega) (hj : j ≤ s.size := by ((try simp only [ba_size, List.size_toArray, List.length_cons, List.length_nil]); omega)) (hs : s.size ≤ 9223372036854775807 := by ((try simp only [ba_size, List.size_toArray, List.length_cons, List.length_nil]); omega)) : AS Tryz.prog ρ H ⟨d, .slice 9 x (some lo) (some hi) none, ty, pos, af, gu⟩ ⟨.c (.sc (.string (s.extract i j))), [], []⟩ := a_substr hx hlo hhi hp hq hij hj hs
end
section
variable {ρ : Operand → Option V} {H : Nat → Option HO} {d : Option Nat} {ty : TypeId} {pos : String} {af : Array Edge} {gu : Option (Nat × Bool)} {x y : Operand} {n off ty0 : Nat} {cs cs' : List C}
theorem u_chr {i : Operand} {s : ByteArray} {kd : IntKind} {j : Nat} {c : UInt8} (hx : Ev ρ x (.c (.sc (.string s))) := by (first | (refine .wh rfl ?_; first | assumption | (rw [hp]; rfl) | (simp_all; done)) | exact .pl rfl)) (hi : Ev ρ i (.c (.sc (.int kd j))) := by (first | (refine .wh rfl ?_; first | assumption | (rw [hp]; rfl) | (simp_all; done)) | exact .pl rfl)) (hc : s.data.toList[j]? = some c := by assumption) : AS Tryz.prog ρ H ⟨d, .index 9 x i, ty, pos, af, gu⟩ ⟨.c (.sc (.int .u8 c.toNat)), [], []⟩ := a_chr hx hi hc
end
section
variable {ρ : Operand → Option V} {H : Nat → Option HO} {d : Option Nat} {ty : TypeId} {pos : String} {af : Array Edge} {gu : Option (Nat × Bool)} {x : Operand}
theorem u_byte {p : Int} (hx : Ev ρ x (.c (.sc (.int .i64 p))) := by (first | (refine .wh rfl ?_; first | assumption | (rw [hp]; rfl) | (simp_all; done)) | exact .pl rfl)) (h0 : 0 ≤ p := by omega) (h1 : p < 256 := by omega) : AS Tryz.prog ρ H ⟨d, .convert 3 5 x, ty, pos, af, gu⟩ ⟨.c (.sc (.int .u8 p)), [], []⟩ := a_byte hx h0 h1
end
section
variable {ρ : Operand → Option V} {H : Nat → Option HO} {d : Option Nat} {ty : TypeId} {pos : String} {af : Array Edge} {gu : Option (Nat × Bool)} {x : Operand}
theorem u_u8one {x0 : Operand} {c : UInt8} {p : Int} (h0 : Ev ρ x0 (.c (.sc (.int .u8 p))) := by (first | (refine .wh rfl ?_; first | assumption | (rw [hp]; rfl) | (simp_all; done)) | exact .pl rfl)) (hp : p = c.toNat := by assumption) : AS Tryz.prog ρ H ⟨d, .buildSlice 117 1 #[(0, x0)], ty, pos, af, gu⟩ ⟨.c (.lst none 1 (u8L [c])), [], []⟩ := a_u8one h0 hp
end
section
variable {ρ : Operand → Option V} {H : Nat → Option HO} {d : Option Nat} {ty : TypeId} {pos : String} {af : Array Edge} {gu : Option (Nat × Bool)} {x : Operand}
theorem u_bytes {t : Option Nat} {l : List UInt8} (hx : Ev ρ x (.c (.lst t 1 (u8L l))) := by (first | (refine .wh rfl ?_; first | assumption | (rw [hp]; rfl) | (simp_all; done)) | exact .pl rfl)) (h0 : 0 < l.length := by simp only [List.length_cons, List.length_nil]; omega) (hl : l.length ≤ 9223372036854775807 := by simp only [List.length_cons, List.length_nil]; omega) : AS Tryz.prog ρ H ⟨d, .convert 117 9 x, ty, pos, af, gu⟩ ⟨.c (sS ⟨l.toArray⟩), [], []⟩ := a_bytes hx h0 hl
end
section
variable {P : Program} {ρ : Operand → Option V} {H : Nat → Option HO} {d : Option Nat} {ty : TypeId} {pos : String} {af : Array Edge} {gu : Option (Nat × Bool)} {x y z : Operand} {p q r : Int} {t1 t2 t3 : TypeId}
theorem u_max3 {m : Int} (hx : Ev ρ x (.c (.sc (.int .i64 p))) := by (first | (refine .wh rfl ?_; first | assumption | (rw [hp]; rfl) | (simp_all; done)) | exact .pl rfl)) (hy : Ev ρ y (.c (.sc (.int .i64 q))) := by (first | (refine .wh rfl ?_; first | assumption | (rw [hp]; rfl) | (simp_all; done)) | exact .pl rfl)) (hz : Ev ρ z (.c (.sc (.int .i64 r))) := by (first | (refine .wh rfl ?_; first | assumption | (rw [hp]; rfl) | (simp_all; done)) | exact .pl rfl)) (hm : max (max p q) r = m := by (first | assumption | rfl)) : AS P ρ H ⟨d, .call { callee := .builtin .max, args := #[x, y, z], argTypes := #[t1, t2, t3] }, ty, pos, af, gu⟩ ⟨.c (.sc (.int .i64 m)), [], []⟩ := a_max3 hx hy hz hm
end
section
variable {ρ : Operand → Option V} {H : Nat → Option HO} {d : Option Nat} {ty : TypeId} {pos : String} {af : Array Edge} {gu : Option (Nat × Bool)} {x y : Operand}
theorem u_rune {c : UInt8} (hx : Ev ρ x (.c (.sc (.int .u8 c.toNat))) := by (first | (refine .wh rfl ?_; first | assumption | (rw [hp]; rfl) | (simp_all; done)) | exact .pl rfl)) : AS Tryz.prog ρ H ⟨d, .convert 5 21 x, ty, pos, af, gu⟩ ⟨.c (.sc (.int .i32 c.toNat)), [], []⟩ := a_rune hx
end
section
variable {ρ : Operand → Option V} {H : Nat → Option HO} {d : Option Nat} {ty t2 : TypeId} {pos : String} {af : Array Edge} {gu : Option (Nat × Bool)} {x y : Operand}
theorem u_neSp {a b : Sp} (hx : Ev ρ x (.agg (spC a)) := by (first | (refine .wh rfl ?_; first | assumption | (rw [hp]; rfl) | (simp_all; done)) | exact .pl rfl)) (hy : Ev ρ y (.agg (spC b)) := by (first | (refine .wh rfl ?_; first | assumption | (rw [hp]; rfl) | (simp_all; done)) | exact .pl rfl)) : AS Tryz.prog ρ H ⟨d, .binOp .neq 170 x y t2, ty, pos, af, gu⟩ ⟨.c (sB (!decide (a = b))), [], []⟩ := a_neSp hx hy
end
section
variable {ρ : Operand → Option V} {H : Nat → Option HO} {d : Option Nat} {ty t2 : TypeId} {pos : String} {af : Array Edge} {gu : Option (Nat × Bool)} {x y : Operand}
theorem u_eqSe {a b : Se} (hx : Ev ρ x (.agg (seC a)) := by (first | (refine .wh rfl ?_; first | assumption | (rw [hp]; rfl) | (simp_all; done)) | exact .pl rfl)) (hy : Ev ρ y (.agg (seC b)) := by (first | (refine .wh rfl ?_; first | assumption | (rw [hp]; rfl) | (simp_all; done)) | exact .pl rfl)) : AS Tryz.prog ρ H ⟨d, .binOp .eql 46 x y t2, ty, pos, af, gu⟩ ⟨.c (sB (Se.eqB a b)), [], []⟩ := a_eqSe hx hy
end
section
variable {ρ : Operand → Option V} {H : Nat → Option HO} {d : Option Nat} {ty t2 : TypeId} {pos : String} {af : Array Edge} {gu : Option (Nat × Bool)} {x y : Operand}
theorem u_neSe {a b : Se} (hx : Ev ρ x (.agg (seC a)) := by (first | (refine .wh rfl ?_; first | assumption | (rw [hp]; rfl) | (simp_all; done)) | exact .pl rfl)) (hy : Ev ρ y (.agg (seC b)) := by (first | (refine .wh rfl ?_; first | assumption | (rw [hp]; rfl) | (simp_all; done)) | exact .pl rfl)) : AS Tryz.prog ρ H ⟨d, .binOp .neq 46 x y t2, ty, pos, af, gu⟩ ⟨.c (sB (!Se.eqB a b)), [], []⟩ := a_neSe hx hy
end
section
theorem u_build0T {ρ : Operand → Option V} {H : Nat → Option HO} {d : Option Nat} {ty : TypeId} {pos : String} {af : Array Edge} {gu : Option (Nat × Bool)} {t : Nat} {zs : List C} (hz : Zw Tryz.prog t zs := by exact zwT_ok rfl) (hp : (places Tryz.prog t).isSome = true := by decide +kernel) : AS Tryz.prog ρ H ⟨d, .build t #[], ty, pos, af, gu⟩ ⟨.agg zs, [], []⟩ := a_build0T hz hp
end
section
theorem u_buildT {ρ : Operand → Option V} {H : Nat → Option HO} {d : Option Nat} {ty : TypeId} {pos : String} {af : Array Edge} {gu : Option (Nat × Bool)} {t : Nat} {parts : Array (Nat × Operand)} {zs cs : List C} {ps : List (Nat × List C)} (hz : Zw Tryz.prog t zs := by exact zwT_ok rfl) (hp : (places Tryz.prog t).isSome = true := by decide +kernel) (hs : (match Tryz.prog.underlying t with | some (.struct _) => true | _ => false) = true := by kernel_rfl) (hv : EvP ρ parts.toList ps := by (first | ((repeat (first | exact .nil | ((apply EvP.cons); (· (first | (refine .wh rfl ?_; first | assumption | (rw [hp]; rfl) | (simp_all; done)) | exact .pl rfl)); (· rfl)))); done) | fail)) (hf : fillC (plT t) zs ps = some cs := by rfl) : AS Tryz.prog ρ H ⟨d, .build t parts, ty, pos, af, gu⟩ ⟨.agg cs, [], []⟩ := a_buildT hz hp hs hv hf
end
section
variable {P : Program} {ρ : Operand → Option V} {H : Nat → Option HO} {d : Option Nat} {ty : TypeId} {pos : String} {af : Array Edge} {gu : Option (Nat × Bool)} {x y : Operand} {t t1 t2 : TypeId} {p q : Int}
theorem u_mulW (hx : Ev ρ x (.c (.sc (.int .i64 p))) := by (first | (refine .wh rfl ?_; first | assumption | (rw [hp]; rfl) | (simp_all; done)) | exact .pl rfl)) (hy : Ev ρ y (.c (.sc (.int .i64 q))) := by (first | (refine .wh rfl ?_; first | assumption | (rw [hp]; rfl) | (simp_all; done)) | exact .pl rfl)) : AS P ρ H ⟨d, .binOp .mul t x y t2, ty, pos, af, gu⟩ ⟨.c (.sc (.int .i64 (IntKind.i64.wrap (p * q)))), [], []⟩ := a_mulW hx hy
end
section
variable {P : Program} {ρ : Operand → Option V} {H : Nat → Option HO} {d : Option Nat} {ty : TypeId} {pos : String} {af : Array Edge} {gu : Option (Nat × Bool)} {x y : Operand} {t t1 t2 : TypeId} {p q : Int}
theorem u_max2 (hx : Ev ρ x (.c (.sc (.int .i64 p))) := by (first | (refine .wh rfl ?_; first | assumption | (rw [hp]; rfl) | (simp_all; done)) | exact .pl rfl)) (hy : Ev ρ y (.c (.sc (.int .i64 q))) := by (first | (refine .wh rfl ?_; first | assumption | (rw [hp]; rfl) | (simp_all; done)) | exact .pl rfl)) : AS P ρ H ⟨d, .call { callee := .builtin .max, args := #[x, y], argTypes := #[t1, t2] }, ty, pos, af, gu⟩ ⟨.c (.sc (.int .i64 (max p q))), [], []⟩ := a_max2 hx hy
end
section
variable {ρ : Operand → Option V} {H : Nat → Option HO} {d : Option Nat} {ty t2 : TypeId} {pos : String} {af : Array Edge} {gu : Option (Nat × Bool)} {x y : Operand}
theorem u_neNil (hx : Ev ρ x (.c (.sc .nilIface)) := by (first | (refine .wh rfl ?_; first | assumption | (rw [hp]; rfl) | (simp_all; done)) | exact .pl rfl)) (hy : Ev ρ (.const .nilIface) (.c (.sc .nilIface)) := by (first | (refine .wh rfl ?_; first | assumption | (rw [hp]; rfl) | (simp_all; done)) | exact .pl rfl)) : AS Tryz.prog ρ H ⟨d, .binOp .neq 134 x (.const .nilIface) t2, ty, pos, af, gu⟩ ⟨.c (sB false), [], []⟩ := a_neNil hx hy
end
section
variable {P : Program} {ρ : Operand → Option V} {H : Nat → Option HO} {d : Option Nat} {ty : TypeId} {pos : String} {af : Array Edge} {gu : Option (Nat × Bool)} {x y : Operand} {t t1 t2 : TypeId} {p q : Int}
theorem u_mkF {f : Fa} (hx : Ev ρ x (.agg (faC f)) := by (first | (refine .wh rfl ?_; first | assumption | (rw [hp]; rfl) | (simp_all; done)) | exact .pl rfl)) (ht : (match P.underlying t with | some (.struct _) => true | _ => false) = true := by kernel_rfl) : AS P ρ H ⟨d, .makeInterface t x, ty, pos, af, gu⟩ ⟨.c (.sc (pvF t f)), [], []⟩ := a_mkF hx ht
end
section
variable {P : Program} {ρ : Operand → Option V} {H : Nat → Option HO} {d : Option Nat} {ty : TypeId} {pos : String} {af : Array Edge} {gu : Option (Nat × Bool)} {x y : Operand} {t t1 t2 : TypeId} {p q : Int}
theorem u_sufL {α : Type} {e k i : Nat} {tg : Option Nat} {f : α → List C} {xs : List α} {z : Int} (hx : Ev ρ x (.c (.lst tg k (xs.map f))) := by (first | (refine .wh rfl ?_; first | assumption | (rw [hp]; rfl) | (simp_all; done)) | exact .pl rfl)) (hi : Ev ρ y (.c (.sc (.int .i64 z))) := by (first | (refine .wh rfl ?_; first | assumption | (rw [hp]; rfl) | (simp_all; done)) | exact .pl rfl)) (ht : sle P t = some (e, k) := by exact sleT_ok rfl) (hz : z = (i : Nat) := by rfl) (hl : i ≤ xs.length := by omega) : AS P ρ H ⟨d, .slice t x (some y) none none, ty, pos, af, gu⟩ ⟨.c (.lst none k ((xs.drop i).map f)), [], []⟩ := a_sufL hx hi ht hz hl
end
section
variable {ρ : Operand → Option V} {H : Nat → Option HO} {d : Option Nat} {ty : TypeId} {pos : String} {af : Array Edge} {gu : Option (Nat × Bool)}
theorem u_appS {x y : Operand} {τ m : Nat} {tg : Option Nat} {l1 l2 : List ByteArray} (hx : Ev ρ x (.c (.lst (some τ) 1 (l1.map oneS))) := by (first | (refine .wh rfl ?_; first | assumption | (rw [hp]; rfl) | (simp_all; done)) | exact .pl rfl)) (hh : H τ = some (.row 9 1 m) := by rfl) (hm : l1.length = m := by rfl) (hy : Ev ρ y (.c (.lst tg 1 (l2.map oneS))) := by (first | (refine .wh rfl ?_; first | assumption | (rw [hp]; rfl) | (simp_all; done)) | exact .pl rfl)) (h1 : (l1 ++ l2).length ≤ 8796093022208 := by ((try simp only [List.length_append, List.length_map, List.length_cons, List.length_nil]); omega)) : AS Tryz.prog ρ H ⟨d, .call { callee := .builtin .append, args := #[x, y], argTypes := #[43, 43] }, ty, pos, af, gu⟩ ⟨.c (.lst (some τ) 1 ((l1 ++ l2).map oneS)), [(τ, .row 9 1 (l1 ++ l2).length)], [τ]⟩ := a_appS hx hh hm hy h1
end
section
theorem u_allocW {ρ : Operand → Option V} {H : Nat → Option HO} {ty : TypeId} {pos : String} {af : Array Edge} {gu : Option (Nat × Bool)} {t : Nat} (hn : H t = none := by rfl) : AS Tryz.prog ρ H ⟨some t, .alloc 121, ty, pos, af, gu⟩ ⟨.c (.ptr t 0), [(t, bldS ⟨#[]⟩)], [t]⟩ := a_allocW hn
end
section
variable [Tb]
variable {P : Program} {ρ : Operand → Option V} {H : Nat → Option HO} {d : Option Nat} {ty : TypeId} {pos : String} {af : Array Edge} {gu : Option (Nat × Bool)} {x y : Operand} {v : V} {t e n off k i : Nat} {cs ds cs' : List C} {b : Bool}
theorem u_boxA (hn : H t = none := by rfl) (hx : Ev ρ x (.agg cs) := by (first | (refine .wh rfl ?_; first | assumption | (rw [hp]; rfl) | (simp_all; done)) | exact .pl rfl)) : AS P ρ H ⟨some t, .box e x, ty, pos, af, gu⟩ ⟨.c (.ptr t 0), [(t, .obj e cs)], [t]⟩ := a_boxA hn hx
end
section
variable [Tb]
variable {P : Program} {ρ : Operand → Option V} {H : Nat → Option HO} {d : Option Nat} {ty : TypeId} {pos : String} {af : Array Edge} {gu : Option (Nat × Bool)} {x y : Operand} {v : V} {t e n off k i : Nat} {cs ds cs' : List C} {b : Bool}
theorem u_boxC {c : C} (hn : H t = none := by rfl) (hx : Ev ρ x (.c c) := by (first | (refine .wh rfl ?_; first | assumption | (rw [hp]; rfl) | (simp_all; done)) | exact .pl rfl)) : AS P ρ H ⟨some t, .box e x, ty, pos, af, gu⟩ ⟨.c (.ptr t 0), [(t, .obj e [c])], [t]⟩ := a_boxC hn hx
end
section
variable [Tb]
variable {P : Program} {ρ : Operand → Option V} {H : Nat → Option HO} {d : Option Nat} {ty : TypeId} {pos : String} {af : Array Edge} {gu : Option (Nat × Bool)} {x y : Operand} {v : V} {t e n off k i : Nat} {cs ds cs' : List C} {b : Bool}
theorem u_alloc (hn : H t = none := by rfl) (hz : Zw P e cs := by exact zwT_ok rfl) : AS P ρ H ⟨some t, .alloc e, ty, pos, af, gu⟩ ⟨.c (.ptr t 0), [(t, .obj e cs)], [t]⟩ := a_alloc hn hz
end
section
variable {ρ : Operand → Option V} {H : Nat → Option HO} {d : Option Nat} {ty t2 : TypeId} {pos : String} {af : Array Edge} {gu : Option (Nat × Bool)} {x y : Operand}
theorem u_app23 {τ m : Nat} {tg : Option Nat} {l1 l2 : List Stm} (hx : Ev ρ x (.c (.lst (some τ) 55 (l1.map stC))) := by (first | (refine .wh rfl ?_; first | assumption | (rw [hp]; rfl) | (simp_all; done)) | exact .pl rfl)) (hh : H τ = some (.row 69 55 m) := by rfl) (hm : l1.length = m := by rfl) (hy : Ev ρ y (.c (.lst tg 55 (l2.map stC))) := by (first | (refine .wh rfl ?_; first | assumption | (rw [hp]; rfl) | (simp_all; done)) | exact .pl rfl)) (h1 : (l1 ++ l2).length ≤ 4294967296 := by ((try simp only [List.length_append, List.length_map, List.length_cons, List.length_nil]); omega)) : AS Tryz.prog ρ H ⟨d, .call { callee := .builtin .append, args := #[x, y], argTypes := #[23, 23] }, ty, pos, af, gu⟩ ⟨.c (.lst (some τ) 55 ((l1 ++ l2).map stC)), [(τ, .row 69 55 (l1 ++ l2).length)], [τ]⟩ := a_app23 hx hh hm hy h1
end
section
variable {ρ : Operand → Option V} {H : Nat → Option HO} {d : Option Nat} {ty t2 : TypeId} {pos : String} {af : Array Edge} {gu : Option (Nat × Bool)} {x y : Operand}
theorem u_app36 {τ m : Nat} {tg : Option Nat} {l1 l2 : List Tok} (hx : Ev ρ x (.c (.lst (some τ) 4 (l1.map tkC))) := by (first | (refine .wh rfl ?_; first | assumption | (rw [hp]; rfl) | (simp_all; done)) | exact .pl rfl)) (hh : H τ = some (.row 99 4 m) := by rfl) (hm : l1.length = m := by rfl) (hy : Ev ρ y (.c (.lst tg 4 (l2.map tkC))) := by (first | (refine .wh rfl ?_; first | assumption | (rw [hp]; rfl) | (simp_all; done)) | exact .pl rfl)) (h1 : (l1 ++ l2).length ≤ 4294967296 := by ((try simp only [List.length_append, List.length_map, List.length_cons, List.length_nil]); omega)) : AS Tryz.prog ρ H ⟨d, .call { callee := .builtin .append, args := #[x, y], argTypes := #[36, 36] }, ty, pos, af, gu⟩ ⟨.c (.lst (some τ) 4 ((l1 ++ l2).map tkC)), [(τ, .row 99 4 (l1 ++ l2).length)], [τ]⟩ := a_app36 hx hh hm hy h1
end
section
variable {ρ : Operand → Option V} {H : Nat → Option HO} {d : Option Nat} {ty t2 : TypeId} {pos : String} {af : Array Edge} {gu : Option (Nat × Bool)} {x y : Operand}
theorem u_app61 {τ m : Nat} {tg : Option Nat} {l1 l2 : List Sp} (hx : Ev ρ x (.c (.lst (some τ) 2 (l1.map spC))) := by (first | (refine .wh rfl ?_; first | assumption | (rw [hp]; rfl) | (simp_all; done)) | exact .pl rfl)) (hh : H τ = some (.row 170 2 m) := by rfl) (hm : l1.length = m := by rfl) (hy : Ev ρ y (.c (.lst tg 2 (l2.map spC))) := by (first | (refine .wh rfl ?_; first | assumption | (rw [hp]; rfl) | (simp_all; done)) | exact .pl rfl)) (h1 : (l1 ++ l2).length ≤ 4294967296 := by ((try simp only [List.length_append, List.length_map, List.length_cons, List.length_nil]); omega)) : AS Tryz.prog ρ H ⟨d, .call { callee := .builtin .append, args := #[x, y], argTypes := #[61, 61] }, ty, pos, af, gu⟩ ⟨.c (.lst (some τ) 2 ((l1 ++ l2).map spC)), [(τ, .row 170 2 (l1 ++ l2).length)], [τ]⟩ := a_app61 hx hh hm hy h1
end
section
variable {ρ : Operand → Option V} {H : Nat → Option HO} {d : Option Nat} {ty : TypeId} {pos : String} {af : Array Edge} {gu : Option (Nat × Bool)} {x y : Operand} {n off ty0 : Nat} {cs cs' : List C}
theorem u_storeNs (hx : Ev ρ x (.c (.ptr n off)) := by (first | (refine .wh rfl ?_; first | assumption | (rw [hp]; rfl) | (simp_all; done)) | exact .pl rfl)) (hh : H n = some (.obj ty0 cs) := by rfl) (hy : ρ y = some (.c .nil) := by rfl) (hs : setV cs off [strL ([] : List ByteArray)] = some cs' := by (simp only [setA]; rfl)) : AS Tryz.prog ρ H ⟨d, .store 43 x y, ty, pos, af, gu⟩ ⟨undV, [(n, .obj ty0 cs')], [n]⟩ := a_storeNs hx hh hy hs
end
section
variable {ρ : Operand → Option V} {H : Nat → Option HO} {d : Option Nat} {ty : TypeId} {pos : String} {af : Array Edge} {gu : Option (Nat × Bool)} {x y : Operand} {n off ty0 : Nat} {cs cs' : List C}
theorem u_storeNx (hx : Ev ρ x (.c (.ptr n off)) := by (first | (refine .wh rfl ?_; first | assumption | (rw [hp]; rfl) | (simp_all; done)) | exact .pl rfl)) (hh : H n = some (.obj ty0 cs) := by rfl) (hy : ρ y = some (.c .nil) := by rfl) (hs : setV cs off [.lst none 55 (([] : List Stm).map stC)] = some cs' := by (simp only [setA]; rfl)) : AS Tryz.prog ρ H ⟨d, .store 23 x y, ty, pos, af, gu⟩ ⟨undV, [(n, .obj ty0 cs')], [n]⟩ := a_storeNx hx hh hy hs
end
section
variable [Tb]
variable {P : Program} {ρ : Operand → Option V} {H : Nat → Option HO} {d : Option Nat} {ty : TypeId} {pos : String} {af : Array Edge} {gu : Option (Nat × Bool)} {x y : Operand} {v : V} {t e n off k i : Nat} {cs ds cs' : List C} {b : Bool}
theorem u_storeA {ty0 : Nat} (hx : Ev ρ x (.c (.ptr n off)) := by (first | (refine .wh rfl ?_; first | assumption | (rw [hp]; rfl) | (simp_all; done)) | exact .pl rfl)) (hh : H n = some (.obj ty0 cs) := by rfl) (hy : Ev ρ y (.agg ds) := by (first | (refine .wh rfl ?_; first | assumption | (rw [hp]; rfl) | (simp_all; done)) | exact .pl rfl)) (ht : tyi P e = some (k, b) := by exact tyT_ok rfl) (hl : ds.length = k := by (first | rfl | simp only [lenA])) (hs : setV cs off ds = some cs' := by (first | (simp only [setA]; rfl) | rfl)) : AS P ρ H ⟨d, .store e x y, ty, pos, af, gu⟩ ⟨undV, [(n, .obj ty0 cs')], [n]⟩ := a_storeA hx hh hy ht hl hs
end
section
variable [Tb]
variable {P : Program} {ρ : Operand → Option V} {H : Nat → Option HO} {d : Option Nat} {ty : TypeId} {pos : String} {af : Array Edge} {gu : Option (Nat × Bool)} {x y : Operand} {v : V} {t e n off k i : Nat} {cs ds cs' : List C} {b : Bool}
theorem u_storeC {ty0 : Nat} {c : C} (hx : Ev ρ x (.c (.ptr n off)) := by (first | (refine .wh rfl ?_; first | assumption | (rw [hp]; rfl) | (simp_all; done)) | exact .pl rfl)) (hh : H n = some (.obj ty0 cs) := by rfl) (hy : Ev ρ y (.c c) := by (first | (refine .wh rfl ?_; first | assumption | (rw [hp]; rfl) | (simp_all; done)) | exact .pl rfl)) (ht : tyi P e = some (1, b) := by exact tyT_ok rfl) (hs : setV cs off [c] = some cs' := by (first | (simp only [setA]; rfl) | rfl)) : AS P ρ H ⟨d, .store e x y, ty, pos, af, gu⟩ ⟨undV, [(n, .obj ty0 cs')], [n]⟩ := a_storeC hx hh hy ht hs
end
section
variable {ρ : Operand → Option V} {H : Nat → Option HO} {d : Option Nat} {ty t2 : TypeId} {pos : String} {af : Array Edge} {gu : Option (Nat × Bool)} {x y : Operand}
end
section
variable {ρ : Operand → Option V} {H : Nat → Option HO} {d : Option Nat} {ty t2 : TypeId} {pos : String} {af : Array Edge} {gu : Option (Nat × Bool)} {x y : Operand}
end
section
variable {ρ : Operand → Option V} {H : Nat → Option HO} {d : Option Nat} {ty t2 : TypeId} {pos : String} {af : Array Edge} {gu : Option (Nat × Bool)} {x y : Operand}
end
section
variable {ρ : Operand → Option V} {H : Nat → Option HO} {d : Option Nat} {ty t2 : TypeId} {pos : String} {af : Array Edge} {gu : Option (Nat × Bool)} {x y : Operand}
end
section
variable {ρ : Operand → Option V} {H : Nat → Option HO} {d : Option Nat} {ty t2 : TypeId} {pos : String} {af : Array Edge} {gu : Option (Nat × Bool)} {x y : Operand}
theorem u_rowS {t : Nat} {x0 : Operand} {a0 : ByteArray} (hn : H t = none := by rfl) (h0 : Ev ρ x0 (.c (sS a0)) := by (first | (refine .wh rfl ?_; first | assumption | (rw [hp]; rfl) | (simp_all; done)) | exact .pl rfl)) : AS Tryz.prog ρ H ⟨some t, .buildSlice 43 1 #[(0, x0)], ty, pos, af, gu⟩ ⟨.c (.lst (some t) 1 ([a0].map oneS)), [(t, .row 9 1 [a0].length)], [t]⟩ := a_rowS hn h0
end
section
variable {ρ : Operand → Option V} {H : Nat → Option HO} {d : Option Nat} {ty t2 : TypeId} {pos : String} {af : Array Edge} {gu : Option (Nat × Bool)} {x y : Operand}
theorem u_allocN {t : Nat} (hn : H t = none := by rfl) : AS Tryz.prog ρ H ⟨some t, .alloc 60, ty, pos, af, gu⟩ ⟨.c (.ptr t 0), [(t, .obj 60 [sB false, sB false, sB false, .nil, .nil])], [t]⟩ := a_allocN hn
end
section
variable {ρ : Operand → Option V} {H : Nat → Option HO} {d : Option Nat} {ty t2 : TypeId} {pos : String} {af : Array Edge} {gu : Option (Nat × Bool)} {x y : Operand}
theorem u_buildL {x0 : Operand} {y0 : ByteArray} (h0 : Ev ρ x0 (.c (sS y0)) := by (first | (refine .wh rfl ?_; first | assumption | (rw [hp]; rfl) | (simp_all; done)) | exact .pl rfl)) : AS Tryz.prog ρ H ⟨d, .build 63 #[(0, x0)], ty, pos, af, gu⟩ ⟨.agg [sS y0, .nil], [], []⟩ := a_buildL h0
end
theorem h_load {P : Program} {ρ : Operand → Option V} {H : Nat → Option HO} {d : Option Nat} {ty : TypeId} {pos : String} {af : Array Edge} {gu : Option (Nat × Bool)} {x : Operand} {e : TypeId} {r : Eff} (h : AS P ρ H ⟨d, .load e x, ty, pos, af, gu⟩ r) : AS P ρ H ⟨d, .load e x, ty, pos, af, gu⟩ r := h
theorem h_fieldAddr {P : Program} {ρ : Operand → Option V} {H : Nat → Option HO} {d : Option Nat} {ty : TypeId} {pos : String} {af : Array Edge} {gu : Option (Nat × Bool)} {x : Operand} {e : TypeId} {f : _} {r : Eff} (h : AS P ρ H ⟨d, .fieldAddr e x f, ty, pos, af, gu⟩ r) : AS P ρ H ⟨d, .fieldAddr e x f, ty, pos, af, gu⟩ r := h
theorem h_move {P : Program} {ρ : Operand → Option V} {H : Nat → Option HO} {d : Option Nat} {ty : TypeId} {pos : String} {af : Array Edge} {gu : Option (Nat × Bool)} {x : Operand} {r : Eff} (h : AS P ρ H ⟨d, .move x, ty, pos, af, gu⟩ r) : AS P ρ H ⟨d, .move x, ty, pos, af, gu⟩ r := h
theorem h_pick {P : Program} {ρ : Operand → Option V} {H : Nat → Option HO} {d : Option Nat} {ty : TypeId} {pos : String} {af : Array Edge} {gu : Option (Nat × Bool)} {x : Operand} {y : Operand} {z : Operand} {r : Eff} (h : AS P ρ H ⟨d, .pick x y z, ty, pos, af, gu⟩ r) : AS P ρ H ⟨d, .pick x y z, ty, pos, af, gu⟩ r := h
theorem h_assign {P : Program} {ρ : Operand → Option V} {H : Nat → Option HO} {d : Option Nat} {ty : TypeId} {pos : String} {af : Array Edge} {gu : Option (Nat × Bool)} {x : Operand} {r : Eff} (h : AS P ρ H ⟨d, .assign x, ty, pos, af, gu⟩ r) : AS P ρ H ⟨d, .assign x, ty, pos, af, gu⟩ r := h
theorem h_build {P : Program} {ρ : Operand → Option V} {H : Nat → Option HO} {d : Option Nat} {ty : TypeId} {pos : String} {af : Array Edge} {gu : Option (Nat × Bool)} {e : TypeId} {a : _} {r : Eff} (h : AS P ρ H ⟨d, .build e a, ty, pos, af, gu⟩ r) : AS P ρ H ⟨d, .build e a, ty, pos, af, gu⟩ r := h
theorem h_buildSlice {P : Program} {ρ : Operand → Option V} {H : Nat → Option HO} {d : Option Nat} {ty : TypeId} {pos : String} {af : Array Edge} {gu : Option (Nat × Bool)} {e : TypeId} {a : _} {b : _} {r : Eff} (h : AS P ρ H ⟨d, .buildSlice e a b, ty, pos, af, gu⟩ r) : AS P ρ H ⟨d, .buildSlice e a b, ty, pos, af, gu⟩ r := h
theorem h_nilCheck {P : Program} {ρ : Operand → Option V} {H : Nat → Option HO} {d : Option Nat} {ty : TypeId} {pos : String} {af : Array Edge} {gu : Option (Nat × Bool)} {x : Operand} {r : Eff} (h : AS P ρ H ⟨d, .nilCheck x, ty, pos, af, gu⟩ r) : AS P ρ H ⟨d, .nilCheck x, ty, pos, af, gu⟩ r := h
theorem h_field {P : Program} {ρ : Operand → Option V} {H : Nat → Option HO} {d : Option Nat} {ty : TypeId} {pos : String} {af : Array Edge} {gu : Option (Nat × Bool)} {x : Operand} {e : TypeId} {f : _} {r : Eff} (h : AS P ρ H ⟨d, .field e x f, ty, pos, af, gu⟩ r) : AS P ρ H ⟨d, .field e x f, ty, pos, af, gu⟩ r := h
theorem h_binOpeql {P : Program} {ρ : Operand → Option V} {H : Nat → Option HO} {d : Option Nat} {ty : TypeId} {pos : String} {af : Array Edge} {gu : Option (Nat × Bool)} {x : Operand} {y : Operand} {e : TypeId} {a : _} {r : Eff} (h : AS P ρ H ⟨d, .binOp .eql e x y a, ty, pos, af, gu⟩ r) : AS P ρ H ⟨d, .binOp .eql e x y a, ty, pos, af, gu⟩ r := h
theorem h_binOpneq {P : Program} {ρ : Operand → Option V} {H : Nat → Option HO} {d : Option Nat} {ty : TypeId} {pos : String} {af : Array Edge} {gu : Option (Nat × Bool)} {x : Operand} {y : Operand} {e : TypeId} {a : _} {r : Eff} (h : AS P ρ H ⟨d, .binOp .neq e x y a, ty, pos, af, gu⟩ r) : AS P ρ H ⟨d, .binOp .neq e x y a, ty, pos, af, gu⟩ r := h
theorem h_binOplss {P : Program} {ρ : Operand → Option V} {H : Nat → Option HO} {d : Option Nat} {ty : TypeId} {pos : String} {af : Array Edge} {gu : Option (Nat × Bool)} {x : Operand} {y : Operand} {e : TypeId} {a : _} {r : Eff} (h : AS P ρ H ⟨d, .binOp .lss e x y a, ty, pos, af, gu⟩ r) : AS P ρ H ⟨d, .binOp .lss e x y a, ty, pos, af, gu⟩ r := h
theorem h_binOpleq {P : Program} {ρ : Operand → Option V} {H : Nat → Option HO} {d : Option Nat} {ty : TypeId} {pos : String} {af : Array Edge} {gu : Option (Nat × Bool)} {x : Operand} {y : Operand} {e : TypeId} {a : _} {r : Eff} (h : AS P ρ H ⟨d, .binOp .leq e x y a, ty, pos, af, gu⟩ r) : AS P ρ H ⟨d, .binOp .leq e x y a, ty, pos, af, gu⟩ r := h
theorem h_binOpgtr {P : Program} {ρ : Operand → Option V} {H : Nat → Option HO} {d : Option Nat} {ty : TypeId} {pos : String} {af : Array Edge} {gu : Option (Nat × Bool)} {x : Operand} {y : Operand} {e : TypeId} {a : _} {r : Eff} (h : AS P ρ H ⟨d, .binOp .gtr e x y a, ty, pos, af, gu⟩ r) : AS P ρ H ⟨d, .binOp .gtr e x y a, ty, pos, af, gu⟩ r := h
theorem h_binOpgeq {P : Program} {ρ : Operand → Option V} {H : Nat → Option HO} {d : Option Nat} {ty : TypeId} {pos : String} {af : Array Edge} {gu : Option (Nat × Bool)} {x : Operand} {y : Operand} {e : TypeId} {a : _} {r : Eff} (h : AS P ρ H ⟨d, .binOp .geq e x y a, ty, pos, af, gu⟩ r) : AS P ρ H ⟨d, .binOp .geq e x y a, ty, pos, af, gu⟩ r := h
theorem h_unOp {P : Program} {ρ : Operand → Option V} {H : Nat → Option HO} {d : Option Nat} {ty : TypeId} {pos : String} {af : Array Edge} {gu : Option (Nat × Bool)} {x : Operand} {e : TypeId} {o : _} {r : Eff} (h : AS P ρ H ⟨d, .unOp o e x, ty, pos, af, gu⟩ r) : AS P ρ H ⟨d, .unOp o e x, ty, pos, af, gu⟩ r := h
theorem h_binOpadd {P : Program} {ρ : Operand → Option V} {H : Nat → Option HO} {d : Option Nat} {ty : TypeId} {pos : String} {af : Array Edge} {gu : Option (Nat × Bool)} {x : Operand} {y : Operand} {e : TypeId} {a : _} {r : Eff} (h : AS P ρ H ⟨d, .binOp .add e x y a, ty, pos, af, gu⟩ r) : AS P ρ H ⟨d, .binOp .add e x y a, ty, pos, af, gu⟩ r := h
theorem h_binOpsub {P : Program} {ρ : Operand → Option V} {H : Nat → Option HO} {d : Option Nat} {ty : TypeId} {pos : String} {af : Array Edge} {gu : Option (Nat × Bool)} {x : Operand} {y : Operand} {e : TypeId} {a : _} {r : Eff} (h : AS P ρ H ⟨d, .binOp .sub e x y a, ty, pos, af, gu⟩ r) : AS P ρ H ⟨d, .binOp .sub e x y a, ty, pos, af, gu⟩ r := h
theorem h_bi_len {P : Program} {ρ : Operand → Option V} {H : Nat → Option HO} {d : Option Nat} {ty : TypeId} {pos : String} {af : Array Edge} {gu : Option (Nat × Bool)} {a : _} {b : _} {r : Eff} (h : AS P ρ H ⟨d, .call { callee := .builtin .len, args := a, argTypes := b }, ty, pos, af, gu⟩ r) : AS P ρ H ⟨d, .call { callee := .builtin .len, args := a, argTypes := b }, ty, pos, af, gu⟩ r := h
theorem h_indexAddr {P : Program} {ρ : Operand → Option V} {H : Nat → Option HO} {d : Option Nat} {ty : TypeId} {pos : String} {af : Array Edge} {gu : Option (Nat × Bool)} {x : Operand} {y : Operand} {e : TypeId} {r : Eff} (h : AS P ρ H ⟨d, .indexAddr e x y, ty, pos, af, gu⟩ r) : AS P ρ H ⟨d, .indexAddr e x y, ty, pos, af, gu⟩ r := h
theorem h_extract {P : Program} {ρ : Operand → Option V} {H : Nat → Option HO} {d : Option Nat} {ty : TypeId} {pos : String} {af : Array Edge} {gu : Option (Nat × Bool)} {x : Operand} {f : _} {r : Eff} (h : AS P ρ H ⟨d, .extract x f, ty, pos, af, gu⟩ r) : AS P ρ H ⟨d, .extract x f, ty, pos, af, gu⟩ r := h
theorem h_makeFunc {P : Program} {ρ : Operand → Option V} {H : Nat → Option HO} {d : Option Nat} {ty : TypeId} {pos : String} {af : Array Edge} {gu : Option (Nat × Bool)} {a : _} {b : _} {c : _} {r : Eff} (h : AS P ρ H ⟨d, .makeFunc a b c, ty, pos, af, gu⟩ r) : AS P ρ H ⟨d, .makeFunc a b c, ty, pos, af, gu⟩ r := h
theorem h_binOprem {P : Program} {ρ : Operand → Option V} {H : Nat → Option HO} {d : Option Nat} {ty : TypeId} {pos : String} {af : Array Edge} {gu : Option (Nat × Bool)} {x : Operand} {y : Operand} {e : TypeId} {a : _} {r : Eff} (h : AS P ρ H ⟨d, .binOp .rem e x y a, ty, pos, af, gu⟩ r) : AS P ρ H ⟨d, .binOp .rem e x y a, ty, pos, af, gu⟩ r := h
theorem h_binOpquo {P : Program} {ρ : Operand → Option V} {H : Nat → Option HO} {d : Option Nat} {ty : TypeId} {pos : String} {af : Array Edge} {gu : Option (Nat × Bool)} {x : Operand} {y : Operand} {e : TypeId} {a : _} {r : Eff} (h : AS P ρ H ⟨d, .binOp .quo e x y a, ty, pos, af, gu⟩ r) : AS P ρ H ⟨d, .binOp .quo e x y a, ty, pos, af, gu⟩ r := h
theorem h_slice {P : Program} {ρ : Operand → Option V} {H : Nat → Option HO} {d : Option Nat} {ty : TypeId} {pos : String} {af : Array Edge} {gu : Option (Nat × Bool)} {x : Operand} {e : TypeId} {a : _} {b : _} {c : _} {r : Eff} (h : AS P ρ H ⟨d, .slice e x a b c, ty, pos, af, gu⟩ r) : AS P ρ H ⟨d, .slice e x a b c, ty, pos, af, gu⟩ r := h
theorem h_index {P : Program} {ρ : Operand → Option V} {H : Nat → Option HO} {d : Option Nat} {ty : TypeId} {pos : String} {af : Array Edge} {gu : Option (Nat × Bool)} {x : Operand} {y : Operand} {e : TypeId} {r : Eff} (h : AS P ρ H ⟨d, .index e x y, ty, pos, af, gu⟩ r) : AS P ρ H ⟨d, .index e x y, ty, pos, af, gu⟩ r := h
theorem h_convert {P : Program} {ρ : Operand → Option V} {H : Nat → Option HO} {d : Option Nat} {ty : TypeId} {pos : String} {af : Array Edge} {gu : Option (Nat × Bool)} {x : Operand} {e : TypeId} {a : _} {r : Eff} (h : AS P ρ H ⟨d, .convert e a x, ty, pos, af, gu⟩ r) : AS P ρ H ⟨d, .convert e a x, ty, pos, af, gu⟩ r := h
theorem h_bi_max {P : Program} {ρ : Operand → Option V} {H : Nat → Option HO} {d : Option Nat} {ty : TypeId} {pos : String} {af : Array Edge} {gu : Option (Nat × Bool)} {a : _} {b : _} {r : Eff} (h : AS P ρ H ⟨d, .call { callee := .builtin .max, args := a, argTypes := b }, ty, pos, af, gu⟩ r) : AS P ρ H ⟨d, .call { callee := .builtin .max, args := a, argTypes := b }, ty, pos, af, gu⟩ r := h
theorem h_binOpmul {P : Program} {ρ : Operand → Option V} {H : Nat → Option HO} {d : Option Nat} {ty : TypeId} {pos : String} {af : Array Edge} {gu : Option (Nat × Bool)} {x : Operand} {y : Operand} {e : TypeId} {a : _} {r : Eff} (h : AS P ρ H ⟨d, .binOp .mul e x y a, ty, pos, af, gu⟩ r) : AS P ρ H ⟨d, .binOp .mul e x y a, ty, pos, af, gu⟩ r := h
theorem h_makeInterface {P : Program} {ρ : Operand → Option V} {H : Nat → Option HO} {d : Option Nat} {ty : TypeId} {pos : String} {af : Array Edge} {gu : Option (Nat × Bool)} {x : Operand} {e : TypeId} {r : Eff} (h : AS P ρ H ⟨d, .makeInterface e x, ty, pos, af, gu⟩ r) : AS P ρ H ⟨d, .makeInterface e x, ty, pos, af, gu⟩ r := h
theorem AS.v {P : Program} {ρ : Operand → Option V} {H : Nat → Option HO} {o : Oper} {e : Eff} (h : AS P ρ H o e := by first | ((with_reducible apply h_load); first | exact u_loadP | exact u_loadE) | ((with_reducible apply h_fieldAddr); first | exact u_fldP | exact u_fldE) | ((with_reducible apply h_move); first | exact u_move) | ((with_reducible apply h_pick); first | exact u_and | exact u_or | exact u_pick | exact u_pickF | exact u_pickT) | ((with_reducible apply h_assign); first | exact u_assign) | ((with_reducible apply h_build); first | exact u_bl25_0 | exact u_bl25_0_1_2 | exact u_bl25_2 | exact u_bl28_0_1 | exact u_bl30_0 | exact u_bl30_0_1 | exact u_bl30_0_1_2 | exact u_bl49_0_1 | exact u_bl49_0_1_2_3 | exact u_bl49_0_1_4 | exact u_bl49_0_3 | exact u_bl49_0_4 | exact u_bl49_0_6 | exact u_bl60_0_4 | exact u_bl60_1_3 | exact u_bl60_2 | exact u_bl60_3 | exact u_bl63_0 | exact u_bl65_0 | exact u_bl67_0 | exact u_bl69_0 | exact u_bl69_0_1_8_9_10_11 | exact u_bl69_0_3_7_6 | exact u_bl69_2 | exact u_bl99_0_1 | exact u_bl99_0_1_2 | exact u_bl99_0_2 | exact u_bl99_2 | exact u_bl127 | exact u_bl130_0 | exact u_bl139_0 | exact u_bl139_0_2 | exact u_bl154_0_2 | exact u_bl158 | exact u_bl162_0 | exact u_bl170_0 | exact u_build0T | exact u_buildT) | ((with_reducible apply h_buildSlice); first | exact u_sl23_1 | exact u_sl36_1 | exact u_sl47_1 | exact u_sl47_2 | exact u_sl61_1 | exact u_sl208_2 | exact u_words1 | exact u_stm1 | exact u_lv2 | exact u_words2 | exact u_words3 | exact u_words4 | exact u_words5 | exact u_words8 | exact u_u8one) | ((with_reducible apply h_nilCheck); first | exact u_nil) | ((with_reducible apply h_field); first | exact u_fld) | ((with_reducible apply h_binOpeql); first | exact u_eq | exact u_seq | exact u_beq | exact u_eqSe) | ((with_reducible apply h_binOpneq); first | exact u_ne | exact u_sne | exact u_bne | exact u_neSp | exact u_neSe | exact u_neNil) | ((with_reducible apply h_binOplss); first | exact u_lt) | ((with_reducible apply h_binOpleq); first | exact u_le) | ((with_reducible apply h_binOpgtr); first | exact u_gt) | ((with_reducible apply h_binOpgeq); first | exact u_ge) | ((with_reducible apply h_unOp); first | exact u_not) | ((with_reducible apply h_binOpadd); first | exact u_add | exact u_addW | exact u_cat) | ((with_reducible apply h_binOpsub); first | exact u_sub) | ((with_reducible apply h_bi_len); first | exact u_lenL | exact u_lenN | exact u_lenS) | ((with_reducible apply h_indexAddr); first | exact u_idx | exact u_idxO) | ((with_reducible apply h_extract); first | exact u_ext) | ((with_reducible apply h_makeFunc); first | exact u_fn) | ((with_reducible apply h_binOprem); first | exact u_rem) | ((with_reducible apply h_binOpquo); first | exact u_quo) | ((with_reducible apply h_slice); first | exact u_substr | exact u_sufL) | ((with_reducible apply h_index); first | exact u_chr) | ((with_reducible apply h_convert); first | exact u_byte | exact u_bytes | exact u_rune) | ((with_reducible apply h_bi_max); first | exact u_max3 | exact u_max2) | ((with_reducible apply h_binOpmul); first | exact u_mulW) | ((with_reducible apply h_makeInterface); first | exact u_mkF)) : AS P ρ H o e := h
theorem h_bi_append {P : Program} {ρ : Operand → Option V} {H : Nat → Option HO} {d : Option Nat} {ty : TypeId} {pos : String} {af : Array Edge} {gu : Option (Nat × Bool)} {a : _} {b : _} {r : Eff} (h : AS P ρ H ⟨d, .call { callee := .builtin .append, args := a, argTypes := b }, ty, pos, af, gu⟩ r) : AS P ρ H ⟨d, .call { callee := .builtin .append, args := a, argTypes := b }, ty, pos, af, gu⟩ r := h
theorem h_alloc {P : Program} {ρ : Operand → Option V} {H : Nat → Option HO} {d : Option Nat} {ty : TypeId} {pos : String} {af : Array Edge} {gu : Option (Nat × Bool)} {e : TypeId} {r : Eff} (h : AS P ρ H ⟨d, .alloc e, ty, pos, af, gu⟩ r) : AS P ρ H ⟨d, .alloc e, ty, pos, af, gu⟩ r := h
theorem h_box {P : Program} {ρ : Operand → Option V} {H : Nat → Option HO} {d : Option Nat} {ty : TypeId} {pos : String} {af : Array Edge} {gu : Option (Nat × Bool)} {x : Operand} {e : TypeId} {r : Eff} (h : AS P ρ H ⟨d, .box e x, ty, pos, af, gu⟩ r) : AS P ρ H ⟨d, .box e x, ty, pos, af, gu⟩ r := h
theorem AS.w {P : Program} {ρ : Operand → Option V} {H : Nat → Option HO} {o : Oper} {e : Eff} (h : AS P ρ H o e := by first | ((with_reducible apply h_bi_append); first | exact u_appS | exact u_app23 | exact u_app36 | exact u_app61) | ((with_reducible apply h_alloc); first | exact u_allocW | exact u_alloc) | ((with_reducible apply h_box); first | exact u_boxA | exact u_boxC)) : AS P ρ H o e := h
theorem h_store {P : Program} {ρ : Operand → Option V} {H : Nat → Option HO} {d : Option Nat} {ty : TypeId} {pos : String} {af : Array Edge} {gu : Option (Nat × Bool)} {x : Operand} {y : Operand} {e : TypeId} {r : Eff} (h : AS P ρ H ⟨d, .store e x y, ty, pos, af, gu⟩ r) : AS P ρ H ⟨d, .store e x y, ty, pos, af, gu⟩ r := h
theorem AS.s {P : Program} {ρ : Operand → Option V} {H : Nat → Option HO} {o : Oper} {e : Eff} (h : AS P ρ H o e := by first | ((with_reducible apply h_store); first | exact u_storeNs | exact u_storeNx | exact u_storeA | exact u_storeC)) : AS P ρ H o e := h
theorem CvL.of_eq {a b : List V} (h : a = b) : CvL a b := h ▸ CvL.refl _
theorem CvL.of_un {a b : List V} (h : a.map V.un = b) : CvL a b := h ▸ CvL.un _
theorem u_call {P : Program} {ρ : Operand → Option V} {H : Nat → Option HO} {d : Option Nat} {ty : TypeId} {pos : String} {af : Array Edge} {gu : Option (Nat × Bool)} {x : Operand} {args : Array Operand} {ats : Array TypeId} {f : Nat} {caps : List C} {vs us : List V} {r : V} (hx : Ev ρ x (.c (.fn f caps)) := by (first | (refine .wh rfl ?_; first | assumption | (rw [hp]; rfl) | (simp_all; done)) | exact .pl rfl)) (hv : EvL ρ args.toList vs := by (first | ((repeat (first | exact .nil | ((apply EvL.cons); (· (first | (refine .wh rfl ?_; first | assumption | (rw [hp]; rfl) | (simp_all; done)) | exact .pl rfl))))); done) | fail)) (hu : CvL (vs ++ caps.map V.c) us := by (first | exact CvL.of_eq rfl | (refine CvL.of_un ?_; simp only [List.map_cons, List.map_nil, List.append_nil, V.un, C.un, unA]; rfl))) (hP : Pure P f us r) (hok : okV noN us = true := by (first | rfl | (simp [okV, V.ok, okL, C.ok, okA]; done) | (simp [okV, V.ok, okL, C.ok, okA, okV_app, okV_map, -List.map_map, *]; done) | (simp [okV, V.ok, okL, okLL, C.ok, okA, nsC, NS.zero, lvC, Lv.zero, rgC, Rg.zero, cxC, Ct.zero, moC, Mo.zero]; done) | (simp [okV, V.ok, okL, C.ok, okA, -List.map_drop]; done))) : AS P ρ H ⟨d, .call { callee := .value x, args := args, argTypes := ats }, ty, pos, af, gu⟩ ⟨r, [], []⟩ := .call rfl hx hv hu hok hP
section
variable [Tb]
variable {P : Program} {ρ : Operand → Option V} {H : Nat → Option HO} {d : Option Nat} {ty : TypeId} {pos : String} {af : Array Edge} {gu : Option (Nat × Bool)} {x : Operand}
end
section
end
section
variable [Tb]
variable {P : Program} {ρ : Operand → Option V} {H : Nat → Option HO} {d : Option Nat} {ty : TypeId} {pos : String} {af : Array Edge} {gu : Option (Nat × Bool)} {x : Operand}
end
section
variable [Tb]
variable {P : Program} {ρ : Operand → Option V} {H : Nat → Option HO} {d : Option Nat} {ty : TypeId} {pos : String} {af : Array Edge} {gu : Option (Nat × Bool)} {x : Operand}
theorem u_eye {args : Array Operand} {ats : Array TypeId} {f : Nat} {caps : List C} {vs us : List V} {r : V} {ns : List Nat} (hx : Ev ρ x (.c (.fn f caps)) := by (first | (refine .wh rfl ?_; first | assumption | (rw [hp]; rfl) | (simp_all; done)) | exact .pl rfl)) (hv : EvL ρ args.toList vs := by (first | ((repeat (first | exact .nil | ((apply EvL.cons); (· (first | (refine .wh rfl ?_; first | assumption | (rw [hp]; rfl) | (simp_all; done)) | exact .pl rfl))))); done) | fail)) (hn : (vs ++ caps.map V.c).flatMap ptV = ns := by rfl) (hu : (vs ++ caps.map V.c).map (snV H) = us := by rfl) (hP : Pure P f us r) (hok : okV noN us = true := by (simp [okV, V.ok, okL, C.ok, okA, snV, snC, sn1, look, beqN])) (hsc : scO r = true := by rfl) : AS P ρ H ⟨d, .call { callee := .value x, args := args, argTypes := ats }, ty, pos, af, gu⟩ ⟨r, [], ns⟩ := a_eye hx hv hn hu hP hok hsc
end
section
variable [Tb]
variable {P : Program} {ρ : Operand → Option V} {H : Nat → Option HO} {d : Option Nat} {ty : TypeId} {pos : String} {af : Array Edge} {gu : Option (Nat × Bool)} {x : Operand}
theorem u_mut {args : Array Operand} {ats : Array TypeId} {f n : Nat} {us : List V} {r : V} {ob ob' : HO} (hx : Ev ρ x (.c (.fn f [])) := by (first | (refine .wh rfl ?_; first | assumption | (rw [hp]; rfl) | (simp_all; done)) | exact .pl rfl)) (hv : EvL ρ args.toList (.c (.ptr n 0) :: us) := by (first | ((repeat (first | exact .nil | ((apply EvL.cons); (· (first | (refine .wh rfl ?_; first | assumption | (rw [hp]; rfl) | (simp_all; done)) | exact .pl rfl))))); done) | fail)) (hn : H n = some ob := by rfl) (hP : MC P f ob us r ob') (hok : okV noN us = true := by (first | rfl | (simp [okV, V.ok, okL, C.ok, okA]; done) | (simp [okV, V.ok, okL, C.ok, okA, okV_app, okV_map, -List.map_map, *]; done) | (simp [okV, V.ok, okL, okLL, C.ok, okA, nsC, NS.zero, lvC, Lv.zero, rgC, Rg.zero, cxC, Ct.zero, moC, Mo.zero]; done) | (simp [okV, V.ok, okL, C.ok, okA, -List.map_drop]; done))) (h1 : ob.one = true := by rfl) (h2 : ob'.one = true := by rfl) : AS P ρ H ⟨d, .call { callee := .value x, args := args, argTypes := ats }, ty, pos, af, gu⟩ ⟨r, [(n, ob')], [n]⟩ := a_mut hx hv hn hP hok h1 h2
end
section
variable [Tb]
variable {P : Program} {ρ : Operand → Option V} {H : Nat → Option HO} {d : Option Nat} {ty : TypeId} {pos : String} {af : Array Edge} {gu : Option (Nat × Bool)} {x : Operand} {args : Array Operand} {ats : Array TypeId} {f : Nat} {caps : List C} {vs us : List V} {r : V}
theorem u_m1 {n : Nat} {o o' : HO} (hx : Ev ρ x (.c (.fn f [])) := by (first | (refine .wh rfl ?_; first | assumption | (rw [hp]; rfl) | (simp_all; done)) | exact .pl rfl)) (hv : EvL ρ args.toList (.c (.ptr n 0) :: us) := by (first | ((repeat (first | exact .nil | ((apply EvL.cons); (· (first | (refine .wh rfl ?_; first | assumption | (rw [hp]; rfl) | (simp_all; done)) | exact .pl rfl))))); done) | fail)) (hn : H n = some o := by rfl) (hP : MNL P f [(0, o)] (.c (.ptr 0 0) :: us) r [(0, o')]) (hok : okV noN us = true := by (first | rfl | (simp [okV, V.ok, okL, C.ok, okA]; done) | (simp [okV, V.ok, okL, C.ok, okA, okV_app, okV_map, -List.map_map, *]; done) | (simp [okV, V.ok, okL, okLL, C.ok, okA, nsC, NS.zero, lvC, Lv.zero, rgC, Rg.zero, cxC, Ct.zero, moC, Mo.zero]; done) | (simp [okV, V.ok, okL, C.ok, okA, -List.map_drop]; done))) (h1 : o.one = true := by (first | rfl | (simp [HO.one, okL, C.ok, okA]; done))) (h2 : o'.one = true := by (first | rfl | (simp [HO.one, okL, C.ok, okA]; done))) (hr : V.ok noN r = true := by (first | rfl | (simp [V.ok, okL, C.ok, okV, okA]; done))) : AS P ρ H ⟨d, .call { callee := .value x, args := args, argTypes := ats }, ty, pos, af, gu⟩ ⟨r, [(n, o')], [n]⟩ := a_m1 hx hv hn hP hok h1 h2 hr
end
section
variable [Tb]
variable {P : Program} {ρ : Operand → Option V} {H : Nat → Option HO} {d : Option Nat} {ty : TypeId} {pos : String} {af : Array Edge} {gu : Option (Nat × Bool)} {x : Operand} {args : Array Operand} {ats : Array TypeId} {f : Nat} {caps : List C} {vs us : List V} {r : V}
end
section
variable [Tb]
variable {P : Program} {ops : Array Oper} {l : List (Nat × V)} {h : List (Nat × HO)} {rest : List Oper} {fs : List FP} {K : St → List FP → Prop} {J : Value → St → List FP → List Nat → Prop} {t : Nat} {op : Op} {ty : TypeId} {pos : String} {af : Array Edge} {gu : Option (Nat × Bool)} {v : V} {rd : List Nat} {n m : Nat} {ob ob2 : HO} {gp : Nat × Bool}
theorem t_v (hs : AS P (evA (look l)) (look h) ⟨some t, op, ty, pos, af, none⟩ ⟨v, [], rd⟩) (k : AY P ops rest (mk ((t, v) :: l) h) (fs ++ [([], rd)]) K J) : AY P ops (⟨some t, op, ty, pos, af, none⟩ :: rest) (mk l h) fs K J := y_v hs k
end
section
variable [Tb]
variable {P : Program} {ops : Array Oper} {l : List (Nat × V)} {h : List (Nat × HO)} {rest : List Oper} {fs : List FP} {K : St → List FP → Prop} {J : Value → St → List FP → List Nat → Prop} {t : Nat} {op : Op} {ty : TypeId} {pos : String} {af : Array Edge} {gu : Option (Nat × Bool)} {v : V} {rd : List Nat} {n m : Nat} {ob ob2 : HO} {gp : Nat × Bool}
theorem t_w (hs : AS P (evA (look l)) (look h) ⟨some t, op, ty, pos, af, none⟩ ⟨v, [(n, ob)], rd⟩) (k : AY P ops rest (mk ((t, v) :: l) ((n, ob) :: h)) (fs ++ [([n], rd)]) K J) : AY P ops (⟨some t, op, ty, pos, af, none⟩ :: rest) (mk l h) fs K J := y_w hs k
end
section
variable [Tb]
variable {P : Program} {ops : Array Oper} {l : List (Nat × V)} {h : List (Nat × HO)} {rest : List Oper} {fs : List FP} {K : St → List FP → Prop} {J : Value → St → List FP → List Nat → Prop} {t : Nat} {op : Op} {ty : TypeId} {pos : String} {af : Array Edge} {gu : Option (Nat × Bool)} {v : V} {rd : List Nat} {n m : Nat} {ob ob2 : HO} {gp : Nat × Bool}
end
section
variable [Tb]
variable {P : Program} {ops : Array Oper} {l : List (Nat × V)} {h : List (Nat × HO)} {rest : List Oper} {fs : List FP} {K : St → List FP → Prop} {J : Value → St → List FP → List Nat → Prop} {t : Nat} {op : Op} {ty : TypeId} {pos : String} {af : Array Edge} {gu : Option (Nat × Bool)} {v : V} {rd : List Nat} {n m : Nat} {ob ob2 : HO} {gp : Nat × Bool}
theorem t_s (hs : AS P (evA (look l)) (look h) ⟨none, op, ty, pos, af, none⟩ ⟨v, [(n, ob)], rd⟩) (k : AY P ops rest (mk l ((n, ob) :: h)) (fs ++ [([n], rd)]) K J) : AY P ops (⟨none, op, ty, pos, af, none⟩ :: rest) (mk l h) fs K J := y_s hs k
end
section
variable [Tb]
variable {P : Program} {ops : Array Oper} {l : List (Nat × V)} {h : List (Nat × HO)} {rest : List Oper} {fs : List FP} {K : St → List FP → Prop} {J : Value → St → List FP → List Nat → Prop} {t : Nat} {op : Op} {ty : TypeId} {pos : String} {af : Array Edge} {gu : Option (Nat × Bool)} {v : V} {rd : List Nat} {n m : Nat} {ob ob2 : HO} {gp : Nat × Bool}
theorem t_s0 (hs : AS P (evA (look l)) (look h) ⟨none, op, ty, pos, af, none⟩ ⟨v, [], rd⟩) (k : AY P ops rest (mk l h) (fs ++ [([], rd)]) K J) : AY P ops (⟨none, op, ty, pos, af, none⟩ :: rest) (mk l h) fs K J := y_s0 hs k
end
section
variable [Tb]
variable {P : Program} {ops : Array Oper} {l : List (Nat × V)} {h : List (Nat × HO)} {rest : List Oper} {fs : List FP} {K : St → List FP → Prop} {J : Value → St → List FP → List Nat → Prop} {t : Nat} {op : Op} {ty : TypeId} {pos : String} {af : Array Edge} {gu : Option (Nat × Bool)} {v : V} {rd : List Nat} {n m : Nat} {ob ob2 : HO} {gp : Nat × Bool}
end
section
variable [Tb]
variable {P : Program} {ops : Array Oper} {l : List (Nat × V)} {h : List (Nat × HO)} {rest : List Oper} {fs : List FP} {K : St → List FP → Prop} {J : Value → St → List FP → List Nat → Prop} {t : Nat} {op : Op} {ty : TypeId} {pos : String} {af : Array Edge} {gu : Option (Nat × Bool)} {v : V} {rd : List Nat} {n m : Nat} {ob ob2 : HO} {gp : Nat × Bool}
theorem t_n (k : AY P ops rest (mk ((t, undV) :: l) h) (fs ++ [([], [])]) K J) (hg : gd ops (look l) ⟨some t, op, ty, pos, af, some gp⟩ = some false := by (first | exact g_p rfl rfl | exact g_w rfl rfl)) : AY P ops (⟨some t, op, ty, pos, af, some gp⟩ :: rest) (mk l h) fs K J := y_n hg k
end
section
variable [Tb]
variable {P : Program} {ops : Array Oper} {l : List (Nat × V)} {h : List (Nat × HO)} {rest : List Oper} {fs : List FP} {K : St → List FP → Prop} {J : Value → St → List FP → List Nat → Prop} {t : Nat} {op : Op} {ty : TypeId} {pos : String} {af : Array Edge} {gu : Option (Nat × Bool)} {v : V} {rd : List Nat} {n m : Nat} {ob ob2 : HO} {gp : Nat × Bool}
theorem t_m {b : Bool} (hg : gd ops (look l) ⟨some t, op, ty, pos, af, some gp⟩ = some b := by (first | exact g_p rfl rfl | exact g_w rfl rfl)) (hs : b = true → AS P (evA (look l)) (look h) ⟨some t, op, ty, pos, af, some gp⟩ ⟨v, [], rd⟩) (k : AY P ops rest (mk ((t, .wh b v) :: l) h) (fs ++ [([], rd)]) K J) : AY P ops (⟨some t, op, ty, pos, af, some gp⟩ :: rest) (mk l h) fs K J := y_m hg hs k
end
section
variable [Tb]
variable {P : Program} {ops : Array Oper} {l : List (Nat × V)} {h : List (Nat × HO)} {rest : List Oper} {fs : List FP} {K : St → List FP → Prop} {J : Value → St → List FP → List Nat → Prop} {t : Nat} {op : Op} {ty : TypeId} {pos : String} {af : Array Edge} {gu : Option (Nat × Bool)} {v : V} {rd : List Nat} {n m : Nat} {ob ob2 : HO} {gp : Nat × Bool}
theorem t_f {g : Bool} (k : AY P ops rest (mk ((t, undV) :: l) h) (fs ++ [([], [])]) K J) (hg : gd ops (look l) ⟨some t, op, ty, pos, af, some gp⟩ = some g := by (first | exact g_p rfl rfl | exact g_w rfl rfl)) (hf : g = false := by (first | assumption | (simp [*]; done) | fail)) : AY P ops (⟨some t, op, ty, pos, af, some gp⟩ :: rest) (mk l h) fs K J := y_f hg hf k
end
section
variable [Tb]
variable {P : Program} {ops : Array Oper} {l : List (Nat × V)} {h : List (Nat × HO)} {rest : List Oper} {fs : List FP} {K : St → List FP → Prop} {J : Value → St → List FP → List Nat → Prop} {t : Nat} {op : Op} {ty : TypeId} {pos : String} {af : Array Edge} {gu : Option (Nat × Bool)} {v : V} {rd : List Nat} {n m : Nat} {ob ob2 : HO} {gp : Nat × Bool}
theorem t_g {b : Bool} (hg : gd ops (look l) ⟨some t, op, ty, pos, af, some gp⟩ = some b := by (first | exact g_p rfl rfl | exact g_w rfl rfl)) (hs : b = true → AS P (evA (look l)) (look h) ⟨some t, op, ty, pos, af, some gp⟩ ⟨v, [(n, ob)], rd⟩) (k : b = true → AY P ops rest (mk ((t, v) :: l) ((n, ob) :: h)) (fs ++ [([n], rd)]) K J) (k0 : b = false → AY P ops rest (mk ((t, undV) :: l) h) (fs ++ [([], [])]) K J) : AY P ops (⟨some t, op, ty, pos, af, some gp⟩ :: rest) (mk l h) fs K J := y_g hg hs k k0
end
section
variable [Tb]
variable {P : Program} {nt id i : Nat} {Q : Exit → St → Prop} {N : St → Prop} {σ : St} {y : Code} {l : List Oper} {v : Value}
theorem v_reg (h : AY P l.toArray l σ [] (fun σ' _ => AW P nt y Q σ') fun v σ' _ _ => Q (panE v) σ') (hl : (l.all fun o => match o.dst with | some t => decide (t < nt) | none => true) = true := by decide +kernel) : AW P nt (.seq (.region id l.toArray false) y) Q σ := y_reg hl h
end
section
variable [Tb]
variable {P : Program} {nt id i : Nat} {Q : Exit → St → Prop} {N : St → Prop} {σ : St} {y : Code} {l : List Oper} {v : Value}
theorem v_drw (h : AY P l.toArray l σ [] (fun σ' fs => chkD l.toArray fs = true ∧ AW P nt y Q σ') fun v _ fs rd => chkP l.toArray fs rd = true ∧ ∀ σ', Q (panE v) σ') (hl : (l.all fun o => match o.dst with | some t => decide (t < nt) | none => true) = true := by decide +kernel) (hm : P.follows .mixedOrders = true := by kernel_rfl) : AW P nt (.seq (.region id l.toArray true) y) Q σ := y_drw hl hm h
end
section
variable [Tb]
variable {P : Program} {nt id i : Nat} {Q : Exit → St → Prop} {N : St → Prop} {σ : St} {y : Code} {l : List Oper} {v : Value}
theorem v_drb (h : AY P l.toArray l σ [] (fun σ' fs => chkD l.toArray fs = true ∧ Q .normal σ') fun v _ fs rd => chkP l.toArray fs rd = true ∧ ∀ σ', Q (panE v) σ') (hl : (l.all fun o => match o.dst with | some t => decide (t < nt) | none => true) = true := by decide +kernel) (hm : P.follows .mixedOrders = true := by kernel_rfl) : AW P nt (.region id l.toArray true) Q σ := y_drb hl hm h
end
section
variable [Tb]
variable {P : Program} {nt id i : Nat} {Q : Exit → St → Prop} {N : St → Prop} {σ : St} {y : Code} {l : List Oper} {v : Value}
theorem v_rgl (h : AY P l.toArray l σ [] (fun σ' _ => Q .normal σ') fun v σ' _ _ => Q (panE v) σ') (hl : (l.all fun o => match o.dst with | some t => decide (t < nt) | none => true) = true := by decide +kernel) : AW P nt (.region id l.toArray false) Q σ := y_rgl hl h
end
section
variable [Tb]
variable {P : Program} {nt : Nat} {Q Q' : Exit → St → Prop} {σ σ' : St}
theorem v_yes {c : Operand} {x y : Code} (h1 : AW P nt x Q σ) (hc : Ev (evA σ.sl) c (.c (.sc (.bool true))) := by exact .pl rfl) : AW P nt (.cond c x y) Q σ := AW.yes hc h1
end
section
variable [Tb]
variable {P : Program} {nt : Nat} {Q Q' : Exit → St → Prop} {σ σ' : St}
theorem v_no {c : Operand} {x y : Code} (h1 : AW P nt y Q σ) (hc : Ev (evA σ.sl) c (.c (.sc (.bool false))) := by exact .pl rfl) : AW P nt (.cond c x y) Q σ := AW.no hc h1
end
section
variable [Tb]
variable {P : Program} {nt : Nat} {Q Q' : Exit → St → Prop} {σ σ' : St}
theorem v_cond {c : Operand} {x y : Code} {t : Bool} (h1 : t = true → AW P nt x Q σ) (h2 : t = false → AW P nt y Q σ) (hc : Ev (evA σ.sl) c (.c (.sc (.bool t))) := by (first | (refine .wh rfl ?_; first | assumption | (rw [hp]; rfl) | (simp_all; done)) | exact .pl rfl)) : AW P nt (.cond c x y) Q σ := AW.cond hc h1 h2
end
section
variable [Tb]
variable {P : Program} {nt : Nat} {Q : Exit → St → Prop} {N : St → Prop} {σ : St} {id i : Nat} {y : Code} {l : List Oper}
theorem k_b {t : Nat} {a b : Bool} (h : a = b) (hx : Ev (evA σ.sl) (.tmp t) (.c (.sc (.bool a))) := by (first | (refine .wh rfl ?_; first | assumption | (rw [hp]; rfl) | (simp_all; done)) | exact .pl rfl)) : Ret P [.tmp t] (.c (.sc (.bool b))) .ret σ := r_b hx h
end
section
variable [Tb]
variable {P : Program} {nt : Nat} {Q : Exit → St → Prop} {N : St → Prop} {σ : St} {id i : Nat} {y : Code} {l : List Oper}
theorem k_s {t : Nat} {a b : ByteArray} (h : a = b) (hx : Ev (evA σ.sl) (.tmp t) (.c (.sc (.string a))) := by (first | (refine .wh rfl ?_; first | assumption | (rw [hp]; rfl) | (simp_all; done)) | exact .pl rfl)) : Ret P [.tmp t] (.c (.sc (.string b))) .ret σ := r_s hx h
end
section
variable [Tb]
variable {P : Program} {nt : Nat} {Q : Exit → St → Prop} {N : St → Prop} {σ : St} {id i : Nat} {y : Code} {l : List Oper}
theorem k_i {t : Nat} {k : IntKind} {a b : Int} (h : a = b) (hx : Ev (evA σ.sl) (.tmp t) (.c (.sc (.int k a))) := by (first | (refine .wh rfl ?_; first | assumption | (rw [hp]; rfl) | (simp_all; done)) | exact .pl rfl)) : Ret P [.tmp t] (.c (.sc (.int k b))) .ret σ := r_i hx h
end
section
variable [Tb]
variable {P : Program} {nt : Nat} {Q : Exit → St → Prop} {N : St → Prop} {σ : St} {id i : Nat} {y : Code} {l : List Oper}
theorem k_v {t : Nat} {v r : V} (h : v.un = r) (hx : Ev (evA σ.sl) (.tmp t) v := by (first | (refine .wh rfl ?_; first | assumption | (rw [hp]; rfl) | (simp_all; done)) | exact .pl rfl)) : Ret P [.tmp t] r .ret σ := r_v hx h
end
section
theorem k_c {P : Program} {σ : St} {u ty n off ty0 k : Nat} {cs cs' ds : List C} {b : Bool} (e1 : unL cs' = ds) (h2 : Ev (evA σ.sl) (.tmp u) (.c (.ptr n off)) := by (first | (refine .wh rfl ?_; first | assumption | (rw [hp]; rfl) | (simp_all; done)) | exact .pl rfl)) (hh : σ.hp n = some (.obj ty0 cs) := by rfl) (ht : tyi P ty = some (k, b) := by exact tyT_ok rfl) (hc : cutV b cs off k = some (.agg cs') := by (first | (simp only [cutA]; rfl) | (rw [cutDrop _ _ _ _ _ (by (try simp only [lenA]); decide)]; simp only [cutA, Nat.reduceAdd]; rfl) | rfl)) : Ret P [.cell u ty] (.agg ds) .ret σ := r_c h2 hh ht hc e1
end
section
variable [Tb]
variable {P : Program} {nt : Nat} {Q : Exit → St → Prop} {N : St → Prop} {σ : St} {id i : Nat} {y : Code} {l : List Oper}
theorem k_2 {t u : Nat} {v1 v2 u1 u2 : V} (e1 : v1.un = u1) (e2 : v2.un = u2) (h1 : Ev (evA σ.sl) (.tmp t) v1 := by (first | (refine .wh rfl ?_; first | assumption | (rw [hp]; rfl) | (simp_all; done)) | exact .pl rfl)) (h2 : Ev (evA σ.sl) (.tmp u) v2 := by (first | (refine .wh rfl ?_; first | assumption | (rw [hp]; rfl) | (simp_all; done)) | exact .pl rfl)) : Ret P [.tmp t, .tmp u] (.tup [u1, u2]) .ret σ := r_2 h1 h2 e1 e2
end
section
variable [Tb]
variable {P : Program} {nt : Nat} {Q : Exit → St → Prop} {N : St → Prop} {σ : St} {id i : Nat} {y : Code} {l : List Oper}
theorem k_2c {t u ty n off ty0 k : Nat} {cs : List C} {b : Bool} {v1 v2 u1 u2 : V} (e1 : v1.un = u1) (e2 : v2.un = u2) (h1 : Ev (evA σ.sl) (.tmp t) v1 := by (first | (refine .wh rfl ?_; first | assumption | (rw [hp]; rfl) | (simp_all; done)) | exact .pl rfl)) (h2 : Ev (evA σ.sl) (.tmp u) (.c (.ptr n off)) := by (first | (refine .wh rfl ?_; first | assumption | (rw [hp]; rfl) | (simp_all; done)) | exact .pl rfl)) (hh : σ.hp n = some (.obj ty0 cs) := by rfl) (ht : tyi P ty = some (k, b) := by exact tyT_ok rfl) (hc : cutV b cs off k = some v2 := by (first | (simp only [cutA]; rfl) | (rw [cutDrop _ _ _ _ _ (by (try simp only [lenA]); decide)]; simp only [cutA, Nat.reduceAdd]; rfl) | rfl)) : Ret P [.tmp t, .cell u ty] (.tup [u1, u2]) .ret σ := r_2c h1 h2 hh ht hc e1 e2
end
section
variable [Tb]
variable {P : Program} {ops : Array Oper} {l : List (Nat × V)} {h : List (Nat × HO)} {rest : List Oper} {fs : List FP} {K : St → List FP → Prop} {J : Value → St → List FP → List Nat → Prop} {t : Nat} {ty : TypeId} {pos : String} {af : Array Edge} {x : Operand} {args : Array Operand} {ats : Array TypeId} {f : Nat} {us : List V} {n m : Nat}
variable {α β ε : Type} {sp : Except ε (α × β)} {R : α → V} {E : ε → Value}
theorem t_c1 {o : HO} {O : β → HO} (hx : Ev (evA (look l)) x (.c (.fn f [])) := by (first | (refine .wh rfl ?_; first | assumption | (rw [hp]; rfl) | (simp_all; done)) | exact .pl rfl)) (hv : EvL (evA (look l)) args.toList (.c (.ptr n 0) :: us) := by (first | ((repeat (first | exact .nil | ((apply EvL.cons); (· (first | (refine .wh rfl ?_; first | assumption | (rw [hp]; rfl) | (simp_all; done)) | exact .pl rfl))))); done) | fail)) (hn : look h n = some o := by rfl) (hP : MX P f [(0, o)] (.c (.ptr 0 0) :: us) sp R (fun b => [(0, O b)]) E) (hok : okV noN us = true := by (first | rfl | (simp [okV, V.ok, okL, C.ok, okA]; done) | (simp [okV, V.ok, okL, C.ok, okA, okV_app, okV_map, -List.map_map, *]; done) | (simp [okV, V.ok, okL, okLL, C.ok, okA, nsC, NS.zero, lvC, Lv.zero, rgC, Rg.zero, cxC, Ct.zero, moC, Mo.zero]; done) | (simp [okV, V.ok, okL, C.ok, okA, -List.map_drop]; done))) (h1 : o.one = true := by (first | rfl | (simp [HO.one, okL, C.ok, okA]; done))) (k1 : ∀ a b, sp = .ok (a, b) → AY P ops rest (mk ((t, R a) :: l) ((n, O b) :: h)) (fs ++ [([n], [n])]) K J) (k2 : ∀ e, sp = .error e → ∀ σ', J (E e) σ' fs [n]) : AY P ops (⟨some t, .call { callee := .value x, args := args, argTypes := ats }, ty, pos, af, none⟩ :: rest) (mk l h) fs K J := y_c1 hx hv hn hP hok h1 k1 k2
end
section
variable [Tb]
variable {P : Program} {ops : Array Oper} {l : List (Nat × V)} {h : List (Nat × HO)} {rest : List Oper} {fs : List FP} {K : St → List FP → Prop} {J : Value → St → List FP → List Nat → Prop} {t : Nat} {ty : TypeId} {pos : String} {af : Array Edge} {x : Operand} {args : Array Operand} {ats : Array TypeId} {f : Nat} {us : List V} {n m : Nat}
variable {α β ε : Type} {sp : Except ε (α × β)} {R : α → V} {E : ε → Value}
theorem t_c1n {o : HO} {O : β → HO} (hx : Ev (evA (look l)) x (.c (.fn f [])) := by (first | (refine .wh rfl ?_; first | assumption | (rw [hp]; rfl) | (simp_all; done)) | exact .pl rfl)) (hv : EvL (evA (look l)) args.toList (.c (.ptr n 0) :: us) := by (first | ((repeat (first | exact .nil | ((apply EvL.cons); (· (first | (refine .wh rfl ?_; first | assumption | (rw [hp]; rfl) | (simp_all; done)) | exact .pl rfl))))); done) | fail)) (hn : look h n = some o := by rfl) (hP : MX P f [(0, o)] (.c (.ptr 0 0) :: us) sp R (fun b => [(0, O b)]) E) (hok : okV noN us = true := by (first | rfl | (simp [okV, V.ok, okL, C.ok, okA]; done) | (simp [okV, V.ok, okL, C.ok, okA, okV_app, okV_map, -List.map_map, *]; done) | (simp [okV, V.ok, okL, okLL, C.ok, okA, nsC, NS.zero, lvC, Lv.zero, rgC, Rg.zero, cxC, Ct.zero, moC, Mo.zero]; done) | (simp [okV, V.ok, okL, C.ok, okA, -List.map_drop]; done))) (h1 : o.one = true := by (first | rfl | (simp [HO.one, okL, C.ok, okA]; done))) (k1 : ∀ a b, sp = .ok (a, b) → AY P ops rest (mk l ((n, O b) :: h)) (fs ++ [([n], [n])]) K J) (k2 : ∀ e, sp = .error e → ∀ σ', J (E e) σ' fs [n]) : AY P ops (⟨none, .call { callee := .value x, args := args, argTypes := ats }, ty, pos, af, none⟩ :: rest) (mk l h) fs K J := y_c1n hx hv hn hP hok h1 k1 k2
end
section
variable [Tb]
variable {P : Program} {ops : Array Oper} {l : List (Nat × V)} {h : List (Nat × HO)} {rest : List Oper} {fs : List FP} {K : St → List FP → Prop} {J : Value → St → List FP → List Nat → Prop} {t : Nat} {ty : TypeId} {pos : String} {af : Array Edge} {x : Operand} {args : Array Operand} {ats : Array TypeId} {f : Nat} {us : List V} {n m : Nat}
variable {α β ε : Type} {sp : Except ε (α × β)} {R : α → V} {E : ε → Value}
theorem t_c2 {o s : HO} {O S : β → HO} (hx : Ev (evA (look l)) x (.c (.fn f [])) := by (first | (refine .wh rfl ?_; first | assumption | (rw [hp]; rfl) | (simp_all; done)) | exact .pl rfl)) (hv : EvL (evA (look l)) args.toList (.c (.ptr n 0) :: .c (.ptr m 0) :: us) := by (first | ((repeat (first | exact .nil | ((apply EvL.cons); (· (first | (refine .wh rfl ?_; first | assumption | (rw [hp]; rfl) | (simp_all; done)) | exact .pl rfl))))); done) | fail)) (hn : look h n = some o := by rfl) (hm : look h m = some s := by rfl) (hP : MX P f [(0, o), (1001, s)] (.c (.ptr 0 0) :: .c (.ptr 1001 0) :: us) sp R (fun b => [(0, O b), (1001, S b)]) E) (hok : okV noN us = true := by (first | rfl | (simp [okV, V.ok, okL, C.ok, okA]; done) | (simp [okV, V.ok, okL, C.ok, okA, okV_app, okV_map, -List.map_map, *]; done) | (simp [okV, V.ok, okL, okLL, C.ok, okA, nsC, NS.zero, lvC, Lv.zero, rgC, Rg.zero, cxC, Ct.zero, moC, Mo.zero]; done) | (simp [okV, V.ok, okL, C.ok, okA, -List.map_drop]; done))) (h1 : o.one = true := by (first | rfl | (simp [HO.one, okL, C.ok, okA]; done))) (h2 : s.one = true := by (first | rfl | (simp [HO.one, okL, C.ok, okA]; done))) (hnm : Nat.beq n m = false := by rfl) (k1 : ∀ a b, sp = .ok (a, b) → AY P ops rest (mk ((t, R a) :: l) ((m, S b) :: (n, O b) :: h)) (fs ++ [([n, m], [n, m])]) K J) (k2 : ∀ e, sp = .error e → ∀ σ', J (E e) σ' fs [n, m]) : AY P ops (⟨some t, .call { callee := .value x, args := args, argTypes := ats }, ty, pos, af, none⟩ :: rest) (mk l h) fs K J := y_c2 hx hv hn hm hP hok h1 h2 hnm k1 k2
end
section
variable [Tb]
variable {P : Program} {ops : Array Oper} {l : List (Nat × V)} {h : List (Nat × HO)} {rest : List Oper} {fs : List FP} {K : St → List FP → Prop} {J : Value → St → List FP → List Nat → Prop} {t : Nat} {ty : TypeId} {pos : String} {af : Array Edge} {x : Operand} {args : Array Operand} {ats : Array TypeId} {f : Nat} {us : List V} {n m : Nat}
variable {α β ε : Type} {sp : Except ε (α × β)} {R : α → V} {E : ε → Value}
theorem t_c2n {o s : HO} {O S : β → HO} (hx : Ev (evA (look l)) x (.c (.fn f [])) := by (first | (refine .wh rfl ?_; first | assumption | (rw [hp]; rfl) | (simp_all; done)) | exact .pl rfl)) (hv : EvL (evA (look l)) args.toList (.c (.ptr n 0) :: .c (.ptr m 0) :: us) := by (first | ((repeat (first | exact .nil | ((apply EvL.cons); (· (first | (refine .wh rfl ?_; first | assumption | (rw [hp]; rfl) | (simp_all; done)) | exact .pl rfl))))); done) | fail)) (hn : look h n = some o := by rfl) (hm : look h m = some s := by rfl) (hP : MX P f [(0, o), (1001, s)] (.c (.ptr 0 0) :: .c (.ptr 1001 0) :: us) sp R (fun b => [(0, O b), (1001, S b)]) E) (hok : okV noN us = true := by (first | rfl | (simp [okV, V.ok, okL, C.ok, okA]; done) | (simp [okV, V.ok, okL, C.ok, okA, okV_app, okV_map, -List.map_map, *]; done) | (simp [okV, V.ok, okL, okLL, C.ok, okA, nsC, NS.zero, lvC, Lv.zero, rgC, Rg.zero, cxC, Ct.zero, moC, Mo.zero]; done) | (simp [okV, V.ok, okL, C.ok, okA, -List.map_drop]; done))) (h1 : o.one = true := by (first | rfl | (simp [HO.one, okL, C.ok, okA]; done))) (h2 : s.one = true := by (first | rfl | (simp [HO.one, okL, C.ok, okA]; done))) (hnm : Nat.beq n m = false := by rfl) (k1 : ∀ a b, sp = .ok (a, b) → AY P ops rest (mk l ((m, S b) :: (n, O b) :: h)) (fs ++ [([n, m], [n, m])]) K J) (k2 : ∀ e, sp = .error e → ∀ σ', J (E e) σ' fs [n, m]) : AY P ops (⟨none, .call { callee := .value x, args := args, argTypes := ats }, ty, pos, af, none⟩ :: rest) (mk l h) fs K J := y_c2n hx hv hn hm hP hok h1 h2 hnm k1 k2
end
section
variable [Tb]
variable {P : Program} {ops : Array Oper} {l : List (Nat × V)} {h : List (Nat × HO)} {rest : List Oper} {fs : List FP} {K : St → List FP → Prop} {J : Value → St → List FP → List Nat → Prop} {t : Nat} {ty : TypeId} {pos : String} {af : Array Edge} {x : Operand} {args : Array Operand} {ats : Array TypeId} {f : Nat} {us : List V} {q T S : Nat}
variable {β ε : Type} {sp : Except ε (NS × β)} {E : ε → Value}
theorem t_el {n : NS} {o : HO} {O : β → HO} (hx : Ev (evA (look l)) x (.c (.fn f [])) := by (first | (refine .wh rfl ?_; first | assumption | (rw [hp]; rfl) | (simp_all; done)) | exact .pl rfl)) (hv : EvL (evA (look l)) args.toList (.c (.ptr 0 0) :: .c (.ptr q 0) :: us) := by (first | ((repeat (first | exact .nil | ((apply EvL.cons); (· (first | (refine .wh rfl ?_; first | assumption | (rw [hp]; rfl) | (simp_all; done)) | exact .pl rfl))))); done) | fail)) (hq : (Nat.blt 0 q && Nat.blt q 1000) = true := by rfl) (hn : look h 0 = some o := by rfl) (hm : look h q = some (.obj T (nsR 1002 1003 n)) := by rfl) (h2 : look h 1002 = some (.row S 1 n.names.length) := by rfl) (h3 : look h 1003 = some (.row S 1 n.except.length) := by rfl) (hP : MX0 P f ((0, o) :: elS T S 1001 1002 1003 n) (.c (.ptr 0 0) :: .c (.ptr 1001 0) :: us) (sp >>= fun x => .ok ((), x)) (fun _ => .tup []) (elO T S O) E) (hok : okV noN us = true := by (first | rfl | (simp [okV, V.ok, okL, C.ok, okA]; done) | (simp [okV, V.ok, okL, C.ok, okA, okV_app, okV_map, -List.map_map, *]; done) | (simp [okV, V.ok, okL, okLL, C.ok, okA, nsC, NS.zero, lvC, Lv.zero, rgC, Rg.zero, cxC, Ct.zero, moC, Mo.zero]; done) | (simp [okV, V.ok, okL, C.ok, okA, -List.map_drop]; done))) (h1 : o.one = true := by (first | rfl | (simp [HO.one, okL, C.ok, okA]; done))) (hO : ∀ b, (O b).one = true := by (intro b; (first | rfl | (simp [HO.one, okL, C.ok, okA]; done)))) (k1 : ∀ a b, sp = .ok (a, b) → AY P ops rest (mk ((t, .tup []) :: l) ((1003, .row S 1 a.except.length) :: (1002, .row S 1 a.names.length) :: (q, .obj T (nsR 1002 1003 a)) :: (0, O b) :: h)) (fs ++ [([0, q, 1002, 1003], [0, q, 1002, 1003])]) K J) (k2 : ∀ e, sp = .error e → ∀ σ', J (E e) σ' fs [0, q, 1002, 1003]) : AY P ops (⟨some t, .call { callee := .value x, args := args, argTypes := ats }, ty, pos, af, none⟩ :: rest) (mk l h) fs K J := y_el hx hv hq hn hm h2 h3 hP hok h1 hO k1 k2
end
section
variable [Tb]
theorem l_el {P : Program} {β ε : Type} {sp : Except ε (NS × β)} {E : ε → Value} {l : List (Nat × V)} {h : List (Nat × HO)} {x : Exit} {T S : Nat} {O : β → HO} {o : HO} {cs : List C} {m1 m2 : Nat} (k : ∃ a b, sp = .ok (a, b) ∧ HO.le o (O b) ∧ cs = nsR 1002 1003 a ∧ m1 = a.names.length ∧ m2 = a.except.length) (hx : x = .ret ∨ x = .normal := by (first | exact .inl rfl | exact .inr rfl)) (h0 : look h 0 = some o := by rfl) (h1 : look h 1001 = some (.obj T cs) := by rfl) (h2 : look h 1002 = some (.row S 1 m1) := by rfl) (h3 : look h 1003 = some (.row S 1 m2) := by rfl) : RetX P [] [0, 1001, 1002, 1003] (sp >>= fun x => .ok ((), x)) (fun _ => .tup []) (elO T S O) E x (mk l h) := x_el hx h0 h1 h2 h3 k
end
section
variable [Tb]
variable {P : Program} {ops : Array Oper} {l : List (Nat × V)} {h : List (Nat × HO)} {rest : List Oper} {fs : List FP} {K : St → List FP → Prop} {J : Value → St → List FP → List Nat → Prop} {t : Nat} {ty : TypeId} {pos : String} {af : Array Edge} {x : Operand} {args : Array Operand} {ats : Array TypeId} {f : Nat} {us : List V} {n m : Nat}
variable {α β ε : Type} {sp : Except ε (α × β)} {R : α → V} {E : ε → Value}
theorem t_c1g {gp : Nat × Bool} {g : Bool} {o : HO} {O : β → HO} (hg : gd ops (look l) ⟨some t, .call { callee := .value x, args := args, argTypes := ats }, ty, pos, af, some gp⟩ = some g := by (first | exact g_p rfl rfl | exact g_w rfl rfl)) (hx : Ev (evA (look l)) x (.c (.fn f [])) := by (first | (refine .wh rfl ?_; first | assumption | (rw [hp]; rfl) | (simp_all; done)) | exact .pl rfl)) (hv : g = true → EvL (evA (look l)) args.toList (.c (.ptr n 0) :: us) := by (intro hg; (first | ((repeat (first | exact .nil | ((apply EvL.cons); (· (first | (refine .wh rfl ?_; first | assumption | (rw [hp]; rfl) | (simp_all; done)) | exact .pl rfl))))); done) | fail))) (hn : look h n = some o := by rfl) (hP : MX P f [(0, o)] (.c (.ptr 0 0) :: us) sp R (fun b => [(0, O b)]) E) (hok : okV noN us = true := by (first | rfl | (simp [okV, V.ok, okL, C.ok, okA]; done) | (simp [okV, V.ok, okL, C.ok, okA, okV_app, okV_map, -List.map_map, *]; done) | (simp [okV, V.ok, okL, okLL, C.ok, okA, nsC, NS.zero, lvC, Lv.zero, rgC, Rg.zero, cxC, Ct.zero, moC, Mo.zero]; done) | (simp [okV, V.ok, okL, C.ok, okA, -List.map_drop]; done))) (h1 : o.one = true := by (first | rfl | (simp [HO.one, okL, C.ok, okA]; done))) (k1 : g = true → ∀ a b, sp = .ok (a, b) → AY P ops rest (mk ((t, R a) :: l) ((n, O b) :: h)) (fs ++ [([n], [n])]) K J) (k2 : g = true → ∀ e, sp = .error e → ∀ σ', J (E e) σ' fs [n]) (k0 : g = false → AY P ops rest (mk ((t, undV) :: l) h) (fs ++ [([], [])]) K J) : AY P ops (⟨some t, .call { callee := .value x, args := args, argTypes := ats }, ty, pos, af, some gp⟩ :: rest) (mk l h) fs K J := y_c1g hg hx hv hn hP hok h1 k1 k2 k0
end
section
variable [Tb]
variable {P : Program} {ops : Array Oper} {l : List (Nat × V)} {h : List (Nat × HO)} {rest : List Oper} {fs : List FP} {K : St → List FP → Prop} {J : Value → St → List FP → List Nat → Prop} {t : Nat} {ty : TypeId} {pos : String} {af : Array Edge} {x : Operand} {args : Array Operand} {ats : Array TypeId} {f : Nat} {us : List V} {n m : Nat}
variable {α β ε : Type} {sp : Except ε (α × β)} {R : α → V} {E : ε → Value}
theorem t_c2g {gp : Nat × Bool} {g : Bool} {o s : HO} {O S : β → HO} (hg : gd ops (look l) ⟨some t, .call { callee := .value x, args := args, argTypes := ats }, ty, pos, af, some gp⟩ = some g := by (first | exact g_p rfl rfl | exact g_w rfl rfl)) (hx : Ev (evA (look l)) x (.c (.fn f [])) := by (first | (refine .wh rfl ?_; first | assumption | (rw [hp]; rfl) | (simp_all; done)) | exact .pl rfl)) (hv : g = true → EvL (evA (look l)) args.toList (.c (.ptr n 0) :: .c (.ptr m 0) :: us) := by (intro hg; (first | ((repeat (first | exact .nil | ((apply EvL.cons); (· (first | (refine .wh rfl ?_; first | assumption | (rw [hp]; rfl) | (simp_all; done)) | exact .pl rfl))))); done) | fail))) (hn : look h n = some o := by rfl) (hm : look h m = some s := by rfl) (hP : MX P f [(0, o), (1001, s)] (.c (.ptr 0 0) :: .c (.ptr 1001 0) :: us) sp R (fun b => [(0, O b), (1001, S b)]) E) (hok : okV noN us = true := by (first | rfl | (simp [okV, V.ok, okL, C.ok, okA]; done) | (simp [okV, V.ok, okL, C.ok, okA, okV_app, okV_map, -List.map_map, *]; done) | (simp [okV, V.ok, okL, okLL, C.ok, okA, nsC, NS.zero, lvC, Lv.zero, rgC, Rg.zero, cxC, Ct.zero, moC, Mo.zero]; done) | (simp [okV, V.ok, okL, C.ok, okA, -List.map_drop]; done))) (h1 : o.one = true := by (first | rfl | (simp [HO.one, okL, C.ok, okA]; done))) (h2 : s.one = true := by (first | rfl | (simp [HO.one, okL, C.ok, okA]; done))) (hnm : Nat.beq n m = false := by rfl) (k1 : g = true → ∀ a b, sp = .ok (a, b) → AY P ops rest (mk ((t, R a) :: l) ((m, S b) :: (n, O b) :: h)) (fs ++ [([n, m], [n, m])]) K J) (k2 : g = true → ∀ e, sp = .error e → ∀ σ', J (E e) σ' fs [n, m]) (k0 : g = false → AY P ops rest (mk ((t, undV) :: l) h) (fs ++ [([], [])]) K J) : AY P ops (⟨some t, .call { callee := .value x, args := args, argTypes := ats }, ty, pos, af, some gp⟩ :: rest) (mk l h) fs K J := y_c2g hg hx hv hn hm hP hok h1 h2 hnm k1 k2 k0
end
section
theorem t_p {P : Program} {ops : Array Oper} {l : List (Nat × V)} {h : List (Nat × HO)} {rest : List Oper} {fs : List FP} {K : St → List FP → Prop} {J : Value → St → List FP → List Nat → Prop} {ty : TypeId} {pos : String} {af : Array Edge} {x : Operand} {d : Option Nat} {t : Nat} {u : Value} (k : ∀ σ', J (.iface t u) σ' fs []) (hx : Ev (evA (look l)) x (.c (.sc (.iface t u))) := by (first | (refine .wh rfl ?_; first | assumption | (rw [hp]; rfl) | (simp_all; done)) | exact .pl rfl)) : AY P ops (⟨d, .panic x, ty, pos, af, none⟩ :: rest) (mk l h) fs K J := y_p hx k
end
section
variable [Tb]
variable {P : Program} {ops : Array Oper} {l : List (Nat × V)} {h : List (Nat × HO)} {rest : List Oper} {fs : List FP} {K : St → List FP → Prop} {J : Value → St → List FP → List Nat → Prop} {t : Nat} {ty : TypeId} {pos : String} {af : Array Edge} {x : Operand} {args : Array Operand} {ats : Array TypeId} {f : Nat} {us : List V} {n m : Nat}
variable {α β ε : Type} {sp : Except ε (α × β)} {R : α → V} {E : ε → Value}
theorem t_q {d : Option Nat} {v : Value} (hx : Ev (evA (look l)) x (.c (.fn f [])) := by (first | (refine .wh rfl ?_; first | assumption | (rw [hp]; rfl) | (simp_all; done)) | exact .pl rfl)) (hv : EvL (evA (look l)) args.toList us := by (first | ((repeat (first | exact .nil | ((apply EvL.cons); (· (first | (refine .wh rfl ?_; first | assumption | (rw [hp]; rfl) | (simp_all; done)) | exact .pl rfl))))); done) | fail)) (hP : MQL P f [] us v) (hok : okV noN us = true := by (first | rfl | (simp [okV, V.ok, okL, C.ok, okA]; done) | (simp [okV, V.ok, okL, C.ok, okA, okV_app, okV_map, -List.map_map, *]; done) | (simp [okV, V.ok, okL, okLL, C.ok, okA, nsC, NS.zero, lvC, Lv.zero, rgC, Rg.zero, cxC, Ct.zero, moC, Mo.zero]; done) | (simp [okV, V.ok, okL, C.ok, okA, -List.map_drop]; done))) (k : ∀ σ', J v σ' fs []) : AY P ops (⟨d, .call { callee := .value x, args := args, argTypes := ats }, ty, pos, af, none⟩ :: rest) (mk l h) fs K J := y_q hx hv hP hok k
end
section
variable [Tb]
variable {P : Program} {α β ε : Type} {sp : Except ε (α × β)} {R : α → V} {E : ε → Value} {rl : List ResultVar} {N : List Nat} {O : β → List (Nat × HO)} {l : List (Nat × V)} {h : List (Nat × HO)} {x : Exit} {σ : St}
theorem l_1 {O1 : β → HO} {o : HO} {v : V} {t : Nat} (k : ∃ a b, sp = .ok (a, b) ∧ v.un = R a ∧ HO.le o (O1 b)) (hx : Ev (evA (look l)) (.tmp t) v := by (first | (refine .wh rfl ?_; first | assumption | (rw [hp]; rfl) | (simp_all; done)) | exact .pl rfl)) (ho : look h 0 = some o := by rfl) : RetX P [.tmp t] [0] sp R (fun b => [(0, O1 b)]) E .ret (mk l h) := x_1 hx ho k
end
section
variable [Tb]
variable {P : Program} {α β ε : Type} {sp : Except ε (α × β)} {R : α → V} {E : ε → Value} {rl : List ResultVar} {N : List Nat} {O : β → List (Nat × HO)} {l : List (Nat × V)} {h : List (Nat × HO)} {x : Exit} {σ : St}
theorem l_1c {O1 : β → HO} {o : HO} {v : V} {t ty n off ty0 z : Nat} {cs : List C} {b : Bool} (k : ∃ a b, sp = .ok (a, b) ∧ v.un = R a ∧ HO.le o (O1 b)) (hx : Ev (evA (look l)) (.tmp t) (.c (.ptr n off)) := by (first | (refine .wh rfl ?_; first | assumption | (rw [hp]; rfl) | (simp_all; done)) | exact .pl rfl)) (hh : look h n = some (.obj ty0 cs) := by rfl) (ht : tyi P ty = some (z, b) := by exact tyT_ok rfl) (hc : cutV b cs off z = some v := by (first | (simp only [cutA]; rfl) | (rw [cutDrop _ _ _ _ _ (by (try simp only [lenA]); decide)]; simp only [cutA, Nat.reduceAdd]; rfl) | rfl)) (ho : look h 0 = some o := by rfl) : RetX P [.cell t ty] [0] sp R (fun b => [(0, O1 b)]) E .ret (mk l h) := x_1c hx hh ht hc ho k
end
section
variable [Tb]
variable {P : Program} {α β ε : Type} {sp : Except ε (α × β)} {R : α → V} {E : ε → Value} {rl : List ResultVar} {N : List Nat} {O : β → List (Nat × HO)} {l : List (Nat × V)} {h : List (Nat × HO)} {x : Exit} {σ : St}
theorem l_0 {O1 : β → HO} {o : HO} (k : ∃ a b, sp = .ok (a, b) ∧ .tup [] = R a ∧ HO.le o (O1 b)) (hx : x = .ret ∨ x = .normal := by (first | exact .inl rfl | exact .inr rfl)) (ho : look h 0 = some o := by rfl) : RetX P [] [0] sp R (fun b => [(0, O1 b)]) E x (mk l h) := x_0 hx ho k
end
section
variable [Tb]
variable {P : Program} {α β ε : Type} {sp : Except ε (α × β)} {R : α → V} {E : ε → Value} {rl : List ResultVar} {N : List Nat} {O : β → List (Nat × HO)} {l : List (Nat × V)} {h : List (Nat × HO)} {x : Exit} {σ : St}
theorem l_d {O1 O2 : β → HO} {o s : HO} {v : V} {t : Nat} (k : ∃ a b, sp = .ok (a, b) ∧ v.un = R a ∧ HO.le o (O1 b) ∧ HO.le s (O2 b)) (hx : Ev (evA (look l)) (.tmp t) v := by (first | (refine .wh rfl ?_; first | assumption | (rw [hp]; rfl) | (simp_all; done)) | exact .pl rfl)) (ho : look h 0 = some o := by rfl) (hs : look h 1001 = some s := by rfl) : RetX P [.tmp t] [0, 1001] sp R (fun b => [(0, O1 b), (1001, O2 b)]) E .ret (mk l h) := x_d hx ho hs k
end
section
variable [Tb]
variable {P : Program} {α β ε : Type} {sp : Except ε (α × β)} {R : α → V} {E : ε → Value} {rl : List ResultVar} {N : List Nat} {O : β → List (Nat × HO)} {l : List (Nat × V)} {h : List (Nat × HO)} {x : Exit} {σ : St}
theorem l_d0 {O1 O2 : β → HO} {o s : HO} (k : ∃ a b, sp = .ok (a, b) ∧ .tup [] = R a ∧ HO.le o (O1 b) ∧ HO.le s (O2 b)) (hx : x = .ret ∨ x = .normal := by (first | exact .inl rfl | exact .inr rfl)) (ho : look h 0 = some o := by rfl) (hs : look h 1001 = some s := by rfl) : RetX P [] [0, 1001] sp R (fun b => [(0, O1 b), (1001, O2 b)]) E x (mk l h) := x_d0 hx ho hs k
end
theorem i_ds {P : Program} {ops : Array Oper} {l : List (Nat × V)} {h : List (Nat × HO)} {rest : List Oper} {fs : List FP} {K : St → List FP → Prop} {J : Value → St → List FP → List Nat → Prop} {op : Op} {ty : TypeId} {pos : String} {af : Array Edge} (k : AY P ops (⟨none, op, ty, pos, af, none⟩ :: rest) (mk l h) fs K J) : AY P ops (⟨none, op, ty, pos, af, none⟩ :: rest) (mk l h) fs K J := k
theorem i_dv {P : Program} {ops : Array Oper} {l : List (Nat × V)} {h : List (Nat × HO)} {rest : List Oper} {fs : List FP} {K : St → List FP → Prop} {J : Value → St → List FP → List Nat → Prop} {op : Op} {ty : TypeId} {pos : String} {af : Array Edge} {t : Nat} (k : AY P ops (⟨some t, op, ty, pos, af, none⟩ :: rest) (mk l h) fs K J) : AY P ops (⟨some t, op, ty, pos, af, none⟩ :: rest) (mk l h) fs K J := k
theorem i_dg {P : Program} {ops : Array Oper} {l : List (Nat × V)} {h : List (Nat × HO)} {rest : List Oper} {fs : List FP} {K : St → List FP → Prop} {J : Value → St → List FP → List Nat → Prop} {op : Op} {ty : TypeId} {pos : String} {af : Array Edge} {t : Nat} {gp : Nat × Bool} (k : AY P ops (⟨some t, op, ty, pos, af, some gp⟩ :: rest) (mk l h) fs K J) : AY P ops (⟨some t, op, ty, pos, af, some gp⟩ :: rest) (mk l h) fs K J := k
theorem i_aw {P : Program} {nt : Nat} {c : Code} {Q : Exit → St → Prop} {σ : St} (h : AW P nt c Q σ) : AW P nt c Q σ := h
theorem i_rt {P : Program} {rl : List ResultVar} {r : V} {x : Exit} {σ : St} (h : Ret P rl r x σ) : Ret P rl r x σ := h
theorem i_rx {α β ε : Type} {P : Program} {rl : List ResultVar} {N : List Nat} {sp : Except ε (α × β)} {R : α → V} {O : β → List (Nat × HO)} {E : ε → Value} {x : Exit} {σ : St} (h : RetX P rl N sp R O E x σ) : RetX P rl N sp R O E x σ := h
end Am
end Go.Proofs.YtkpodagbefnebaaGreatDoor
