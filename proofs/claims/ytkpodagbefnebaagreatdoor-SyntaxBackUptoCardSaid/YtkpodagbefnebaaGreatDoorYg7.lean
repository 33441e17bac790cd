import Derived.Test.YtkpodagbefnebaaGreatDoorYg6
set_option linter.unusedSimpArgs false
set_option linter.unusedVariables false
set_option linter.unusedSectionVars false
namespace Go.Proofs.YtkpodagbefnebaaGreatDoor
namespace Am
open Go.RowKit
set_option maxRecDepth 100000
section
variable {ρ:Operand→Option V} {H:Nat→Option HO} {d:Option Nat} {ty t2:TypeId} {pos:String} {af:Array Edge} {gu:Option (Nat×Bool)} {x y:Operand}
theorem aB {ρ:Operand→Option V} {x:Operand} {v:V} (h:Ev ρ x v:=by(first|(refine .wh rfl ?_;first|assumption|(rw[hp];rfl)|(simp_all;done))|exact .pl rfl)):Ev ρ x v:=h
theorem CQ {x0:Operand} {y0:ByteArray} (h0:Ev ρ x0 (.c (sS y0)):=by exact aB):AS Tryz.prog ρ H ⟨d,.build 25 #[(0,x0)],ty,pos,af,gu⟩ ⟨.agg (moC {Mo.zero with name:=y0}),[],[]⟩:=zM h0
end
section
variable {ρ:Operand→Option V} {H:Nat→Option HO} {d:Option Nat} {ty t2:TypeId} {pos:String} {af:Array Edge} {gu:Option (Nat×Bool)} {x y:Operand}
end
section
variable {ρ:Operand→Option V} {H:Nat→Option HO} {d:Option Nat} {ty t2:TypeId} {pos:String} {af:Array Edge} {gu:Option (Nat×Bool)} {x y:Operand}
end
section
variable {ρ:Operand→Option V} {H:Nat→Option HO} {d:Option Nat} {ty t2:TypeId} {pos:String} {af:Array Edge} {gu:Option (Nat×Bool)} {x y:Operand}
theorem wQ {x0 x1:Operand} {y0:Int} {y1:Int} (h0:Ev ρ x0 (.c (sI y0)):=by exact aB) (h1:Ev ρ x1 (.c (sI y1)):=by exact aB):AS Tryz.prog ρ H ⟨d,.build 28 #[(0,x0),(1,x1)],ty,pos,af,gu⟩ ⟨.agg (poC {Po.zero with line:=y0,col:=y1}),[],[]⟩:=vi h0 h1
end
section
variable {ρ:Operand→Option V} {H:Nat→Option HO} {d:Option Nat} {ty t2:TypeId} {pos:String} {af:Array Edge} {gu:Option (Nat×Bool)} {x y:Operand}
theorem CR {x0:Operand} {y0:Int} (h0:Ev ρ x0 (.c (sI y0)):=by exact aB):AS Tryz.prog ρ H ⟨d,.build 30 #[(0,x0)],ty,pos,af,gu⟩ ⟨.agg (faC {Fa.zero with code:=y0}),[],[]⟩:=zN h0
end
section
variable {ρ:Operand→Option V} {H:Nat→Option HO} {d:Option Nat} {ty t2:TypeId} {pos:String} {af:Array Edge} {gu:Option (Nat×Bool)} {x y:Operand}
theorem wT {x0 x1:Operand} {y0:Int} {y1:Po} (h0:Ev ρ x0 (.c (sI y0)):=by exact aB) (h1:Ev ρ x1 (.agg (poC y1)):=by exact aB):AS Tryz.prog ρ H ⟨d,.build 30 #[(0,x0),(1,x1)],ty,pos,af,gu⟩ ⟨.agg (faC {Fa.zero with code:=y0,pos:=y1}),[],[]⟩:=vj h0 h1
end
section
variable {ρ:Operand→Option V} {H:Nat→Option HO} {d:Option Nat} {ty t2:TypeId} {pos:String} {af:Array Edge} {gu:Option (Nat×Bool)} {x y:Operand}
theorem sD {x0 x1 x2:Operand} {y0:Int} {y1:Po} {y2:ByteArray} (h0:Ev ρ x0 (.c (sI y0)):=by exact aB) (h1:Ev ρ x1 (.agg (poC y1)):=by exact aB) (h2:Ev ρ x2 (.c (sS y2)):=by exact aB):AS Tryz.prog ρ H ⟨d,.build 30 #[(0,x0),(1,x1),(2,x2)],ty,pos,af,gu⟩ ⟨.agg (faC {Fa.zero with code:=y0,pos:=y1,name:=y2}),[],[]⟩:=qM h0 h1 h2
end
section
variable {ρ:Operand→Option V} {H:Nat→Option HO} {d:Option Nat} {ty t2:TypeId} {pos:String} {af:Array Edge} {gu:Option (Nat×Bool)} {x y:Operand}
end
section
variable {ρ:Operand→Option V} {H:Nat→Option HO} {d:Option Nat} {ty t2:TypeId} {pos:String} {af:Array Edge} {gu:Option (Nat×Bool)} {x y:Operand}
theorem pH {x0 x1 x2 x3:Operand} {y0:Int} {y1:Int} {y2:Int} {y3:Int} (h0:Ev ρ x0 (.c (sI y0)):=by exact aB) (h1:Ev ρ x1 (.c (sI y1)):=by exact aB) (h2:Ev ρ x2 (.c (sI y2)):=by exact aB) (h3:Ev ρ x3 (.c (sI y3)):=by exact aB):AS Tryz.prog ρ H ⟨d,.build 49 #[(0,x0),(1,x1),(2,x2),(3,x3)],ty,pos,af,gu⟩ ⟨.agg (exC {Ex.zero with op:=y0,a:=y1,rel:=y2,b:=y3}),[],[]⟩:=nK h0 h1 h2 h3
end
section
variable {ρ:Operand→Option V} {H:Nat→Option HO} {d:Option Nat} {ty t2:TypeId} {pos:String} {af:Array Edge} {gu:Option (Nat×Bool)} {x y:Operand}
theorem sE {x0 x1 x2:Operand} {y0:Int} {y1:Int} {y2:List ByteArray} (h0:Ev ρ x0 (.c (sI y0)):=by exact aB) (h1:Ev ρ x1 (.c (sI y1)):=by exact aB) (h2:Ev ρ x2 (.c (bW y2)):=by exact aB):AS Tryz.prog ρ H ⟨d,.build 49 #[(0,x0),(1,x1),(4,x2)],ty,pos,af,gu⟩ ⟨.agg (exC {Ex.zero with op:=y0,a:=y1,names:=y2}),[],[]⟩:=qN h0 h1 h2
end
section
variable {ρ:Operand→Option V} {H:Nat→Option HO} {d:Option Nat} {ty t2:TypeId} {pos:String} {af:Array Edge} {gu:Option (Nat×Bool)} {x y:Operand}
end
section
variable {ρ:Operand→Option V} {H:Nat→Option HO} {d:Option Nat} {ty t2:TypeId} {pos:String} {af:Array Edge} {gu:Option (Nat×Bool)} {x y:Operand}
theorem wU {x0 x1:Operand} {y0:Int} {y1:List ByteArray} (h0:Ev ρ x0 (.c (sI y0)):=by exact aB) (h1:Ev ρ x1 (.c (bW y1)):=by exact aB):AS Tryz.prog ρ H ⟨d,.build 49 #[(0,x0),(4,x1)],ty,pos,af,gu⟩ ⟨.agg (exC {Ex.zero with op:=y0,names:=y1}),[],[]⟩:=vk h0 h1
end
section
variable {ρ:Operand→Option V} {H:Nat→Option HO} {d:Option Nat} {ty t2:TypeId} {pos:String} {af:Array Edge} {gu:Option (Nat×Bool)} {x y:Operand}
theorem wW {x0 x1:Operand} {y0:Int} {y1:List Ex} (h0:Ev ρ x0 (.c (sI y0)):=by exact aB) (h1:Ev ρ x1 (.c (.lst none 10 (y1.map exC))):=by exact aB):AS Tryz.prog ρ H ⟨d,.build 49 #[(0,x0),(6,x1)],ty,pos,af,gu⟩ ⟨.agg (exC {Ex.zero with op:=y0,kids:=y1}),[],[]⟩:=vl h0 h1
end
section
variable {ρ:Operand→Option V} {H:Nat→Option HO} {d:Option Nat} {ty t2:TypeId} {pos:String} {af:Array Edge} {gu:Option (Nat×Bool)} {x y:Operand}
end
section
variable {ρ:Operand→Option V} {H:Nat→Option HO} {d:Option Nat} {ty t2:TypeId} {pos:String} {af:Array Edge} {gu:Option (Nat×Bool)} {x y:Operand}
end
section
variable {ρ:Operand→Option V} {H:Nat→Option HO} {d:Option Nat} {ty t2:TypeId} {pos:String} {af:Array Edge} {gu:Option (Nat×Bool)} {x y:Operand}
end
section
variable {ρ:Operand→Option V} {H:Nat→Option HO} {d:Option Nat} {ty t2:TypeId} {pos:String} {af:Array Edge} {gu:Option (Nat×Bool)} {x y:Operand}
end
section
variable {ρ:Operand→Option V} {H:Nat→Option HO} {d:Option Nat} {ty t2:TypeId} {pos:String} {af:Array Edge} {gu:Option (Nat×Bool)} {x y:Operand}
end
section
variable {ρ:Operand→Option V} {H:Nat→Option HO} {d:Option Nat} {ty t2:TypeId} {pos:String} {af:Array Edge} {gu:Option (Nat×Bool)} {x y:Operand}
theorem CS {x0:Operand} {y0:Lv} (h0:Ev ρ x0 (.agg (lvC y0)):=by exact aB):AS Tryz.prog ρ H ⟨d,.build 65 #[(0,x0)],ty,pos,af,gu⟩ ⟨.agg (rgC {Rg.zero with lo:=y0}),[],[]⟩:=zO h0
end
section
variable {ρ:Operand→Option V} {H:Nat→Option HO} {d:Option Nat} {ty t2:TypeId} {pos:String} {af:Array Edge} {gu:Option (Nat×Bool)} {x y:Operand}
theorem CT {x0:Operand} {y0:ByteArray} (h0:Ev ρ x0 (.c (sS y0)):=by exact aB):AS Tryz.prog ρ H ⟨d,.build 67 #[(0,x0)],ty,pos,af,gu⟩ ⟨.agg (cxC {Ct.zero with user:=y0}),[],[]⟩:=zP h0
end
section
variable {ρ:Operand→Option V} {H:Nat→Option HO} {d:Option Nat} {ty t2:TypeId} {pos:String} {af:Array Edge} {gu:Option (Nat×Bool)} {x y:Operand}
theorem CU {x0:Operand} {y0:Int} (h0:Ev ρ x0 (.c (sI y0)):=by exact aB):AS Tryz.prog ρ H ⟨d,.build 69 #[(0,x0)],ty,pos,af,gu⟩ ⟨.agg (stC {Stm.zero with kind:=y0}),[],[]⟩:=zR h0
end
section
variable {ρ:Operand→Option V} {H:Nat→Option HO} {d:Option Nat} {ty t2:TypeId} {pos:String} {af:Array Edge} {gu:Option (Nat×Bool)} {x y:Operand}
end
section
variable {ρ:Operand→Option V} {H:Nat→Option HO} {d:Option Nat} {ty t2:TypeId} {pos:String} {af:Array Edge} {gu:Option (Nat×Bool)} {x y:Operand}
end
section
variable {ρ:Operand→Option V} {H:Nat→Option HO} {d:Option Nat} {ty t2:TypeId} {pos:String} {af:Array Edge} {gu:Option (Nat×Bool)} {x y:Operand}
theorem CV {x0:Operand} {y0:Po} (h0:Ev ρ x0 (.agg (poC y0)):=by exact aB):AS Tryz.prog ρ H ⟨d,.build 69 #[(2,x0)],ty,pos,af,gu⟩ ⟨.agg (stC {Stm.zero with pos:=y0}),[],[]⟩:=zS h0
end
section
variable {ρ:Operand→Option V} {H:Nat→Option HO} {d:Option Nat} {ty t2:TypeId} {pos:String} {af:Array Edge} {gu:Option (Nat×Bool)} {x y:Operand}
end
section
variable {ρ:Operand→Option V} {H:Nat→Option HO} {d:Option Nat} {ty t2:TypeId} {pos:String} {af:Array Edge} {gu:Option (Nat×Bool)} {x y:Operand}
end
section
variable {ρ:Operand→Option V} {H:Nat→Option HO} {d:Option Nat} {ty t2:TypeId} {pos:String} {af:Array Edge} {gu:Option (Nat×Bool)} {x y:Operand}
theorem wX {x0 x1:Operand} {y0:Int} {y1:Po} (h0:Ev ρ x0 (.c (sI y0)):=by exact aB) (h1:Ev ρ x1 (.agg (poC y1)):=by exact aB):AS Tryz.prog ρ H ⟨d,.build 99 #[(0,x0),(2,x1)],ty,pos,af,gu⟩ ⟨.agg (tkC {Tok.zero with kind:=y0,pos:=y1}),[],[]⟩:=vm h0 h1
end
section
variable {ρ:Operand→Option V} {H:Nat→Option HO} {d:Option Nat} {ty t2:TypeId} {pos:String} {af:Array Edge} {gu:Option (Nat×Bool)} {x y:Operand}
theorem CW {x0:Operand} {y0:Po} (h0:Ev ρ x0 (.agg (poC y0)):=by exact aB):AS Tryz.prog ρ H ⟨d,.build 99 #[(2,x0)],ty,pos,af,gu⟩ ⟨.agg (tkC {Tok.zero with pos:=y0}),[],[]⟩:=zT h0
end
section
variable {ρ:Operand→Option V} {H:Nat→Option HO} {d:Option Nat} {ty t2:TypeId} {pos:String} {af:Array Edge} {gu:Option (Nat×Bool)} {x y:Operand}
theorem FY {x0:Operand} {y0:Fa} (h0:Ev ρ x0 (.agg (faC y0)):=by exact aB):AS Tryz.prog ρ H ⟨d,.build 127 #[(0,x0)],ty,pos,af,gu⟩ ⟨.agg (faC y0),[],[]⟩:=DA h0
end
section
variable {ρ:Operand→Option V} {H:Nat→Option HO} {d:Option Nat} {ty t2:TypeId} {pos:String} {af:Array Edge} {gu:Option (Nat×Bool)} {x y:Operand}
theorem zD {x0:Operand} {y0:List Tok} (h0:Ev ρ x0 (.c (.lst none 4 (y0.map tkC))):=by exact aB):AS Tryz.prog ρ H ⟨d,.build 130 #[(0,x0)],ty,pos,af,gu⟩ ⟨.agg (psC {Ps.zero with l:=y0}),[],[]⟩:=yv h0
end
section
variable {ρ:Operand→Option V} {H:Nat→Option HO} {d:Option Nat} {ty t2:TypeId} {pos:String} {af:Array Edge} {gu:Option (Nat×Bool)} {x y:Operand}
end
section
variable {ρ:Operand→Option V} {H:Nat→Option HO} {d:Option Nat} {ty t2:TypeId} {pos:String} {af:Array Edge} {gu:Option (Nat×Bool)} {x y:Operand}
end
section
variable {ρ:Operand→Option V} {H:Nat→Option HO} {d:Option Nat} {ty t2:TypeId} {pos:String} {af:Array Edge} {gu:Option (Nat×Bool)} {x y:Operand}
theorem vb {x0 x1:Operand} {y0:ByteArray} {y1:Po} (h0:Ev ρ x0 (.c (sS y0)):=by exact aB) (h1:Ev ρ x1 (.agg (poC y1)):=by exact aB):AS Tryz.prog ρ H ⟨d,.build 154 #[(0,x0),(2,x1)],ty,pos,af,gu⟩ ⟨.agg (snR {Sc.zero with src:=y0,pos:=y1}),[],[]⟩:=sP h0 h1
end
section
variable {ρ:Operand→Option V} {H:Nat→Option HO} {d:Option Nat} {ty t2:TypeId} {pos:String} {af:Array Edge} {gu:Option (Nat×Bool)} {x y:Operand}
theorem FZ {x0:Operand} {y0:Fa} (h0:Ev ρ x0 (.agg (faC y0)):=by exact aB):AS Tryz.prog ρ H ⟨d,.build 158 #[(0,x0)],ty,pos,af,gu⟩ ⟨.agg (faC y0),[],[]⟩:=DB h0
end
section
variable {ρ:Operand→Option V} {H:Nat→Option HO} {d:Option Nat} {ty t2:TypeId} {pos:String} {af:Array Edge} {gu:Option (Nat×Bool)} {x y:Operand}
theorem zE {x0:Operand} {y0:List Tok} (h0:Ev ρ x0 (.c (.lst none 4 (y0.map tkC))):=by exact aB):AS Tryz.prog ρ H ⟨d,.build 162 #[(0,x0)],ty,pos,af,gu⟩ ⟨.agg (bsC {Bs.zero with l:=y0}),[],[]⟩:=yw h0
end
section
variable {ρ:Operand→Option V} {H:Nat→Option HO} {d:Option Nat} {ty t2:TypeId} {pos:String} {af:Array Edge} {gu:Option (Nat×Bool)} {x y:Operand}
theorem zF {x0:Operand} {y0:ByteArray} (h0:Ev ρ x0 (.c (sS y0)):=by exact aB):AS Tryz.prog ρ H ⟨d,.build 170 #[(0,x0)],ty,pos,af,gu⟩ ⟨.agg (spC {Sp.zero with frm:=y0}),[],[]⟩:=yx h0
end
section
variable {ρ:Operand→Option V} {H:Nat→Option HO} {d:Option Nat} {ty t2:TypeId} {pos:String} {af:Array Edge} {gu:Option (Nat×Bool)} {x y:Operand}
theorem D1 {x0:Operand} {a0:Stm} (h0:Ev ρ x0 (.agg (stC a0)):=by exact aB):AS Tryz.prog ρ H ⟨d,.buildSlice 23 1 #[(0,x0)],ty,pos,af,gu⟩ ⟨.c (.lst none 55 ([a0].map stC)),[],[]⟩:=zW h0
end
section
variable {ρ:Operand→Option V} {H:Nat→Option HO} {d:Option Nat} {ty t2:TypeId} {pos:String} {af:Array Edge} {gu:Option (Nat×Bool)} {x y:Operand}
theorem D2 {x0:Operand} {a0:Tok} (h0:Ev ρ x0 (.agg (tkC a0)):=by exact aB):AS Tryz.prog ρ H ⟨d,.buildSlice 36 1 #[(0,x0)],ty,pos,af,gu⟩ ⟨.c (.lst none 4 ([a0].map tkC)),[],[]⟩:=zX h0
end
section
variable {ρ:Operand→Option V} {H:Nat→Option HO} {d:Option Nat} {ty t2:TypeId} {pos:String} {af:Array Edge} {gu:Option (Nat×Bool)} {x y:Operand}
theorem D3 {x0:Operand} {a0:Ex} (h0:Ev ρ x0 (.agg (exC a0)):=by exact aB):AS Tryz.prog ρ H ⟨d,.buildSlice 47 1 #[(0,x0)],ty,pos,af,gu⟩ ⟨.c (.lst none 10 ([a0].map exC)),[],[]⟩:=zY h0
end
section
variable {ρ:Operand→Option V} {H:Nat→Option HO} {d:Option Nat} {ty t2:TypeId} {pos:String} {af:Array Edge} {gu:Option (Nat×Bool)} {x y:Operand}
theorem D4 {x0 x1:Operand} {a0 a1:Ex} (h0:Ev ρ x0 (.agg (exC a0)):=by exact aB) (h1:Ev ρ x1 (.agg (exC a1)):=by exact aB):AS Tryz.prog ρ H ⟨d,.buildSlice 47 2 #[(0,x0),(1,x1)],ty,pos,af,gu⟩ ⟨.c (.lst none 10 ([a0,a1].map exC)),[],[]⟩:=zZ h0 h1
end
section
variable {ρ:Operand→Option V} {H:Nat→Option HO} {d:Option Nat} {ty t2:TypeId} {pos:String} {af:Array Edge} {gu:Option (Nat×Bool)} {x y:Operand}
theorem D5 {x0:Operand} {a0:Sp} (h0:Ev ρ x0 (.agg (spC a0)):=by exact aB):AS Tryz.prog ρ H ⟨d,.buildSlice 61 1 #[(0,x0)],ty,pos,af,gu⟩ ⟨.c (.lst none 2 ([a0].map spC)),[],[]⟩:=A0 h0
end
section
variable {ρ:Operand→Option V} {H:Nat→Option HO} {d:Option Nat} {ty t2:TypeId} {pos:String} {af:Array Edge} {gu:Option (Nat×Bool)} {x y:Operand}
end
section
variable [Tb]
variable {P:Program} {ρ:Operand→Option V} {H:Nat→Option HO} {d:Option Nat} {ty:TypeId} {pos:String} {af:Array Edge} {gu:Option (Nat×Bool)} {x y:Operand} {v:V} {t e n off k i:Nat} {cs ds cs':List C} {b:Bool}
theorem CP (hx:Ev ρ x v:=by exact aB):AS P ρ H ⟨d,.assign x,ty,pos,af,gu⟩ ⟨v,[],[]⟩:=zL hx
end
section
variable [Tb]
variable {P:Program} {ρ:Operand→Option V} {H:Nat→Option HO} {d:Option Nat} {ty:TypeId} {pos:String} {af:Array Edge} {gu:Option (Nat×Bool)} {x y:Operand} {v:V} {t e n off k i:Nat} {cs ds cs':List C} {b:Bool}
theorem J0 (hx:Ev ρ x v:=by exact aB):AS P ρ H ⟨d,.move x,ty,pos,af,gu⟩ ⟨v,[],[]⟩:=H9 hx
end
section
variable [Tb]
variable {P:Program} {ρ:Operand→Option V} {H:Nat→Option HO} {d:Option Nat} {ty:TypeId} {pos:String} {af:Array Edge} {gu:Option (Nat×Bool)} {x y:Operand} {v:V} {t e n off k i:Nat} {cs ds cs':List C} {b:Bool}
theorem Kv (hx:Ev ρ x v:=by exact aB) (hv:vV v=true:=by rfl):AS P ρ H ⟨d,.nilCheck x,ty,pos,af,gu⟩ ⟨v,[],[]⟩:=Jp hx hv
end
section
variable [Tb]
variable {P:Program} {ρ:Operand→Option V} {H:Nat→Option HO} {d:Option Nat} {ty:TypeId} {pos:String} {af:Array Edge} {gu:Option (Nat×Bool)} {x y:Operand} {v:V} {t e n off k i:Nat} {cs ds cs':List C} {b:Bool}
theorem sF {ty0:Nat} (hx:Ev ρ x (.c (.ptr n off)):=by exact aB) (hh:H n=some (.obj ty0 cs):=by rfl) (ht:tyi P e=some (k,b):=by exact eH rfl) (hc:aU b cs off k=some v:=by(first|(simp only[fB];rfl)|(rw[dY _ _ _ _ _ (by(try simp only[km]);decide)];simp only[fB,Nat.reduceAdd];rfl)|rfl)):AS P ρ H ⟨d,.load e x,ty,pos,af,gu⟩ ⟨v,[],[n]⟩:=DE hx hh ht hc
end
section
variable [Tb]
variable {P:Program} {ρ:Operand→Option V} {H:Nat→Option HO} {d:Option Nat} {ty:TypeId} {pos:String} {af:Array Edge} {gu:Option (Nat×Bool)} {x y:Operand} {v:V} {t e n off k i:Nat} {cs ds cs':List C} {b:Bool}
theorem G3 (hx:Ev ρ x (.c (.ep cs)):=by exact aB) (ht:tyi P e=some (k,b):=by exact eH rfl) (hc:aU b cs 0 k=some v:=by(first|(simp only[fB];rfl)|(rw[dY _ _ _ _ _ (by(try simp only[km]);decide)];simp only[fB,Nat.reduceAdd];rfl)|rfl)):AS P ρ H ⟨d,.load e x,ty,pos,af,gu⟩ ⟨v,[],[]⟩:=DD hx ht hc
end
section
variable [Tb]
variable {P:Program} {ρ:Operand→Option V} {H:Nat→Option HO} {d:Option Nat} {ty:TypeId} {pos:String} {af:Array Edge} {gu:Option (Nat×Bool)} {x y:Operand} {v:V} {t e n off k i:Nat} {cs ds cs':List C} {b:Bool}
theorem IU {s f o2 ft q:Nat} (hx:Ev ρ x (.c (.ptr n off)):=by exact aB) (hf:fld P s f=some (o2,ft):=by exact lk rfl rfl) (he:off+o2=q:=by(first|exact Nat.zero_add _|(simp only[Nat.reduceAdd];rfl)|rfl)):AS P ρ H ⟨d,.fieldAddr s x f,ty,pos,af,gu⟩ ⟨.c (.ptr n q),[],[]⟩:=H0 hx hf he
end
section
variable [Tb]
variable {P:Program} {ρ:Operand→Option V} {H:Nat→Option HO} {d:Option Nat} {ty:TypeId} {pos:String} {af:Array Edge} {gu:Option (Nat×Bool)} {x y:Operand} {v:V} {t e n off k i:Nat} {cs ds cs':List C} {b:Bool}
theorem IR {s f o2 ft:Nat} (hx:Ev ρ x (.c (.ep cs)):=by exact aB) (hf:fld P s f=some (o2,ft):=by exact lk rfl rfl) (he:cs.drop o2=ds:=by rfl):AS P ρ H ⟨d,.fieldAddr s x f,ty,pos,af,gu⟩ ⟨.c (.ep ds),[],[]⟩:=GZ hx hf he
end
section
variable [Tb]
variable {P:Program} {ρ:Operand→Option V} {H:Nat→Option HO} {d:Option Nat} {ty:TypeId} {pos:String} {af:Array Edge} {gu:Option (Nat×Bool)} {x y:Operand} {v:V} {t e n off k i:Nat} {cs ds cs':List C} {b:Bool}
theorem Ks {s f o2 ft:Nat} (hx:Ev ρ x (.agg cs):=by exact aB) (hf:fld P s f=some (o2,ft):=by exact lk rfl rfl) (ht:tyi P ft=some (k,b):=by exact eH rfl) (hc:aU b cs o2 k=some v:=by(first|(simp only[fB];rfl)|(rw[dY _ _ _ _ _ (by(try simp only[km]);decide)];simp only[fB,Nat.reduceAdd];rfl)|rfl)):AS P ρ H ⟨d,.field s x f,ty,pos,af,gu⟩ ⟨v,[],[]⟩:=Jl hx hf ht hc
end
section
variable [Tb]
variable {P:Program} {ρ:Operand→Option V} {H:Nat→Option HO} {d:Option Nat} {ty:TypeId} {pos:String} {af:Array Edge} {gu:Option (Nat×Bool)} {x y:Operand} {v:V} {t e n off k i:Nat} {cs ds cs':List C} {b:Bool}
theorem Kj {c a:Operand} {p q:Bool} (hc:Ev ρ c (.c (.sc (.bool p))):=by exact aB) (h0:ρ (.const (.bool false))=some (.c (.sc (.bool false))):=by rfl) (ha:p=true→Ev ρ a (.c (.sc (.bool q))):=by(first|(intro hp;(first|(refine .wh rfl ?_;first|assumption|(rw[hp];rfl)|(simp_all;done))|exact .pl rfl);done)|fail)):AS P ρ H ⟨d,.pick c a (.const (.bool false)),ty,pos,af,gu⟩ ⟨.c (.sc (.bool (p&&q))),[],[]⟩:=Je hc h0 ha
end
section
variable [Tb]
variable {P:Program} {ρ:Operand→Option V} {H:Nat→Option HO} {d:Option Nat} {ty:TypeId} {pos:String} {af:Array Edge} {gu:Option (Nat×Bool)} {x y:Operand} {v:V} {t e n off k i:Nat} {cs ds cs':List C} {b:Bool}
theorem Lu {c a:Operand} {p q:Bool} (hc:Ev ρ c (.c (.sc (.bool p))):=by exact aB) (h0:ρ (.const (.bool true))=some (.c (.sc (.bool true))):=by rfl) (ha:p=false→Ev ρ a (.c (.sc (.bool q))):=by(first|(intro hp;(first|(refine .wh rfl ?_;first|assumption|(rw[hp];rfl)|(simp_all;done))|exact .pl rfl);done)|fail)):AS P ρ H ⟨d,.pick c (.const (.bool true)) a,ty,pos,af,gu⟩ ⟨.c (.sc (.bool (p || q))),[],[]⟩:=L7 hc h0 ha
end
section
variable [Tb]
variable {P:Program} {ρ:Operand→Option V} {H:Nat→Option HO} {d:Option Nat} {ty:TypeId} {pos:String} {af:Array Edge} {gu:Option (Nat×Bool)} {x y:Operand} {v:V} {t e n off k i:Nat} {cs ds cs':List C} {b:Bool}
end
section
variable [Tb]
theorem G6 {P:Program} {ρ:Operand→Option V} {H:Nat→Option HO} {d:Option Nat} {ty:TypeId} {pos:String} {af:Array Edge} {gu:Option (Nat×Bool)} {v:V} {c a b:Operand} {p:Bool} (hc:Ev ρ c (.c (.sc (.bool p))):=by exact aB) (hp:p=false:=by(first|(simp[*];done)|(simp_all;done)|fail)) (hb:Ev ρ b v:=by exact aB):AS P ρ H ⟨d,.pick c a b,ty,pos,af,gu⟩ ⟨v,[],[]⟩:=DG hc hp hb
end
section
variable [Tb]
theorem G7 {P:Program} {ρ:Operand→Option V} {H:Nat→Option HO} {d:Option Nat} {ty:TypeId} {pos:String} {af:Array Edge} {gu:Option (Nat×Bool)} {v:V} {c a b:Operand} {p:Bool} (hc:Ev ρ c (.c (.sc (.bool p))):=by exact aB) (hp:p=true:=by(first|(simp[*];done)|(simp_all;done)|fail)) (hb:Ev ρ a v:=by exact aB):AS P ρ H ⟨d,.pick c a b,ty,pos,af,gu⟩ ⟨v,[],[]⟩:=DH hc hp hb
end
section
variable [Tb]
variable {P:Program} {ρ:Operand→Option V} {H:Nat→Option HO} {d:Option Nat} {ty:TypeId} {pos:String} {af:Array Edge} {gu:Option (Nat×Bool)} {x y:Operand} {v:V} {t e n off k i:Nat} {cs ds cs':List C} {b:Bool}
variable {t2:TypeId} {kd:IntKind} {p q:Int} {s u:ByteArray} {f g:Bool}
theorem Ln (hx:Ev ρ x (.c (.sc (.int kd p))):=by exact aB) (hy:Ev ρ y (.c (.sc (.int kd q))):=by exact aB):AS P ρ H ⟨d,.binOp .eql t x y t2,ty,pos,af,gu⟩ ⟨.c (.sc (.bool (decide (p=q)))),[],[]⟩:=L0 hx hy
end
section
variable [Tb]
variable {P:Program} {ρ:Operand→Option V} {H:Nat→Option HO} {d:Option Nat} {ty:TypeId} {pos:String} {af:Array Edge} {gu:Option (Nat×Bool)} {x y:Operand} {v:V} {t e n off k i:Nat} {cs ds cs':List C} {b:Bool}
variable {t2:TypeId} {kd:IntKind} {p q:Int} {s u:ByteArray} {f g:Bool}
theorem Kz (hx:Ev ρ x (.c (.sc (.string s))):=by exact aB) (hy:Ev ρ y (.c (.sc (.string u))):=by exact aB):AS P ρ H ⟨d,.binOp .eql t x y t2,ty,pos,af,gu⟩ ⟨.c (.sc (.bool (decide (s=u)))),[],[]⟩:=Ju hx hy
end
section
variable [Tb]
variable {P:Program} {ρ:Operand→Option V} {H:Nat→Option HO} {d:Option Nat} {ty:TypeId} {pos:String} {af:Array Edge} {gu:Option (Nat×Bool)} {x y:Operand} {v:V} {t e n off k i:Nat} {cs ds cs':List C} {b:Bool}
variable {t2:TypeId} {kd:IntKind} {p q:Int} {s u:ByteArray} {f g:Bool}
theorem Lt (hx:Ev ρ x (.c (.sc (.int kd p))):=by exact aB) (hy:Ev ρ y (.c (.sc (.int kd q))):=by exact aB):AS P ρ H ⟨d,.binOp .neq t x y t2,ty,pos,af,gu⟩ ⟨.c (.sc (.bool (!decide (p=q)))),[],[]⟩:=L6 hx hy
end
section
variable [Tb]
variable {P:Program} {ρ:Operand→Option V} {H:Nat→Option HO} {d:Option Nat} {ty:TypeId} {pos:String} {af:Array Edge} {gu:Option (Nat×Bool)} {x y:Operand} {v:V} {t e n off k i:Nat} {cs ds cs':List C} {b:Bool}
variable {t2:TypeId} {kd:IntKind} {p q:Int} {s u:ByteArray} {f g:Bool}
theorem KA (hx:Ev ρ x (.c (.sc (.string s))):=by exact aB) (hy:Ev ρ y (.c (.sc (.string u))):=by exact aB):AS P ρ H ⟨d,.binOp .neq t x y t2,ty,pos,af,gu⟩ ⟨.c (.sc (.bool (!decide (s=u)))),[],[]⟩:=Jv hx hy
end
section
variable [Tb]
variable {P:Program} {ρ:Operand→Option V} {H:Nat→Option HO} {d:Option Nat} {ty:TypeId} {pos:String} {af:Array Edge} {gu:Option (Nat×Bool)} {x y:Operand} {v:V} {t e n off k i:Nat} {cs ds cs':List C} {b:Bool}
variable {t2:TypeId} {kd:IntKind} {p q:Int} {s u:ByteArray} {f g:Bool}
theorem Ls (hx:Ev ρ x (.c (.sc (.int kd p))):=by exact aB) (hy:Ev ρ y (.c (.sc (.int kd q))):=by exact aB):AS P ρ H ⟨d,.binOp .lss t x y t2,ty,pos,af,gu⟩ ⟨.c (.sc (.bool (decide (p<q)))),[],[]⟩:=L5 hx hy
end
section
variable [Tb]
variable {P:Program} {ρ:Operand→Option V} {H:Nat→Option HO} {d:Option Nat} {ty:TypeId} {pos:String} {af:Array Edge} {gu:Option (Nat×Bool)} {x y:Operand} {v:V} {t e n off k i:Nat} {cs ds cs':List C} {b:Bool}
variable {t2:TypeId} {kd:IntKind} {p q:Int} {s u:ByteArray} {f g:Bool}
theorem Lr (hx:Ev ρ x (.c (.sc (.int kd p))):=by exact aB) (hy:Ev ρ y (.c (.sc (.int kd q))):=by exact aB):AS P ρ H ⟨d,.binOp .leq t x y t2,ty,pos,af,gu⟩ ⟨.c (.sc (.bool (decide (p≤q)))),[],[]⟩:=L4 hx hy
end
section
variable [Tb]
variable {P:Program} {ρ:Operand→Option V} {H:Nat→Option HO} {d:Option Nat} {ty:TypeId} {pos:String} {af:Array Edge} {gu:Option (Nat×Bool)} {x y:Operand} {v:V} {t e n off k i:Nat} {cs ds cs':List C} {b:Bool}
variable {t2:TypeId} {kd:IntKind} {p q:Int} {s u:ByteArray} {f g:Bool}
theorem Lq (hx:Ev ρ x (.c (.sc (.int kd p))):=by exact aB) (hy:Ev ρ y (.c (.sc (.int kd q))):=by exact aB):AS P ρ H ⟨d,.binOp .gtr t x y t2,ty,pos,af,gu⟩ ⟨.c (.sc (.bool (decide (q<p)))),[],[]⟩:=L3 hx hy
end
section
variable [Tb]
variable {P:Program} {ρ:Operand→Option V} {H:Nat→Option HO} {d:Option Nat} {ty:TypeId} {pos:String} {af:Array Edge} {gu:Option (Nat×Bool)} {x y:Operand} {v:V} {t e n off k i:Nat} {cs ds cs':List C} {b:Bool}
variable {t2:TypeId} {kd:IntKind} {p q:Int} {s u:ByteArray} {f g:Bool}
theorem Lp (hx:Ev ρ x (.c (.sc (.int kd p))):=by exact aB) (hy:Ev ρ y (.c (.sc (.int kd q))):=by exact aB):AS P ρ H ⟨d,.binOp .geq t x y t2,ty,pos,af,gu⟩ ⟨.c (.sc (.bool (decide (q≤p)))),[],[]⟩:=L2 hx hy
end
section
variable [Tb]
variable {P:Program} {ρ:Operand→Option V} {H:Nat→Option HO} {d:Option Nat} {ty:TypeId} {pos:String} {af:Array Edge} {gu:Option (Nat×Bool)} {x y:Operand} {v:V} {t e n off k i:Nat} {cs ds cs':List C} {b:Bool}
variable {t2:TypeId} {kd:IntKind} {p q:Int} {s u:ByteArray} {f g:Bool}
theorem Kw (hx:Ev ρ x (.c (.sc (.bool f))):=by exact aB):AS P ρ H ⟨d,.unOp .not t x,ty,pos,af,gu⟩ ⟨.c (.sc (.bool (!f))),[],[]⟩:=Jq hx
end
section
variable [Tb]
variable {P:Program} {ρ:Operand→Option V} {H:Nat→Option HO} {d:Option Nat} {ty:TypeId} {pos:String} {af:Array Edge} {gu:Option (Nat×Bool)} {x y:Operand} {v:V} {t e n off k i:Nat} {cs ds cs':List C} {b:Bool}
variable {t2:TypeId} {kd:IntKind} {p q:Int} {s u:ByteArray} {f g:Bool}
theorem Km (hx:Ev ρ x (.c (.sc (.bool f))):=by exact aB) (hy:Ev ρ y (.c (.sc (.bool g))):=by exact aB) (ht:P.underlying t=some .bool:=by kernel_rfl):AS P ρ H ⟨d,.binOp .eql t x y t2,ty,pos,af,gu⟩ ⟨.c (.sc (.bool (f == g))),[],[]⟩:=Jf hx hy ht
end
section
variable [Tb]
variable {P:Program} {ρ:Operand→Option V} {H:Nat→Option HO} {d:Option Nat} {ty:TypeId} {pos:String} {af:Array Edge} {gu:Option (Nat×Bool)} {x y:Operand} {v:V} {t e n off k i:Nat} {cs ds cs':List C} {b:Bool}
variable {t2:TypeId} {kd:IntKind} {p q:Int} {s u:ByteArray} {f g:Bool}
theorem Kn (hx:Ev ρ x (.c (.sc (.bool f))):=by exact aB) (hy:Ev ρ y (.c (.sc (.bool g))):=by exact aB) (ht:P.underlying t=some .bool:=by kernel_rfl):AS P ρ H ⟨d,.binOp .neq t x y t2,ty,pos,af,gu⟩ ⟨.c (.sc (.bool (f != g))),[],[]⟩:=Jg hx hy ht
end
section
variable [Tb]
variable {P:Program} {ρ:Operand→Option V} {H:Nat→Option HO} {d:Option Nat} {ty:TypeId} {pos:String} {af:Array Edge} {gu:Option (Nat×Bool)} {x y:Operand} {v:V} {t e n off k i:Nat} {cs ds cs':List C} {b:Bool}
variable {t2:TypeId} {kd:IntKind} {p q:Int} {s u:ByteArray} {f g:Bool}
theorem Ki (hx:Ev ρ x (.c (.sc (.int .i64 p))):=by exact aB) (hy:Ev ρ y (.c (.sc (.int .i64 q))):=by exact aB) (h0:-9223372036854775808≤p+q:=by omega) (h1:p+q<9223372036854775808:=by omega):AS P ρ H ⟨d,.binOp .add t x y t2,ty,pos,af,gu⟩ ⟨.c (.sc (.int .i64 (p+q))),[],[]⟩:=Jd hx hy h0 h1
end
section
variable {P:Program} {ρ:Operand→Option V} {H:Nat→Option HO} {d:Option Nat} {ty:TypeId} {pos:String} {af:Array Edge} {gu:Option (Nat×Bool)} {x y:Operand} {t t2:TypeId} {p q:Int}
theorem IL (hx:Ev ρ x (.c (.sc (.int .i64 p))):=by exact aB) (hy:Ev ρ y (.c (.sc (.int .i64 q))):=by exact aB):AS P ρ H ⟨d,.binOp .add t x y t2,ty,pos,af,gu⟩ ⟨.c (.sc (.int .i64 (IntKind.i64.wrap (p+q)))),[],[]⟩:=GV hx hy
end
section
variable [Tb]
variable {P:Program} {ρ:Operand→Option V} {H:Nat→Option HO} {d:Option Nat} {ty:TypeId} {pos:String} {af:Array Edge} {gu:Option (Nat×Bool)} {x y:Operand} {v:V} {t e n off k i:Nat} {cs ds cs':List C} {b:Bool}
variable {t2:TypeId} {kd:IntKind} {p q:Int} {s u:ByteArray} {f g:Bool}
theorem KB (hx:Ev ρ x (.c (.sc (.int .i64 p))):=by exact aB) (hy:Ev ρ y (.c (.sc (.int .i64 q))):=by exact aB) (h0:-9223372036854775808≤p - q:=by omega) (h1:p - q<9223372036854775808:=by omega):AS P ρ H ⟨d,.binOp .sub t x y t2,ty,pos,af,gu⟩ ⟨.c (.sc (.int .i64 (p - q))),[],[]⟩:=Jw hx hy h0 h1
end
section
variable [Tb]
variable {P:Program} {ρ:Operand→Option V} {H:Nat→Option HO} {d:Option Nat} {ty:TypeId} {pos:String} {af:Array Edge} {gu:Option (Nat×Bool)} {x y:Operand} {v:V} {t e n off k i:Nat} {cs ds cs':List C} {b:Bool}
variable {t2:TypeId} {kd:IntKind} {p q:Int} {s u:ByteArray} {f g:Bool}
theorem Ko (hx:Ev ρ x (.c (.sc (.string s))):=by exact aB) (hy:Ev ρ y (.c (.sc (.string u))):=by exact aB) (h:s.size+u.size≤9223372036854775807:=by((try simp only[ByteArray.size_append,bC,List.size_toArray,List.length_cons,List.length_nil]);omega)):AS P ρ H ⟨d,.binOp .add t x y t2,ty,pos,af,gu⟩ ⟨.c (.sc (.string (s++u))),[],[]⟩:=Jh hx hy h
end
section
variable [Tb]
variable {P:Program} {ρ:Operand→Option V} {H:Nat→Option HO} {d:Option Nat} {ty:TypeId} {pos:String} {af:Array Edge} {gu:Option (Nat×Bool)} {x y:Operand} {v:V} {t e n off k i:Nat} {cs ds cs':List C} {b:Bool}
theorem IW {tg:Option Nat} {xs:List (List C)} (hx:Ev ρ x (.c (.lst tg k xs)):=by exact aB) (ht:sle P t=some (e,k):=by exact cy rfl):AS P ρ H ⟨d,.call {callee:=.builtin .len,args:=#[x],argTypes:=#[t]},ty,pos,af,gu⟩ ⟨.c (.sc (.int .i64 xs.length)),[],[]⟩:=H2 hx ht
end
section
variable [Tb]
variable {P:Program} {ρ:Operand→Option V} {H:Nat→Option HO} {d:Option Nat} {ty:TypeId} {pos:String} {af:Array Edge} {gu:Option (Nat×Bool)} {x y:Operand} {v:V} {t e n off k i:Nat} {cs ds cs':List C} {b:Bool}
end
section
variable [Tb]
variable {P:Program} {ρ:Operand→Option V} {H:Nat→Option HO} {d:Option Nat} {ty:TypeId} {pos:String} {af:Array Edge} {gu:Option (Nat×Bool)} {x y:Operand} {v:V} {t e n off k i:Nat} {cs ds cs':List C} {b:Bool}
variable {t2:TypeId} {kd:IntKind} {p q:Int} {s u:ByteArray} {f g:Bool}
theorem IX (hx:Ev ρ x (.c (.sc (.string s))):=by exact aB) (ht:P.underlying t=some .string:=by kernel_rfl):AS P ρ H ⟨d,.call {callee:=.builtin .len,args:=#[x],argTypes:=#[t]},ty,pos,af,gu⟩ ⟨.c (.sc (.int .i64 s.size)),[],[]⟩:=H3 hx ht
end
section
variable [Tb]
variable {P:Program} {ρ:Operand→Option V} {H:Nat→Option HO} {d:Option Nat} {ty:TypeId} {pos:String} {af:Array Edge} {gu:Option (Nat×Bool)} {x y:Operand} {v:V} {t e n off k i:Nat} {cs ds cs':List C} {b:Bool}
theorem Kt {j:Nat} {ix:Operand} {tg:Option Nat} {xs:List (List C)} {kd:IntKind} {z:Int} (hx:Ev ρ x (.c (.lst tg k xs)):=by exact aB) (hi:Ev ρ ix (.c (.sc (.int kd z))):=by exact aB) (ht:sle P t=some (e,k):=by exact cy rfl) (hz:z=(j:Nat):=by rfl) (hg:xs[j]? =some cs:=by first|exact Br (by assumption)|assumption):AS P ρ H ⟨d,.indexAddr t x ix,ty,pos,af,gu⟩ ⟨.c (.ep cs),[],[]⟩:=Gj hx hi ht hz hg
end
section
theorem IV {P:Program} {ρ:Operand→Option V} {H:Nat→Option HO} {d:Option Nat} {ty:TypeId} {pos:String} {af:Array Edge} {gu:Option (Nat×Bool)} {x y:Operand} {t e k j:Nat} {tg:Option Nat} {xs:List (List C)} {kd:IntKind} {z:Int} {cs:List C} (hx:Ev ρ x (.c (.lst tg k xs)):=by exact aB) (hi:Ev ρ y (.c (.sc (.int kd z))):=by exact aB) (ht:sle P t=some (e,k):=by exact cy rfl) (hj:xs[j]? =some cs:=by exact Br (by assumption)) (hz:z=(j:Nat):=by omega):AS P ρ H ⟨d,.indexAddr t x y,ty,pos,af,gu⟩ ⟨.c (.ep cs),[],[]⟩:=H1 hx hi ht hj hz
end
section
variable [Tb]
variable {P:Program} {ρ:Operand→Option V} {H:Nat→Option HO} {d:Option Nat} {ty:TypeId} {pos:String} {af:Array Edge} {gu:Option (Nat×Bool)} {x y:Operand} {v:V} {t e n off k i:Nat} {cs ds cs':List C} {b:Bool}
theorem Kr {l:List V} (hx:Ev ρ x (.tup l):=by exact aB) (hl:l[i]? =some v:=by rfl):AS P ρ H ⟨d,.extract x i,ty,pos,af,gu⟩ ⟨v,[],[]⟩:=Jj hx hl
end
section
variable [Tb]
variable {P:Program} {ρ:Operand→Option V} {H:Nat→Option HO} {d:Option Nat} {ty:TypeId} {pos:String} {af:Array Edge} {gu:Option (Nat×Bool)} {x y:Operand} {v:V} {t e n off k i:Nat} {cs ds cs':List C} {b:Bool}
theorem Lo {f:Nat} {caps:Array Operand} {cs:List C} (hv:EvCs ρ caps.toList cs:=by(first|((repeat(first|exact .nil|((apply EvCs.cons);(· (first|(refine .wh rfl ?_;first|assumption|(rw[hp];rfl)|(simp_all;done))|exact .pl rfl)))));done)|fail)):AS P ρ H ⟨d,.makeFunc (.func f) #[] caps,ty,pos,af,gu⟩ ⟨.c (.fn f cs),[],[]⟩:=L1 hv
end
section
variable {ρ:Operand→Option V} {H:Nat→Option HO} {d:Option Nat} {ty:TypeId} {pos:String} {af:Array Edge} {gu:Option (Nat×Bool)}
theorem D8 {x0:Operand} {a0:ByteArray} (h0:Ev ρ x0 (.c (sS a0)):=by exact aB):AS Tryz.prog ρ H ⟨d,.buildSlice 43 1 #[(0,x0)],ty,pos,af,gu⟩ ⟨.c (bW [a0]),[],[]⟩:=A4 h0
end
section
variable {ρ:Operand→Option V} {H:Nat→Option HO} {d:Option Nat} {ty:TypeId} {pos:String} {af:Array Edge} {gu:Option (Nat×Bool)}
end
section
variable {ρ:Operand→Option V} {H:Nat→Option HO} {d:Option Nat} {ty:TypeId} {pos:String} {af:Array Edge} {gu:Option (Nat×Bool)}
end
section
variable {ρ:Operand→Option V} {H:Nat→Option HO} {d:Option Nat} {ty:TypeId} {pos:String} {af:Array Edge} {gu:Option (Nat×Bool)}
theorem D9 {x0 x1:Operand} {a0 a1:ByteArray} (h0:Ev ρ x0 (.c (sS a0)):=by exact aB) (h1:Ev ρ x1 (.c (sS a1)):=by exact aB):AS Tryz.prog ρ H ⟨d,.buildSlice 43 2 #[(0,x0),(1,x1)],ty,pos,af,gu⟩ ⟨.c (bW [a0,a1]),[],[]⟩:=A5 h0 h1
end
section
variable {ρ:Operand→Option V} {H:Nat→Option HO} {d:Option Nat} {ty:TypeId} {pos:String} {af:Array Edge} {gu:Option (Nat×Bool)}
theorem Da {x0 x1 x2:Operand} {a0 a1 a2:ByteArray} (h0:Ev ρ x0 (.c (sS a0)):=by exact aB) (h1:Ev ρ x1 (.c (sS a1)):=by exact aB) (h2:Ev ρ x2 (.c (sS a2)):=by exact aB):AS Tryz.prog ρ H ⟨d,.buildSlice 43 3 #[(0,x0),(1,x1),(2,x2)],ty,pos,af,gu⟩ ⟨.c (bW [a0,a1,a2]),[],[]⟩:=A6 h0 h1 h2
end
section
variable {ρ:Operand→Option V} {H:Nat→Option HO} {d:Option Nat} {ty:TypeId} {pos:String} {af:Array Edge} {gu:Option (Nat×Bool)}
theorem Db {x0 x1 x2 x3:Operand} {a0 a1 a2 a3:ByteArray} (h0:Ev ρ x0 (.c (sS a0)):=by exact aB) (h1:Ev ρ x1 (.c (sS a1)):=by exact aB) (h2:Ev ρ x2 (.c (sS a2)):=by exact aB) (h3:Ev ρ x3 (.c (sS a3)):=by exact aB):AS Tryz.prog ρ H ⟨d,.buildSlice 43 4 #[(0,x0),(1,x1),(2,x2),(3,x3)],ty,pos,af,gu⟩ ⟨.c (bW [a0,a1,a2,a3]),[],[]⟩:=A7 h0 h1 h2 h3
end
section
variable {ρ:Operand→Option V} {H:Nat→Option HO} {d:Option Nat} {ty:TypeId} {pos:String} {af:Array Edge} {gu:Option (Nat×Bool)}
theorem Dc {x0 x1 x2 x3 x4:Operand} {a0 a1 a2 a3 a4:ByteArray} (h0:Ev ρ x0 (.c (sS a0)):=by exact aB) (h1:Ev ρ x1 (.c (sS a1)):=by exact aB) (h2:Ev ρ x2 (.c (sS a2)):=by exact aB) (h3:Ev ρ x3 (.c (sS a3)):=by exact aB) (h4:Ev ρ x4 (.c (sS a4)):=by exact aB):AS Tryz.prog ρ H ⟨d,.buildSlice 43 5 #[(0,x0),(1,x1),(2,x2),(3,x3),(4,x4)],ty,pos,af,gu⟩ ⟨.c (bW [a0,a1,a2,a3,a4]),[],[]⟩:=A8 h0 h1 h2 h3 h4
end
section
variable {ρ:Operand→Option V} {H:Nat→Option HO} {d:Option Nat} {ty:TypeId} {pos:String} {af:Array Edge} {gu:Option (Nat×Bool)}
theorem Dd {x0 x1 x2 x3 x4 x5 x6 x7:Operand} {a0 a1 a2 a3 a4 a5 a6 a7:ByteArray} (h0:Ev ρ x0 (.c (sS a0)):=by exact aB) (h1:Ev ρ x1 (.c (sS a1)):=by exact aB) (h2:Ev ρ x2 (.c (sS a2)):=by exact aB) (h3:Ev ρ x3 (.c (sS a3)):=by exact aB) (h4:Ev ρ x4 (.c (sS a4)):=by exact aB) (h5:Ev ρ x5 (.c (sS a5)):=by exact aB) (h6:Ev ρ x6 (.c (sS a6)):=by exact aB) (h7:Ev ρ x7 (.c (sS a7)):=by exact aB):AS Tryz.prog ρ H ⟨d,.buildSlice 43 8 #[(0,x0),(1,x1),(2,x2),(3,x3),(4,x4),(5,x5),(6,x6),(7,x7)],ty,pos,af,gu⟩ ⟨.c (bW [a0,a1,a2,a3,a4,a5,a6,a7]),[],[]⟩:=A9 h0 h1 h2 h3 h4 h5 h6 h7
end
section
variable {ρ:Operand→Option V} {H:Nat→Option HO} {d:Option Nat} {ty:TypeId} {pos:String} {af:Array Edge} {gu:Option (Nat×Bool)} {x y:Operand} {t t2:TypeId} {p q:Int}
theorem Ky {r:Int} (hx:Ev ρ x (.c (.sc (.int .i64 p))):=by exact aB) (hy:Ev ρ y (.c (.sc (.int .i64 q))):=by exact aB) (hq:q≠0:=by decide) (h1:q≠-1:=by decide) (hr:Int.tmod p q=r:=by assumption) (hw:IntKind.i64.wrap r=r:=by exact wrap64 (by omega) (by omega)):AS Tryz.prog ρ H ⟨d,.binOp .rem t x y t2,ty,pos,af,gu⟩ ⟨.c (.sc (.int .i64 r)),[],[]⟩:=Js hx hy hq h1 hr hw
end
section
variable {ρ:Operand→Option V} {H:Nat→Option HO} {d:Option Nat} {ty:TypeId} {pos:String} {af:Array Edge} {gu:Option (Nat×Bool)} {x y:Operand} {t t2:TypeId} {p q:Int}
theorem Kx {r:Int} (hx:Ev ρ x (.c (.sc (.int .i64 p))):=by exact aB) (hy:Ev ρ y (.c (.sc (.int .i64 q))):=by exact aB) (hq:q≠0:=by decide) (h1:q≠-1:=by decide) (hr:Int.tdiv p q=r:=by assumption) (hw:IntKind.i64.wrap r=r:=by exact wrap64 (by omega) (by omega)):AS Tryz.prog ρ H ⟨d,.binOp .quo t x y t2,ty,pos,af,gu⟩ ⟨.c (.sc (.int .i64 r)),[],[]⟩:=Jr hx hy hq h1 hr hw
end
section
variable {ρ:Operand→Option V} {H:Nat→Option HO} {d:Option Nat} {ty:TypeId} {pos:String} {af:Array Edge} {gu:Option (Nat×Bool)} {x y:Operand} {t t2:TypeId} {p q:Int}
theorem D7 {lo hi:Operand} {s:ByteArray} {i j:Nat} {p q:Int} (hx:Ev ρ x (.c (.sc (.string s))):=by exact aB) (hlo:Ev ρ lo (.c (.sc (.int .i64 p))):=by exact aB) (hhi:Ev ρ hi (.c (.sc (.int .i64 q))):=by exact aB) (hp:p=i:=by rfl) (hq:q=j:=by(first|exact JC _|rfl)) (hij:i≤j:=by omega) (hj:j≤s.size:=by((try simp only[bC,List.size_toArray,List.length_cons,List.length_nil]);omega)) (hs:s.size≤9223372036854775807:=by((try simp only[bC,List.size_toArray,List.length_cons,List.length_nil]);omega)):AS Tryz.prog ρ H ⟨d,.slice 9 x (some lo) (some hi) none,ty,pos,af,gu⟩ ⟨.c (.sc (.string (s.extract i j))),[],[]⟩:=A3 hx hlo hhi hp hq hij hj hs
end
section
variable {ρ:Operand→Option V} {H:Nat→Option HO} {d:Option Nat} {ty:TypeId} {pos:String} {af:Array Edge} {gu:Option (Nat×Bool)} {x y:Operand} {n off ty0:Nat} {cs cs':List C}
theorem Kq {i:Operand} {s:ByteArray} {kd:IntKind} {j:Nat} {c:UInt8} (hx:Ev ρ x (.c (.sc (.string s))):=by exact aB) (hi:Ev ρ i (.c (.sc (.int kd j))):=by exact aB) (hc:s.data.toList[j]? =some c:=by assumption):AS Tryz.prog ρ H ⟨d,.index 9 x i,ty,pos,af,gu⟩ ⟨.c (.sc (.int .u8 c.toNat)),[],[]⟩:=Ji hx hi hc
end
section
variable {ρ:Operand→Option V} {H:Nat→Option HO} {d:Option Nat} {ty:TypeId} {pos:String} {af:Array Edge} {gu:Option (Nat×Bool)} {x:Operand}
theorem IQ {p:Int} (hx:Ev ρ x (.c (.sc (.int .i64 p))):=by exact aB) (h0:0≤p:=by omega) (h1:p<256:=by omega):AS Tryz.prog ρ H ⟨d,.convert 3 5 x,ty,pos,af,gu⟩ ⟨.c (.sc (.int .u8 p)),[],[]⟩:=GY hx h0 h1
end
section
variable {ρ:Operand→Option V} {H:Nat→Option HO} {d:Option Nat} {ty:TypeId} {pos:String} {af:Array Edge} {gu:Option (Nat×Bool)} {x:Operand}
theorem G9 {x0:Operand} {c:UInt8} {p:Int} (h0:Ev ρ x0 (.c (.sc (.int .u8 p))):=by exact aB) (hp:p=c.toNat:=by assumption):AS Tryz.prog ρ H ⟨d,.buildSlice 117 1 #[(0,x0)],ty,pos,af,gu⟩ ⟨.c (.lst none 1 (u8L [c])),[],[]⟩:=DI h0 hp
end
section
variable {ρ:Operand→Option V} {H:Nat→Option HO} {d:Option Nat} {ty:TypeId} {pos:String} {af:Array Edge} {gu:Option (Nat×Bool)} {x:Operand}
theorem G0 {t:Option Nat} {l:List UInt8} (hx:Ev ρ x (.c (.lst t 1 (u8L l))):=by exact aB) (h0:0<l.length:=by simp only[List.length_cons,List.length_nil];omega) (hl:l.length≤9223372036854775807:=by simp only[List.length_cons,List.length_nil];omega):AS Tryz.prog ρ H ⟨d,.convert 117 9 x,ty,pos,af,gu⟩ ⟨.c (sS ⟨l.toArray⟩),[],[]⟩:=DC hx h0 hl
end
section
variable {P:Program} {ρ:Operand→Option V} {H:Nat→Option HO} {d:Option Nat} {ty:TypeId} {pos:String} {af:Array Edge} {gu:Option (Nat×Bool)} {x y z:Operand} {p q r:Int} {t1 t2 t3:TypeId}
theorem IZ {m:Int} (hx:Ev ρ x (.c (.sc (.int .i64 p))):=by exact aB) (hy:Ev ρ y (.c (.sc (.int .i64 q))):=by exact aB) (hz:Ev ρ z (.c (.sc (.int .i64 r))):=by exact aB) (hm:max (max p q) r=m:=by(first|assumption|rfl)):AS P ρ H ⟨d,.call {callee:=.builtin .max,args:=#[x,y,z],argTypes:=#[t1,t2,t3]},ty,pos,af,gu⟩ ⟨.c (.sc (.int .i64 m)),[],[]⟩:=H6 hx hy hz hm
end
section
variable {ρ:Operand→Option V} {H:Nat→Option HO} {d:Option Nat} {ty:TypeId} {pos:String} {af:Array Edge} {gu:Option (Nat×Bool)} {x y:Operand}
theorem J4 {c:UInt8} (hx:Ev ρ x (.c (.sc (.int .u8 c.toNat))):=by exact aB):AS Tryz.prog ρ H ⟨d,.convert 5 21 x,ty,pos,af,gu⟩ ⟨.c (.sc (.int .i32 c.toNat)),[],[]⟩:=He hx
end
section
variable {ρ:Operand→Option V} {H:Nat→Option HO} {d:Option Nat} {ty t2:TypeId} {pos:String} {af:Array Edge} {gu:Option (Nat×Bool)} {x y:Operand}
theorem J3 {a b:Sp} (hx:Ev ρ x (.agg (spC a)):=by exact aB) (hy:Ev ρ y (.agg (spC b)):=by exact aB):AS Tryz.prog ρ H ⟨d,.binOp .neq 170 x y t2,ty,pos,af,gu⟩ ⟨.c (sB (!decide (a=b))),[],[]⟩:=Hc hx hy
end
section
variable {ρ:Operand→Option V} {H:Nat→Option HO} {d:Option Nat} {ty t2:TypeId} {pos:String} {af:Array Edge} {gu:Option (Nat×Bool)} {x y:Operand}
end
section
variable {ρ:Operand→Option V} {H:Nat→Option HO} {d:Option Nat} {ty t2:TypeId} {pos:String} {af:Array Edge} {gu:Option (Nat×Bool)} {x y:Operand}
theorem J2 {a b:Se} (hx:Ev ρ x (.agg (seC a)):=by exact aB) (hy:Ev ρ y (.agg (seC b)):=by exact aB):AS Tryz.prog ρ H ⟨d,.binOp .neq 46 x y t2,ty,pos,af,gu⟩ ⟨.c (sB (!Se.eqB a b)),[],[]⟩:=Hb hx hy
end
section
theorem zG {ρ:Operand→Option V} {H:Nat→Option HO} {d:Option Nat} {ty:TypeId} {pos:String} {af:Array Edge} {gu:Option (Nat×Bool)} {t:Nat} {zs:List C} (hz:Zw Tryz.prog t zs:=by exact bo rfl) (hp:(places Tryz.prog t).isSome=true:=by decide +kernel):AS Tryz.prog ρ H ⟨d,.build t #[],ty,pos,af,gu⟩ ⟨.agg zs,[],[]⟩:=yy hz hp
end
section
theorem CZ {ρ:Operand→Option V} {H:Nat→Option HO} {d:Option Nat} {ty:TypeId} {pos:String} {af:Array Edge} {gu:Option (Nat×Bool)} {t:Nat} {parts:Array (Nat×Operand)} {zs cs:List C} {ps:List (Nat×List C)} (hz:Zw Tryz.prog t zs:=by exact bo rfl) (hp:(places Tryz.prog t).isSome=true:=by decide +kernel) (hs:(match Tryz.prog.underlying t with|some (.struct _)=>true|_=>false)=true:=by kernel_rfl) (hv:EvP ρ parts.toList ps:=by(first|((repeat(first|exact .nil|((apply EvP.cons);(· (first|(refine .wh rfl ?_;first|assumption|(rw[hp];rfl)|(simp_all;done))|exact .pl rfl));(· rfl))));done)|fail)) (hf:gl (plT t) zs ps=some cs:=by rfl):AS Tryz.prog ρ H ⟨d,.build t parts,ty,pos,af,gu⟩ ⟨.agg cs,[],[]⟩:=bO hz hp hs hv hf
end
section
variable {P:Program} {ρ:Operand→Option V} {H:Nat→Option HO} {d:Option Nat} {ty:TypeId} {pos:String} {af:Array Edge} {gu:Option (Nat×Bool)} {x y:Operand} {t t1 t2:TypeId} {p q:Int}
theorem J1 (hx:Ev ρ x (.c (.sc (.int .i64 p))):=by exact aB) (hy:Ev ρ y (.c (.sc (.int .i64 q))):=by exact aB):AS P ρ H ⟨d,.binOp .mul t x y t2,ty,pos,af,gu⟩ ⟨.c (.sc (.int .i64 (IntKind.i64.wrap (p*q)))),[],[]⟩:=Ha hx hy
end
section
variable {P:Program} {ρ:Operand→Option V} {H:Nat→Option HO} {d:Option Nat} {ty:TypeId} {pos:String} {af:Array Edge} {gu:Option (Nat×Bool)} {x y:Operand} {t t1 t2:TypeId} {p q:Int}
theorem IY (hx:Ev ρ x (.c (.sc (.int .i64 p))):=by exact aB) (hy:Ev ρ y (.c (.sc (.int .i64 q))):=by exact aB):AS P ρ H ⟨d,.call {callee:=.builtin .max,args:=#[x,y],argTypes:=#[t1,t2]},ty,pos,af,gu⟩ ⟨.c (.sc (.int .i64 (max p q))),[],[]⟩:=H5 hx hy
end
section
variable {ρ:Operand→Option V} {H:Nat→Option HO} {d:Option Nat} {ty t2:TypeId} {pos:String} {af:Array Edge} {gu:Option (Nat×Bool)} {x y:Operand}
theorem G4 (hx:Ev ρ x (.c (.sc .nilIface)):=by exact aB) (hy:Ev ρ (.const .nilIface) (.c (.sc .nilIface)):=by exact aB):AS Tryz.prog ρ H ⟨d,.binOp .neq 134 x (.const .nilIface) t2,ty,pos,af,gu⟩ ⟨.c (sB false),[],[]⟩:=DF hx hy
end
section
variable {P:Program} {ρ:Operand→Option V} {H:Nat→Option HO} {d:Option Nat} {ty:TypeId} {pos:String} {af:Array Edge} {gu:Option (Nat×Bool)} {x y:Operand} {t t1 t2:TypeId} {p q:Int}
theorem Ku {f:Fa} (hx:Ev ρ x (.agg (faC f)):=by exact aB) (ht:(match P.underlying t with|some (.struct _)=>true|_=>false)=true:=by kernel_rfl):AS P ρ H ⟨d,.makeInterface t x,ty,pos,af,gu⟩ ⟨.c (.sc (pvF t f)),[],[]⟩:=Jn hx ht
end
section
variable {P:Program} {ρ:Operand→Option V} {H:Nat→Option HO} {d:Option Nat} {ty:TypeId} {pos:String} {af:Array Edge} {gu:Option (Nat×Bool)} {x y:Operand} {t t1 t2:TypeId} {p q:Int}
theorem J5 {α:Type} {e k i:Nat} {tg:Option Nat} {f:α→List C} {xs:List α} {z:Int} (hx:Ev ρ x (.c (.lst tg k (xs.map f))):=by exact aB) (hi:Ev ρ y (.c (.sc (.int .i64 z))):=by exact aB) (ht:sle P t=some (e,k):=by exact cy rfl) (hz:z=(i:Nat):=by rfl) (hl:i≤xs.length:=by omega):AS P ρ H ⟨d,.slice t x (some y) none none,ty,pos,af,gu⟩ ⟨.c (.lst none k ((xs.drop i).map f)),[],[]⟩:=Hf hx hi ht hz hl
end
section
variable {ρ:Operand→Option V} {H:Nat→Option HO} {d:Option Nat} {ty:TypeId} {pos:String} {af:Array Edge} {gu:Option (Nat×Bool)}
theorem IM {x y:Operand} {τ m:Nat} {tg:Option Nat} {l1 l2:List ByteArray} (hx:Ev ρ x (.c (.lst (some τ) 1 (l1.map oneS))):=by exact aB) (hh:H τ=some (.row 9 1 m):=by rfl) (hm:l1.length=m:=by rfl) (hy:Ev ρ y (.c (.lst tg 1 (l2.map oneS))):=by exact aB) (h1:(l1++l2).length≤8796093022208:=by((try simp only[List.length_append,List.length_map,List.length_cons,List.length_nil]);omega)):AS Tryz.prog ρ H ⟨d,.call {callee:=.builtin .append,args:=#[x,y],argTypes:=#[43,43]},ty,pos,af,gu⟩ ⟨.c (.lst (some τ) 1 ((l1++l2).map oneS)),[(τ,.row 9 1 (l1++l2).length)],[τ]⟩:=GW hx hh hm hy h1
end
section
end
section
variable [Tb]
variable {P:Program} {ρ:Operand→Option V} {H:Nat→Option HO} {d:Option Nat} {ty:TypeId} {pos:String} {af:Array Edge} {gu:Option (Nat×Bool)} {x y:Operand} {v:V} {t e n off k i:Nat} {cs ds cs':List C} {b:Bool}
theorem IP (hn:H t=none:=by rfl) (hx:Ev ρ x (.agg cs):=by exact aB):AS P ρ H ⟨some t,.box e x,ty,pos,af,gu⟩ ⟨.c (.ptr t 0),[(t,.obj e cs)],[t]⟩:=GX hn hx
end
section
variable [Tb]
variable {P:Program} {ρ:Operand→Option V} {H:Nat→Option HO} {d:Option Nat} {ty:TypeId} {pos:String} {af:Array Edge} {gu:Option (Nat×Bool)} {x y:Operand} {v:V} {t e n off k i:Nat} {cs ds cs':List C} {b:Bool}
end
section
variable [Tb]
variable {P:Program} {ρ:Operand→Option V} {H:Nat→Option HO} {d:Option Nat} {ty:TypeId} {pos:String} {af:Array Edge} {gu:Option (Nat×Bool)} {x y:Operand} {v:V} {t e n off k i:Nat} {cs ds cs':List C} {b:Bool}
theorem FU (hn:H t=none:=by rfl) (hz:Zw P e cs:=by exact bo rfl):AS P ρ H ⟨some t,.alloc e,ty,pos,af,gu⟩ ⟨.c (.ptr t 0),[(t,.obj e cs)],[t]⟩:=xc hn hz
end
section
variable {ρ:Operand→Option V} {H:Nat→Option HO} {d:Option Nat} {ty t2:TypeId} {pos:String} {af:Array Edge} {gu:Option (Nat×Bool)} {x y:Operand}
theorem FV {τ m:Nat} {tg:Option Nat} {l1 l2:List Stm} (hx:Ev ρ x (.c (.lst (some τ) 55 (l1.map stC))):=by exact aB) (hh:H τ=some (.row 69 55 m):=by rfl) (hm:l1.length=m:=by rfl) (hy:Ev ρ y (.c (.lst tg 55 (l2.map stC))):=by exact aB) (h1:(l1++l2).length≤4294967296:=by((try simp only[List.length_append,List.length_map,List.length_cons,List.length_nil]);omega)):AS Tryz.prog ρ H ⟨d,.call {callee:=.builtin .append,args:=#[x,y],argTypes:=#[23,23]},ty,pos,af,gu⟩ ⟨.c (.lst (some τ) 55 ((l1++l2).map stC)),[(τ,.row 69 55 (l1++l2).length)],[τ]⟩:=Dx hx hh hm hy h1
end
section
variable {ρ:Operand→Option V} {H:Nat→Option HO} {d:Option Nat} {ty t2:TypeId} {pos:String} {af:Array Edge} {gu:Option (Nat×Bool)} {x y:Operand}
theorem FW {τ m:Nat} {tg:Option Nat} {l1 l2:List Tok} (hx:Ev ρ x (.c (.lst (some τ) 4 (l1.map tkC))):=by exact aB) (hh:H τ=some (.row 99 4 m):=by rfl) (hm:l1.length=m:=by rfl) (hy:Ev ρ y (.c (.lst tg 4 (l2.map tkC))):=by exact aB) (h1:(l1++l2).length≤4294967296:=by((try simp only[List.length_append,List.length_map,List.length_cons,List.length_nil]);omega)):AS Tryz.prog ρ H ⟨d,.call {callee:=.builtin .append,args:=#[x,y],argTypes:=#[36,36]},ty,pos,af,gu⟩ ⟨.c (.lst (some τ) 4 ((l1++l2).map tkC)),[(τ,.row 99 4 (l1++l2).length)],[τ]⟩:=Dy hx hh hm hy h1
end
section
variable {ρ:Operand→Option V} {H:Nat→Option HO} {d:Option Nat} {ty t2:TypeId} {pos:String} {af:Array Edge} {gu:Option (Nat×Bool)} {x y:Operand}
theorem FX {τ m:Nat} {tg:Option Nat} {l1 l2:List Sp} (hx:Ev ρ x (.c (.lst (some τ) 2 (l1.map spC))):=by exact aB) (hh:H τ=some (.row 170 2 m):=by rfl) (hm:l1.length=m:=by rfl) (hy:Ev ρ y (.c (.lst tg 2 (l2.map spC))):=by exact aB) (h1:(l1++l2).length≤4294967296:=by((try simp only[List.length_append,List.length_map,List.length_cons,List.length_nil]);omega)):AS Tryz.prog ρ H ⟨d,.call {callee:=.builtin .append,args:=#[x,y],argTypes:=#[61,61]},ty,pos,af,gu⟩ ⟨.c (.lst (some τ) 2 ((l1++l2).map spC)),[(τ,.row 170 2 (l1++l2).length)],[τ]⟩:=Dz hx hh hm hy h1
end
section
variable {ρ:Operand→Option V} {H:Nat→Option HO} {d:Option Nat} {ty:TypeId} {pos:String} {af:Array Edge} {gu:Option (Nat×Bool)} {x y:Operand} {n off ty0:Nat} {cs cs':List C}
end
section
variable {ρ:Operand→Option V} {H:Nat→Option HO} {d:Option Nat} {ty:TypeId} {pos:String} {af:Array Edge} {gu:Option (Nat×Bool)} {x y:Operand} {n off ty0:Nat} {cs cs':List C}
end
section
variable [Tb]
variable {P:Program} {ρ:Operand→Option V} {H:Nat→Option HO} {d:Option Nat} {ty:TypeId} {pos:String} {af:Array Edge} {gu:Option (Nat×Bool)} {x y:Operand} {v:V} {t e n off k i:Nat} {cs ds cs':List C} {b:Bool}
theorem D6 {ty0:Nat} (hx:Ev ρ x (.c (.ptr n off)):=by exact aB) (hh:H n=some (.obj ty0 cs):=by rfl) (hy:Ev ρ y (.agg ds):=by exact aB) (ht:tyi P e=some (k,b):=by exact eH rfl) (hl:ds.length=k:=by(first|rfl|simp only[km])) (hs:aY cs off ds=some cs':=by(first|(simp only[K8];rfl)|rfl)):AS P ρ H ⟨d,.store e x y,ty,pos,af,gu⟩ ⟨lR,[(n,.obj ty0 cs')],[n]⟩:=A1 hx hh hy ht hl hs
end
section
variable [Tb]
variable {P:Program} {ρ:Operand→Option V} {H:Nat→Option HO} {d:Option Nat} {ty:TypeId} {pos:String} {af:Array Edge} {gu:Option (Nat×Bool)} {x y:Operand} {v:V} {t e n off k i:Nat} {cs ds cs':List C} {b:Bool}
theorem lP {ty0:Nat} {c:C} (hx:Ev ρ x (.c (.ptr n off)):=by exact aB) (hh:H n=some (.obj ty0 cs):=by rfl) (hy:Ev ρ y (.c c):=by exact aB) (ht:tyi P e=some (1,b):=by exact eH rfl) (hs:aY cs off [c]=some cs':=by(first|(simp only[K8];rfl)|rfl)):AS P ρ H ⟨d,.store e x y,ty,pos,af,gu⟩ ⟨lR,[(n,.obj ty0 cs')],[n]⟩:=A2 hx hh hy ht hs
end
section
variable {ρ:Operand→Option V} {H:Nat→Option HO} {d:Option Nat} {ty t2:TypeId} {pos:String} {af:Array Edge} {gu:Option (Nat×Bool)} {x y:Operand}
end
section
variable {ρ:Operand→Option V} {H:Nat→Option HO} {d:Option Nat} {ty t2:TypeId} {pos:String} {af:Array Edge} {gu:Option (Nat×Bool)} {x y:Operand}
end
section
variable {ρ:Operand→Option V} {H:Nat→Option HO} {d:Option Nat} {ty t2:TypeId} {pos:String} {af:Array Edge} {gu:Option (Nat×Bool)} {x y:Operand}
end
section
variable {ρ:Operand→Option V} {H:Nat→Option HO} {d:Option Nat} {ty t2:TypeId} {pos:String} {af:Array Edge} {gu:Option (Nat×Bool)} {x y:Operand}
end
section
variable {ρ:Operand→Option V} {H:Nat→Option HO} {d:Option Nat} {ty t2:TypeId} {pos:String} {af:Array Edge} {gu:Option (Nat×Bool)} {x y:Operand}
theorem D0 {t:Nat} {x0:Operand} {a0:ByteArray} (hn:H t=none:=by rfl) (h0:Ev ρ x0 (.c (sS a0)):=by exact aB):AS Tryz.prog ρ H ⟨some t,.buildSlice 43 1 #[(0,x0)],ty,pos,af,gu⟩ ⟨.c (.lst (some t) 1 ([a0].map oneS)),[(t,.row 9 1 [a0].length)],[t]⟩:=Hd hn h0
end
section
variable {ρ:Operand→Option V} {H:Nat→Option HO} {d:Option Nat} {ty t2:TypeId} {pos:String} {af:Array Edge} {gu:Option (Nat×Bool)} {x y:Operand}
theorem CO {t:Nat} (hn:H t=none:=by rfl):AS Tryz.prog ρ H ⟨some t,.alloc 60,ty,pos,af,gu⟩ ⟨.c (.ptr t 0),[(t,.obj 60 [sB false,sB false,sB false,.nil,.nil])],[t]⟩:=zK hn
end
section
variable {ρ:Operand→Option V} {H:Nat→Option HO} {d:Option Nat} {ty t2:TypeId} {pos:String} {af:Array Edge} {gu:Option (Nat×Bool)} {x y:Operand}
theorem CX {x0:Operand} {y0:ByteArray} (h0:Ev ρ x0 (.c (sS y0)):=by exact aB):AS Tryz.prog ρ H ⟨d,.build 63 #[(0,x0)],ty,pos,af,gu⟩ ⟨.agg [sS y0,.nil],[],[]⟩:=zU h0
end
theorem HD {P:Program} {ρ:Operand→Option V} {H:Nat→Option HO} {d:Option Nat} {ty:TypeId} {pos:String} {af:Array Edge} {gu:Option (Nat×Bool)} {x:Operand} {e:TypeId} {r:Eff} (h:AS P ρ H ⟨d,.load e x,ty,pos,af,gu⟩ r):AS P ρ H ⟨d,.load e x,ty,pos,af,gu⟩ r:=h
theorem tC {P:Program} {ρ:Operand→Option V} {H:Nat→Option HO} {d:Option Nat} {ty:TypeId} {pos:String} {af:Array Edge} {gu:Option (Nat×Bool)} {x:Operand} {e:TypeId} {f:_} {r:Eff} (h:AS P ρ H ⟨d,.fieldAddr e x f,ty,pos,af,gu⟩ r):AS P ρ H ⟨d,.fieldAddr e x f,ty,pos,af,gu⟩ r:=h
theorem HE {P:Program} {ρ:Operand→Option V} {H:Nat→Option HO} {d:Option Nat} {ty:TypeId} {pos:String} {af:Array Edge} {gu:Option (Nat×Bool)} {x:Operand} {r:Eff} (h:AS P ρ H ⟨d,.move x,ty,pos,af,gu⟩ r):AS P ρ H ⟨d,.move x,ty,pos,af,gu⟩ r:=h
theorem HF {P:Program} {ρ:Operand→Option V} {H:Nat→Option HO} {d:Option Nat} {ty:TypeId} {pos:String} {af:Array Edge} {gu:Option (Nat×Bool)} {x:Operand} {y:Operand} {z:Operand} {r:Eff} (h:AS P ρ H ⟨d,.pick x y z,ty,pos,af,gu⟩ r):AS P ρ H ⟨d,.pick x y z,ty,pos,af,gu⟩ r:=h
theorem AU {P:Program} {ρ:Operand→Option V} {H:Nat→Option HO} {d:Option Nat} {ty:TypeId} {pos:String} {af:Array Edge} {gu:Option (Nat×Bool)} {x:Operand} {r:Eff} (h:AS P ρ H ⟨d,.assign x,ty,pos,af,gu⟩ r):AS P ρ H ⟨d,.assign x,ty,pos,af,gu⟩ r:=h
theorem Eo {P:Program} {ρ:Operand→Option V} {H:Nat→Option HO} {d:Option Nat} {ty:TypeId} {pos:String} {af:Array Edge} {gu:Option (Nat×Bool)} {e:TypeId} {a:_} {r:Eff} (h:AS P ρ H ⟨d,.build e a,ty,pos,af,gu⟩ r):AS P ρ H ⟨d,.build e a,ty,pos,af,gu⟩ r:=h
theorem r8 {P:Program} {ρ:Operand→Option V} {H:Nat→Option HO} {d:Option Nat} {ty:TypeId} {pos:String} {af:Array Edge} {gu:Option (Nat×Bool)} {e:TypeId} {a:_} {b:_} {r:Eff} (h:AS P ρ H ⟨d,.buildSlice e a b,ty,pos,af,gu⟩ r):AS P ρ H ⟨d,.buildSlice e a b,ty,pos,af,gu⟩ r:=h
theorem vR {P:Program} {ρ:Operand→Option V} {H:Nat→Option HO} {d:Option Nat} {ty:TypeId} {pos:String} {af:Array Edge} {gu:Option (Nat×Bool)} {x:Operand} {r:Eff} (h:AS P ρ H ⟨d,.nilCheck x,ty,pos,af,gu⟩ r):AS P ρ H ⟨d,.nilCheck x,ty,pos,af,gu⟩ r:=h
theorem Ep {P:Program} {ρ:Operand→Option V} {H:Nat→Option HO} {d:Option Nat} {ty:TypeId} {pos:String} {af:Array Edge} {gu:Option (Nat×Bool)} {x:Operand} {e:TypeId} {f:_} {r:Eff} (h:AS P ρ H ⟨d,.field e x f,ty,pos,af,gu⟩ r):AS P ρ H ⟨d,.field e x f,ty,pos,af,gu⟩ r:=h
theorem vG {P:Program} {ρ:Operand→Option V} {H:Nat→Option HO} {d:Option Nat} {ty:TypeId} {pos:String} {af:Array Edge} {gu:Option (Nat×Bool)} {x:Operand} {y:Operand} {e:TypeId} {a:_} {r:Eff} (h:AS P ρ H ⟨d,.binOp .eql e x y a,ty,pos,af,gu⟩ r):AS P ρ H ⟨d,.binOp .eql e x y a,ty,pos,af,gu⟩ r:=h
theorem vM {P:Program} {ρ:Operand→Option V} {H:Nat→Option HO} {d:Option Nat} {ty:TypeId} {pos:String} {af:Array Edge} {gu:Option (Nat×Bool)} {x:Operand} {y:Operand} {e:TypeId} {a:_} {r:Eff} (h:AS P ρ H ⟨d,.binOp .neq e x y a,ty,pos,af,gu⟩ r):AS P ρ H ⟨d,.binOp .neq e x y a,ty,pos,af,gu⟩ r:=h
theorem vK {P:Program} {ρ:Operand→Option V} {H:Nat→Option HO} {d:Option Nat} {ty:TypeId} {pos:String} {af:Array Edge} {gu:Option (Nat×Bool)} {x:Operand} {y:Operand} {e:TypeId} {a:_} {r:Eff} (h:AS P ρ H ⟨d,.binOp .lss e x y a,ty,pos,af,gu⟩ r):AS P ρ H ⟨d,.binOp .lss e x y a,ty,pos,af,gu⟩ r:=h
theorem vJ {P:Program} {ρ:Operand→Option V} {H:Nat→Option HO} {d:Option Nat} {ty:TypeId} {pos:String} {af:Array Edge} {gu:Option (Nat×Bool)} {x:Operand} {y:Operand} {e:TypeId} {a:_} {r:Eff} (h:AS P ρ H ⟨d,.binOp .leq e x y a,ty,pos,af,gu⟩ r):AS P ρ H ⟨d,.binOp .leq e x y a,ty,pos,af,gu⟩ r:=h
theorem vI {P:Program} {ρ:Operand→Option V} {H:Nat→Option HO} {d:Option Nat} {ty:TypeId} {pos:String} {af:Array Edge} {gu:Option (Nat×Bool)} {x:Operand} {y:Operand} {e:TypeId} {a:_} {r:Eff} (h:AS P ρ H ⟨d,.binOp .gtr e x y a,ty,pos,af,gu⟩ r):AS P ρ H ⟨d,.binOp .gtr e x y a,ty,pos,af,gu⟩ r:=h
theorem vH {P:Program} {ρ:Operand→Option V} {H:Nat→Option HO} {d:Option Nat} {ty:TypeId} {pos:String} {af:Array Edge} {gu:Option (Nat×Bool)} {x:Operand} {y:Operand} {e:TypeId} {a:_} {r:Eff} (h:AS P ρ H ⟨d,.binOp .geq e x y a,ty,pos,af,gu⟩ r):AS P ρ H ⟨d,.binOp .geq e x y a,ty,pos,af,gu⟩ r:=h
theorem HG {P:Program} {ρ:Operand→Option V} {H:Nat→Option HO} {d:Option Nat} {ty:TypeId} {pos:String} {af:Array Edge} {gu:Option (Nat×Bool)} {x:Operand} {e:TypeId} {o:_} {r:Eff} (h:AS P ρ H ⟨d,.unOp o e x,ty,pos,af,gu⟩ r):AS P ρ H ⟨d,.unOp o e x,ty,pos,af,gu⟩ r:=h
theorem vF {P:Program} {ρ:Operand→Option V} {H:Nat→Option HO} {d:Option Nat} {ty:TypeId} {pos:String} {af:Array Edge} {gu:Option (Nat×Bool)} {x:Operand} {y:Operand} {e:TypeId} {a:_} {r:Eff} (h:AS P ρ H ⟨d,.binOp .add e x y a,ty,pos,af,gu⟩ r):AS P ρ H ⟨d,.binOp .add e x y a,ty,pos,af,gu⟩ r:=h
theorem vP {P:Program} {ρ:Operand→Option V} {H:Nat→Option HO} {d:Option Nat} {ty:TypeId} {pos:String} {af:Array Edge} {gu:Option (Nat×Bool)} {x:Operand} {y:Operand} {e:TypeId} {a:_} {r:Eff} (h:AS P ρ H ⟨d,.binOp .sub e x y a,ty,pos,af,gu⟩ r):AS P ρ H ⟨d,.binOp .sub e x y a,ty,pos,af,gu⟩ r:=h
theorem AV {P:Program} {ρ:Operand→Option V} {H:Nat→Option HO} {d:Option Nat} {ty:TypeId} {pos:String} {af:Array Edge} {gu:Option (Nat×Bool)} {a:_} {b:_} {r:Eff} (h:AS P ρ H ⟨d,.call {callee:=.builtin .len,args:=a,argTypes:=b},ty,pos,af,gu⟩ r):AS P ρ H ⟨d,.call {callee:=.builtin .len,args:=a,argTypes:=b},ty,pos,af,gu⟩ r:=h
theorem tD {P:Program} {ρ:Operand→Option V} {H:Nat→Option HO} {d:Option Nat} {ty:TypeId} {pos:String} {af:Array Edge} {gu:Option (Nat×Bool)} {x:Operand} {y:Operand} {e:TypeId} {r:Eff} (h:AS P ρ H ⟨d,.indexAddr e x y,ty,pos,af,gu⟩ r):AS P ρ H ⟨d,.indexAddr e x y,ty,pos,af,gu⟩ r:=h
theorem yI {P:Program} {ρ:Operand→Option V} {H:Nat→Option HO} {d:Option Nat} {ty:TypeId} {pos:String} {af:Array Edge} {gu:Option (Nat×Bool)} {x:Operand} {f:_} {r:Eff} (h:AS P ρ H ⟨d,.extract x f,ty,pos,af,gu⟩ r):AS P ρ H ⟨d,.extract x f,ty,pos,af,gu⟩ r:=h
theorem vQ {P:Program} {ρ:Operand→Option V} {H:Nat→Option HO} {d:Option Nat} {ty:TypeId} {pos:String} {af:Array Edge} {gu:Option (Nat×Bool)} {a:_} {b:_} {c:_} {r:Eff} (h:AS P ρ H ⟨d,.makeFunc a b c,ty,pos,af,gu⟩ r):AS P ρ H ⟨d,.makeFunc a b c,ty,pos,af,gu⟩ r:=h
theorem vO {P:Program} {ρ:Operand→Option V} {H:Nat→Option HO} {d:Option Nat} {ty:TypeId} {pos:String} {af:Array Edge} {gu:Option (Nat×Bool)} {x:Operand} {y:Operand} {e:TypeId} {a:_} {r:Eff} (h:AS P ρ H ⟨d,.binOp .rem e x y a,ty,pos,af,gu⟩ r):AS P ρ H ⟨d,.binOp .rem e x y a,ty,pos,af,gu⟩ r:=h
theorem vN {P:Program} {ρ:Operand→Option V} {H:Nat→Option HO} {d:Option Nat} {ty:TypeId} {pos:String} {af:Array Edge} {gu:Option (Nat×Bool)} {x:Operand} {y:Operand} {e:TypeId} {a:_} {r:Eff} (h:AS P ρ H ⟨d,.binOp .quo e x y a,ty,pos,af,gu⟩ r):AS P ρ H ⟨d,.binOp .quo e x y a,ty,pos,af,gu⟩ r:=h
theorem Es {P:Program} {ρ:Operand→Option V} {H:Nat→Option HO} {d:Option Nat} {ty:TypeId} {pos:String} {af:Array Edge} {gu:Option (Nat×Bool)} {x:Operand} {e:TypeId} {a:_} {b:_} {c:_} {r:Eff} (h:AS P ρ H ⟨d,.slice e x a b c,ty,pos,af,gu⟩ r):AS P ρ H ⟨d,.slice e x a b c,ty,pos,af,gu⟩ r:=h
theorem Er {P:Program} {ρ:Operand→Option V} {H:Nat→Option HO} {d:Option Nat} {ty:TypeId} {pos:String} {af:Array Edge} {gu:Option (Nat×Bool)} {x:Operand} {y:Operand} {e:TypeId} {r:Eff} (h:AS P ρ H ⟨d,.index e x y,ty,pos,af,gu⟩ r):AS P ρ H ⟨d,.index e x y,ty,pos,af,gu⟩ r:=h
theorem yH {P:Program} {ρ:Operand→Option V} {H:Nat→Option HO} {d:Option Nat} {ty:TypeId} {pos:String} {af:Array Edge} {gu:Option (Nat×Bool)} {x:Operand} {e:TypeId} {a:_} {r:Eff} (h:AS P ρ H ⟨d,.convert e a x,ty,pos,af,gu⟩ r):AS P ρ H ⟨d,.convert e a x,ty,pos,af,gu⟩ r:=h
theorem AX {P:Program} {ρ:Operand→Option V} {H:Nat→Option HO} {d:Option Nat} {ty:TypeId} {pos:String} {af:Array Edge} {gu:Option (Nat×Bool)} {a:_} {b:_} {r:Eff} (h:AS P ρ H ⟨d,.call {callee:=.builtin .max,args:=a,argTypes:=b},ty,pos,af,gu⟩ r):AS P ρ H ⟨d,.call {callee:=.builtin .max,args:=a,argTypes:=b},ty,pos,af,gu⟩ r:=h
theorem vL {P:Program} {ρ:Operand→Option V} {H:Nat→Option HO} {d:Option Nat} {ty:TypeId} {pos:String} {af:Array Edge} {gu:Option (Nat×Bool)} {x:Operand} {y:Operand} {e:TypeId} {a:_} {r:Eff} (h:AS P ρ H ⟨d,.binOp .mul e x y a,ty,pos,af,gu⟩ r):AS P ρ H ⟨d,.binOp .mul e x y a,ty,pos,af,gu⟩ r:=h
theorem nd {P:Program} {ρ:Operand→Option V} {H:Nat→Option HO} {d:Option Nat} {ty:TypeId} {pos:String} {af:Array Edge} {gu:Option (Nat×Bool)} {x:Operand} {e:TypeId} {r:Eff} (h:AS P ρ H ⟨d,.makeInterface e x,ty,pos,af,gu⟩ r):AS P ρ H ⟨d,.makeInterface e x,ty,pos,af,gu⟩ r:=h
theorem AS.v {P:Program} {ρ:Operand→Option V} {H:Nat→Option HO} {o:Oper} {e:Eff} (h:AS P ρ H o e:=by first|((with_reducible apply HD);first|exact sF|exact G3)|((with_reducible apply tC);first|exact IU|exact IR)|((with_reducible apply HE);first|exact J0)|((with_reducible apply HF);first|exact Kj|exact Lu|exact G6|exact G7)|((with_reducible apply AU);first|exact CP)|((with_reducible apply Eo);first|exact CQ|exact wQ|exact CR|exact wT|exact sD|exact pH|exact sE|exact wU|exact wW|exact CS|exact CT|exact CU|exact CV|exact wX|exact CW|exact FY|exact zD|exact vb|exact FZ|exact zE|exact zF|exact zG|exact CZ)|((with_reducible apply r8);first|exact D1|exact D2|exact D3|exact D4|exact D5|exact D8|exact D9|exact Da|exact Db|exact Dc|exact Dd|exact G9)|((with_reducible apply vR);first|exact Kv)|((with_reducible apply Ep);first|exact Ks)|((with_reducible apply vG);first|exact Ln|exact Kz|exact Km)|((with_reducible apply vM);first|exact Lt|exact KA|exact Kn|exact J3|exact J2|exact G4)|((with_reducible apply vK);first|exact Ls)|((with_reducible apply vJ);first|exact Lr)|((with_reducible apply vI);first|exact Lq)|((with_reducible apply vH);first|exact Lp)|((with_reducible apply HG);first|exact Kw)|((with_reducible apply vF);first|exact Ki|exact IL|exact Ko)|((with_reducible apply vP);first|exact KB)|((with_reducible apply AV);first|exact IW|exact IX)|((with_reducible apply tD);first|exact Kt|exact IV)|((with_reducible apply yI);first|exact Kr)|((with_reducible apply vQ);first|exact Lo)|((with_reducible apply vO);first|exact Ky)|((with_reducible apply vN);first|exact Kx)|((with_reducible apply Es);first|exact D7|exact J5)|((with_reducible apply Er);first|exact Kq)|((with_reducible apply yH);first|exact IQ|exact G0|exact J4)|((with_reducible apply AX);first|exact IZ|exact IY)|((with_reducible apply vL);first|exact J1)|((with_reducible apply nd);first|exact Ku)):AS P ρ H o e:=h
theorem tB {P:Program} {ρ:Operand→Option V} {H:Nat→Option HO} {d:Option Nat} {ty:TypeId} {pos:String} {af:Array Edge} {gu:Option (Nat×Bool)} {a:_} {b:_} {r:Eff} (h:AS P ρ H ⟨d,.call {callee:=.builtin .append,args:=a,argTypes:=b},ty,pos,af,gu⟩ r):AS P ρ H ⟨d,.call {callee:=.builtin .append,args:=a,argTypes:=b},ty,pos,af,gu⟩ r:=h
theorem En {P:Program} {ρ:Operand→Option V} {H:Nat→Option HO} {d:Option Nat} {ty:TypeId} {pos:String} {af:Array Edge} {gu:Option (Nat×Bool)} {e:TypeId} {r:Eff} (h:AS P ρ H ⟨d,.alloc e,ty,pos,af,gu⟩ r):AS P ρ H ⟨d,.alloc e,ty,pos,af,gu⟩ r:=h
theorem JK {P:Program} {ρ:Operand→Option V} {H:Nat→Option HO} {d:Option Nat} {ty:TypeId} {pos:String} {af:Array Edge} {gu:Option (Nat×Bool)} {x:Operand} {e:TypeId} {r:Eff} (h:AS P ρ H ⟨d,.box e x,ty,pos,af,gu⟩ r):AS P ρ H ⟨d,.box e x,ty,pos,af,gu⟩ r:=h
theorem AS.w {P:Program} {ρ:Operand→Option V} {H:Nat→Option HO} {o:Oper} {e:Eff} (h:AS P ρ H o e:=by first|((with_reducible apply tB);first|exact IM|exact FV|exact FW|exact FX)|((with_reducible apply En);first|exact FU)|((with_reducible apply JK);first|exact IP)):AS P ρ H o e:=h
theorem Et {P:Program} {ρ:Operand→Option V} {H:Nat→Option HO} {d:Option Nat} {ty:TypeId} {pos:String} {af:Array Edge} {gu:Option (Nat×Bool)} {x:Operand} {y:Operand} {e:TypeId} {r:Eff} (h:AS P ρ H ⟨d,.store e x y,ty,pos,af,gu⟩ r):AS P ρ H ⟨d,.store e x y,ty,pos,af,gu⟩ r:=h
theorem AS.s {P:Program} {ρ:Operand→Option V} {H:Nat→Option HO} {o:Oper} {e:Eff} (h:AS P ρ H o e:=by first|((with_reducible apply Et);first|exact D6|exact lP)):AS P ρ H o e:=h
theorem CvL.of_eq {a b:List V} (h:a=b):CvL a b:=h▸CvL.refl _
theorem CvL.of_un {a b:List V} (h:a.map V.un=b):CvL a b:=h▸CvL.un _
theorem ah {P:Program} {ρ:Operand→Option V} {H:Nat→Option HO} {d:Option Nat} {ty:TypeId} {pos:String} {af:Array Edge} {gu:Option (Nat×Bool)} {x:Operand} {args:Array Operand} {ats:Array TypeId} {f:Nat} {caps:List C} {vs us:List V} {r:V} (hx:Ev ρ x (.c (.fn f caps)):=by exact aB) (hv:EvL ρ args.toList vs:=by(first|((repeat(first|exact .nil|((apply EvL.cons);(· (first|(refine .wh rfl ?_;first|assumption|(rw[hp];rfl)|(simp_all;done))|exact .pl rfl)))));done)|fail)) (hu:CvL (vs++caps.map V.c) us:=by(first|exact CvL.of_eq rfl|(refine CvL.of_un ?_;simp only[List.map_cons,List.map_nil,List.append_nil,V.un,C.un,unA];rfl))) (hP:Pure P f us r) (hok:okV noN us=true:=by(first|rfl|(simp[okV,V.ok,okL,C.ok,okA];done)|(simp[okV,V.ok,okL,C.ok,okA,gi,gj,-List.map_map, *];done)|(simp[okV,V.ok,okL,bu,C.ok,okA,nsC,NS.zero,lvC,Lv.zero,rgC,Rg.zero,cxC,Ct.zero,moC,Mo.zero];done)|(simp[okV,V.ok,okL,C.ok,okA,-List.map_drop];done))):AS P ρ H ⟨d,.call {callee:=.value x,args:=args,argTypes:=ats},ty,pos,af,gu⟩ ⟨r,[],[]⟩:=.call rfl hx hv hu hok hP
section
variable [Tb]
variable {P:Program} {ρ:Operand→Option V} {H:Nat→Option HO} {d:Option Nat} {ty:TypeId} {pos:String} {af:Array Edge} {gu:Option (Nat×Bool)} {x:Operand}
end
section
end
section
variable [Tb]
variable {P:Program} {ρ:Operand→Option V} {H:Nat→Option HO} {d:Option Nat} {ty:TypeId} {pos:String} {af:Array Edge} {gu:Option (Nat×Bool)} {x:Operand}
end
section
variable [Tb]
variable {P:Program} {ρ:Operand→Option V} {H:Nat→Option HO} {d:Option Nat} {ty:TypeId} {pos:String} {af:Array Edge} {gu:Option (Nat×Bool)} {x:Operand}
theorem bm {args:Array Operand} {ats:Array TypeId} {f:Nat} {caps:List C} {vs us:List V} {r:V} {ns:List Nat} (hx:Ev ρ x (.c (.fn f caps)):=by exact aB) (hv:EvL ρ args.toList vs:=by(first|((repeat(first|exact .nil|((apply EvL.cons);(· (first|(refine .wh rfl ?_;first|assumption|(rw[hp];rfl)|(simp_all;done))|exact .pl rfl)))));done)|fail)) (hn:(vs++caps.map V.c).flatMap ptV=ns:=by rfl) (hu:(vs++caps.map V.c).map (snV H)=us:=by rfl) (hP:Pure P f us r) (hok:okV noN us=true:=by(simp[okV,V.ok,okL,C.ok,okA,snV,snC,sn1,look,Hk])) (hsc:scO r=true:=by rfl):AS P ρ H ⟨d,.call {callee:=.value x,args:=args,argTypes:=ats},ty,pos,af,gu⟩ ⟨r,[],ns⟩:=Jk hx hv hn hu hP hok hsc
end
section
variable [Tb]
variable {P:Program} {ρ:Operand→Option V} {H:Nat→Option HO} {d:Option Nat} {ty:TypeId} {pos:String} {af:Array Edge} {gu:Option (Nat×Bool)} {x:Operand}
end
section
variable [Tb]
variable {P:Program} {ρ:Operand→Option V} {H:Nat→Option HO} {d:Option Nat} {ty:TypeId} {pos:String} {af:Array Edge} {gu:Option (Nat×Bool)} {x:Operand} {args:Array Operand} {ats:Array TypeId} {f:Nat} {caps:List C} {vs us:List V} {r:V}
theorem cf {n:Nat} {o o':HO} (hx:Ev ρ x (.c (.fn f [])):=by exact aB) (hv:EvL ρ args.toList (.c (.ptr n 0) :: us):=by(first|((repeat(first|exact .nil|((apply EvL.cons);(· (first|(refine .wh rfl ?_;first|assumption|(rw[hp];rfl)|(simp_all;done))|exact .pl rfl)))));done)|fail)) (hn:H n=some o:=by rfl) (hP:MNL P f [(0,o)] (.c (.ptr 0 0) :: us) r [(0,o')]) (hok:okV noN us=true:=by(first|rfl|(simp[okV,V.ok,okL,C.ok,okA];done)|(simp[okV,V.ok,okL,C.ok,okA,gi,gj,-List.map_map, *];done)|(simp[okV,V.ok,okL,bu,C.ok,okA,nsC,NS.zero,lvC,Lv.zero,rgC,Rg.zero,cxC,Ct.zero,moC,Mo.zero];done)|(simp[okV,V.ok,okL,C.ok,okA,-List.map_drop];done))) (h1:o.one=true:=by(first|rfl|(simp[HO.one,okL,C.ok,okA];done))) (h2:o'.one=true:=by(first|rfl|(simp[HO.one,okL,C.ok,okA];done))) (hr:V.ok noN r=true:=by(first|rfl|(simp[V.ok,okL,C.ok,okV,okA];done))):AS P ρ H ⟨d,.call {callee:=.value x,args:=args,argTypes:=ats},ty,pos,af,gu⟩ ⟨r,[(n,o')],[n]⟩:=H4 hx hv hn hP hok h1 h2 hr
end
section
variable [Tb]
variable {P:Program} {ρ:Operand→Option V} {H:Nat→Option HO} {d:Option Nat} {ty:TypeId} {pos:String} {af:Array Edge} {gu:Option (Nat×Bool)} {x:Operand} {args:Array Operand} {ats:Array TypeId} {f:Nat} {caps:List C} {vs us:List V} {r:V}
end
section
variable [Tb]
variable {P:Program} {ops:Array Oper} {l:List (Nat×V)} {h:List (Nat×HO)} {rest:List Oper} {fs:List FP} {K:St→List FP→Prop} {J:Value→St→List FP→List Nat→Prop} {t:Nat} {op:Op} {ty:TypeId} {pos:String} {af:Array Edge} {gu:Option (Nat×Bool)} {v:V} {rd:List Nat} {n m:Nat} {ob ob2:HO} {gp:Nat×Bool}
theorem t_v (hs:AS P (evA (look l)) (look h) ⟨some t,op,ty,pos,af,none⟩ ⟨v,[],rd⟩) (k:AY P ops rest (mk ((t,v) :: l) h) (fs++[([],rd)]) K J):AY P ops (⟨some t,op,ty,pos,af,none⟩ :: rest) (mk l h) fs K J:=y_v hs k
end
section
variable [Tb]
variable {P:Program} {ops:Array Oper} {l:List (Nat×V)} {h:List (Nat×HO)} {rest:List Oper} {fs:List FP} {K:St→List FP→Prop} {J:Value→St→List FP→List Nat→Prop} {t:Nat} {op:Op} {ty:TypeId} {pos:String} {af:Array Edge} {gu:Option (Nat×Bool)} {v:V} {rd:List Nat} {n m:Nat} {ob ob2:HO} {gp:Nat×Bool}
theorem t_w (hs:AS P (evA (look l)) (look h) ⟨some t,op,ty,pos,af,none⟩ ⟨v,[(n,ob)],rd⟩) (k:AY P ops rest (mk ((t,v) :: l) ((n,ob) :: h)) (fs++[([n],rd)]) K J):AY P ops (⟨some t,op,ty,pos,af,none⟩ :: rest) (mk l h) fs K J:=y_w hs k
end
section
variable [Tb]
variable {P:Program} {ops:Array Oper} {l:List (Nat×V)} {h:List (Nat×HO)} {rest:List Oper} {fs:List FP} {K:St→List FP→Prop} {J:Value→St→List FP→List Nat→Prop} {t:Nat} {op:Op} {ty:TypeId} {pos:String} {af:Array Edge} {gu:Option (Nat×Bool)} {v:V} {rd:List Nat} {n m:Nat} {ob ob2:HO} {gp:Nat×Bool}
end
section
variable [Tb]
variable {P:Program} {ops:Array Oper} {l:List (Nat×V)} {h:List (Nat×HO)} {rest:List Oper} {fs:List FP} {K:St→List FP→Prop} {J:Value→St→List FP→List Nat→Prop} {t:Nat} {op:Op} {ty:TypeId} {pos:String} {af:Array Edge} {gu:Option (Nat×Bool)} {v:V} {rd:List Nat} {n m:Nat} {ob ob2:HO} {gp:Nat×Bool}
theorem t_s (hs:AS P (evA (look l)) (look h) ⟨none,op,ty,pos,af,none⟩ ⟨v,[(n,ob)],rd⟩) (k:AY P ops rest (mk l ((n,ob) :: h)) (fs++[([n],rd)]) K J):AY P ops (⟨none,op,ty,pos,af,none⟩ :: rest) (mk l h) fs K J:=y_s hs k
end
section
variable [Tb]
variable {P:Program} {ops:Array Oper} {l:List (Nat×V)} {h:List (Nat×HO)} {rest:List Oper} {fs:List FP} {K:St→List FP→Prop} {J:Value→St→List FP→List Nat→Prop} {t:Nat} {op:Op} {ty:TypeId} {pos:String} {af:Array Edge} {gu:Option (Nat×Bool)} {v:V} {rd:List Nat} {n m:Nat} {ob ob2:HO} {gp:Nat×Bool}
end
section
variable [Tb]
variable {P:Program} {ops:Array Oper} {l:List (Nat×V)} {h:List (Nat×HO)} {rest:List Oper} {fs:List FP} {K:St→List FP→Prop} {J:Value→St→List FP→List Nat→Prop} {t:Nat} {op:Op} {ty:TypeId} {pos:String} {af:Array Edge} {gu:Option (Nat×Bool)} {v:V} {rd:List Nat} {n m:Nat} {ob ob2:HO} {gp:Nat×Bool}
end
section
variable [Tb]
variable {P:Program} {ops:Array Oper} {l:List (Nat×V)} {h:List (Nat×HO)} {rest:List Oper} {fs:List FP} {K:St→List FP→Prop} {J:Value→St→List FP→List Nat→Prop} {t:Nat} {op:Op} {ty:TypeId} {pos:String} {af:Array Edge} {gu:Option (Nat×Bool)} {v:V} {rd:List Nat} {n m:Nat} {ob ob2:HO} {gp:Nat×Bool}
end
section
variable [Tb]
variable {P:Program} {ops:Array Oper} {l:List (Nat×V)} {h:List (Nat×HO)} {rest:List Oper} {fs:List FP} {K:St→List FP→Prop} {J:Value→St→List FP→List Nat→Prop} {t:Nat} {op:Op} {ty:TypeId} {pos:String} {af:Array Edge} {gu:Option (Nat×Bool)} {v:V} {rd:List Nat} {n m:Nat} {ob ob2:HO} {gp:Nat×Bool}
theorem t_m {b:Bool} (hg:gd ops (look l) ⟨some t,op,ty,pos,af,some gp⟩=some b:=by(first|exact g_p rfl rfl|exact g_w rfl rfl)) (hs:b=true→AS P (evA (look l)) (look h) ⟨some t,op,ty,pos,af,some gp⟩ ⟨v,[],rd⟩) (k:AY P ops rest (mk ((t,.wh b v) :: l) h) (fs++[([],rd)]) K J):AY P ops (⟨some t,op,ty,pos,af,some gp⟩ :: rest) (mk l h) fs K J:=y_m hg hs k
end
section
variable [Tb]
variable {P:Program} {ops:Array Oper} {l:List (Nat×V)} {h:List (Nat×HO)} {rest:List Oper} {fs:List FP} {K:St→List FP→Prop} {J:Value→St→List FP→List Nat→Prop} {t:Nat} {op:Op} {ty:TypeId} {pos:String} {af:Array Edge} {gu:Option (Nat×Bool)} {v:V} {rd:List Nat} {n m:Nat} {ob ob2:HO} {gp:Nat×Bool}
theorem t_f {g:Bool} (k:AY P ops rest (mk ((t,lR) :: l) h) (fs++[([],[])]) K J) (hg:gd ops (look l) ⟨some t,op,ty,pos,af,some gp⟩=some g:=by(first|exact g_p rfl rfl|exact g_w rfl rfl)) (hf:g=false:=by(first|assumption|(simp[*];done)|fail)):AY P ops (⟨some t,op,ty,pos,af,some gp⟩ :: rest) (mk l h) fs K J:=y_f hg hf k
end
section
variable [Tb]
variable {P:Program} {ops:Array Oper} {l:List (Nat×V)} {h:List (Nat×HO)} {rest:List Oper} {fs:List FP} {K:St→List FP→Prop} {J:Value→St→List FP→List Nat→Prop} {t:Nat} {op:Op} {ty:TypeId} {pos:String} {af:Array Edge} {gu:Option (Nat×Bool)} {v:V} {rd:List Nat} {n m:Nat} {ob ob2:HO} {gp:Nat×Bool}
theorem t_g {b:Bool} (hg:gd ops (look l) ⟨some t,op,ty,pos,af,some gp⟩=some b:=by(first|exact g_p rfl rfl|exact g_w rfl rfl)) (hs:b=true→AS P (evA (look l)) (look h) ⟨some t,op,ty,pos,af,some gp⟩ ⟨v,[(n,ob)],rd⟩) (k:b=true→AY P ops rest (mk ((t,v) :: l) ((n,ob) :: h)) (fs++[([n],rd)]) K J) (k0:b=false→AY P ops rest (mk ((t,lR) :: l) h) (fs++[([],[])]) K J):AY P ops (⟨some t,op,ty,pos,af,some gp⟩ :: rest) (mk l h) fs K J:=y_g hg hs k k0
end
section
variable [Tb]
variable {P:Program} {nt id i:Nat} {Q:Exit→St→Prop} {N:St→Prop} {σ:St} {y:Code} {l:List Oper} {v:Value}
end
section
variable [Tb]
variable {P:Program} {nt id i:Nat} {Q:Exit→St→Prop} {N:St→Prop} {σ:St} {y:Code} {l:List Oper} {v:Value}
end
section
variable [Tb]
variable {P:Program} {nt id i:Nat} {Q:Exit→St→Prop} {N:St→Prop} {σ:St} {y:Code} {l:List Oper} {v:Value}
theorem bh (h:AY P l.toArray l σ [] (fun σ' fs=>DX l.toArray fs=true∧Q .normal σ') fun v _ fs rd=>DY l.toArray fs rd=true∧∀ σ',Q (jq v) σ') (hl:(l.all fun o=>match o.dst with|some t=>decide (t<nt)|none=>true)=true:=by decide +kernel) (hm:P.follows .mixedOrders=true:=by kernel_rfl):AW P nt (.region id l.toArray true) Q σ:=KT hl hm h
end
section
variable [Tb]
variable {P:Program} {nt id i:Nat} {Q:Exit→St→Prop} {N:St→Prop} {σ:St} {y:Code} {l:List Oper} {v:Value}
theorem ag (h:AY P l.toArray l σ [] (fun σ' _=>Q .normal σ') fun v σ' _ _=>Q (jq v) σ') (hl:(l.all fun o=>match o.dst with|some t=>decide (t<nt)|none=>true)=true:=by decide +kernel):AW P nt (.region id l.toArray false) Q σ:=KU hl h
end
section
variable [Tb]
variable {P:Program} {nt:Nat} {Q Q':Exit→St→Prop} {σ σ':St}
theorem cO {c:Operand} {x y:Code} (h1:AW P nt x Q σ) (hc:Ev (evA σ.sl) c (.c (.sc (.bool true))):=by exact .pl rfl):AW P nt (.cond c x y) Q σ:=AW.yes hc h1
end
section
variable [Tb]
variable {P:Program} {nt:Nat} {Q Q':Exit→St→Prop} {σ σ':St}
theorem cg {c:Operand} {x y:Code} (h1:AW P nt y Q σ) (hc:Ev (evA σ.sl) c (.c (.sc (.bool false))):=by exact .pl rfl):AW P nt (.cond c x y) Q σ:=AW.no hc h1
end
section
variable [Tb]
variable {P:Program} {nt:Nat} {Q Q':Exit→St→Prop} {σ σ':St}
theorem aj {c:Operand} {x y:Code} {t:Bool} (h1:t=true→AW P nt x Q σ) (h2:t=false→AW P nt y Q σ) (hc:Ev (evA σ.sl) c (.c (.sc (.bool t))):=by exact aB):AW P nt (.cond c x y) Q σ:=AW.cond hc h1 h2
end
section
variable [Tb]
variable {P:Program} {nt:Nat} {Q:Exit→St→Prop} {N:St→Prop} {σ:St} {id i:Nat} {y:Code} {l:List Oper}
theorem k_b {t:Nat} {a b:Bool} (h:a=b) (hx:Ev (evA σ.sl) (.tmp t) (.c (.sc (.bool a))):=by exact aB):Ret P [.tmp t] (.c (.sc (.bool b))) .ret σ:=r_b hx h
end
section
variable [Tb]
variable {P:Program} {nt:Nat} {Q:Exit→St→Prop} {N:St→Prop} {σ:St} {id i:Nat} {y:Code} {l:List Oper}
theorem k_s {t:Nat} {a b:ByteArray} (h:a=b) (hx:Ev (evA σ.sl) (.tmp t) (.c (.sc (.string a))):=by exact aB):Ret P [.tmp t] (.c (.sc (.string b))) .ret σ:=r_s hx h
end
section
variable [Tb]
variable {P:Program} {nt:Nat} {Q:Exit→St→Prop} {N:St→Prop} {σ:St} {id i:Nat} {y:Code} {l:List Oper}
theorem k_i {t:Nat} {k:IntKind} {a b:Int} (h:a=b) (hx:Ev (evA σ.sl) (.tmp t) (.c (.sc (.int k a))):=by exact aB):Ret P [.tmp t] (.c (.sc (.int k b))) .ret σ:=r_i hx h
end
section
variable [Tb]
variable {P:Program} {nt:Nat} {Q:Exit→St→Prop} {N:St→Prop} {σ:St} {id i:Nat} {y:Code} {l:List Oper}
end
section
theorem k_c {P:Program} {σ:St} {u ty n off ty0 k:Nat} {cs cs' ds:List C} {b:Bool} (e1:unL cs'=ds) (h2:Ev (evA σ.sl) (.tmp u) (.c (.ptr n off)):=by exact aB) (hh:σ.hp n=some (.obj ty0 cs):=by rfl) (ht:tyi P ty=some (k,b):=by exact eH rfl) (hc:aU b cs off k=some (.agg cs'):=by(first|(simp only[fB];rfl)|(rw[dY _ _ _ _ _ (by(try simp only[km]);decide)];simp only[fB,Nat.reduceAdd];rfl)|rfl)):Ret P [.cell u ty] (.agg ds) .ret σ:=r_c h2 hh ht hc e1
end
section
variable [Tb]
variable {P:Program} {nt:Nat} {Q:Exit→St→Prop} {N:St→Prop} {σ:St} {id i:Nat} {y:Code} {l:List Oper}
theorem k_2 {t u:Nat} {v1 v2 u1 u2:V} (e1:v1.un=u1) (e2:v2.un=u2) (h1:Ev (evA σ.sl) (.tmp t) v1:=by exact aB) (h2:Ev (evA σ.sl) (.tmp u) v2:=by exact aB):Ret P [.tmp t,.tmp u] (.tup [u1,u2]) .ret σ:=r_2 h1 h2 e1 e2
end
section
variable [Tb]
variable {P:Program} {nt:Nat} {Q:Exit→St→Prop} {N:St→Prop} {σ:St} {id i:Nat} {y:Code} {l:List Oper}
theorem vW {t u ty n off ty0 k:Nat} {cs:List C} {b:Bool} {v1 v2 u1 u2:V} (e1:v1.un=u1) (e2:v2.un=u2) (h1:Ev (evA σ.sl) (.tmp t) v1:=by exact aB) (h2:Ev (evA σ.sl) (.tmp u) (.c (.ptr n off)):=by exact aB) (hh:σ.hp n=some (.obj ty0 cs):=by rfl) (ht:tyi P ty=some (k,b):=by exact eH rfl) (hc:aU b cs off k=some v2:=by(first|(simp only[fB];rfl)|(rw[dY _ _ _ _ _ (by(try simp only[km]);decide)];simp only[fB,Nat.reduceAdd];rfl)|rfl)):Ret P [.tmp t,.cell u ty] (.tup [u1,u2]) .ret σ:=Lj h1 h2 hh ht hc e1 e2
end
section
variable [Tb]
variable {P:Program} {ops:Array Oper} {l:List (Nat×V)} {h:List (Nat×HO)} {rest:List Oper} {fs:List FP} {K:St→List FP→Prop} {J:Value→St→List FP→List Nat→Prop} {t:Nat} {ty:TypeId} {pos:String} {af:Array Edge} {x:Operand} {args:Array Operand} {ats:Array TypeId} {f:Nat} {us:List V} {n m:Nat}
variable {α β ε:Type} {sp:Except ε (α×β)} {R:α→V} {E:ε→Value}
theorem bB {o:HO} {O:β→HO} (hx:Ev (evA (look l)) x (.c (.fn f [])):=by exact aB) (hv:EvL (evA (look l)) args.toList (.c (.ptr n 0) :: us):=by(first|((repeat(first|exact .nil|((apply EvL.cons);(· (first|(refine .wh rfl ?_;first|assumption|(rw[hp];rfl)|(simp_all;done))|exact .pl rfl)))));done)|fail)) (hn:look h n=some o:=by rfl) (hP:MX P f [(0,o)] (.c (.ptr 0 0) :: us) sp R (fun b=>[(0,O b)]) E) (hok:okV noN us=true:=by(first|rfl|(simp[okV,V.ok,okL,C.ok,okA];done)|(simp[okV,V.ok,okL,C.ok,okA,gi,gj,-List.map_map, *];done)|(simp[okV,V.ok,okL,bu,C.ok,okA,nsC,NS.zero,lvC,Lv.zero,rgC,Rg.zero,cxC,Ct.zero,moC,Mo.zero];done)|(simp[okV,V.ok,okL,C.ok,okA,-List.map_drop];done))) (h1:o.one=true:=by(first|rfl|(simp[HO.one,okL,C.ok,okA];done))) (k1:∀ a b,sp= .ok (a,b)→AY P ops rest (mk ((t,R a) :: l) ((n,O b) :: h)) (fs++[([n],[n])]) K J) (k2:∀ e,sp= .error e→∀ σ',J (E e) σ' fs [n]):AY P ops (⟨some t,.call {callee:=.value x,args:=args,argTypes:=ats},ty,pos,af,none⟩ :: rest) (mk l h) fs K J:=LJ hx hv hn hP hok h1 k1 k2
end
section
variable [Tb]
variable {P:Program} {ops:Array Oper} {l:List (Nat×V)} {h:List (Nat×HO)} {rest:List Oper} {fs:List FP} {K:St→List FP→Prop} {J:Value→St→List FP→List Nat→Prop} {t:Nat} {ty:TypeId} {pos:String} {af:Array Edge} {x:Operand} {args:Array Operand} {ats:Array TypeId} {f:Nat} {us:List V} {n m:Nat}
variable {α β ε:Type} {sp:Except ε (α×β)} {R:α→V} {E:ε→Value}
end
section
variable [Tb]
variable {P:Program} {ops:Array Oper} {l:List (Nat×V)} {h:List (Nat×HO)} {rest:List Oper} {fs:List FP} {K:St→List FP→Prop} {J:Value→St→List FP→List Nat→Prop} {t:Nat} {ty:TypeId} {pos:String} {af:Array Edge} {x:Operand} {args:Array Operand} {ats:Array TypeId} {f:Nat} {us:List V} {n m:Nat}
variable {α β ε:Type} {sp:Except ε (α×β)} {R:α→V} {E:ε→Value}
theorem uZ {o s:HO} {O S:β→HO} (hx:Ev (evA (look l)) x (.c (.fn f [])):=by exact aB) (hv:EvL (evA (look l)) args.toList (.c (.ptr n 0) :: .c (.ptr m 0) :: us):=by(first|((repeat(first|exact .nil|((apply EvL.cons);(· (first|(refine .wh rfl ?_;first|assumption|(rw[hp];rfl)|(simp_all;done))|exact .pl rfl)))));done)|fail)) (hn:look h n=some o:=by rfl) (hm:look h m=some s:=by rfl) (hP:MX P f [(0,o),(1001,s)] (.c (.ptr 0 0) :: .c (.ptr 1001 0) :: us) sp R (fun b=>[(0,O b),(1001,S b)]) E) (hok:okV noN us=true:=by(first|rfl|(simp[okV,V.ok,okL,C.ok,okA];done)|(simp[okV,V.ok,okL,C.ok,okA,gi,gj,-List.map_map, *];done)|(simp[okV,V.ok,okL,bu,C.ok,okA,nsC,NS.zero,lvC,Lv.zero,rgC,Rg.zero,cxC,Ct.zero,moC,Mo.zero];done)|(simp[okV,V.ok,okL,C.ok,okA,-List.map_drop];done))) (h1:o.one=true:=by(first|rfl|(simp[HO.one,okL,C.ok,okA];done))) (h2:s.one=true:=by(first|rfl|(simp[HO.one,okL,C.ok,okA];done))) (hnm:Nat.beq n m=false:=by rfl) (k1:∀ a b,sp= .ok (a,b)→AY P ops rest (mk ((t,R a) :: l) ((m,S b) :: (n,O b) :: h)) (fs++[([n,m],[n,m])]) K J) (k2:∀ e,sp= .error e→∀ σ',J (E e) σ' fs [n,m]):AY P ops (⟨some t,.call {callee:=.value x,args:=args,argTypes:=ats},ty,pos,af,none⟩ :: rest) (mk l h) fs K J:=LK hx hv hn hm hP hok h1 h2 hnm k1 k2
end
section
variable [Tb]
variable {P:Program} {ops:Array Oper} {l:List (Nat×V)} {h:List (Nat×HO)} {rest:List Oper} {fs:List FP} {K:St→List FP→Prop} {J:Value→St→List FP→List Nat→Prop} {t:Nat} {ty:TypeId} {pos:String} {af:Array Edge} {x:Operand} {args:Array Operand} {ats:Array TypeId} {f:Nat} {us:List V} {n m:Nat}
variable {α β ε:Type} {sp:Except ε (α×β)} {R:α→V} {E:ε→Value}
end
section
variable [Tb]
variable {P:Program} {ops:Array Oper} {l:List (Nat×V)} {h:List (Nat×HO)} {rest:List Oper} {fs:List FP} {K:St→List FP→Prop} {J:Value→St→List FP→List Nat→Prop} {t:Nat} {ty:TypeId} {pos:String} {af:Array Edge} {x:Operand} {args:Array Operand} {ats:Array TypeId} {f:Nat} {us:List V} {q T S:Nat}
variable {β ε:Type} {sp:Except ε (NS×β)} {E:ε→Value}
theorem IG {n:NS} {o:HO} {O:β→HO} (hx:Ev (evA (look l)) x (.c (.fn f [])):=by exact aB) (hv:EvL (evA (look l)) args.toList (.c (.ptr 0 0) :: .c (.ptr q 0) :: us):=by(first|((repeat(first|exact .nil|((apply EvL.cons);(· (first|(refine .wh rfl ?_;first|assumption|(rw[hp];rfl)|(simp_all;done))|exact .pl rfl)))));done)|fail)) (hq:(Nat.blt 0 q&&Nat.blt q 1000)=true:=by rfl) (hn:look h 0=some o:=by rfl) (hm:look h q=some (.obj T (nsR 1002 1003 n)):=by rfl) (h2:look h 1002=some (.row S 1 n.names.length):=by rfl) (h3:look h 1003=some (.row S 1 n.except.length):=by rfl) (hP:MX0 P f ((0,o) :: elS T S 1001 1002 1003 n) (.c (.ptr 0 0) :: .c (.ptr 1001 0) :: us) (sp>>=fun x=>.ok ((),x)) (fun _=>.tup []) (elO T S O) E) (hok:okV noN us=true:=by(first|rfl|(simp[okV,V.ok,okL,C.ok,okA];done)|(simp[okV,V.ok,okL,C.ok,okA,gi,gj,-List.map_map, *];done)|(simp[okV,V.ok,okL,bu,C.ok,okA,nsC,NS.zero,lvC,Lv.zero,rgC,Rg.zero,cxC,Ct.zero,moC,Mo.zero];done)|(simp[okV,V.ok,okL,C.ok,okA,-List.map_drop];done))) (h1:o.one=true:=by(first|rfl|(simp[HO.one,okL,C.ok,okA];done))) (hO:∀ b,(O b).one=true:=by(intro b;(first|rfl|(simp[HO.one,okL,C.ok,okA];done)))) (k1:∀ a b,sp= .ok (a,b)→AY P ops rest (mk ((t,.tup []) :: l) ((1003,.row S 1 a.except.length) :: (1002,.row S 1 a.names.length) :: (q,.obj T (nsR 1002 1003 a)) :: (0,O b) :: h)) (fs++[([0,q,1002,1003],[0,q,1002,1003])]) K J) (k2:∀ e,sp= .error e→∀ σ',J (E e) σ' fs [0,q,1002,1003]):AY P ops (⟨some t,.call {callee:=.value x,args:=args,argTypes:=ats},ty,pos,af,none⟩ :: rest) (mk l h) fs K J:=LM hx hv hq hn hm h2 h3 hP hok h1 hO k1 k2
end
section
variable [Tb]
theorem Lg {P:Program} {β ε:Type} {sp:Except ε (NS×β)} {E:ε→Value} {l:List (Nat×V)} {h:List (Nat×HO)} {x:Exit} {T S:Nat} {O:β→HO} {o:HO} {cs:List C} {m1 m2:Nat} (k:∃ a b,sp= .ok (a,b)∧HO.le o (O b)∧cs=nsR 1002 1003 a∧m1=a.names.length∧m2=a.except.length) (hx:x= .ret∨x= .normal:=by(first|exact .inl rfl|exact .inr rfl)) (h0:look h 0=some o:=by rfl) (h1:look h 1001=some (.obj T cs):=by rfl) (h2:look h 1002=some (.row S 1 m1):=by rfl) (h3:look h 1003=some (.row S 1 m2):=by rfl):iK P [] [0,1001,1002,1003] (sp>>=fun x=>.ok ((),x)) (fun _=>.tup []) (elO T S O) E x (mk l h):=LI hx h0 h1 h2 h3 k
end
section
variable [Tb]
variable {P:Program} {ops:Array Oper} {l:List (Nat×V)} {h:List (Nat×HO)} {rest:List Oper} {fs:List FP} {K:St→List FP→Prop} {J:Value→St→List FP→List Nat→Prop} {t:Nat} {ty:TypeId} {pos:String} {af:Array Edge} {x:Operand} {args:Array Operand} {ats:Array TypeId} {f:Nat} {us:List V} {n m:Nat}
variable {α β ε:Type} {sp:Except ε (α×β)} {R:α→V} {E:ε→Value}
end
section
variable [Tb]
variable {P:Program} {ops:Array Oper} {l:List (Nat×V)} {h:List (Nat×HO)} {rest:List Oper} {fs:List FP} {K:St→List FP→Prop} {J:Value→St→List FP→List Nat→Prop} {t:Nat} {ty:TypeId} {pos:String} {af:Array Edge} {x:Operand} {args:Array Operand} {ats:Array TypeId} {f:Nat} {us:List V} {n m:Nat}
variable {α β ε:Type} {sp:Except ε (α×β)} {R:α→V} {E:ε→Value}
theorem GO {gp:Nat×Bool} {g:Bool} {o s:HO} {O S:β→HO} (hg:gd ops (look l) ⟨some t,.call {callee:=.value x,args:=args,argTypes:=ats},ty,pos,af,some gp⟩=some g:=by(first|exact g_p rfl rfl|exact g_w rfl rfl)) (hx:Ev (evA (look l)) x (.c (.fn f [])):=by exact aB) (hv:g=true→EvL (evA (look l)) args.toList (.c (.ptr n 0) :: .c (.ptr m 0) :: us):=by(intro hg;(first|((repeat(first|exact .nil|((apply EvL.cons);(· (first|(refine .wh rfl ?_;first|assumption|(rw[hp];rfl)|(simp_all;done))|exact .pl rfl)))));done)|fail))) (hn:look h n=some o:=by rfl) (hm:look h m=some s:=by rfl) (hP:MX P f [(0,o),(1001,s)] (.c (.ptr 0 0) :: .c (.ptr 1001 0) :: us) sp R (fun b=>[(0,O b),(1001,S b)]) E) (hok:okV noN us=true:=by(first|rfl|(simp[okV,V.ok,okL,C.ok,okA];done)|(simp[okV,V.ok,okL,C.ok,okA,gi,gj,-List.map_map, *];done)|(simp[okV,V.ok,okL,bu,C.ok,okA,nsC,NS.zero,lvC,Lv.zero,rgC,Rg.zero,cxC,Ct.zero,moC,Mo.zero];done)|(simp[okV,V.ok,okL,C.ok,okA,-List.map_drop];done))) (h1:o.one=true:=by(first|rfl|(simp[HO.one,okL,C.ok,okA];done))) (h2:s.one=true:=by(first|rfl|(simp[HO.one,okL,C.ok,okA];done))) (hnm:Nat.beq n m=false:=by rfl) (k1:g=true→∀ a b,sp= .ok (a,b)→AY P ops rest (mk ((t,R a) :: l) ((m,S b) :: (n,O b) :: h)) (fs++[([n,m],[n,m])]) K J) (k2:g=true→∀ e,sp= .error e→∀ σ',J (E e) σ' fs [n,m]) (k0:g=false→AY P ops rest (mk ((t,lR) :: l) h) (fs++[([],[])]) K J):AY P ops (⟨some t,.call {callee:=.value x,args:=args,argTypes:=ats},ty,pos,af,some gp⟩ :: rest) (mk l h) fs K J:=KS hg hx hv hn hm hP hok h1 h2 hnm k1 k2 k0
end
section
theorem t_p {P:Program} {ops:Array Oper} {l:List (Nat×V)} {h:List (Nat×HO)} {rest:List Oper} {fs:List FP} {K:St→List FP→Prop} {J:Value→St→List FP→List Nat→Prop} {ty:TypeId} {pos:String} {af:Array Edge} {x:Operand} {d:Option Nat} {t:Nat} {u:Value} (k:∀ σ',J (.iface t u) σ' fs []) (hx:Ev (evA (look l)) x (.c (.sc (.iface t u))):=by exact aB):AY P ops (⟨d,.panic x,ty,pos,af,none⟩ :: rest) (mk l h) fs K J:=y_p hx k
end
section
variable [Tb]
variable {P:Program} {ops:Array Oper} {l:List (Nat×V)} {h:List (Nat×HO)} {rest:List Oper} {fs:List FP} {K:St→List FP→Prop} {J:Value→St→List FP→List Nat→Prop} {t:Nat} {ty:TypeId} {pos:String} {af:Array Edge} {x:Operand} {args:Array Operand} {ats:Array TypeId} {f:Nat} {us:List V} {n m:Nat}
variable {α β ε:Type} {sp:Except ε (α×β)} {R:α→V} {E:ε→Value}
theorem t_q {d:Option Nat} {v:Value} (hx:Ev (evA (look l)) x (.c (.fn f [])):=by exact aB) (hv:EvL (evA (look l)) args.toList us:=by(first|((repeat(first|exact .nil|((apply EvL.cons);(· (first|(refine .wh rfl ?_;first|assumption|(rw[hp];rfl)|(simp_all;done))|exact .pl rfl)))));done)|fail)) (hP:MQL P f [] us v) (hok:okV noN us=true:=by(first|rfl|(simp[okV,V.ok,okL,C.ok,okA];done)|(simp[okV,V.ok,okL,C.ok,okA,gi,gj,-List.map_map, *];done)|(simp[okV,V.ok,okL,bu,C.ok,okA,nsC,NS.zero,lvC,Lv.zero,rgC,Rg.zero,cxC,Ct.zero,moC,Mo.zero];done)|(simp[okV,V.ok,okL,C.ok,okA,-List.map_drop];done))) (k:∀ σ',J v σ' fs []):AY P ops (⟨d,.call {callee:=.value x,args:=args,argTypes:=ats},ty,pos,af,none⟩ :: rest) (mk l h) fs K J:=y_q hx hv hP hok k
end
section
variable [Tb]
variable {P:Program} {α β ε:Type} {sp:Except ε (α×β)} {R:α→V} {E:ε→Value} {rl:List ResultVar} {N:List Nat} {O:β→List (Nat×HO)} {l:List (Nat×V)} {h:List (Nat×HO)} {x:Exit} {σ:St}
theorem l_1 {O1:β→HO} {o:HO} {v:V} {t:Nat} (k:∃ a b,sp= .ok (a,b)∧v.un=R a∧HO.le o (O1 b)) (hx:Ev (evA (look l)) (.tmp t) v:=by exact aB) (ho:look h 0=some o:=by rfl):iK P [.tmp t] [0] sp R (fun b=>[(0,O1 b)]) E .ret (mk l h):=x_1 hx ho k
end
section
variable [Tb]
variable {P:Program} {α β ε:Type} {sp:Except ε (α×β)} {R:α→V} {E:ε→Value} {rl:List ResultVar} {N:List Nat} {O:β→List (Nat×HO)} {l:List (Nat×V)} {h:List (Nat×HO)} {x:Exit} {σ:St}
theorem fG {O1:β→HO} {o:HO} {v:V} {t ty n off ty0 z:Nat} {cs:List C} {b:Bool} (k:∃ a b,sp= .ok (a,b)∧v.un=R a∧HO.le o (O1 b)) (hx:Ev (evA (look l)) (.tmp t) (.c (.ptr n off)):=by exact aB) (hh:look h n=some (.obj ty0 cs):=by rfl) (ht:tyi P ty=some (z,b):=by exact eH rfl) (hc:aU b cs off z=some v:=by(first|(simp only[fB];rfl)|(rw[dY _ _ _ _ _ (by(try simp only[km]);decide)];simp only[fB,Nat.reduceAdd];rfl)|rfl)) (ho:look h 0=some o:=by rfl):iK P [.cell t ty] [0] sp R (fun b=>[(0,O1 b)]) E .ret (mk l h):=LG hx hh ht hc ho k
end
section
variable [Tb]
variable {P:Program} {α β ε:Type} {sp:Except ε (α×β)} {R:α→V} {E:ε→Value} {rl:List ResultVar} {N:List Nat} {O:β→List (Nat×HO)} {l:List (Nat×V)} {h:List (Nat×HO)} {x:Exit} {σ:St}
theorem l_0 {O1:β→HO} {o:HO} (k:∃ a b,sp= .ok (a,b)∧.tup []=R a∧HO.le o (O1 b)) (hx:x= .ret∨x= .normal:=by(first|exact .inl rfl|exact .inr rfl)) (ho:look h 0=some o:=by rfl):iK P [] [0] sp R (fun b=>[(0,O1 b)]) E x (mk l h):=x_0 hx ho k
end
section
variable [Tb]
variable {P:Program} {α β ε:Type} {sp:Except ε (α×β)} {R:α→V} {E:ε→Value} {rl:List ResultVar} {N:List Nat} {O:β→List (Nat×HO)} {l:List (Nat×V)} {h:List (Nat×HO)} {x:Exit} {σ:St}
theorem l_d {O1 O2:β→HO} {o s:HO} {v:V} {t:Nat} (k:∃ a b,sp= .ok (a,b)∧v.un=R a∧HO.le o (O1 b)∧HO.le s (O2 b)) (hx:Ev (evA (look l)) (.tmp t) v:=by exact aB) (ho:look h 0=some o:=by rfl) (hs:look h 1001=some s:=by rfl):iK P [.tmp t] [0,1001] sp R (fun b=>[(0,O1 b),(1001,O2 b)]) E .ret (mk l h):=x_d hx ho hs k
end
section
variable [Tb]
variable {P:Program} {α β ε:Type} {sp:Except ε (α×β)} {R:α→V} {E:ε→Value} {rl:List ResultVar} {N:List Nat} {O:β→List (Nat×HO)} {l:List (Nat×V)} {h:List (Nat×HO)} {x:Exit} {σ:St}
theorem oz {O1 O2:β→HO} {o s:HO} (k:∃ a b,sp= .ok (a,b)∧.tup []=R a∧HO.le o (O1 b)∧HO.le s (O2 b)) (hx:x= .ret∨x= .normal:=by(first|exact .inl rfl|exact .inr rfl)) (ho:look h 0=some o:=by rfl) (hs:look h 1001=some s:=by rfl):iK P [] [0,1001] sp R (fun b=>[(0,O1 b),(1001,O2 b)]) E x (mk l h):=LH hx ho hs k
end
theorem aX {P:Program} {ops:Array Oper} {l:List (Nat×V)} {h:List (Nat×HO)} {rest:List Oper} {fs:List FP} {K:St→List FP→Prop} {J:Value→St→List FP→List Nat→Prop} {op:Op} {ty:TypeId} {pos:String} {af:Array Edge} (k:AY P ops (⟨none,op,ty,pos,af,none⟩ :: rest) (mk l h) fs K J):AY P ops (⟨none,op,ty,pos,af,none⟩ :: rest) (mk l h) fs K J:=k
theorem ak {P:Program} {ops:Array Oper} {l:List (Nat×V)} {h:List (Nat×HO)} {rest:List Oper} {fs:List FP} {K:St→List FP→Prop} {J:Value→St→List FP→List Nat→Prop} {op:Op} {ty:TypeId} {pos:String} {af:Array Edge} {t:Nat} (k:AY P ops (⟨some t,op,ty,pos,af,none⟩ :: rest) (mk l h) fs K J):AY P ops (⟨some t,op,ty,pos,af,none⟩ :: rest) (mk l h) fs K J:=k
theorem bt {P:Program} {ops:Array Oper} {l:List (Nat×V)} {h:List (Nat×HO)} {rest:List Oper} {fs:List FP} {K:St→List FP→Prop} {J:Value→St→List FP→List Nat→Prop} {op:Op} {ty:TypeId} {pos:String} {af:Array Edge} {t:Nat} {gp:Nat×Bool} (k:AY P ops (⟨some t,op,ty,pos,af,some gp⟩ :: rest) (mk l h) fs K J):AY P ops (⟨some t,op,ty,pos,af,some gp⟩ :: rest) (mk l h) fs K J:=k
theorem av {P:Program} {nt:Nat} {c:Code} {Q:Exit→St→Prop} {σ:St} (h:AW P nt c Q σ):AW P nt c Q σ:=h
theorem aF {P:Program} {rl:List ResultVar} {r:V} {x:Exit} {σ:St} (h:Ret P rl r x σ):Ret P rl r x σ:=h
theorem bj {α β ε:Type} {P:Program} {rl:List ResultVar} {N:List Nat} {sp:Except ε (α×β)} {R:α→V} {O:β→List (Nat×HO)} {E:ε→Value} {x:Exit} {σ:St} (h:iK P rl N sp R O E x σ):iK P rl N sp R O E x σ:=h
end Am
end Go.Proofs.YtkpodagbefnebaaGreatDoor
