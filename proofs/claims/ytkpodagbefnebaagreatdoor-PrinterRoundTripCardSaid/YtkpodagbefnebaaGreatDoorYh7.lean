import Derived.Test.YtkpodagbefnebaaGreatDoorYh6
set_option linter.unusedSimpArgs false
set_option linter.unusedVariables false
set_option linter.unusedSectionVars false
namespace Go.Proofs.YtkpodagbefnebaaGreatDoor
namespace Am
open Go.RowKit
set_option maxRecDepth 100000
section
variable {ρ:Operand→Option V} {H:Nat→Option HO} {d:Option Nat} {ty t2:TypeId} {pos:String} {af:Array Edge} {gu:Option (Nat×Bool)} {x y:Operand}
theorem az {ρ:Operand→Option V} {x:Operand} {v:V} (h:Ev ρ x v:=by(first|(refine .wh rfl ?_;first|assumption|(rw[hp];rfl)|(simp_all;done))|exact .pl rfl)):Ev ρ x v:=h
theorem E9 {x0:Operand} {y0:ByteArray} (h0:Ev ρ x0 (.c (sS y0)):=by exact az):AS Tryz.prog ρ H ⟨d,.build 25 #[(0,x0)],ty,pos,af,gu⟩ ⟨.agg (moC {Mo.zero with name:=y0}),[],[]⟩:=B5 h0
end
section
variable {ρ:Operand→Option V} {H:Nat→Option HO} {d:Option Nat} {ty t2:TypeId} {pos:String} {af:Array Edge} {gu:Option (Nat×Bool)} {x y:Operand}
theorem tC {x0 x1 x2:Operand} {y0:ByteArray} {y1:Int} {y2:List Stm} (h0:Ev ρ x0 (.c (sS y0)):=by exact az) (h1:Ev ρ x1 (.c (sI y1)):=by exact az) (h2:Ev ρ x2 (.c (.lst none 55 (y2.map stC))):=by exact az):AS Tryz.prog ρ H ⟨d,.build 25 #[(0,x0),(1,x1),(2,x2)],ty,pos,af,gu⟩ ⟨.agg (moC {Mo.zero with name:=y0,version:=y1,stmts:=y2}),[],[]⟩:=rK h0 h1 h2
end
section
variable {ρ:Operand→Option V} {H:Nat→Option HO} {d:Option Nat} {ty t2:TypeId} {pos:String} {af:Array Edge} {gu:Option (Nat×Bool)} {x y:Operand}
theorem Ea {x0:Operand} {y0:List Stm} (h0:Ev ρ x0 (.c (.lst none 55 (y0.map stC))):=by exact az):AS Tryz.prog ρ H ⟨d,.build 25 #[(2,x0)],ty,pos,af,gu⟩ ⟨.agg (moC {Mo.zero with stmts:=y0}),[],[]⟩:=B6 h0
end
section
variable {ρ:Operand→Option V} {H:Nat→Option HO} {d:Option Nat} {ty t2:TypeId} {pos:String} {af:Array Edge} {gu:Option (Nat×Bool)} {x y:Operand}
theorem xV {x0 x1:Operand} {y0:Int} {y1:Int} (h0:Ev ρ x0 (.c (sI y0)):=by exact az) (h1:Ev ρ x1 (.c (sI y1)):=by exact az):AS Tryz.prog ρ H ⟨d,.build 28 #[(0,x0),(1,x1)],ty,pos,af,gu⟩ ⟨.agg (poC {Po.zero with line:=y0,col:=y1}),[],[]⟩:=vZ h0 h1
end
section
variable {ρ:Operand→Option V} {H:Nat→Option HO} {d:Option Nat} {ty t2:TypeId} {pos:String} {af:Array Edge} {gu:Option (Nat×Bool)} {x y:Operand}
theorem Eb {x0:Operand} {y0:Int} (h0:Ev ρ x0 (.c (sI y0)):=by exact az):AS Tryz.prog ρ H ⟨d,.build 30 #[(0,x0)],ty,pos,af,gu⟩ ⟨.agg (faC {Fa.zero with code:=y0}),[],[]⟩:=B7 h0
end
section
variable {ρ:Operand→Option V} {H:Nat→Option HO} {d:Option Nat} {ty t2:TypeId} {pos:String} {af:Array Edge} {gu:Option (Nat×Bool)} {x y:Operand}
theorem xW {x0 x1:Operand} {y0:Int} {y1:Po} (h0:Ev ρ x0 (.c (sI y0)):=by exact az) (h1:Ev ρ x1 (.agg (poC y1)):=by exact az):AS Tryz.prog ρ H ⟨d,.build 30 #[(0,x0),(1,x1)],ty,pos,af,gu⟩ ⟨.agg (faC {Fa.zero with code:=y0,pos:=y1}),[],[]⟩:=w4 h0 h1
end
section
variable {ρ:Operand→Option V} {H:Nat→Option HO} {d:Option Nat} {ty t2:TypeId} {pos:String} {af:Array Edge} {gu:Option (Nat×Bool)} {x y:Operand}
end
section
variable {ρ:Operand→Option V} {H:Nat→Option HO} {d:Option Nat} {ty t2:TypeId} {pos:String} {af:Array Edge} {gu:Option (Nat×Bool)} {x y:Operand}
end
section
variable {ρ:Operand→Option V} {H:Nat→Option HO} {d:Option Nat} {ty t2:TypeId} {pos:String} {af:Array Edge} {gu:Option (Nat×Bool)} {x y:Operand}
theorem qm {x0 x1 x2 x3:Operand} {y0:Int} {y1:Int} {y2:Int} {y3:Int} (h0:Ev ρ x0 (.c (sI y0)):=by exact az) (h1:Ev ρ x1 (.c (sI y1)):=by exact az) (h2:Ev ρ x2 (.c (sI y2)):=by exact az) (h3:Ev ρ x3 (.c (sI y3)):=by exact az):AS Tryz.prog ρ H ⟨d,.build 49 #[(0,x0),(1,x1),(2,x2),(3,x3)],ty,pos,af,gu⟩ ⟨.agg (exC {Ex.zero with op:=y0,a:=y1,rel:=y2,b:=y3}),[],[]⟩:=oG h0 h1 h2 h3
end
section
variable {ρ:Operand→Option V} {H:Nat→Option HO} {d:Option Nat} {ty t2:TypeId} {pos:String} {af:Array Edge} {gu:Option (Nat×Bool)} {x y:Operand}
theorem tD {x0 x1 x2:Operand} {y0:Int} {y1:Int} {y2:List ByteArray} (h0:Ev ρ x0 (.c (sI y0)):=by exact az) (h1:Ev ρ x1 (.c (sI y1)):=by exact az) (h2:Ev ρ x2 (.c (bA y2)):=by exact az):AS Tryz.prog ρ H ⟨d,.build 49 #[(0,x0),(1,x1),(4,x2)],ty,pos,af,gu⟩ ⟨.agg (exC {Ex.zero with op:=y0,a:=y1,names:=y2}),[],[]⟩:=rL h0 h1 h2
end
section
variable {ρ:Operand→Option V} {H:Nat→Option HO} {d:Option Nat} {ty t2:TypeId} {pos:String} {af:Array Edge} {gu:Option (Nat×Bool)} {x y:Operand}
theorem xX {x0 x1:Operand} {y0:Int} {y1:Int} (h0:Ev ρ x0 (.c (sI y0)):=by exact az) (h1:Ev ρ x1 (.c (sI y1)):=by exact az):AS Tryz.prog ρ H ⟨d,.build 49 #[(0,x0),(3,x1)],ty,pos,af,gu⟩ ⟨.agg (exC {Ex.zero with op:=y0,b:=y1}),[],[]⟩:=w5 h0 h1
end
section
variable {ρ:Operand→Option V} {H:Nat→Option HO} {d:Option Nat} {ty t2:TypeId} {pos:String} {af:Array Edge} {gu:Option (Nat×Bool)} {x y:Operand}
theorem xY {x0 x1:Operand} {y0:Int} {y1:List ByteArray} (h0:Ev ρ x0 (.c (sI y0)):=by exact az) (h1:Ev ρ x1 (.c (bA y1)):=by exact az):AS Tryz.prog ρ H ⟨d,.build 49 #[(0,x0),(4,x1)],ty,pos,af,gu⟩ ⟨.agg (exC {Ex.zero with op:=y0,names:=y1}),[],[]⟩:=w6 h0 h1
end
section
variable {ρ:Operand→Option V} {H:Nat→Option HO} {d:Option Nat} {ty t2:TypeId} {pos:String} {af:Array Edge} {gu:Option (Nat×Bool)} {x y:Operand}
theorem xZ {x0 x1:Operand} {y0:Int} {y1:List Ex} (h0:Ev ρ x0 (.c (sI y0)):=by exact az) (h1:Ev ρ x1 (.c (.lst none 10 (y1.map exC))):=by exact az):AS Tryz.prog ρ H ⟨d,.build 49 #[(0,x0),(6,x1)],ty,pos,af,gu⟩ ⟨.agg (exC {Ex.zero with op:=y0,kids:=y1}),[],[]⟩:=w7 h0 h1
end
section
variable {ρ:Operand→Option V} {H:Nat→Option HO} {d:Option Nat} {ty t2:TypeId} {pos:String} {af:Array Edge} {gu:Option (Nat×Bool)} {x y:Operand}
theorem y6 {x0 x1:Operand} {y0:Bool} {y1:List ByteArray} (h0:Ev ρ x0 (.c (sB y0)):=by exact az) (h1:Ev ρ x1 (.c (bA y1)):=by exact az):AS Tryz.prog ρ H ⟨d,.build 60 #[(0,x0),(4,x1)],ty,pos,af,gu⟩ ⟨.agg (nsC {NS.zero with all:=y0,except:=y1}),[],[]⟩:=w8 h0 h1
end
section
variable {ρ:Operand→Option V} {H:Nat→Option HO} {d:Option Nat} {ty t2:TypeId} {pos:String} {af:Array Edge} {gu:Option (Nat×Bool)} {x y:Operand}
theorem y7 {x0 x1:Operand} {y0:Bool} {y1:List ByteArray} (h0:Ev ρ x0 (.c (sB y0)):=by exact az) (h1:Ev ρ x1 (.c (bA y1)):=by exact az):AS Tryz.prog ρ H ⟨d,.build 60 #[(1,x0),(3,x1)],ty,pos,af,gu⟩ ⟨.agg (nsC {NS.zero with nt:=y0,names:=y1}),[],[]⟩:=w9 h0 h1
end
section
variable {ρ:Operand→Option V} {H:Nat→Option HO} {d:Option Nat} {ty t2:TypeId} {pos:String} {af:Array Edge} {gu:Option (Nat×Bool)} {x y:Operand}
theorem Ec {x0:Operand} {y0:Bool} (h0:Ev ρ x0 (.c (sB y0)):=by exact az):AS Tryz.prog ρ H ⟨d,.build 60 #[(2,x0)],ty,pos,af,gu⟩ ⟨.agg (nsC {NS.zero with self:=y0}),[],[]⟩:=B8 h0
end
section
variable {ρ:Operand→Option V} {H:Nat→Option HO} {d:Option Nat} {ty t2:TypeId} {pos:String} {af:Array Edge} {gu:Option (Nat×Bool)} {x y:Operand}
theorem Ed {x0:Operand} {y0:List ByteArray} (h0:Ev ρ x0 (.c (bA y0)):=by exact az):AS Tryz.prog ρ H ⟨d,.build 60 #[(3,x0)],ty,pos,af,gu⟩ ⟨.agg (nsC {NS.zero with names:=y0}),[],[]⟩:=B9 h0
end
section
variable {ρ:Operand→Option V} {H:Nat→Option HO} {d:Option Nat} {ty t2:TypeId} {pos:String} {af:Array Edge} {gu:Option (Nat×Bool)} {x y:Operand}
end
section
variable {ρ:Operand→Option V} {H:Nat→Option HO} {d:Option Nat} {ty t2:TypeId} {pos:String} {af:Array Edge} {gu:Option (Nat×Bool)} {x y:Operand}
theorem Ee {x0:Operand} {y0:Lv} (h0:Ev ρ x0 (.agg (lvC y0)):=by exact az):AS Tryz.prog ρ H ⟨d,.build 65 #[(0,x0)],ty,pos,af,gu⟩ ⟨.agg (rgC {Rg.zero with lo:=y0}),[],[]⟩:=Ba h0
end
section
variable {ρ:Operand→Option V} {H:Nat→Option HO} {d:Option Nat} {ty t2:TypeId} {pos:String} {af:Array Edge} {gu:Option (Nat×Bool)} {x y:Operand}
theorem Ef {x0:Operand} {y0:ByteArray} (h0:Ev ρ x0 (.c (sS y0)):=by exact az):AS Tryz.prog ρ H ⟨d,.build 67 #[(0,x0)],ty,pos,af,gu⟩ ⟨.agg (cxC {Ct.zero with user:=y0}),[],[]⟩:=Bb h0
end
section
variable {ρ:Operand→Option V} {H:Nat→Option HO} {d:Option Nat} {ty t2:TypeId} {pos:String} {af:Array Edge} {gu:Option (Nat×Bool)} {x y:Operand}
end
section
variable {ρ:Operand→Option V} {H:Nat→Option HO} {d:Option Nat} {ty t2:TypeId} {pos:String} {af:Array Edge} {gu:Option (Nat×Bool)} {x y:Operand}
theorem kq {x0 x1 x2 x3 x4 x5:Operand} {y0:Int} {y1:Int} {y2:NS} {y3:NS} {y4:NS} {y5:NS} (h0:Ev ρ x0 (.c (sI y0)):=by exact az) (h1:Ev ρ x1 (.c (sI y1)):=by exact az) (h2:Ev ρ x2 (.agg (nsC y2)):=by exact az) (h3:Ev ρ x3 (.agg (nsC y3)):=by exact az) (h4:Ev ρ x4 (.agg (nsC y4)):=by exact az) (h5:Ev ρ x5 (.agg (nsC y5)):=by exact az):AS Tryz.prog ρ H ⟨d,.build 69 #[(0,x0),(1,x1),(8,x2),(9,x3),(10,x4),(11,x5)],ty,pos,af,gu⟩ ⟨.agg (stC {Stm.zero with kind:=y0,op:=y1,source:=y2,target:=y3,cls:=y4,perms:=y5}),[],[]⟩:=jQ h0 h1 h2 h3 h4 h5
end
section
variable {ρ:Operand→Option V} {H:Nat→Option HO} {d:Option Nat} {ty t2:TypeId} {pos:String} {af:Array Edge} {gu:Option (Nat×Bool)} {x y:Operand}
theorem qn {x0 x1 x2 x3:Operand} {y0:Int} {y1:ByteArray} {y2:List ByteArray} {y3:List ByteArray} (h0:Ev ρ x0 (.c (sI y0)):=by exact az) (h1:Ev ρ x1 (.c (sS y1)):=by exact az) (h2:Ev ρ x2 (.c (bA y2)):=by exact az) (h3:Ev ρ x3 (.c (bA y3)):=by exact az):AS Tryz.prog ρ H ⟨d,.build 69 #[(0,x0),(3,x1),(7,x2),(6,x3)],ty,pos,af,gu⟩ ⟨.agg (stC {Stm.zero with kind:=y0,name:=y1,aliases:=y2,list:=y3}),[],[]⟩:=oH h0 h1 h2 h3
end
section
variable {ρ:Operand→Option V} {H:Nat→Option HO} {d:Option Nat} {ty t2:TypeId} {pos:String} {af:Array Edge} {gu:Option (Nat×Bool)} {x y:Operand}
theorem Eg {x0:Operand} {y0:Po} (h0:Ev ρ x0 (.agg (poC y0)):=by exact az):AS Tryz.prog ρ H ⟨d,.build 69 #[(2,x0)],ty,pos,af,gu⟩ ⟨.agg (stC {Stm.zero with pos:=y0}),[],[]⟩:=Bc h0
end
section
variable {ρ:Operand→Option V} {H:Nat→Option HO} {d:Option Nat} {ty t2:TypeId} {pos:String} {af:Array Edge} {gu:Option (Nat×Bool)} {x y:Operand}
theorem y8 {x0 x1:Operand} {y0:Int} {y1:ByteArray} (h0:Ev ρ x0 (.c (sI y0)):=by exact az) (h1:Ev ρ x1 (.c (sS y1)):=by exact az):AS Tryz.prog ρ H ⟨d,.build 99 #[(0,x0),(1,x1)],ty,pos,af,gu⟩ ⟨.agg (tkC {Tok.zero with kind:=y0,text:=y1}),[],[]⟩:=wa h0 h1
end
section
variable {ρ:Operand→Option V} {H:Nat→Option HO} {d:Option Nat} {ty t2:TypeId} {pos:String} {af:Array Edge} {gu:Option (Nat×Bool)} {x y:Operand}
end
section
variable {ρ:Operand→Option V} {H:Nat→Option HO} {d:Option Nat} {ty t2:TypeId} {pos:String} {af:Array Edge} {gu:Option (Nat×Bool)} {x y:Operand}
theorem y9 {x0 x1:Operand} {y0:Int} {y1:Po} (h0:Ev ρ x0 (.c (sI y0)):=by exact az) (h1:Ev ρ x1 (.agg (poC y1)):=by exact az):AS Tryz.prog ρ H ⟨d,.build 99 #[(0,x0),(2,x1)],ty,pos,af,gu⟩ ⟨.agg (tkC {Tok.zero with kind:=y0,pos:=y1}),[],[]⟩:=wb h0 h1
end
section
variable {ρ:Operand→Option V} {H:Nat→Option HO} {d:Option Nat} {ty t2:TypeId} {pos:String} {af:Array Edge} {gu:Option (Nat×Bool)} {x y:Operand}
theorem Eh {x0:Operand} {y0:Po} (h0:Ev ρ x0 (.agg (poC y0)):=by exact az):AS Tryz.prog ρ H ⟨d,.build 99 #[(2,x0)],ty,pos,af,gu⟩ ⟨.agg (tkC {Tok.zero with pos:=y0}),[],[]⟩:=Be h0
end
section
variable {ρ:Operand→Option V} {H:Nat→Option HO} {d:Option Nat} {ty t2:TypeId} {pos:String} {af:Array Edge} {gu:Option (Nat×Bool)} {x y:Operand}
theorem Hl {x0:Operand} {y0:Fa} (h0:Ev ρ x0 (.agg (faC y0)):=by exact az):AS Tryz.prog ρ H ⟨d,.build 127 #[(0,x0)],ty,pos,af,gu⟩ ⟨.agg (faC y0),[],[]⟩:=F2 h0
end
section
variable {ρ:Operand→Option V} {H:Nat→Option HO} {d:Option Nat} {ty t2:TypeId} {pos:String} {af:Array Edge} {gu:Option (Nat×Bool)} {x y:Operand}
theorem AH {x0:Operand} {y0:List Tok} (h0:Ev ρ x0 (.c (.lst none 4 (y0.map tkC))):=by exact az):AS Tryz.prog ρ H ⟨d,.build 130 #[(0,x0)],ty,pos,af,gu⟩ ⟨.agg (psC {Ps.zero with l:=y0}),[],[]⟩:=zz h0
end
section
variable {ρ:Operand→Option V} {H:Nat→Option HO} {d:Option Nat} {ty t2:TypeId} {pos:String} {af:Array Edge} {gu:Option (Nat×Bool)} {x y:Operand}
end
section
variable {ρ:Operand→Option V} {H:Nat→Option HO} {d:Option Nat} {ty t2:TypeId} {pos:String} {af:Array Edge} {gu:Option (Nat×Bool)} {x y:Operand}
end
section
variable {ρ:Operand→Option V} {H:Nat→Option HO} {d:Option Nat} {ty t2:TypeId} {pos:String} {af:Array Edge} {gu:Option (Nat×Bool)} {x y:Operand}
theorem vR {x0 x1:Operand} {y0:ByteArray} {y1:Po} (h0:Ev ρ x0 (.c (sS y0)):=by exact az) (h1:Ev ρ x1 (.agg (poC y1)):=by exact az):AS Tryz.prog ρ H ⟨d,.build 154 #[(0,x0),(2,x1)],ty,pos,af,gu⟩ ⟨.agg (snR {Sc.zero with src:=y0,pos:=y1}),[],[]⟩:=tS h0 h1
end
section
variable {ρ:Operand→Option V} {H:Nat→Option HO} {d:Option Nat} {ty t2:TypeId} {pos:String} {af:Array Edge} {gu:Option (Nat×Bool)} {x y:Operand}
theorem Hm {x0:Operand} {y0:Fa} (h0:Ev ρ x0 (.agg (faC y0)):=by exact az):AS Tryz.prog ρ H ⟨d,.build 158 #[(0,x0)],ty,pos,af,gu⟩ ⟨.agg (faC y0),[],[]⟩:=F3 h0
end
section
variable {ρ:Operand→Option V} {H:Nat→Option HO} {d:Option Nat} {ty t2:TypeId} {pos:String} {af:Array Edge} {gu:Option (Nat×Bool)} {x y:Operand}
theorem AJ {x0:Operand} {y0:List Tok} (h0:Ev ρ x0 (.c (.lst none 4 (y0.map tkC))):=by exact az):AS Tryz.prog ρ H ⟨d,.build 162 #[(0,x0)],ty,pos,af,gu⟩ ⟨.agg (bsC {Bs.zero with l:=y0}),[],[]⟩:=zA h0
end
section
variable {ρ:Operand→Option V} {H:Nat→Option HO} {d:Option Nat} {ty t2:TypeId} {pos:String} {af:Array Edge} {gu:Option (Nat×Bool)} {x y:Operand}
theorem AK {x0:Operand} {y0:ByteArray} (h0:Ev ρ x0 (.c (sS y0)):=by exact az):AS Tryz.prog ρ H ⟨d,.build 170 #[(0,x0)],ty,pos,af,gu⟩ ⟨.agg (spC {Sp.zero with frm:=y0}),[],[]⟩:=zB h0
end
section
variable {ρ:Operand→Option V} {H:Nat→Option HO} {d:Option Nat} {ty t2:TypeId} {pos:String} {af:Array Edge} {gu:Option (Nat×Bool)} {x y:Operand}
theorem En {x0:Operand} {a0:Stm} (h0:Ev ρ x0 (.agg (stC a0)):=by exact az):AS Tryz.prog ρ H ⟨d,.buildSlice 23 1 #[(0,x0)],ty,pos,af,gu⟩ ⟨.c (.lst none 55 ([a0].map stC)),[],[]⟩:=Bh h0
end
section
variable {ρ:Operand→Option V} {H:Nat→Option HO} {d:Option Nat} {ty t2:TypeId} {pos:String} {af:Array Edge} {gu:Option (Nat×Bool)} {x y:Operand}
theorem Eo {x0:Operand} {a0:Tok} (h0:Ev ρ x0 (.agg (tkC a0)):=by exact az):AS Tryz.prog ρ H ⟨d,.buildSlice 36 1 #[(0,x0)],ty,pos,af,gu⟩ ⟨.c (.lst none 4 ([a0].map tkC)),[],[]⟩:=Bi h0
end
section
variable {ρ:Operand→Option V} {H:Nat→Option HO} {d:Option Nat} {ty t2:TypeId} {pos:String} {af:Array Edge} {gu:Option (Nat×Bool)} {x y:Operand}
theorem Ep {x0:Operand} {a0:Ex} (h0:Ev ρ x0 (.agg (exC a0)):=by exact az):AS Tryz.prog ρ H ⟨d,.buildSlice 47 1 #[(0,x0)],ty,pos,af,gu⟩ ⟨.c (.lst none 10 ([a0].map exC)),[],[]⟩:=Bj h0
end
section
variable {ρ:Operand→Option V} {H:Nat→Option HO} {d:Option Nat} {ty t2:TypeId} {pos:String} {af:Array Edge} {gu:Option (Nat×Bool)} {x y:Operand}
theorem Er {x0 x1:Operand} {a0 a1:Ex} (h0:Ev ρ x0 (.agg (exC a0)):=by exact az) (h1:Ev ρ x1 (.agg (exC a1)):=by exact az):AS Tryz.prog ρ H ⟨d,.buildSlice 47 2 #[(0,x0),(1,x1)],ty,pos,af,gu⟩ ⟨.c (.lst none 10 ([a0,a1].map exC)),[],[]⟩:=Bk h0 h1
end
section
variable {ρ:Operand→Option V} {H:Nat→Option HO} {d:Option Nat} {ty t2:TypeId} {pos:String} {af:Array Edge} {gu:Option (Nat×Bool)} {x y:Operand}
theorem Es {x0:Operand} {a0:Sp} (h0:Ev ρ x0 (.agg (spC a0)):=by exact az):AS Tryz.prog ρ H ⟨d,.buildSlice 61 1 #[(0,x0)],ty,pos,af,gu⟩ ⟨.c (.lst none 2 ([a0].map spC)),[],[]⟩:=Bl h0
end
section
variable {ρ:Operand→Option V} {H:Nat→Option HO} {d:Option Nat} {ty t2:TypeId} {pos:String} {af:Array Edge} {gu:Option (Nat×Bool)} {x y:Operand}
theorem AN {x0 x1:Operand} {a0 a1:Lv} (h0:Ev ρ x0 (.agg (lvC a0)):=by exact az) (h1:Ev ρ x1 (.agg (lvC a1)):=by exact az):AS Tryz.prog ρ H ⟨d,.buildSlice 208 2 #[(0,x0),(1,x1)],ty,pos,af,gu⟩ ⟨.c (.lst none 2 ([a0,a1].map lvC)),[],[]⟩:=zD h0 h1
end
section
variable [Tb]
variable {P:Program} {ρ:Operand→Option V} {H:Nat→Option HO} {d:Option Nat} {ty:TypeId} {pos:String} {af:Array Edge} {gu:Option (Nat×Bool)} {x y:Operand} {v:V} {t e n off k i:Nat} {cs ds cs':List C} {b:Bool}
theorem E8 (hx:Ev ρ x v:=by exact az):AS P ρ H ⟨d,.assign x,ty,pos,af,gu⟩ ⟨v,[],[]⟩:=B4 hx
end
section
variable [Tb]
variable {P:Program} {ρ:Operand→Option V} {H:Nat→Option HO} {d:Option Nat} {ty:TypeId} {pos:String} {af:Array Edge} {gu:Option (Nat×Bool)} {x y:Operand} {v:V} {t e n off k i:Nat} {cs ds cs':List C} {b:Bool}
theorem Ki (hx:Ev ρ x v:=by exact az):AS P ρ H ⟨d,.move x,ty,pos,af,gu⟩ ⟨v,[],[]⟩:=It hx
end
section
variable [Tb]
variable {P:Program} {ρ:Operand→Option V} {H:Nat→Option HO} {d:Option Nat} {ty:TypeId} {pos:String} {af:Array Edge} {gu:Option (Nat×Bool)} {x y:Operand} {v:V} {t e n off k i:Nat} {cs ds cs':List C} {b:Bool}
theorem LW (hx:Ev ρ x v:=by exact az) (hv:xd v=true:=by rfl):AS P ρ H ⟨d,.nilCheck x,ty,pos,af,gu⟩ ⟨v,[],[]⟩:=KJ hx hv
end
section
variable [Tb]
variable {P:Program} {ρ:Operand→Option V} {H:Nat→Option HO} {d:Option Nat} {ty:TypeId} {pos:String} {af:Array Edge} {gu:Option (Nat×Bool)} {x y:Operand} {v:V} {t e n off k i:Nat} {cs ds cs':List C} {b:Bool}
theorem tE {ty0:Nat} (hx:Ev ρ x (.c (.ptr n off)):=by exact az) (hh:H n=some (.obj ty0 cs):=by rfl) (ht:tyi P e=some (k,b):=by exact dT rfl) (hc:aU b cs off k=some v:=by(first|(simp only[fK];rfl)|(rw[er _ _ _ _ _ (by(try simp only[kO]);decide)];simp only[fK,Nat.reduceAdd];rfl)|rfl)):AS P ρ H ⟨d,.load e x,ty,pos,af,gu⟩ ⟨v,[],[n]⟩:=F5 hx hh ht hc
end
section
variable [Tb]
variable {P:Program} {ρ:Operand→Option V} {H:Nat→Option HO} {d:Option Nat} {ty:TypeId} {pos:String} {af:Array Edge} {gu:Option (Nat×Bool)} {x y:Operand} {v:V} {t e n off k i:Nat} {cs ds cs':List C} {b:Bool}
theorem Hp (hx:Ev ρ x (.c (.ep cs)):=by exact az) (ht:tyi P e=some (k,b):=by exact dT rfl) (hc:aU b cs 0 k=some v:=by(first|(simp only[fK];rfl)|(rw[er _ _ _ _ _ (by(try simp only[kO]);decide)];simp only[fK,Nat.reduceAdd];rfl)|rfl)):AS P ρ H ⟨d,.load e x,ty,pos,af,gu⟩ ⟨v,[],[]⟩:=F4 hx ht hc
end
section
variable [Tb]
variable {P:Program} {ρ:Operand→Option V} {H:Nat→Option HO} {d:Option Nat} {ty:TypeId} {pos:String} {af:Array Edge} {gu:Option (Nat×Bool)} {x y:Operand} {v:V} {t e n off k i:Nat} {cs ds cs':List C} {b:Bool}
theorem Kc {s f o2 ft q:Nat} (hx:Ev ρ x (.c (.ptr n off)):=by exact az) (hf:fld P s f=some (o2,ft):=by exact lY rfl rfl) (he:off+o2=q:=by(first|exact Nat.zero_add _|(simp only[Nat.reduceAdd];rfl)|rfl)):AS P ρ H ⟨d,.fieldAddr s x f,ty,pos,af,gu⟩ ⟨.c (.ptr n q),[],[]⟩:=Ij hx hf he
end
section
variable [Tb]
variable {P:Program} {ρ:Operand→Option V} {H:Nat→Option HO} {d:Option Nat} {ty:TypeId} {pos:String} {af:Array Edge} {gu:Option (Nat×Bool)} {x y:Operand} {v:V} {t e n off k i:Nat} {cs ds cs':List C} {b:Bool}
theorem Kb {s f o2 ft:Nat} (hx:Ev ρ x (.c (.ep cs)):=by exact az) (hf:fld P s f=some (o2,ft):=by exact lY rfl rfl) (he:cs.drop o2=ds:=by rfl):AS P ρ H ⟨d,.fieldAddr s x f,ty,pos,af,gu⟩ ⟨.c (.ep ds),[],[]⟩:=Ii hx hf he
end
section
variable [Tb]
variable {P:Program} {ρ:Operand→Option V} {H:Nat→Option HO} {d:Option Nat} {ty:TypeId} {pos:String} {af:Array Edge} {gu:Option (Nat×Bool)} {x y:Operand} {v:V} {t e n off k i:Nat} {cs ds cs':List C} {b:Bool}
theorem LS {s f o2 ft:Nat} (hx:Ev ρ x (.agg cs):=by exact az) (hf:fld P s f=some (o2,ft):=by exact lY rfl rfl) (ht:tyi P ft=some (k,b):=by exact dT rfl) (hc:aU b cs o2 k=some v:=by(first|(simp only[fK];rfl)|(rw[er _ _ _ _ _ (by(try simp only[kO]);decide)];simp only[fK,Nat.reduceAdd];rfl)|rfl)):AS P ρ H ⟨d,.field s x f,ty,pos,af,gu⟩ ⟨v,[],[]⟩:=KE hx hf ht hc
end
section
variable [Tb]
variable {P:Program} {ρ:Operand→Option V} {H:Nat→Option HO} {d:Option Nat} {ty:TypeId} {pos:String} {af:Array Edge} {gu:Option (Nat×Bool)} {x y:Operand} {v:V} {t e n off k i:Nat} {cs ds cs':List C} {b:Bool}
theorem LJ {c a:Operand} {p q:Bool} (hc:Ev ρ c (.c (.sc (.bool p))):=by exact az) (h0:ρ (.const (.bool false))=some (.c (.sc (.bool false))):=by rfl) (ha:p=true→Ev ρ a (.c (.sc (.bool q))):=by(first|(intro hp;(first|(refine .wh rfl ?_;first|assumption|(rw[hp];rfl)|(simp_all;done))|exact .pl rfl);done)|fail)):AS P ρ H ⟨d,.pick c a (.const (.bool false)),ty,pos,af,gu⟩ ⟨.c (.sc (.bool (p&&q))),[],[]⟩:=Kx hc h0 ha
end
section
variable [Tb]
variable {P:Program} {ρ:Operand→Option V} {H:Nat→Option HO} {d:Option Nat} {ty:TypeId} {pos:String} {af:Array Edge} {gu:Option (Nat×Bool)} {x y:Operand} {v:V} {t e n off k i:Nat} {cs ds cs':List C} {b:Bool}
theorem MV {c a:Operand} {p q:Bool} (hc:Ev ρ c (.c (.sc (.bool p))):=by exact az) (h0:ρ (.const (.bool true))=some (.c (.sc (.bool true))):=by rfl) (ha:p=false→Ev ρ a (.c (.sc (.bool q))):=by(first|(intro hp;(first|(refine .wh rfl ?_;first|assumption|(rw[hp];rfl)|(simp_all;done))|exact .pl rfl);done)|fail)):AS P ρ H ⟨d,.pick c (.const (.bool true)) a,ty,pos,af,gu⟩ ⟨.c (.sc (.bool (p || q))),[],[]⟩:=MA hc h0 ha
end
section
variable [Tb]
variable {P:Program} {ρ:Operand→Option V} {H:Nat→Option HO} {d:Option Nat} {ty:TypeId} {pos:String} {af:Array Edge} {gu:Option (Nat×Bool)} {x y:Operand} {v:V} {t e n off k i:Nat} {cs ds cs':List C} {b:Bool}
end
section
variable [Tb]
theorem Hr {P:Program} {ρ:Operand→Option V} {H:Nat→Option HO} {d:Option Nat} {ty:TypeId} {pos:String} {af:Array Edge} {gu:Option (Nat×Bool)} {v:V} {c a b:Operand} {p:Bool} (hc:Ev ρ c (.c (.sc (.bool p))):=by exact az) (hp:p=false:=by(first|(simp[*];done)|(simp_all;done)|fail)) (hb:Ev ρ b v:=by exact az):AS P ρ H ⟨d,.pick c a b,ty,pos,af,gu⟩ ⟨v,[],[]⟩:=F7 hc hp hb
end
section
variable [Tb]
theorem Hs {P:Program} {ρ:Operand→Option V} {H:Nat→Option HO} {d:Option Nat} {ty:TypeId} {pos:String} {af:Array Edge} {gu:Option (Nat×Bool)} {v:V} {c a b:Operand} {p:Bool} (hc:Ev ρ c (.c (.sc (.bool p))):=by exact az) (hp:p=true:=by(first|(simp[*];done)|(simp_all;done)|fail)) (hb:Ev ρ a v:=by exact az):AS P ρ H ⟨d,.pick c a b,ty,pos,af,gu⟩ ⟨v,[],[]⟩:=F8 hc hp hb
end
section
variable [Tb]
variable {P:Program} {ρ:Operand→Option V} {H:Nat→Option HO} {d:Option Nat} {ty:TypeId} {pos:String} {af:Array Edge} {gu:Option (Nat×Bool)} {x y:Operand} {v:V} {t e n off k i:Nat} {cs ds cs':List C} {b:Bool}
variable {t2:TypeId} {kd:IntKind} {p q:Int} {s u:ByteArray} {f g:Bool}
theorem MM (hx:Ev ρ x (.c (.sc (.int kd p))):=by exact az) (hy:Ev ρ y (.c (.sc (.int kd q))):=by exact az):AS P ρ H ⟨d,.binOp .eql t x y t2,ty,pos,af,gu⟩ ⟨.c (.sc (.bool (decide (p=q)))),[],[]⟩:=Mt hx hy
end
section
variable [Tb]
variable {P:Program} {ρ:Operand→Option V} {H:Nat→Option HO} {d:Option Nat} {ty:TypeId} {pos:String} {af:Array Edge} {gu:Option (Nat×Bool)} {x y:Operand} {v:V} {t e n off k i:Nat} {cs ds cs':List C} {b:Bool}
variable {t2:TypeId} {kd:IntKind} {p q:Int} {s u:ByteArray} {f g:Bool}
theorem M0 (hx:Ev ρ x (.c (.sc (.string s))):=by exact az) (hy:Ev ρ y (.c (.sc (.string u))):=by exact az):AS P ρ H ⟨d,.binOp .eql t x y t2,ty,pos,af,gu⟩ ⟨.c (.sc (.bool (decide (s=u)))),[],[]⟩:=KO hx hy
end
section
variable [Tb]
variable {P:Program} {ρ:Operand→Option V} {H:Nat→Option HO} {d:Option Nat} {ty:TypeId} {pos:String} {af:Array Edge} {gu:Option (Nat×Bool)} {x y:Operand} {v:V} {t e n off k i:Nat} {cs ds cs':List C} {b:Bool}
variable {t2:TypeId} {kd:IntKind} {p q:Int} {s u:ByteArray} {f g:Bool}
theorem MU (hx:Ev ρ x (.c (.sc (.int kd p))):=by exact az) (hy:Ev ρ y (.c (.sc (.int kd q))):=by exact az):AS P ρ H ⟨d,.binOp .neq t x y t2,ty,pos,af,gu⟩ ⟨.c (.sc (.bool (!decide (p=q)))),[],[]⟩:=Mz hx hy
end
section
variable [Tb]
variable {P:Program} {ρ:Operand→Option V} {H:Nat→Option HO} {d:Option Nat} {ty:TypeId} {pos:String} {af:Array Edge} {gu:Option (Nat×Bool)} {x y:Operand} {v:V} {t e n off k i:Nat} {cs ds cs':List C} {b:Bool}
variable {t2:TypeId} {kd:IntKind} {p q:Int} {s u:ByteArray} {f g:Bool}
theorem M1 (hx:Ev ρ x (.c (.sc (.string s))):=by exact az) (hy:Ev ρ y (.c (.sc (.string u))):=by exact az):AS P ρ H ⟨d,.binOp .neq t x y t2,ty,pos,af,gu⟩ ⟨.c (.sc (.bool (!decide (s=u)))),[],[]⟩:=KP hx hy
end
section
variable [Tb]
variable {P:Program} {ρ:Operand→Option V} {H:Nat→Option HO} {d:Option Nat} {ty:TypeId} {pos:String} {af:Array Edge} {gu:Option (Nat×Bool)} {x y:Operand} {v:V} {t e n off k i:Nat} {cs ds cs':List C} {b:Bool}
variable {t2:TypeId} {kd:IntKind} {p q:Int} {s u:ByteArray} {f g:Bool}
theorem MT (hx:Ev ρ x (.c (.sc (.int kd p))):=by exact az) (hy:Ev ρ y (.c (.sc (.int kd q))):=by exact az):AS P ρ H ⟨d,.binOp .lss t x y t2,ty,pos,af,gu⟩ ⟨.c (.sc (.bool (decide (p<q)))),[],[]⟩:=My hx hy
end
section
variable [Tb]
variable {P:Program} {ρ:Operand→Option V} {H:Nat→Option HO} {d:Option Nat} {ty:TypeId} {pos:String} {af:Array Edge} {gu:Option (Nat×Bool)} {x y:Operand} {v:V} {t e n off k i:Nat} {cs ds cs':List C} {b:Bool}
variable {t2:TypeId} {kd:IntKind} {p q:Int} {s u:ByteArray} {f g:Bool}
theorem MS (hx:Ev ρ x (.c (.sc (.int kd p))):=by exact az) (hy:Ev ρ y (.c (.sc (.int kd q))):=by exact az):AS P ρ H ⟨d,.binOp .leq t x y t2,ty,pos,af,gu⟩ ⟨.c (.sc (.bool (decide (p≤q)))),[],[]⟩:=Mx hx hy
end
section
variable [Tb]
variable {P:Program} {ρ:Operand→Option V} {H:Nat→Option HO} {d:Option Nat} {ty:TypeId} {pos:String} {af:Array Edge} {gu:Option (Nat×Bool)} {x y:Operand} {v:V} {t e n off k i:Nat} {cs ds cs':List C} {b:Bool}
variable {t2:TypeId} {kd:IntKind} {p q:Int} {s u:ByteArray} {f g:Bool}
theorem MR (hx:Ev ρ x (.c (.sc (.int kd p))):=by exact az) (hy:Ev ρ y (.c (.sc (.int kd q))):=by exact az):AS P ρ H ⟨d,.binOp .gtr t x y t2,ty,pos,af,gu⟩ ⟨.c (.sc (.bool (decide (q<p)))),[],[]⟩:=Mw hx hy
end
section
variable [Tb]
variable {P:Program} {ρ:Operand→Option V} {H:Nat→Option HO} {d:Option Nat} {ty:TypeId} {pos:String} {af:Array Edge} {gu:Option (Nat×Bool)} {x y:Operand} {v:V} {t e n off k i:Nat} {cs ds cs':List C} {b:Bool}
variable {t2:TypeId} {kd:IntKind} {p q:Int} {s u:ByteArray} {f g:Bool}
theorem MP (hx:Ev ρ x (.c (.sc (.int kd p))):=by exact az) (hy:Ev ρ y (.c (.sc (.int kd q))):=by exact az):AS P ρ H ⟨d,.binOp .geq t x y t2,ty,pos,af,gu⟩ ⟨.c (.sc (.bool (decide (q≤p)))),[],[]⟩:=Mv hx hy
end
section
variable [Tb]
variable {P:Program} {ρ:Operand→Option V} {H:Nat→Option HO} {d:Option Nat} {ty:TypeId} {pos:String} {af:Array Edge} {gu:Option (Nat×Bool)} {x y:Operand} {v:V} {t e n off k i:Nat} {cs ds cs':List C} {b:Bool}
variable {t2:TypeId} {kd:IntKind} {p q:Int} {s u:ByteArray} {f g:Bool}
theorem LX (hx:Ev ρ x (.c (.sc (.bool f))):=by exact az):AS P ρ H ⟨d,.unOp .not t x,ty,pos,af,gu⟩ ⟨.c (.sc (.bool (!f))),[],[]⟩:=KK hx
end
section
variable [Tb]
variable {P:Program} {ρ:Operand→Option V} {H:Nat→Option HO} {d:Option Nat} {ty:TypeId} {pos:String} {af:Array Edge} {gu:Option (Nat×Bool)} {x y:Operand} {v:V} {t e n off k i:Nat} {cs ds cs':List C} {b:Bool}
variable {t2:TypeId} {kd:IntKind} {p q:Int} {s u:ByteArray} {f g:Bool}
theorem LM (hx:Ev ρ x (.c (.sc (.bool f))):=by exact az) (hy:Ev ρ y (.c (.sc (.bool g))):=by exact az) (ht:P.underlying t=some .bool:=by kernel_rfl):AS P ρ H ⟨d,.binOp .eql t x y t2,ty,pos,af,gu⟩ ⟨.c (.sc (.bool (f == g))),[],[]⟩:=Ky hx hy ht
end
section
variable [Tb]
variable {P:Program} {ρ:Operand→Option V} {H:Nat→Option HO} {d:Option Nat} {ty:TypeId} {pos:String} {af:Array Edge} {gu:Option (Nat×Bool)} {x y:Operand} {v:V} {t e n off k i:Nat} {cs ds cs':List C} {b:Bool}
variable {t2:TypeId} {kd:IntKind} {p q:Int} {s u:ByteArray} {f g:Bool}
theorem LN (hx:Ev ρ x (.c (.sc (.bool f))):=by exact az) (hy:Ev ρ y (.c (.sc (.bool g))):=by exact az) (ht:P.underlying t=some .bool:=by kernel_rfl):AS P ρ H ⟨d,.binOp .neq t x y t2,ty,pos,af,gu⟩ ⟨.c (.sc (.bool (f != g))),[],[]⟩:=Kz hx hy ht
end
section
variable [Tb]
variable {P:Program} {ρ:Operand→Option V} {H:Nat→Option HO} {d:Option Nat} {ty:TypeId} {pos:String} {af:Array Edge} {gu:Option (Nat×Bool)} {x y:Operand} {v:V} {t e n off k i:Nat} {cs ds cs':List C} {b:Bool}
variable {t2:TypeId} {kd:IntKind} {p q:Int} {s u:ByteArray} {f g:Bool}
theorem LI (hx:Ev ρ x (.c (.sc (.int .i64 p))):=by exact az) (hy:Ev ρ y (.c (.sc (.int .i64 q))):=by exact az) (h0:-9223372036854775808≤p+q:=by omega) (h1:p+q<9223372036854775808:=by omega):AS P ρ H ⟨d,.binOp .add t x y t2,ty,pos,af,gu⟩ ⟨.c (.sc (.int .i64 (p+q))),[],[]⟩:=Kw hx hy h0 h1
end
section
variable {P:Program} {ρ:Operand→Option V} {H:Nat→Option HO} {d:Option Nat} {ty:TypeId} {pos:String} {af:Array Edge} {gu:Option (Nat×Bool)} {x y:Operand} {t t2:TypeId} {p q:Int}
theorem K6 (hx:Ev ρ x (.c (.sc (.int .i64 p))):=by exact az) (hy:Ev ρ y (.c (.sc (.int .i64 q))):=by exact az):AS P ρ H ⟨d,.binOp .add t x y t2,ty,pos,af,gu⟩ ⟨.c (.sc (.int .i64 (IntKind.i64.wrap (p+q)))),[],[]⟩:=Ib hx hy
end
section
variable [Tb]
variable {P:Program} {ρ:Operand→Option V} {H:Nat→Option HO} {d:Option Nat} {ty:TypeId} {pos:String} {af:Array Edge} {gu:Option (Nat×Bool)} {x y:Operand} {v:V} {t e n off k i:Nat} {cs ds cs':List C} {b:Bool}
variable {t2:TypeId} {kd:IntKind} {p q:Int} {s u:ByteArray} {f g:Bool}
theorem M3 (hx:Ev ρ x (.c (.sc (.int .i64 p))):=by exact az) (hy:Ev ρ y (.c (.sc (.int .i64 q))):=by exact az) (h0:-9223372036854775808≤p - q:=by omega) (h1:p - q<9223372036854775808:=by omega):AS P ρ H ⟨d,.binOp .sub t x y t2,ty,pos,af,gu⟩ ⟨.c (.sc (.int .i64 (p - q))),[],[]⟩:=KQ hx hy h0 h1
end
section
variable [Tb]
variable {P:Program} {ρ:Operand→Option V} {H:Nat→Option HO} {d:Option Nat} {ty:TypeId} {pos:String} {af:Array Edge} {gu:Option (Nat×Bool)} {x y:Operand} {v:V} {t e n off k i:Nat} {cs ds cs':List C} {b:Bool}
variable {t2:TypeId} {kd:IntKind} {p q:Int} {s u:ByteArray} {f g:Bool}
theorem LO (hx:Ev ρ x (.c (.sc (.string s))):=by exact az) (hy:Ev ρ y (.c (.sc (.string u))):=by exact az) (h:s.size+u.size≤9223372036854775807:=by((try simp only[ByteArray.size_append,aM,List.size_toArray,List.length_cons,List.length_nil]);omega)):AS P ρ H ⟨d,.binOp .add t x y t2,ty,pos,af,gu⟩ ⟨.c (.sc (.string (s++u))),[],[]⟩:=KA hx hy h
end
section
variable [Tb]
variable {P:Program} {ρ:Operand→Option V} {H:Nat→Option HO} {d:Option Nat} {ty:TypeId} {pos:String} {af:Array Edge} {gu:Option (Nat×Bool)} {x y:Operand} {v:V} {t e n off k i:Nat} {cs ds cs':List C} {b:Bool}
theorem Ke {tg:Option Nat} {xs:List (List C)} (hx:Ev ρ x (.c (.lst tg k xs)):=by exact az) (ht:sle P t=some (e,k):=by exact cC rfl):AS P ρ H ⟨d,.call {callee:=.builtin .len,args:=#[x],argTypes:=#[t]},ty,pos,af,gu⟩ ⟨.c (.sc (.int .i64 xs.length)),[],[]⟩:=Il hx ht
end
section
variable [Tb]
variable {P:Program} {ρ:Operand→Option V} {H:Nat→Option HO} {d:Option Nat} {ty:TypeId} {pos:String} {af:Array Edge} {gu:Option (Nat×Bool)} {x y:Operand} {v:V} {t e n off k i:Nat} {cs ds cs':List C} {b:Bool}
end
section
variable [Tb]
variable {P:Program} {ρ:Operand→Option V} {H:Nat→Option HO} {d:Option Nat} {ty:TypeId} {pos:String} {af:Array Edge} {gu:Option (Nat×Bool)} {x y:Operand} {v:V} {t e n off k i:Nat} {cs ds cs':List C} {b:Bool}
variable {t2:TypeId} {kd:IntKind} {p q:Int} {s u:ByteArray} {f g:Bool}
theorem Kf (hx:Ev ρ x (.c (.sc (.string s))):=by exact az) (ht:P.underlying t=some .string:=by kernel_rfl):AS P ρ H ⟨d,.call {callee:=.builtin .len,args:=#[x],argTypes:=#[t]},ty,pos,af,gu⟩ ⟨.c (.sc (.int .i64 s.size)),[],[]⟩:=Im hx ht
end
section
variable [Tb]
variable {P:Program} {ρ:Operand→Option V} {H:Nat→Option HO} {d:Option Nat} {ty:TypeId} {pos:String} {af:Array Edge} {gu:Option (Nat×Bool)} {x y:Operand} {v:V} {t e n off k i:Nat} {cs ds cs':List C} {b:Bool}
theorem LU {j:Nat} {ix:Operand} {tg:Option Nat} {xs:List (List C)} {kd:IntKind} {z:Int} (hx:Ev ρ x (.c (.lst tg k xs)):=by exact az) (hi:Ev ρ ix (.c (.sc (.int kd z))):=by exact az) (ht:sle P t=some (e,k):=by exact cC rfl) (hz:z=(j:Nat):=by rfl) (hg:xs[j]? =some cs:=by first|exact CM (by assumption)|assumption):AS P ρ H ⟨d,.indexAddr t x ix,ty,pos,af,gu⟩ ⟨.c (.ep cs),[],[]⟩:=Hz hx hi ht hz hg
end
section
theorem Kd {P:Program} {ρ:Operand→Option V} {H:Nat→Option HO} {d:Option Nat} {ty:TypeId} {pos:String} {af:Array Edge} {gu:Option (Nat×Bool)} {x y:Operand} {t e k j:Nat} {tg:Option Nat} {xs:List (List C)} {kd:IntKind} {z:Int} {cs:List C} (hx:Ev ρ x (.c (.lst tg k xs)):=by exact az) (hi:Ev ρ y (.c (.sc (.int kd z))):=by exact az) (ht:sle P t=some (e,k):=by exact cC rfl) (hj:xs[j]? =some cs:=by exact CM (by assumption)) (hz:z=(j:Nat):=by omega):AS P ρ H ⟨d,.indexAddr t x y,ty,pos,af,gu⟩ ⟨.c (.ep cs),[],[]⟩:=Ik hx hi ht hj hz
end
section
variable [Tb]
variable {P:Program} {ρ:Operand→Option V} {H:Nat→Option HO} {d:Option Nat} {ty:TypeId} {pos:String} {af:Array Edge} {gu:Option (Nat×Bool)} {x y:Operand} {v:V} {t e n off k i:Nat} {cs ds cs':List C} {b:Bool}
theorem LQ {l:List V} (hx:Ev ρ x (.tup l):=by exact az) (hl:l[i]? =some v:=by rfl):AS P ρ H ⟨d,.extract x i,ty,pos,af,gu⟩ ⟨v,[],[]⟩:=KC hx hl
end
section
variable [Tb]
variable {P:Program} {ρ:Operand→Option V} {H:Nat→Option HO} {d:Option Nat} {ty:TypeId} {pos:String} {af:Array Edge} {gu:Option (Nat×Bool)} {x y:Operand} {v:V} {t e n off k i:Nat} {cs ds cs':List C} {b:Bool}
theorem MO {f:Nat} {caps:Array Operand} {cs:List C} (hv:EvCs ρ caps.toList cs:=by(first|((repeat(first|exact .nil|((apply EvCs.cons);(· (first|(refine .wh rfl ?_;first|assumption|(rw[hp];rfl)|(simp_all;done))|exact .pl rfl)))));done)|fail)):AS P ρ H ⟨d,.makeFunc (.func f) #[] caps,ty,pos,af,gu⟩ ⟨.c (.fn f cs),[],[]⟩:=Mu hv
end
section
variable {ρ:Operand→Option V} {H:Nat→Option HO} {d:Option Nat} {ty:TypeId} {pos:String} {af:Array Edge} {gu:Option (Nat×Bool)}
theorem Ew {x0:Operand} {a0:ByteArray} (h0:Ev ρ x0 (.c (sS a0)):=by exact az):AS Tryz.prog ρ H ⟨d,.buildSlice 43 1 #[(0,x0)],ty,pos,af,gu⟩ ⟨.c (bA [a0]),[],[]⟩:=Bo h0
end
section
variable {ρ:Operand→Option V} {H:Nat→Option HO} {d:Option Nat} {ty:TypeId} {pos:String} {af:Array Edge} {gu:Option (Nat×Bool)}
end
section
variable {ρ:Operand→Option V} {H:Nat→Option HO} {d:Option Nat} {ty:TypeId} {pos:String} {af:Array Edge} {gu:Option (Nat×Bool)}
end
section
variable {ρ:Operand→Option V} {H:Nat→Option HO} {d:Option Nat} {ty:TypeId} {pos:String} {af:Array Edge} {gu:Option (Nat×Bool)}
theorem Ey {x0 x1:Operand} {a0 a1:ByteArray} (h0:Ev ρ x0 (.c (sS a0)):=by exact az) (h1:Ev ρ x1 (.c (sS a1)):=by exact az):AS Tryz.prog ρ H ⟨d,.buildSlice 43 2 #[(0,x0),(1,x1)],ty,pos,af,gu⟩ ⟨.c (bA [a0,a1]),[],[]⟩:=Bp h0 h1
end
section
variable {ρ:Operand→Option V} {H:Nat→Option HO} {d:Option Nat} {ty:TypeId} {pos:String} {af:Array Edge} {gu:Option (Nat×Bool)}
theorem Ez {x0 x1 x2:Operand} {a0 a1 a2:ByteArray} (h0:Ev ρ x0 (.c (sS a0)):=by exact az) (h1:Ev ρ x1 (.c (sS a1)):=by exact az) (h2:Ev ρ x2 (.c (sS a2)):=by exact az):AS Tryz.prog ρ H ⟨d,.buildSlice 43 3 #[(0,x0),(1,x1),(2,x2)],ty,pos,af,gu⟩ ⟨.c (bA [a0,a1,a2]),[],[]⟩:=Bq h0 h1 h2
end
section
variable {ρ:Operand→Option V} {H:Nat→Option HO} {d:Option Nat} {ty:TypeId} {pos:String} {af:Array Edge} {gu:Option (Nat×Bool)}
theorem EA {x0 x1 x2 x3:Operand} {a0 a1 a2 a3:ByteArray} (h0:Ev ρ x0 (.c (sS a0)):=by exact az) (h1:Ev ρ x1 (.c (sS a1)):=by exact az) (h2:Ev ρ x2 (.c (sS a2)):=by exact az) (h3:Ev ρ x3 (.c (sS a3)):=by exact az):AS Tryz.prog ρ H ⟨d,.buildSlice 43 4 #[(0,x0),(1,x1),(2,x2),(3,x3)],ty,pos,af,gu⟩ ⟨.c (bA [a0,a1,a2,a3]),[],[]⟩:=Br h0 h1 h2 h3
end
section
variable {ρ:Operand→Option V} {H:Nat→Option HO} {d:Option Nat} {ty:TypeId} {pos:String} {af:Array Edge} {gu:Option (Nat×Bool)}
theorem EB {x0 x1 x2 x3 x4:Operand} {a0 a1 a2 a3 a4:ByteArray} (h0:Ev ρ x0 (.c (sS a0)):=by exact az) (h1:Ev ρ x1 (.c (sS a1)):=by exact az) (h2:Ev ρ x2 (.c (sS a2)):=by exact az) (h3:Ev ρ x3 (.c (sS a3)):=by exact az) (h4:Ev ρ x4 (.c (sS a4)):=by exact az):AS Tryz.prog ρ H ⟨d,.buildSlice 43 5 #[(0,x0),(1,x1),(2,x2),(3,x3),(4,x4)],ty,pos,af,gu⟩ ⟨.c (bA [a0,a1,a2,a3,a4]),[],[]⟩:=Bt h0 h1 h2 h3 h4
end
section
variable {ρ:Operand→Option V} {H:Nat→Option HO} {d:Option Nat} {ty:TypeId} {pos:String} {af:Array Edge} {gu:Option (Nat×Bool)}
theorem EC {x0 x1 x2 x3 x4 x5 x6 x7:Operand} {a0 a1 a2 a3 a4 a5 a6 a7:ByteArray} (h0:Ev ρ x0 (.c (sS a0)):=by exact az) (h1:Ev ρ x1 (.c (sS a1)):=by exact az) (h2:Ev ρ x2 (.c (sS a2)):=by exact az) (h3:Ev ρ x3 (.c (sS a3)):=by exact az) (h4:Ev ρ x4 (.c (sS a4)):=by exact az) (h5:Ev ρ x5 (.c (sS a5)):=by exact az) (h6:Ev ρ x6 (.c (sS a6)):=by exact az) (h7:Ev ρ x7 (.c (sS a7)):=by exact az):AS Tryz.prog ρ H ⟨d,.buildSlice 43 8 #[(0,x0),(1,x1),(2,x2),(3,x3),(4,x4),(5,x5),(6,x6),(7,x7)],ty,pos,af,gu⟩ ⟨.c (bA [a0,a1,a2,a3,a4,a5,a6,a7]),[],[]⟩:=Bu h0 h1 h2 h3 h4 h5 h6 h7
end
section
variable {ρ:Operand→Option V} {H:Nat→Option HO} {d:Option Nat} {ty:TypeId} {pos:String} {af:Array Edge} {gu:Option (Nat×Bool)} {x y:Operand} {t t2:TypeId} {p q:Int}
theorem LZ {r:Int} (hx:Ev ρ x (.c (.sc (.int .i64 p))):=by exact az) (hy:Ev ρ y (.c (.sc (.int .i64 q))):=by exact az) (hq:q≠0:=by decide) (h1:q≠-1:=by decide) (hr:Int.tmod p q=r:=by assumption) (hw:IntKind.i64.wrap r=r:=by exact wrap64 (by omega) (by omega)):AS Tryz.prog ρ H ⟨d,.binOp .rem t x y t2,ty,pos,af,gu⟩ ⟨.c (.sc (.int .i64 r)),[],[]⟩:=KM hx hy hq h1 hr hw
end
section
variable {ρ:Operand→Option V} {H:Nat→Option HO} {d:Option Nat} {ty:TypeId} {pos:String} {af:Array Edge} {gu:Option (Nat×Bool)} {x y:Operand} {t t2:TypeId} {p q:Int}
theorem LY {r:Int} (hx:Ev ρ x (.c (.sc (.int .i64 p))):=by exact az) (hy:Ev ρ y (.c (.sc (.int .i64 q))):=by exact az) (hq:q≠0:=by decide) (h1:q≠-1:=by decide) (hr:Int.tdiv p q=r:=by assumption) (hw:IntKind.i64.wrap r=r:=by exact wrap64 (by omega) (by omega)):AS Tryz.prog ρ H ⟨d,.binOp .quo t x y t2,ty,pos,af,gu⟩ ⟨.c (.sc (.int .i64 r)),[],[]⟩:=KL hx hy hq h1 hr hw
end
section
variable {ρ:Operand→Option V} {H:Nat→Option HO} {d:Option Nat} {ty:TypeId} {pos:String} {af:Array Edge} {gu:Option (Nat×Bool)} {x y:Operand} {t t2:TypeId} {p q:Int}
theorem Eu {lo hi:Operand} {s:ByteArray} {i j:Nat} {p q:Int} (hx:Ev ρ x (.c (.sc (.string s))):=by exact az) (hlo:Ev ρ lo (.c (.sc (.int .i64 p))):=by exact az) (hhi:Ev ρ hi (.c (.sc (.int .i64 q))):=by exact az) (hp:p=i:=by rfl) (hq:q=j:=by(first|exact L1 _|rfl)) (hij:i≤j:=by omega) (hj:j≤s.size:=by((try simp only[aM,List.size_toArray,List.length_cons,List.length_nil]);omega)) (hs:s.size≤9223372036854775807:=by((try simp only[aM,List.size_toArray,List.length_cons,List.length_nil]);omega)):AS Tryz.prog ρ H ⟨d,.slice 9 x (some lo) (some hi) none,ty,pos,af,gu⟩ ⟨.c (.sc (.string (s.extract i j))),[],[]⟩:=Bn hx hlo hhi hp hq hij hj hs
end
section
variable {ρ:Operand→Option V} {H:Nat→Option HO} {d:Option Nat} {ty:TypeId} {pos:String} {af:Array Edge} {gu:Option (Nat×Bool)} {x y:Operand} {n off ty0:Nat} {cs cs':List C}
theorem LP {i:Operand} {s:ByteArray} {kd:IntKind} {j:Nat} {c:UInt8} (hx:Ev ρ x (.c (.sc (.string s))):=by exact az) (hi:Ev ρ i (.c (.sc (.int kd j))):=by exact az) (hc:s.data.toList[j]? =some c:=by assumption):AS Tryz.prog ρ H ⟨d,.index 9 x i,ty,pos,af,gu⟩ ⟨.c (.sc (.int .u8 c.toNat)),[],[]⟩:=KB hx hi hc
end
section
variable {ρ:Operand→Option V} {H:Nat→Option HO} {d:Option Nat} {ty:TypeId} {pos:String} {af:Array Edge} {gu:Option (Nat×Bool)} {x:Operand}
end
section
variable {ρ:Operand→Option V} {H:Nat→Option HO} {d:Option Nat} {ty:TypeId} {pos:String} {af:Array Edge} {gu:Option (Nat×Bool)} {x:Operand}
end
section
variable {ρ:Operand→Option V} {H:Nat→Option HO} {d:Option Nat} {ty:TypeId} {pos:String} {af:Array Edge} {gu:Option (Nat×Bool)} {x:Operand}
end
section
variable {P:Program} {ρ:Operand→Option V} {H:Nat→Option HO} {d:Option Nat} {ty:TypeId} {pos:String} {af:Array Edge} {gu:Option (Nat×Bool)} {x y z:Operand} {p q r:Int} {t1 t2 t3:TypeId}
theorem Kh {m:Int} (hx:Ev ρ x (.c (.sc (.int .i64 p))):=by exact az) (hy:Ev ρ y (.c (.sc (.int .i64 q))):=by exact az) (hz:Ev ρ z (.c (.sc (.int .i64 r))):=by exact az) (hm:max (max p q) r=m:=by(first|assumption|rfl)):AS P ρ H ⟨d,.call {callee:=.builtin .max,args:=#[x,y,z],argTypes:=#[t1,t2,t3]},ty,pos,af,gu⟩ ⟨.c (.sc (.int .i64 m)),[],[]⟩:=Iq hx hy hz hm
end
section
variable {ρ:Operand→Option V} {H:Nat→Option HO} {d:Option Nat} {ty:TypeId} {pos:String} {af:Array Edge} {gu:Option (Nat×Bool)} {x y:Operand}
theorem Km {c:UInt8} (hx:Ev ρ x (.c (.sc (.int .u8 c.toNat))):=by exact az):AS Tryz.prog ρ H ⟨d,.convert 5 21 x,ty,pos,af,gu⟩ ⟨.c (.sc (.int .i32 c.toNat)),[],[]⟩:=Iz hx
end
section
variable {ρ:Operand→Option V} {H:Nat→Option HO} {d:Option Nat} {ty t2:TypeId} {pos:String} {af:Array Edge} {gu:Option (Nat×Bool)} {x y:Operand}
theorem Kl {a b:Sp} (hx:Ev ρ x (.agg (spC a)):=by exact az) (hy:Ev ρ y (.agg (spC b)):=by exact az):AS Tryz.prog ρ H ⟨d,.binOp .neq 170 x y t2,ty,pos,af,gu⟩ ⟨.c (sB (!decide (a=b))),[],[]⟩:=Iw hx hy
end
section
variable {ρ:Operand→Option V} {H:Nat→Option HO} {d:Option Nat} {ty t2:TypeId} {pos:String} {af:Array Edge} {gu:Option (Nat×Bool)} {x y:Operand}
theorem Ka {a b:Se} (hx:Ev ρ x (.agg (seC a)):=by exact az) (hy:Ev ρ y (.agg (seC b)):=by exact az):AS Tryz.prog ρ H ⟨d,.binOp .eql 46 x y t2,ty,pos,af,gu⟩ ⟨.c (sB (Se.eqB a b)),[],[]⟩:=Ih hx hy
end
section
variable {ρ:Operand→Option V} {H:Nat→Option HO} {d:Option Nat} {ty t2:TypeId} {pos:String} {af:Array Edge} {gu:Option (Nat×Bool)} {x y:Operand}
theorem Kk {a b:Se} (hx:Ev ρ x (.agg (seC a)):=by exact az) (hy:Ev ρ y (.agg (seC b)):=by exact az):AS Tryz.prog ρ H ⟨d,.binOp .neq 46 x y t2,ty,pos,af,gu⟩ ⟨.c (sB (!Se.eqB a b)),[],[]⟩:=Iv hx hy
end
section
theorem AM {ρ:Operand→Option V} {H:Nat→Option HO} {d:Option Nat} {ty:TypeId} {pos:String} {af:Array Edge} {gu:Option (Nat×Bool)} {t:Nat} {zs:List C} (hz:Zw Tryz.prog t zs:=by exact ba rfl) (hp:(places Tryz.prog t).isSome=true:=by decide +kernel):AS Tryz.prog ρ H ⟨d,.build t #[],ty,pos,af,gu⟩ ⟨.agg zs,[],[]⟩:=zC hz hp
end
section
theorem Ek {ρ:Operand→Option V} {H:Nat→Option HO} {d:Option Nat} {ty:TypeId} {pos:String} {af:Array Edge} {gu:Option (Nat×Bool)} {t:Nat} {parts:Array (Nat×Operand)} {zs cs:List C} {ps:List (Nat×List C)} (hz:Zw Tryz.prog t zs:=by exact ba rfl) (hp:(places Tryz.prog t).isSome=true:=by decide +kernel) (hs:(match Tryz.prog.underlying t with|some (.struct _)=>true|_=>false)=true:=by kernel_rfl) (hv:EvP ρ parts.toList ps:=by(first|((repeat(first|exact .nil|((apply EvP.cons);(· (first|(refine .wh rfl ?_;first|assumption|(rw[hp];rfl)|(simp_all;done))|exact .pl rfl));(· rfl))));done)|fail)) (hf:gw (plT t) zs ps=some cs:=by rfl):AS Tryz.prog ρ H ⟨d,.build t parts,ty,pos,af,gu⟩ ⟨.agg cs,[],[]⟩:=bq hz hp hs hv hf
end
section
variable {P:Program} {ρ:Operand→Option V} {H:Nat→Option HO} {d:Option Nat} {ty:TypeId} {pos:String} {af:Array Edge} {gu:Option (Nat×Bool)} {x y:Operand} {t t1 t2:TypeId} {p q:Int}
theorem Kj (hx:Ev ρ x (.c (.sc (.int .i64 p))):=by exact az) (hy:Ev ρ y (.c (.sc (.int .i64 q))):=by exact az):AS P ρ H ⟨d,.binOp .mul t x y t2,ty,pos,af,gu⟩ ⟨.c (.sc (.int .i64 (IntKind.i64.wrap (p*q)))),[],[]⟩:=Iu hx hy
end
section
variable {P:Program} {ρ:Operand→Option V} {H:Nat→Option HO} {d:Option Nat} {ty:TypeId} {pos:String} {af:Array Edge} {gu:Option (Nat×Bool)} {x y:Operand} {t t1 t2:TypeId} {p q:Int}
theorem Kg (hx:Ev ρ x (.c (.sc (.int .i64 p))):=by exact az) (hy:Ev ρ y (.c (.sc (.int .i64 q))):=by exact az):AS P ρ H ⟨d,.call {callee:=.builtin .max,args:=#[x,y],argTypes:=#[t1,t2]},ty,pos,af,gu⟩ ⟨.c (.sc (.int .i64 (max p q))),[],[]⟩:=Ip hx hy
end
section
variable {ρ:Operand→Option V} {H:Nat→Option HO} {d:Option Nat} {ty t2:TypeId} {pos:String} {af:Array Edge} {gu:Option (Nat×Bool)} {x y:Operand}
theorem Hq (hx:Ev ρ x (.c (.sc .nilIface)):=by exact az) (hy:Ev ρ (.const .nilIface) (.c (.sc .nilIface)):=by exact az):AS Tryz.prog ρ H ⟨d,.binOp .neq 134 x (.const .nilIface) t2,ty,pos,af,gu⟩ ⟨.c (sB false),[],[]⟩:=F6 hx hy
end
section
variable {P:Program} {ρ:Operand→Option V} {H:Nat→Option HO} {d:Option Nat} {ty:TypeId} {pos:String} {af:Array Edge} {gu:Option (Nat×Bool)} {x y:Operand} {t t1 t2:TypeId} {p q:Int}
theorem LV {f:Fa} (hx:Ev ρ x (.agg (faC f)):=by exact az) (ht:(match P.underlying t with|some (.struct _)=>true|_=>false)=true:=by kernel_rfl):AS P ρ H ⟨d,.makeInterface t x,ty,pos,af,gu⟩ ⟨.c (.sc (pvF t f)),[],[]⟩:=KG hx ht
end
section
variable {P:Program} {ρ:Operand→Option V} {H:Nat→Option HO} {d:Option Nat} {ty:TypeId} {pos:String} {af:Array Edge} {gu:Option (Nat×Bool)} {x y:Operand} {t t1 t2:TypeId} {p q:Int}
theorem Kn {α:Type} {e k i:Nat} {tg:Option Nat} {f:α→List C} {xs:List α} {z:Int} (hx:Ev ρ x (.c (.lst tg k (xs.map f))):=by exact az) (hi:Ev ρ y (.c (.sc (.int .i64 z))):=by exact az) (ht:sle P t=some (e,k):=by exact cC rfl) (hz:z=(i:Nat):=by rfl) (hl:i≤xs.length:=by omega):AS P ρ H ⟨d,.slice t x (some y) none none,ty,pos,af,gu⟩ ⟨.c (.lst none k ((xs.drop i).map f)),[],[]⟩:=IA hx hi ht hz hl
end
section
variable {ρ:Operand→Option V} {H:Nat→Option HO} {d:Option Nat} {ty:TypeId} {pos:String} {af:Array Edge} {gu:Option (Nat×Bool)}
theorem K7 {x y:Operand} {τ m:Nat} {tg:Option Nat} {l1 l2:List ByteArray} (hx:Ev ρ x (.c (.lst (some τ) 1 (l1.map oneS))):=by exact az) (hh:H τ=some (.row 9 1 m):=by rfl) (hm:l1.length=m:=by rfl) (hy:Ev ρ y (.c (.lst tg 1 (l2.map oneS))):=by exact az) (h1:(l1++l2).length≤8796093022208:=by((try simp only[List.length_append,List.length_map,List.length_cons,List.length_nil]);omega)):AS Tryz.prog ρ H ⟨d,.call {callee:=.builtin .append,args:=#[x,y],argTypes:=#[43,43]},ty,pos,af,gu⟩ ⟨.c (.lst (some τ) 1 ((l1++l2).map oneS)),[(τ,.row 9 1 (l1++l2).length)],[τ]⟩:=Ic hx hh hm hy h1
end
section
theorem E7 {ρ:Operand→Option V} {H:Nat→Option HO} {ty:TypeId} {pos:String} {af:Array Edge} {gu:Option (Nat×Bool)} {t:Nat} (hn:H t=none:=by rfl):AS Tryz.prog ρ H ⟨some t,.alloc 121,ty,pos,af,gu⟩ ⟨.c (.ptr t 0),[(t,cI ⟨#[]⟩)],[t]⟩:=B3 hn
end
section
variable [Tb]
variable {P:Program} {ρ:Operand→Option V} {H:Nat→Option HO} {d:Option Nat} {ty:TypeId} {pos:String} {af:Array Edge} {gu:Option (Nat×Bool)} {x y:Operand} {v:V} {t e n off k i:Nat} {cs ds cs':List C} {b:Bool}
theorem K8 (hn:H t=none:=by rfl) (hx:Ev ρ x (.agg cs):=by exact az):AS P ρ H ⟨some t,.box e x,ty,pos,af,gu⟩ ⟨.c (.ptr t 0),[(t,.obj e cs)],[t]⟩:=Ie hn hx
end
section
variable [Tb]
variable {P:Program} {ρ:Operand→Option V} {H:Nat→Option HO} {d:Option Nat} {ty:TypeId} {pos:String} {af:Array Edge} {gu:Option (Nat×Bool)} {x y:Operand} {v:V} {t e n off k i:Nat} {cs ds cs':List C} {b:Bool}
theorem K9 {c:C} (hn:H t=none:=by rfl) (hx:Ev ρ x (.c c):=by exact az):AS P ρ H ⟨some t,.box e x,ty,pos,af,gu⟩ ⟨.c (.ptr t 0),[(t,.obj e [c])],[t]⟩:=Ig hn hx
end
section
variable [Tb]
variable {P:Program} {ρ:Operand→Option V} {H:Nat→Option HO} {d:Option Nat} {ty:TypeId} {pos:String} {af:Array Edge} {gu:Option (Nat×Bool)} {x y:Operand} {v:V} {t e n off k i:Nat} {cs ds cs':List C} {b:Bool}
theorem Hh (hn:H t=none:=by rfl) (hz:Zw P e cs:=by exact ba rfl):AS P ρ H ⟨some t,.alloc e,ty,pos,af,gu⟩ ⟨.c (.ptr t 0),[(t,.obj e cs)],[t]⟩:=yd hn hz
end
section
variable {ρ:Operand→Option V} {H:Nat→Option HO} {d:Option Nat} {ty t2:TypeId} {pos:String} {af:Array Edge} {gu:Option (Nat×Bool)} {x y:Operand}
theorem Hi {τ m:Nat} {tg:Option Nat} {l1 l2:List Stm} (hx:Ev ρ x (.c (.lst (some τ) 55 (l1.map stC))):=by exact az) (hh:H τ=some (.row 69 55 m):=by rfl) (hm:l1.length=m:=by rfl) (hy:Ev ρ y (.c (.lst tg 55 (l2.map stC))):=by exact az) (h1:(l1++l2).length≤4294967296:=by((try simp only[List.length_append,List.length_map,List.length_cons,List.length_nil]);omega)):AS Tryz.prog ρ H ⟨d,.call {callee:=.builtin .append,args:=#[x,y],argTypes:=#[23,23]},ty,pos,af,gu⟩ ⟨.c (.lst (some τ) 55 ((l1++l2).map stC)),[(τ,.row 69 55 (l1++l2).length)],[τ]⟩:=EZ hx hh hm hy h1
end
section
variable {ρ:Operand→Option V} {H:Nat→Option HO} {d:Option Nat} {ty t2:TypeId} {pos:String} {af:Array Edge} {gu:Option (Nat×Bool)} {x y:Operand}
theorem Hj {τ m:Nat} {tg:Option Nat} {l1 l2:List Tok} (hx:Ev ρ x (.c (.lst (some τ) 4 (l1.map tkC))):=by exact az) (hh:H τ=some (.row 99 4 m):=by rfl) (hm:l1.length=m:=by rfl) (hy:Ev ρ y (.c (.lst tg 4 (l2.map tkC))):=by exact az) (h1:(l1++l2).length≤4294967296:=by((try simp only[List.length_append,List.length_map,List.length_cons,List.length_nil]);omega)):AS Tryz.prog ρ H ⟨d,.call {callee:=.builtin .append,args:=#[x,y],argTypes:=#[36,36]},ty,pos,af,gu⟩ ⟨.c (.lst (some τ) 4 ((l1++l2).map tkC)),[(τ,.row 99 4 (l1++l2).length)],[τ]⟩:=F0 hx hh hm hy h1
end
section
variable {ρ:Operand→Option V} {H:Nat→Option HO} {d:Option Nat} {ty t2:TypeId} {pos:String} {af:Array Edge} {gu:Option (Nat×Bool)} {x y:Operand}
theorem Hk {τ m:Nat} {tg:Option Nat} {l1 l2:List Sp} (hx:Ev ρ x (.c (.lst (some τ) 2 (l1.map spC))):=by exact az) (hh:H τ=some (.row 170 2 m):=by rfl) (hm:l1.length=m:=by rfl) (hy:Ev ρ y (.c (.lst tg 2 (l2.map spC))):=by exact az) (h1:(l1++l2).length≤4294967296:=by((try simp only[List.length_append,List.length_map,List.length_cons,List.length_nil]);omega)):AS Tryz.prog ρ H ⟨d,.call {callee:=.builtin .append,args:=#[x,y],argTypes:=#[61,61]},ty,pos,af,gu⟩ ⟨.c (.lst (some τ) 2 ((l1++l2).map spC)),[(τ,.row 170 2 (l1++l2).length)],[τ]⟩:=F1 hx hh hm hy h1
end
section
variable {ρ:Operand→Option V} {H:Nat→Option HO} {d:Option Nat} {ty:TypeId} {pos:String} {af:Array Edge} {gu:Option (Nat×Bool)} {x y:Operand} {n off ty0:Nat} {cs cs':List C}
theorem AO (hx:Ev ρ x (.c (.ptr n off)):=by exact az) (hh:H n=some (.obj ty0 cs):=by rfl) (hy:ρ y=some (.c .nil):=by rfl) (hs:aZ cs off [bA ([]:List ByteArray)]=some cs':=by(simp only[GZ];rfl)):AS Tryz.prog ρ H ⟨d,.store 43 x y,ty,pos,af,gu⟩ ⟨jP,[(n,.obj ty0 cs')],[n]⟩:=zE hx hh hy hs
end
section
variable {ρ:Operand→Option V} {H:Nat→Option HO} {d:Option Nat} {ty:TypeId} {pos:String} {af:Array Edge} {gu:Option (Nat×Bool)} {x y:Operand} {n off ty0:Nat} {cs cs':List C}
theorem AP (hx:Ev ρ x (.c (.ptr n off)):=by exact az) (hh:H n=some (.obj ty0 cs):=by rfl) (hy:ρ y=some (.c .nil):=by rfl) (hs:aZ cs off [.lst none 55 (([]:List Stm).map stC)]=some cs':=by(simp only[GZ];rfl)):AS Tryz.prog ρ H ⟨d,.store 23 x y,ty,pos,af,gu⟩ ⟨jP,[(n,.obj ty0 cs')],[n]⟩:=zF hx hh hy hs
end
section
variable [Tb]
variable {P:Program} {ρ:Operand→Option V} {H:Nat→Option HO} {d:Option Nat} {ty:TypeId} {pos:String} {af:Array Edge} {gu:Option (Nat×Bool)} {x y:Operand} {v:V} {t e n off k i:Nat} {cs ds cs':List C} {b:Bool}
theorem Et {ty0:Nat} (hx:Ev ρ x (.c (.ptr n off)):=by exact az) (hh:H n=some (.obj ty0 cs):=by rfl) (hy:Ev ρ y (.agg ds):=by exact az) (ht:tyi P e=some (k,b):=by exact dT rfl) (hl:ds.length=k:=by(first|rfl|simp only[kO])) (hs:aZ cs off ds=some cs':=by(first|(simp only[GZ];rfl)|rfl)):AS P ρ H ⟨d,.store e x y,ty,pos,af,gu⟩ ⟨jP,[(n,.obj ty0 cs')],[n]⟩:=Bm hx hh hy ht hl hs
end
section
variable [Tb]
variable {P:Program} {ρ:Operand→Option V} {H:Nat→Option HO} {d:Option Nat} {ty:TypeId} {pos:String} {af:Array Edge} {gu:Option (Nat×Bool)} {x y:Operand} {v:V} {t e n off k i:Nat} {cs ds cs':List C} {b:Bool}
theorem mC {ty0:Nat} {c:C} (hx:Ev ρ x (.c (.ptr n off)):=by exact az) (hh:H n=some (.obj ty0 cs):=by rfl) (hy:Ev ρ y (.c c):=by exact az) (ht:tyi P e=some (1,b):=by exact dT rfl) (hs:aZ cs off [c]=some cs':=by(first|(simp only[GZ];rfl)|rfl)):AS P ρ H ⟨d,.store e x y,ty,pos,af,gu⟩ ⟨jP,[(n,.obj ty0 cs')],[n]⟩:=oI hx hh hy ht hs
end
section
variable {ρ:Operand→Option V} {H:Nat→Option HO} {d:Option Nat} {ty t2:TypeId} {pos:String} {af:Array Edge} {gu:Option (Nat×Bool)} {x y:Operand}
end
section
variable {ρ:Operand→Option V} {H:Nat→Option HO} {d:Option Nat} {ty t2:TypeId} {pos:String} {af:Array Edge} {gu:Option (Nat×Bool)} {x y:Operand}
end
section
variable {ρ:Operand→Option V} {H:Nat→Option HO} {d:Option Nat} {ty t2:TypeId} {pos:String} {af:Array Edge} {gu:Option (Nat×Bool)} {x y:Operand}
end
section
variable {ρ:Operand→Option V} {H:Nat→Option HO} {d:Option Nat} {ty t2:TypeId} {pos:String} {af:Array Edge} {gu:Option (Nat×Bool)} {x y:Operand}
end
section
variable {ρ:Operand→Option V} {H:Nat→Option HO} {d:Option Nat} {ty t2:TypeId} {pos:String} {af:Array Edge} {gu:Option (Nat×Bool)} {x y:Operand}
theorem Em {t:Nat} {x0:Operand} {a0:ByteArray} (hn:H t=none:=by rfl) (h0:Ev ρ x0 (.c (sS a0)):=by exact az):AS Tryz.prog ρ H ⟨some t,.buildSlice 43 1 #[(0,x0)],ty,pos,af,gu⟩ ⟨.c (.lst (some t) 1 ([a0].map oneS)),[(t,.row 9 1 [a0].length)],[t]⟩:=Iy hn h0
end
section
variable {ρ:Operand→Option V} {H:Nat→Option HO} {d:Option Nat} {ty t2:TypeId} {pos:String} {af:Array Edge} {gu:Option (Nat×Bool)} {x y:Operand}
theorem E6 {t:Nat} (hn:H t=none:=by rfl):AS Tryz.prog ρ H ⟨some t,.alloc 60,ty,pos,af,gu⟩ ⟨.c (.ptr t 0),[(t,.obj 60 [sB false,sB false,sB false,.nil,.nil])],[t]⟩:=B2 hn
end
section
variable {ρ:Operand→Option V} {H:Nat→Option HO} {d:Option Nat} {ty t2:TypeId} {pos:String} {af:Array Edge} {gu:Option (Nat×Bool)} {x y:Operand}
theorem Ei {x0:Operand} {y0:ByteArray} (h0:Ev ρ x0 (.c (sS y0)):=by exact az):AS Tryz.prog ρ H ⟨d,.build 63 #[(0,x0)],ty,pos,af,gu⟩ ⟨.agg [sS y0,.nil],[],[]⟩:=Bf h0
end
theorem J4 {P:Program} {ρ:Operand→Option V} {H:Nat→Option HO} {d:Option Nat} {ty:TypeId} {pos:String} {af:Array Edge} {gu:Option (Nat×Bool)} {x:Operand} {e:TypeId} {r:Eff} (h:AS P ρ H ⟨d,.load e x,ty,pos,af,gu⟩ r):AS P ρ H ⟨d,.load e x,ty,pos,af,gu⟩ r:=h
theorem uH {P:Program} {ρ:Operand→Option V} {H:Nat→Option HO} {d:Option Nat} {ty:TypeId} {pos:String} {af:Array Edge} {gu:Option (Nat×Bool)} {x:Operand} {e:TypeId} {f:_} {r:Eff} (h:AS P ρ H ⟨d,.fieldAddr e x f,ty,pos,af,gu⟩ r):AS P ρ H ⟨d,.fieldAddr e x f,ty,pos,af,gu⟩ r:=h
theorem J5 {P:Program} {ρ:Operand→Option V} {H:Nat→Option HO} {d:Option Nat} {ty:TypeId} {pos:String} {af:Array Edge} {gu:Option (Nat×Bool)} {x:Operand} {r:Eff} (h:AS P ρ H ⟨d,.move x,ty,pos,af,gu⟩ r):AS P ρ H ⟨d,.move x,ty,pos,af,gu⟩ r:=h
theorem J6 {P:Program} {ρ:Operand→Option V} {H:Nat→Option HO} {d:Option Nat} {ty:TypeId} {pos:String} {af:Array Edge} {gu:Option (Nat×Bool)} {x:Operand} {y:Operand} {z:Operand} {r:Eff} (h:AS P ρ H ⟨d,.pick x y z,ty,pos,af,gu⟩ r):AS P ρ H ⟨d,.pick x y z,ty,pos,af,gu⟩ r:=h
theorem Cd {P:Program} {ρ:Operand→Option V} {H:Nat→Option HO} {d:Option Nat} {ty:TypeId} {pos:String} {af:Array Edge} {gu:Option (Nat×Bool)} {x:Operand} {r:Eff} (h:AS P ρ H ⟨d,.assign x,ty,pos,af,gu⟩ r):AS P ρ H ⟨d,.assign x,ty,pos,af,gu⟩ r:=h
theorem FU {P:Program} {ρ:Operand→Option V} {H:Nat→Option HO} {d:Option Nat} {ty:TypeId} {pos:String} {af:Array Edge} {gu:Option (Nat×Bool)} {e:TypeId} {a:_} {r:Eff} (h:AS P ρ H ⟨d,.build e a,ty,pos,af,gu⟩ r):AS P ρ H ⟨d,.build e a,ty,pos,af,gu⟩ r:=h
theorem sb {P:Program} {ρ:Operand→Option V} {H:Nat→Option HO} {d:Option Nat} {ty:TypeId} {pos:String} {af:Array Edge} {gu:Option (Nat×Bool)} {e:TypeId} {a:_} {b:_} {r:Eff} (h:AS P ρ H ⟨d,.buildSlice e a b,ty,pos,af,gu⟩ r):AS P ρ H ⟨d,.buildSlice e a b,ty,pos,af,gu⟩ r:=h
theorem xc {P:Program} {ρ:Operand→Option V} {H:Nat→Option HO} {d:Option Nat} {ty:TypeId} {pos:String} {af:Array Edge} {gu:Option (Nat×Bool)} {x:Operand} {r:Eff} (h:AS P ρ H ⟨d,.nilCheck x,ty,pos,af,gu⟩ r):AS P ρ H ⟨d,.nilCheck x,ty,pos,af,gu⟩ r:=h
theorem FV {P:Program} {ρ:Operand→Option V} {H:Nat→Option HO} {d:Option Nat} {ty:TypeId} {pos:String} {af:Array Edge} {gu:Option (Nat×Bool)} {x:Operand} {e:TypeId} {f:_} {r:Eff} (h:AS P ρ H ⟨d,.field e x f,ty,pos,af,gu⟩ r):AS P ρ H ⟨d,.field e x f,ty,pos,af,gu⟩ r:=h
theorem wK {P:Program} {ρ:Operand→Option V} {H:Nat→Option HO} {d:Option Nat} {ty:TypeId} {pos:String} {af:Array Edge} {gu:Option (Nat×Bool)} {x:Operand} {y:Operand} {e:TypeId} {a:_} {r:Eff} (h:AS P ρ H ⟨d,.binOp .eql e x y a,ty,pos,af,gu⟩ r):AS P ρ H ⟨d,.binOp .eql e x y a,ty,pos,af,gu⟩ r:=h
theorem wX {P:Program} {ρ:Operand→Option V} {H:Nat→Option HO} {d:Option Nat} {ty:TypeId} {pos:String} {af:Array Edge} {gu:Option (Nat×Bool)} {x:Operand} {y:Operand} {e:TypeId} {a:_} {r:Eff} (h:AS P ρ H ⟨d,.binOp .neq e x y a,ty,pos,af,gu⟩ r):AS P ρ H ⟨d,.binOp .neq e x y a,ty,pos,af,gu⟩ r:=h
theorem wU {P:Program} {ρ:Operand→Option V} {H:Nat→Option HO} {d:Option Nat} {ty:TypeId} {pos:String} {af:Array Edge} {gu:Option (Nat×Bool)} {x:Operand} {y:Operand} {e:TypeId} {a:_} {r:Eff} (h:AS P ρ H ⟨d,.binOp .lss e x y a,ty,pos,af,gu⟩ r):AS P ρ H ⟨d,.binOp .lss e x y a,ty,pos,af,gu⟩ r:=h
theorem wT {P:Program} {ρ:Operand→Option V} {H:Nat→Option HO} {d:Option Nat} {ty:TypeId} {pos:String} {af:Array Edge} {gu:Option (Nat×Bool)} {x:Operand} {y:Operand} {e:TypeId} {a:_} {r:Eff} (h:AS P ρ H ⟨d,.binOp .leq e x y a,ty,pos,af,gu⟩ r):AS P ρ H ⟨d,.binOp .leq e x y a,ty,pos,af,gu⟩ r:=h
theorem wQ {P:Program} {ρ:Operand→Option V} {H:Nat→Option HO} {d:Option Nat} {ty:TypeId} {pos:String} {af:Array Edge} {gu:Option (Nat×Bool)} {x:Operand} {y:Operand} {e:TypeId} {a:_} {r:Eff} (h:AS P ρ H ⟨d,.binOp .gtr e x y a,ty,pos,af,gu⟩ r):AS P ρ H ⟨d,.binOp .gtr e x y a,ty,pos,af,gu⟩ r:=h
theorem wO {P:Program} {ρ:Operand→Option V} {H:Nat→Option HO} {d:Option Nat} {ty:TypeId} {pos:String} {af:Array Edge} {gu:Option (Nat×Bool)} {x:Operand} {y:Operand} {e:TypeId} {a:_} {r:Eff} (h:AS P ρ H ⟨d,.binOp .geq e x y a,ty,pos,af,gu⟩ r):AS P ρ H ⟨d,.binOp .geq e x y a,ty,pos,af,gu⟩ r:=h
theorem J7 {P:Program} {ρ:Operand→Option V} {H:Nat→Option HO} {d:Option Nat} {ty:TypeId} {pos:String} {af:Array Edge} {gu:Option (Nat×Bool)} {x:Operand} {e:TypeId} {o:_} {r:Eff} (h:AS P ρ H ⟨d,.unOp o e x,ty,pos,af,gu⟩ r):AS P ρ H ⟨d,.unOp o e x,ty,pos,af,gu⟩ r:=h
theorem wJ {P:Program} {ρ:Operand→Option V} {H:Nat→Option HO} {d:Option Nat} {ty:TypeId} {pos:String} {af:Array Edge} {gu:Option (Nat×Bool)} {x:Operand} {y:Operand} {e:TypeId} {a:_} {r:Eff} (h:AS P ρ H ⟨d,.binOp .add e x y a,ty,pos,af,gu⟩ r):AS P ρ H ⟨d,.binOp .add e x y a,ty,pos,af,gu⟩ r:=h
theorem xa {P:Program} {ρ:Operand→Option V} {H:Nat→Option HO} {d:Option Nat} {ty:TypeId} {pos:String} {af:Array Edge} {gu:Option (Nat×Bool)} {x:Operand} {y:Operand} {e:TypeId} {a:_} {r:Eff} (h:AS P ρ H ⟨d,.binOp .sub e x y a,ty,pos,af,gu⟩ r):AS P ρ H ⟨d,.binOp .sub e x y a,ty,pos,af,gu⟩ r:=h
theorem Ce {P:Program} {ρ:Operand→Option V} {H:Nat→Option HO} {d:Option Nat} {ty:TypeId} {pos:String} {af:Array Edge} {gu:Option (Nat×Bool)} {a:_} {b:_} {r:Eff} (h:AS P ρ H ⟨d,.call {callee:=.builtin .len,args:=a,argTypes:=b},ty,pos,af,gu⟩ r):AS P ρ H ⟨d,.call {callee:=.builtin .len,args:=a,argTypes:=b},ty,pos,af,gu⟩ r:=h
theorem uI {P:Program} {ρ:Operand→Option V} {H:Nat→Option HO} {d:Option Nat} {ty:TypeId} {pos:String} {af:Array Edge} {gu:Option (Nat×Bool)} {x:Operand} {y:Operand} {e:TypeId} {r:Eff} (h:AS P ρ H ⟨d,.indexAddr e x y,ty,pos,af,gu⟩ r):AS P ρ H ⟨d,.indexAddr e x y,ty,pos,af,gu⟩ r:=h
theorem zU {P:Program} {ρ:Operand→Option V} {H:Nat→Option HO} {d:Option Nat} {ty:TypeId} {pos:String} {af:Array Edge} {gu:Option (Nat×Bool)} {x:Operand} {f:_} {r:Eff} (h:AS P ρ H ⟨d,.extract x f,ty,pos,af,gu⟩ r):AS P ρ H ⟨d,.extract x f,ty,pos,af,gu⟩ r:=h
theorem xb {P:Program} {ρ:Operand→Option V} {H:Nat→Option HO} {d:Option Nat} {ty:TypeId} {pos:String} {af:Array Edge} {gu:Option (Nat×Bool)} {a:_} {b:_} {c:_} {r:Eff} (h:AS P ρ H ⟨d,.makeFunc a b c,ty,pos,af,gu⟩ r):AS P ρ H ⟨d,.makeFunc a b c,ty,pos,af,gu⟩ r:=h
theorem wZ {P:Program} {ρ:Operand→Option V} {H:Nat→Option HO} {d:Option Nat} {ty:TypeId} {pos:String} {af:Array Edge} {gu:Option (Nat×Bool)} {x:Operand} {y:Operand} {e:TypeId} {a:_} {r:Eff} (h:AS P ρ H ⟨d,.binOp .rem e x y a,ty,pos,af,gu⟩ r):AS P ρ H ⟨d,.binOp .rem e x y a,ty,pos,af,gu⟩ r:=h
theorem wY {P:Program} {ρ:Operand→Option V} {H:Nat→Option HO} {d:Option Nat} {ty:TypeId} {pos:String} {af:Array Edge} {gu:Option (Nat×Bool)} {x:Operand} {y:Operand} {e:TypeId} {a:_} {r:Eff} (h:AS P ρ H ⟨d,.binOp .quo e x y a,ty,pos,af,gu⟩ r):AS P ρ H ⟨d,.binOp .quo e x y a,ty,pos,af,gu⟩ r:=h
theorem FX {P:Program} {ρ:Operand→Option V} {H:Nat→Option HO} {d:Option Nat} {ty:TypeId} {pos:String} {af:Array Edge} {gu:Option (Nat×Bool)} {x:Operand} {e:TypeId} {a:_} {b:_} {c:_} {r:Eff} (h:AS P ρ H ⟨d,.slice e x a b c,ty,pos,af,gu⟩ r):AS P ρ H ⟨d,.slice e x a b c,ty,pos,af,gu⟩ r:=h
theorem FW {P:Program} {ρ:Operand→Option V} {H:Nat→Option HO} {d:Option Nat} {ty:TypeId} {pos:String} {af:Array Edge} {gu:Option (Nat×Bool)} {x:Operand} {y:Operand} {e:TypeId} {r:Eff} (h:AS P ρ H ⟨d,.index e x y,ty,pos,af,gu⟩ r):AS P ρ H ⟨d,.index e x y,ty,pos,af,gu⟩ r:=h
theorem zT {P:Program} {ρ:Operand→Option V} {H:Nat→Option HO} {d:Option Nat} {ty:TypeId} {pos:String} {af:Array Edge} {gu:Option (Nat×Bool)} {x:Operand} {e:TypeId} {a:_} {r:Eff} (h:AS P ρ H ⟨d,.convert e a x,ty,pos,af,gu⟩ r):AS P ρ H ⟨d,.convert e a x,ty,pos,af,gu⟩ r:=h
theorem Cf {P:Program} {ρ:Operand→Option V} {H:Nat→Option HO} {d:Option Nat} {ty:TypeId} {pos:String} {af:Array Edge} {gu:Option (Nat×Bool)} {a:_} {b:_} {r:Eff} (h:AS P ρ H ⟨d,.call {callee:=.builtin .max,args:=a,argTypes:=b},ty,pos,af,gu⟩ r):AS P ρ H ⟨d,.call {callee:=.builtin .max,args:=a,argTypes:=b},ty,pos,af,gu⟩ r:=h
theorem wW {P:Program} {ρ:Operand→Option V} {H:Nat→Option HO} {d:Option Nat} {ty:TypeId} {pos:String} {af:Array Edge} {gu:Option (Nat×Bool)} {x:Operand} {y:Operand} {e:TypeId} {a:_} {r:Eff} (h:AS P ρ H ⟨d,.binOp .mul e x y a,ty,pos,af,gu⟩ r):AS P ρ H ⟨d,.binOp .mul e x y a,ty,pos,af,gu⟩ r:=h
theorem nV {P:Program} {ρ:Operand→Option V} {H:Nat→Option HO} {d:Option Nat} {ty:TypeId} {pos:String} {af:Array Edge} {gu:Option (Nat×Bool)} {x:Operand} {e:TypeId} {r:Eff} (h:AS P ρ H ⟨d,.makeInterface e x,ty,pos,af,gu⟩ r):AS P ρ H ⟨d,.makeInterface e x,ty,pos,af,gu⟩ r:=h
theorem AS.v {P:Program} {ρ:Operand→Option V} {H:Nat→Option HO} {o:Oper} {e:Eff} (h:AS P ρ H o e:=by first|((with_reducible apply J4);first|exact tE|exact Hp)|((with_reducible apply uH);first|exact Kc|exact Kb)|((with_reducible apply J5);first|exact Ki)|((with_reducible apply J6);first|exact LJ|exact MV|exact Hr|exact Hs)|((with_reducible apply Cd);first|exact E8)|((with_reducible apply FU);first|exact E9|exact tC|exact Ea|exact xV|exact Eb|exact xW|exact qm|exact tD|exact xX|exact xY|exact xZ|exact y6|exact y7|exact Ec|exact Ed|exact Ee|exact Ef|exact kq|exact qn|exact Eg|exact y8|exact y9|exact Eh|exact Hl|exact AH|exact vR|exact Hm|exact AJ|exact AK|exact AM|exact Ek)|((with_reducible apply sb);first|exact En|exact Eo|exact Ep|exact Er|exact Es|exact AN|exact Ew|exact Ey|exact Ez|exact EA|exact EB|exact EC)|((with_reducible apply xc);first|exact LW)|((with_reducible apply FV);first|exact LS)|((with_reducible apply wK);first|exact MM|exact M0|exact LM|exact Ka)|((with_reducible apply wX);first|exact MU|exact M1|exact LN|exact Kl|exact Kk|exact Hq)|((with_reducible apply wU);first|exact MT)|((with_reducible apply wT);first|exact MS)|((with_reducible apply wQ);first|exact MR)|((with_reducible apply wO);first|exact MP)|((with_reducible apply J7);first|exact LX)|((with_reducible apply wJ);first|exact LI|exact K6|exact LO)|((with_reducible apply xa);first|exact M3)|((with_reducible apply Ce);first|exact Ke|exact Kf)|((with_reducible apply uI);first|exact LU|exact Kd)|((with_reducible apply zU);first|exact LQ)|((with_reducible apply xb);first|exact MO)|((with_reducible apply wZ);first|exact LZ)|((with_reducible apply wY);first|exact LY)|((with_reducible apply FX);first|exact Eu|exact Kn)|((with_reducible apply FW);first|exact LP)|((with_reducible apply zT);first|exact Km)|((with_reducible apply Cf);first|exact Kh|exact Kg)|((with_reducible apply wW);first|exact Kj)|((with_reducible apply nV);first|exact LV)):AS P ρ H o e:=h
theorem uG {P:Program} {ρ:Operand→Option V} {H:Nat→Option HO} {d:Option Nat} {ty:TypeId} {pos:String} {af:Array Edge} {gu:Option (Nat×Bool)} {a:_} {b:_} {r:Eff} (h:AS P ρ H ⟨d,.call {callee:=.builtin .append,args:=a,argTypes:=b},ty,pos,af,gu⟩ r):AS P ρ H ⟨d,.call {callee:=.builtin .append,args:=a,argTypes:=b},ty,pos,af,gu⟩ r:=h
theorem FT {P:Program} {ρ:Operand→Option V} {H:Nat→Option HO} {d:Option Nat} {ty:TypeId} {pos:String} {af:Array Edge} {gu:Option (Nat×Bool)} {e:TypeId} {r:Eff} (h:AS P ρ H ⟨d,.alloc e,ty,pos,af,gu⟩ r):AS P ρ H ⟨d,.alloc e,ty,pos,af,gu⟩ r:=h
theorem L8 {P:Program} {ρ:Operand→Option V} {H:Nat→Option HO} {d:Option Nat} {ty:TypeId} {pos:String} {af:Array Edge} {gu:Option (Nat×Bool)} {x:Operand} {e:TypeId} {r:Eff} (h:AS P ρ H ⟨d,.box e x,ty,pos,af,gu⟩ r):AS P ρ H ⟨d,.box e x,ty,pos,af,gu⟩ r:=h
theorem AS.w {P:Program} {ρ:Operand→Option V} {H:Nat→Option HO} {o:Oper} {e:Eff} (h:AS P ρ H o e:=by first|((with_reducible apply uG);first|exact K7|exact Hi|exact Hj|exact Hk)|((with_reducible apply FT);first|exact E7|exact Hh)|((with_reducible apply L8);first|exact K8|exact K9)):AS P ρ H o e:=h
theorem FY {P:Program} {ρ:Operand→Option V} {H:Nat→Option HO} {d:Option Nat} {ty:TypeId} {pos:String} {af:Array Edge} {gu:Option (Nat×Bool)} {x:Operand} {y:Operand} {e:TypeId} {r:Eff} (h:AS P ρ H ⟨d,.store e x y,ty,pos,af,gu⟩ r):AS P ρ H ⟨d,.store e x y,ty,pos,af,gu⟩ r:=h
theorem AS.s {P:Program} {ρ:Operand→Option V} {H:Nat→Option HO} {o:Oper} {e:Eff} (h:AS P ρ H o e:=by first|((with_reducible apply FY);first|exact AO|exact AP|exact Et|exact mC)):AS P ρ H o e:=h
theorem CvL.of_eq {a b:List V} (h:a=b):CvL a b:=h▸CvL.refl _
theorem CvL.of_un {a b:List V} (h:a.map V.un=b):CvL a b:=h▸CvL.un _
theorem ag {P:Program} {ρ:Operand→Option V} {H:Nat→Option HO} {d:Option Nat} {ty:TypeId} {pos:String} {af:Array Edge} {gu:Option (Nat×Bool)} {x:Operand} {args:Array Operand} {ats:Array TypeId} {f:Nat} {caps:List C} {vs us:List V} {r:V} (hx:Ev ρ x (.c (.fn f caps)):=by exact az) (hv:EvL ρ args.toList vs:=by(first|((repeat(first|exact .nil|((apply EvL.cons);(· (first|(refine .wh rfl ?_;first|assumption|(rw[hp];rfl)|(simp_all;done))|exact .pl rfl)))));done)|fail)) (hu:CvL (vs++caps.map V.c) us:=by(first|exact CvL.of_eq rfl|(refine CvL.of_un ?_;simp only[List.map_cons,List.map_nil,List.append_nil,V.un,C.un,unA];rfl))) (hP:Pure P f us r) (hok:okV noN us=true:=by(first|rfl|(simp[okV,V.ok,okL,C.ok,okA];done)|(simp[okV,V.ok,okL,C.ok,okA,fP,fQ,-List.map_map, *];done)|(simp[okV,V.ok,okL,bB,C.ok,okA,nsC,NS.zero,lvC,Lv.zero,rgC,Rg.zero,cxC,Ct.zero,moC,Mo.zero];done)|(simp[okV,V.ok,okL,C.ok,okA,-List.map_drop];done))):AS P ρ H ⟨d,.call {callee:=.value x,args:=args,argTypes:=ats},ty,pos,af,gu⟩ ⟨r,[],[]⟩:=.call rfl hx hv hu hok hP
section
variable [Tb]
variable {P:Program} {ρ:Operand→Option V} {H:Nat→Option HO} {d:Option Nat} {ty:TypeId} {pos:String} {af:Array Edge} {gu:Option (Nat×Bool)} {x:Operand}
end
section
end
section
variable [Tb]
variable {P:Program} {ρ:Operand→Option V} {H:Nat→Option HO} {d:Option Nat} {ty:TypeId} {pos:String} {af:Array Edge} {gu:Option (Nat×Bool)} {x:Operand}
end
section
variable [Tb]
variable {P:Program} {ρ:Operand→Option V} {H:Nat→Option HO} {d:Option Nat} {ty:TypeId} {pos:String} {af:Array Edge} {gu:Option (Nat×Bool)} {x:Operand}
theorem bn {args:Array Operand} {ats:Array TypeId} {f:Nat} {caps:List C} {vs us:List V} {r:V} {ns:List Nat} (hx:Ev ρ x (.c (.fn f caps)):=by exact az) (hv:EvL ρ args.toList vs:=by(first|((repeat(first|exact .nil|((apply EvL.cons);(· (first|(refine .wh rfl ?_;first|assumption|(rw[hp];rfl)|(simp_all;done))|exact .pl rfl)))));done)|fail)) (hn:(vs++caps.map V.c).flatMap ptV=ns:=by rfl) (hu:(vs++caps.map V.c).map (snV H)=us:=by rfl) (hP:Pure P f us r) (hok:okV noN us=true:=by(simp[okV,V.ok,okL,C.ok,okA,snV,snC,sn1,look,IH])) (hsc:scO r=true:=by rfl):AS P ρ H ⟨d,.call {callee:=.value x,args:=args,argTypes:=ats},ty,pos,af,gu⟩ ⟨r,[],ns⟩:=KD hx hv hn hu hP hok hsc
end
section
variable [Tb]
variable {P:Program} {ρ:Operand→Option V} {H:Nat→Option HO} {d:Option Nat} {ty:TypeId} {pos:String} {af:Array Edge} {gu:Option (Nat×Bool)} {x:Operand}
theorem cp {args:Array Operand} {ats:Array TypeId} {f n:Nat} {us:List V} {r:V} {ob ob':HO} (hx:Ev ρ x (.c (.fn f [])):=by exact az) (hv:EvL ρ args.toList (.c (.ptr n 0) :: us):=by(first|((repeat(first|exact .nil|((apply EvL.cons);(· (first|(refine .wh rfl ?_;first|assumption|(rw[hp];rfl)|(simp_all;done))|exact .pl rfl)))));done)|fail)) (hn:H n=some ob:=by rfl) (hP:MC P f ob us r ob') (hok:okV noN us=true:=by(first|rfl|(simp[okV,V.ok,okL,C.ok,okA];done)|(simp[okV,V.ok,okL,C.ok,okA,fP,fQ,-List.map_map, *];done)|(simp[okV,V.ok,okL,bB,C.ok,okA,nsC,NS.zero,lvC,Lv.zero,rgC,Rg.zero,cxC,Ct.zero,moC,Mo.zero];done)|(simp[okV,V.ok,okL,C.ok,okA,-List.map_drop];done))) (h1:ob.one=true:=by rfl) (h2:ob'.one=true:=by rfl):AS P ρ H ⟨d,.call {callee:=.value x,args:=args,argTypes:=ats},ty,pos,af,gu⟩ ⟨r,[(n,ob')],[n]⟩:=KI hx hv hn hP hok h1 h2
end
section
variable [Tb]
variable {P:Program} {ρ:Operand→Option V} {H:Nat→Option HO} {d:Option Nat} {ty:TypeId} {pos:String} {af:Array Edge} {gu:Option (Nat×Bool)} {x:Operand} {args:Array Operand} {ats:Array TypeId} {f:Nat} {caps:List C} {vs us:List V} {r:V}
theorem ch {n:Nat} {o o':HO} (hx:Ev ρ x (.c (.fn f [])):=by exact az) (hv:EvL ρ args.toList (.c (.ptr n 0) :: us):=by(first|((repeat(first|exact .nil|((apply EvL.cons);(· (first|(refine .wh rfl ?_;first|assumption|(rw[hp];rfl)|(simp_all;done))|exact .pl rfl)))));done)|fail)) (hn:H n=some o:=by rfl) (hP:MNL P f [(0,o)] (.c (.ptr 0 0) :: us) r [(0,o')]) (hok:okV noN us=true:=by(first|rfl|(simp[okV,V.ok,okL,C.ok,okA];done)|(simp[okV,V.ok,okL,C.ok,okA,fP,fQ,-List.map_map, *];done)|(simp[okV,V.ok,okL,bB,C.ok,okA,nsC,NS.zero,lvC,Lv.zero,rgC,Rg.zero,cxC,Ct.zero,moC,Mo.zero];done)|(simp[okV,V.ok,okL,C.ok,okA,-List.map_drop];done))) (h1:o.one=true:=by(first|rfl|(simp[HO.one,okL,C.ok,okA];done))) (h2:o'.one=true:=by(first|rfl|(simp[HO.one,okL,C.ok,okA];done))) (hr:V.ok noN r=true:=by(first|rfl|(simp[V.ok,okL,C.ok,okV,okA];done))):AS P ρ H ⟨d,.call {callee:=.value x,args:=args,argTypes:=ats},ty,pos,af,gu⟩ ⟨r,[(n,o')],[n]⟩:=Io hx hv hn hP hok h1 h2 hr
end
section
variable [Tb]
variable {P:Program} {ρ:Operand→Option V} {H:Nat→Option HO} {d:Option Nat} {ty:TypeId} {pos:String} {af:Array Edge} {gu:Option (Nat×Bool)} {x:Operand} {args:Array Operand} {ats:Array TypeId} {f:Nat} {caps:List C} {vs us:List V} {r:V}
end
section
variable [Tb]
variable {P:Program} {ops:Array Oper} {l:List (Nat×V)} {h:List (Nat×HO)} {rest:List Oper} {fs:List FP} {K:St→List FP→Prop} {J:Value→St→List FP→List Nat→Prop} {t:Nat} {op:Op} {ty:TypeId} {pos:String} {af:Array Edge} {gu:Option (Nat×Bool)} {v:V} {rd:List Nat} {n m:Nat} {ob ob2:HO} {gp:Nat×Bool}
theorem t_v (hs:AS P (evA (look l)) (look h) ⟨some t,op,ty,pos,af,none⟩ ⟨v,[],rd⟩) (k:AY P ops rest (mk ((t,v) :: l) h) (fs++[([],rd)]) K J):AY P ops (⟨some t,op,ty,pos,af,none⟩ :: rest) (mk l h) fs K J:=y_v hs k
end
section
variable [Tb]
variable {P:Program} {ops:Array Oper} {l:List (Nat×V)} {h:List (Nat×HO)} {rest:List Oper} {fs:List FP} {K:St→List FP→Prop} {J:Value→St→List FP→List Nat→Prop} {t:Nat} {op:Op} {ty:TypeId} {pos:String} {af:Array Edge} {gu:Option (Nat×Bool)} {v:V} {rd:List Nat} {n m:Nat} {ob ob2:HO} {gp:Nat×Bool}
theorem t_w (hs:AS P (evA (look l)) (look h) ⟨some t,op,ty,pos,af,none⟩ ⟨v,[(n,ob)],rd⟩) (k:AY P ops rest (mk ((t,v) :: l) ((n,ob) :: h)) (fs++[([n],rd)]) K J):AY P ops (⟨some t,op,ty,pos,af,none⟩ :: rest) (mk l h) fs K J:=y_w hs k
end
section
variable [Tb]
variable {P:Program} {ops:Array Oper} {l:List (Nat×V)} {h:List (Nat×HO)} {rest:List Oper} {fs:List FP} {K:St→List FP→Prop} {J:Value→St→List FP→List Nat→Prop} {t:Nat} {op:Op} {ty:TypeId} {pos:String} {af:Array Edge} {gu:Option (Nat×Bool)} {v:V} {rd:List Nat} {n m:Nat} {ob ob2:HO} {gp:Nat×Bool}
end
section
variable [Tb]
variable {P:Program} {ops:Array Oper} {l:List (Nat×V)} {h:List (Nat×HO)} {rest:List Oper} {fs:List FP} {K:St→List FP→Prop} {J:Value→St→List FP→List Nat→Prop} {t:Nat} {op:Op} {ty:TypeId} {pos:String} {af:Array Edge} {gu:Option (Nat×Bool)} {v:V} {rd:List Nat} {n m:Nat} {ob ob2:HO} {gp:Nat×Bool}
theorem t_s (hs:AS P (evA (look l)) (look h) ⟨none,op,ty,pos,af,none⟩ ⟨v,[(n,ob)],rd⟩) (k:AY P ops rest (mk l ((n,ob) :: h)) (fs++[([n],rd)]) K J):AY P ops (⟨none,op,ty,pos,af,none⟩ :: rest) (mk l h) fs K J:=y_s hs k
end
section
variable [Tb]
variable {P:Program} {ops:Array Oper} {l:List (Nat×V)} {h:List (Nat×HO)} {rest:List Oper} {fs:List FP} {K:St→List FP→Prop} {J:Value→St→List FP→List Nat→Prop} {t:Nat} {op:Op} {ty:TypeId} {pos:String} {af:Array Edge} {gu:Option (Nat×Bool)} {v:V} {rd:List Nat} {n m:Nat} {ob ob2:HO} {gp:Nat×Bool}
end
section
variable [Tb]
variable {P:Program} {ops:Array Oper} {l:List (Nat×V)} {h:List (Nat×HO)} {rest:List Oper} {fs:List FP} {K:St→List FP→Prop} {J:Value→St→List FP→List Nat→Prop} {t:Nat} {op:Op} {ty:TypeId} {pos:String} {af:Array Edge} {gu:Option (Nat×Bool)} {v:V} {rd:List Nat} {n m:Nat} {ob ob2:HO} {gp:Nat×Bool}
end
section
variable [Tb]
variable {P:Program} {ops:Array Oper} {l:List (Nat×V)} {h:List (Nat×HO)} {rest:List Oper} {fs:List FP} {K:St→List FP→Prop} {J:Value→St→List FP→List Nat→Prop} {t:Nat} {op:Op} {ty:TypeId} {pos:String} {af:Array Edge} {gu:Option (Nat×Bool)} {v:V} {rd:List Nat} {n m:Nat} {ob ob2:HO} {gp:Nat×Bool}
end
section
variable [Tb]
variable {P:Program} {ops:Array Oper} {l:List (Nat×V)} {h:List (Nat×HO)} {rest:List Oper} {fs:List FP} {K:St→List FP→Prop} {J:Value→St→List FP→List Nat→Prop} {t:Nat} {op:Op} {ty:TypeId} {pos:String} {af:Array Edge} {gu:Option (Nat×Bool)} {v:V} {rd:List Nat} {n m:Nat} {ob ob2:HO} {gp:Nat×Bool}
theorem t_m {b:Bool} (hg:gd ops (look l) ⟨some t,op,ty,pos,af,some gp⟩=some b:=by(first|exact g_p rfl rfl|exact g_w rfl rfl)) (hs:b=true→AS P (evA (look l)) (look h) ⟨some t,op,ty,pos,af,some gp⟩ ⟨v,[],rd⟩) (k:AY P ops rest (mk ((t,.wh b v) :: l) h) (fs++[([],rd)]) K J):AY P ops (⟨some t,op,ty,pos,af,some gp⟩ :: rest) (mk l h) fs K J:=y_m hg hs k
end
section
variable [Tb]
variable {P:Program} {ops:Array Oper} {l:List (Nat×V)} {h:List (Nat×HO)} {rest:List Oper} {fs:List FP} {K:St→List FP→Prop} {J:Value→St→List FP→List Nat→Prop} {t:Nat} {op:Op} {ty:TypeId} {pos:String} {af:Array Edge} {gu:Option (Nat×Bool)} {v:V} {rd:List Nat} {n m:Nat} {ob ob2:HO} {gp:Nat×Bool}
theorem t_f {g:Bool} (k:AY P ops rest (mk ((t,jP) :: l) h) (fs++[([],[])]) K J) (hg:gd ops (look l) ⟨some t,op,ty,pos,af,some gp⟩=some g:=by(first|exact g_p rfl rfl|exact g_w rfl rfl)) (hf:g=false:=by(first|assumption|(simp[*];done)|fail)):AY P ops (⟨some t,op,ty,pos,af,some gp⟩ :: rest) (mk l h) fs K J:=y_f hg hf k
end
section
variable [Tb]
variable {P:Program} {ops:Array Oper} {l:List (Nat×V)} {h:List (Nat×HO)} {rest:List Oper} {fs:List FP} {K:St→List FP→Prop} {J:Value→St→List FP→List Nat→Prop} {t:Nat} {op:Op} {ty:TypeId} {pos:String} {af:Array Edge} {gu:Option (Nat×Bool)} {v:V} {rd:List Nat} {n m:Nat} {ob ob2:HO} {gp:Nat×Bool}
theorem t_g {b:Bool} (hg:gd ops (look l) ⟨some t,op,ty,pos,af,some gp⟩=some b:=by(first|exact g_p rfl rfl|exact g_w rfl rfl)) (hs:b=true→AS P (evA (look l)) (look h) ⟨some t,op,ty,pos,af,some gp⟩ ⟨v,[(n,ob)],rd⟩) (k:b=true→AY P ops rest (mk ((t,v) :: l) ((n,ob) :: h)) (fs++[([n],rd)]) K J) (k0:b=false→AY P ops rest (mk ((t,jP) :: l) h) (fs++[([],[])]) K J):AY P ops (⟨some t,op,ty,pos,af,some gp⟩ :: rest) (mk l h) fs K J:=y_g hg hs k k0
end
section
variable [Tb]
variable {P:Program} {nt id i:Nat} {Q:Exit→St→Prop} {N:St→Prop} {σ:St} {y:Code} {l:List Oper} {v:Value}
end
section
variable [Tb]
variable {P:Program} {nt id i:Nat} {Q:Exit→St→Prop} {N:St→Prop} {σ:St} {y:Code} {l:List Oper} {v:Value}
end
section
variable [Tb]
variable {P:Program} {nt id i:Nat} {Q:Exit→St→Prop} {N:St→Prop} {σ:St} {y:Code} {l:List Oper} {v:Value}
theorem bb (h:AY P l.toArray l σ [] (fun σ' fs=>Ft l.toArray fs=true∧Q .normal σ') fun v _ fs rd=>Fu l.toArray fs rd=true∧∀ σ',Q (jM v) σ') (hl:(l.all fun o=>match o.dst with|some t=>decide (t<nt)|none=>true)=true:=by decide +kernel) (hm:P.follows .mixedOrders=true:=by kernel_rfl):AW P nt (.region id l.toArray true) Q σ:=Mn hl hm h
end
section
variable [Tb]
variable {P:Program} {nt id i:Nat} {Q:Exit→St→Prop} {N:St→Prop} {σ:St} {y:Code} {l:List Oper} {v:Value}
theorem ah (h:AY P l.toArray l σ [] (fun σ' _=>Q .normal σ') fun v σ' _ _=>Q (jM v) σ') (hl:(l.all fun o=>match o.dst with|some t=>decide (t<nt)|none=>true)=true:=by decide +kernel):AW P nt (.region id l.toArray false) Q σ:=Mp hl h
end
section
variable [Tb]
variable {P:Program} {nt:Nat} {Q Q':Exit→St→Prop} {σ σ':St}
theorem cF {c:Operand} {x y:Code} (h1:AW P nt x Q σ) (hc:Ev (evA σ.sl) c (.c (.sc (.bool true))):=by exact .pl rfl):AW P nt (.cond c x y) Q σ:=AW.yes hc h1
end
section
variable [Tb]
variable {P:Program} {nt:Nat} {Q Q':Exit→St→Prop} {σ σ':St}
theorem cj {c:Operand} {x y:Code} (h1:AW P nt y Q σ) (hc:Ev (evA σ.sl) c (.c (.sc (.bool false))):=by exact .pl rfl):AW P nt (.cond c x y) Q σ:=AW.no hc h1
end
section
variable [Tb]
variable {P:Program} {nt:Nat} {Q Q':Exit→St→Prop} {σ σ':St}
theorem aj {c:Operand} {x y:Code} {t:Bool} (h1:t=true→AW P nt x Q σ) (h2:t=false→AW P nt y Q σ) (hc:Ev (evA σ.sl) c (.c (.sc (.bool t))):=by exact az):AW P nt (.cond c x y) Q σ:=AW.cond hc h1 h2
end
section
variable [Tb]
variable {P:Program} {nt:Nat} {Q:Exit→St→Prop} {N:St→Prop} {σ:St} {id i:Nat} {y:Code} {l:List Oper}
theorem k_b {t:Nat} {a b:Bool} (h:a=b) (hx:Ev (evA σ.sl) (.tmp t) (.c (.sc (.bool a))):=by exact az):Ret P [.tmp t] (.c (.sc (.bool b))) .ret σ:=r_b hx h
end
section
variable [Tb]
variable {P:Program} {nt:Nat} {Q:Exit→St→Prop} {N:St→Prop} {σ:St} {id i:Nat} {y:Code} {l:List Oper}
theorem k_s {t:Nat} {a b:ByteArray} (h:a=b) (hx:Ev (evA σ.sl) (.tmp t) (.c (.sc (.string a))):=by exact az):Ret P [.tmp t] (.c (.sc (.string b))) .ret σ:=r_s hx h
end
section
variable [Tb]
variable {P:Program} {nt:Nat} {Q:Exit→St→Prop} {N:St→Prop} {σ:St} {id i:Nat} {y:Code} {l:List Oper}
theorem k_i {t:Nat} {k:IntKind} {a b:Int} (h:a=b) (hx:Ev (evA σ.sl) (.tmp t) (.c (.sc (.int k a))):=by exact az):Ret P [.tmp t] (.c (.sc (.int k b))) .ret σ:=r_i hx h
end
section
variable [Tb]
variable {P:Program} {nt:Nat} {Q:Exit→St→Prop} {N:St→Prop} {σ:St} {id i:Nat} {y:Code} {l:List Oper}
end
section
theorem k_c {P:Program} {σ:St} {u ty n off ty0 k:Nat} {cs cs' ds:List C} {b:Bool} (e1:unL cs'=ds) (h2:Ev (evA σ.sl) (.tmp u) (.c (.ptr n off)):=by exact az) (hh:σ.hp n=some (.obj ty0 cs):=by rfl) (ht:tyi P ty=some (k,b):=by exact dT rfl) (hc:aU b cs off k=some (.agg cs'):=by(first|(simp only[fK];rfl)|(rw[er _ _ _ _ _ (by(try simp only[kO]);decide)];simp only[fK,Nat.reduceAdd];rfl)|rfl)):Ret P [.cell u ty] (.agg ds) .ret σ:=r_c h2 hh ht hc e1
end
section
variable [Tb]
variable {P:Program} {nt:Nat} {Q:Exit→St→Prop} {N:St→Prop} {σ:St} {id i:Nat} {y:Code} {l:List Oper}
theorem k_2 {t u:Nat} {v1 v2 u1 u2:V} (e1:v1.un=u1) (e2:v2.un=u2) (h1:Ev (evA σ.sl) (.tmp t) v1:=by exact az) (h2:Ev (evA σ.sl) (.tmp u) v2:=by exact az):Ret P [.tmp t,.tmp u] (.tup [u1,u2]) .ret σ:=r_2 h1 h2 e1 e2
end
section
variable [Tb]
variable {P:Program} {nt:Nat} {Q:Exit→St→Prop} {N:St→Prop} {σ:St} {id i:Nat} {y:Code} {l:List Oper}
theorem uL {t u ty n off ty0 k:Nat} {cs:List C} {b:Bool} {v1 v2 u1 u2:V} (e1:v1.un=u1) (e2:v2.un=u2) (h1:Ev (evA σ.sl) (.tmp t) v1:=by exact az) (h2:Ev (evA σ.sl) (.tmp u) (.c (.ptr n off)):=by exact az) (hh:σ.hp n=some (.obj ty0 cs):=by rfl) (ht:tyi P ty=some (k,b):=by exact dT rfl) (hc:aU b cs off k=some v2:=by(first|(simp only[fK];rfl)|(rw[er _ _ _ _ _ (by(try simp only[kO]);decide)];simp only[fK,Nat.reduceAdd];rfl)|rfl)):Ret P [.tmp t,.cell u ty] (.tup [u1,u2]) .ret σ:=MI h1 h2 hh ht hc e1 e2
end
section
variable [Tb]
variable {P:Program} {ops:Array Oper} {l:List (Nat×V)} {h:List (Nat×HO)} {rest:List Oper} {fs:List FP} {K:St→List FP→Prop} {J:Value→St→List FP→List Nat→Prop} {t:Nat} {ty:TypeId} {pos:String} {af:Array Edge} {x:Operand} {args:Array Operand} {ats:Array TypeId} {f:Nat} {us:List V} {n m:Nat}
variable {α β ε:Type} {sp:Except ε (α×β)} {R:α→V} {E:ε→Value}
theorem bG {o:HO} {O:β→HO} (hx:Ev (evA (look l)) x (.c (.fn f [])):=by exact az) (hv:EvL (evA (look l)) args.toList (.c (.ptr n 0) :: us):=by(first|((repeat(first|exact .nil|((apply EvL.cons);(· (first|(refine .wh rfl ?_;first|assumption|(rw[hp];rfl)|(simp_all;done))|exact .pl rfl)))));done)|fail)) (hn:look h n=some o:=by rfl) (hP:MX P f [(0,o)] (.c (.ptr 0 0) :: us) sp R (fun b=>[(0,O b)]) E) (hok:okV noN us=true:=by(first|rfl|(simp[okV,V.ok,okL,C.ok,okA];done)|(simp[okV,V.ok,okL,C.ok,okA,fP,fQ,-List.map_map, *];done)|(simp[okV,V.ok,okL,bB,C.ok,okA,nsC,NS.zero,lvC,Lv.zero,rgC,Rg.zero,cxC,Ct.zero,moC,Mo.zero];done)|(simp[okV,V.ok,okL,C.ok,okA,-List.map_drop];done))) (h1:o.one=true:=by(first|rfl|(simp[HO.one,okL,C.ok,okA];done))) (k1:∀ a b,sp= .ok (a,b)→AY P ops rest (mk ((t,R a) :: l) ((n,O b) :: h)) (fs++[([n],[n])]) K J) (k2:∀ e,sp= .error e→∀ σ',J (E e) σ' fs [n]):AY P ops (⟨some t,.call {callee:=.value x,args:=args,argTypes:=ats},ty,pos,af,none⟩ :: rest) (mk l h) fs K J:=N9 hx hv hn hP hok h1 k1 k2
end
section
variable [Tb]
variable {P:Program} {ops:Array Oper} {l:List (Nat×V)} {h:List (Nat×HO)} {rest:List Oper} {fs:List FP} {K:St→List FP→Prop} {J:Value→St→List FP→List Nat→Prop} {t:Nat} {ty:TypeId} {pos:String} {af:Array Edge} {x:Operand} {args:Array Operand} {ats:Array TypeId} {f:Nat} {us:List V} {n m:Nat}
variable {α β ε:Type} {sp:Except ε (α×β)} {R:α→V} {E:ε→Value}
end
section
variable [Tb]
variable {P:Program} {ops:Array Oper} {l:List (Nat×V)} {h:List (Nat×HO)} {rest:List Oper} {fs:List FP} {K:St→List FP→Prop} {J:Value→St→List FP→List Nat→Prop} {t:Nat} {ty:TypeId} {pos:String} {af:Array Edge} {x:Operand} {args:Array Operand} {ats:Array TypeId} {f:Nat} {us:List V} {n m:Nat}
variable {α β ε:Type} {sp:Except ε (α×β)} {R:α→V} {E:ε→Value}
theorem vM {o s:HO} {O S:β→HO} (hx:Ev (evA (look l)) x (.c (.fn f [])):=by exact az) (hv:EvL (evA (look l)) args.toList (.c (.ptr n 0) :: .c (.ptr m 0) :: us):=by(first|((repeat(first|exact .nil|((apply EvL.cons);(· (first|(refine .wh rfl ?_;first|assumption|(rw[hp];rfl)|(simp_all;done))|exact .pl rfl)))));done)|fail)) (hn:look h n=some o:=by rfl) (hm:look h m=some s:=by rfl) (hP:MX P f [(0,o),(1001,s)] (.c (.ptr 0 0) :: .c (.ptr 1001 0) :: us) sp R (fun b=>[(0,O b),(1001,S b)]) E) (hok:okV noN us=true:=by(first|rfl|(simp[okV,V.ok,okL,C.ok,okA];done)|(simp[okV,V.ok,okL,C.ok,okA,fP,fQ,-List.map_map, *];done)|(simp[okV,V.ok,okL,bB,C.ok,okA,nsC,NS.zero,lvC,Lv.zero,rgC,Rg.zero,cxC,Ct.zero,moC,Mo.zero];done)|(simp[okV,V.ok,okL,C.ok,okA,-List.map_drop];done))) (h1:o.one=true:=by(first|rfl|(simp[HO.one,okL,C.ok,okA];done))) (h2:s.one=true:=by(first|rfl|(simp[HO.one,okL,C.ok,okA];done))) (hnm:Nat.beq n m=false:=by rfl) (k1:∀ a b,sp= .ok (a,b)→AY P ops rest (mk ((t,R a) :: l) ((m,S b) :: (n,O b) :: h)) (fs++[([n,m],[n,m])]) K J) (k2:∀ e,sp= .error e→∀ σ',J (E e) σ' fs [n,m]):AY P ops (⟨some t,.call {callee:=.value x,args:=args,argTypes:=ats},ty,pos,af,none⟩ :: rest) (mk l h) fs K J:=Na hx hv hn hm hP hok h1 h2 hnm k1 k2
end
section
variable [Tb]
variable {P:Program} {ops:Array Oper} {l:List (Nat×V)} {h:List (Nat×HO)} {rest:List Oper} {fs:List FP} {K:St→List FP→Prop} {J:Value→St→List FP→List Nat→Prop} {t:Nat} {ty:TypeId} {pos:String} {af:Array Edge} {x:Operand} {args:Array Operand} {ats:Array TypeId} {f:Nat} {us:List V} {n m:Nat}
variable {α β ε:Type} {sp:Except ε (α×β)} {R:α→V} {E:ε→Value}
end
section
variable [Tb]
variable {P:Program} {ops:Array Oper} {l:List (Nat×V)} {h:List (Nat×HO)} {rest:List Oper} {fs:List FP} {K:St→List FP→Prop} {J:Value→St→List FP→List Nat→Prop} {t:Nat} {ty:TypeId} {pos:String} {af:Array Edge} {x:Operand} {args:Array Operand} {ats:Array TypeId} {f:Nat} {us:List V} {q T S:Nat}
variable {β ε:Type} {sp:Except ε (NS×β)} {E:ε→Value}
theorem K1 {n:NS} {o:HO} {O:β→HO} (hx:Ev (evA (look l)) x (.c (.fn f [])):=by exact az) (hv:EvL (evA (look l)) args.toList (.c (.ptr 0 0) :: .c (.ptr q 0) :: us):=by(first|((repeat(first|exact .nil|((apply EvL.cons);(· (first|(refine .wh rfl ?_;first|assumption|(rw[hp];rfl)|(simp_all;done))|exact .pl rfl)))));done)|fail)) (hq:(Nat.blt 0 q&&Nat.blt q 1000)=true:=by rfl) (hn:look h 0=some o:=by rfl) (hm:look h q=some (.obj T (nsR 1002 1003 n)):=by rfl) (h2:look h 1002=some (.row S 1 n.names.length):=by rfl) (h3:look h 1003=some (.row S 1 n.except.length):=by rfl) (hP:MX0 P f ((0,o) :: elS T S 1001 1002 1003 n) (.c (.ptr 0 0) :: .c (.ptr 1001 0) :: us) (sp>>=fun x=>.ok ((),x)) (fun _=>.tup []) (elO T S O) E) (hok:okV noN us=true:=by(first|rfl|(simp[okV,V.ok,okL,C.ok,okA];done)|(simp[okV,V.ok,okL,C.ok,okA,fP,fQ,-List.map_map, *];done)|(simp[okV,V.ok,okL,bB,C.ok,okA,nsC,NS.zero,lvC,Lv.zero,rgC,Rg.zero,cxC,Ct.zero,moC,Mo.zero];done)|(simp[okV,V.ok,okL,C.ok,okA,-List.map_drop];done))) (h1:o.one=true:=by(first|rfl|(simp[HO.one,okL,C.ok,okA];done))) (hO:∀ b,(O b).one=true:=by(intro b;(first|rfl|(simp[HO.one,okL,C.ok,okA];done)))) (k1:∀ a b,sp= .ok (a,b)→AY P ops rest (mk ((t,.tup []) :: l) ((1003,.row S 1 a.except.length) :: (1002,.row S 1 a.names.length) :: (q,.obj T (nsR 1002 1003 a)) :: (0,O b) :: h)) (fs++[([0,q,1002,1003],[0,q,1002,1003])]) K J) (k2:∀ e,sp= .error e→∀ σ',J (E e) σ' fs [0,q,1002,1003]):AY P ops (⟨some t,.call {callee:=.value x,args:=args,argTypes:=ats},ty,pos,af,none⟩ :: rest) (mk l h) fs K J:=Nd hx hv hq hn hm h2 h3 hP hok h1 hO k1 k2
end
section
variable [Tb]
theorem MG {P:Program} {β ε:Type} {sp:Except ε (NS×β)} {E:ε→Value} {l:List (Nat×V)} {h:List (Nat×HO)} {x:Exit} {T S:Nat} {O:β→HO} {o:HO} {cs:List C} {m1 m2:Nat} (k:∃ a b,sp= .ok (a,b)∧HO.le o (O b)∧cs=nsR 1002 1003 a∧m1=a.names.length∧m2=a.except.length) (hx:x= .ret∨x= .normal:=by(first|exact .inl rfl|exact .inr rfl)) (h0:look h 0=some o:=by rfl) (h1:look h 1001=some (.obj T cs):=by rfl) (h2:look h 1002=some (.row S 1 m1):=by rfl) (h3:look h 1003=some (.row S 1 m2):=by rfl):iL P [] [0,1001,1002,1003] (sp>>=fun x=>.ok ((),x)) (fun _=>.tup []) (elO T S O) E x (mk l h):=N8 hx h0 h1 h2 h3 k
end
section
variable [Tb]
variable {P:Program} {ops:Array Oper} {l:List (Nat×V)} {h:List (Nat×HO)} {rest:List Oper} {fs:List FP} {K:St→List FP→Prop} {J:Value→St→List FP→List Nat→Prop} {t:Nat} {ty:TypeId} {pos:String} {af:Array Edge} {x:Operand} {args:Array Operand} {ats:Array TypeId} {f:Nat} {us:List V} {n m:Nat}
variable {α β ε:Type} {sp:Except ε (α×β)} {R:α→V} {E:ε→Value}
end
section
variable [Tb]
variable {P:Program} {ops:Array Oper} {l:List (Nat×V)} {h:List (Nat×HO)} {rest:List Oper} {fs:List FP} {K:St→List FP→Prop} {J:Value→St→List FP→List Nat→Prop} {t:Nat} {ty:TypeId} {pos:String} {af:Array Edge} {x:Operand} {args:Array Operand} {ats:Array TypeId} {f:Nat} {us:List V} {n m:Nat}
variable {α β ε:Type} {sp:Except ε (α×β)} {R:α→V} {E:ε→Value}
theorem I5 {gp:Nat×Bool} {g:Bool} {o s:HO} {O S:β→HO} (hg:gd ops (look l) ⟨some t,.call {callee:=.value x,args:=args,argTypes:=ats},ty,pos,af,some gp⟩=some g:=by(first|exact g_p rfl rfl|exact g_w rfl rfl)) (hx:Ev (evA (look l)) x (.c (.fn f [])):=by exact az) (hv:g=true→EvL (evA (look l)) args.toList (.c (.ptr n 0) :: .c (.ptr m 0) :: us):=by(intro hg;(first|((repeat(first|exact .nil|((apply EvL.cons);(· (first|(refine .wh rfl ?_;first|assumption|(rw[hp];rfl)|(simp_all;done))|exact .pl rfl)))));done)|fail))) (hn:look h n=some o:=by rfl) (hm:look h m=some s:=by rfl) (hP:MX P f [(0,o),(1001,s)] (.c (.ptr 0 0) :: .c (.ptr 1001 0) :: us) sp R (fun b=>[(0,O b),(1001,S b)]) E) (hok:okV noN us=true:=by(first|rfl|(simp[okV,V.ok,okL,C.ok,okA];done)|(simp[okV,V.ok,okL,C.ok,okA,fP,fQ,-List.map_map, *];done)|(simp[okV,V.ok,okL,bB,C.ok,okA,nsC,NS.zero,lvC,Lv.zero,rgC,Rg.zero,cxC,Ct.zero,moC,Mo.zero];done)|(simp[okV,V.ok,okL,C.ok,okA,-List.map_drop];done))) (h1:o.one=true:=by(first|rfl|(simp[HO.one,okL,C.ok,okA];done))) (h2:s.one=true:=by(first|rfl|(simp[HO.one,okL,C.ok,okA];done))) (hnm:Nat.beq n m=false:=by rfl) (k1:g=true→∀ a b,sp= .ok (a,b)→AY P ops rest (mk ((t,R a) :: l) ((m,S b) :: (n,O b) :: h)) (fs++[([n,m],[n,m])]) K J) (k2:g=true→∀ e,sp= .error e→∀ σ',J (E e) σ' fs [n,m]) (k0:g=false→AY P ops rest (mk ((t,jP) :: l) h) (fs++[([],[])]) K J):AY P ops (⟨some t,.call {callee:=.value x,args:=args,argTypes:=ats},ty,pos,af,some gp⟩ :: rest) (mk l h) fs K J:=Mm hg hx hv hn hm hP hok h1 h2 hnm k1 k2 k0
end
section
theorem t_p {P:Program} {ops:Array Oper} {l:List (Nat×V)} {h:List (Nat×HO)} {rest:List Oper} {fs:List FP} {K:St→List FP→Prop} {J:Value→St→List FP→List Nat→Prop} {ty:TypeId} {pos:String} {af:Array Edge} {x:Operand} {d:Option Nat} {t:Nat} {u:Value} (k:∀ σ',J (.iface t u) σ' fs []) (hx:Ev (evA (look l)) x (.c (.sc (.iface t u))):=by exact az):AY P ops (⟨d,.panic x,ty,pos,af,none⟩ :: rest) (mk l h) fs K J:=y_p hx k
end
section
variable [Tb]
variable {P:Program} {ops:Array Oper} {l:List (Nat×V)} {h:List (Nat×HO)} {rest:List Oper} {fs:List FP} {K:St→List FP→Prop} {J:Value→St→List FP→List Nat→Prop} {t:Nat} {ty:TypeId} {pos:String} {af:Array Edge} {x:Operand} {args:Array Operand} {ats:Array TypeId} {f:Nat} {us:List V} {n m:Nat}
variable {α β ε:Type} {sp:Except ε (α×β)} {R:α→V} {E:ε→Value}
theorem t_q {d:Option Nat} {v:Value} (hx:Ev (evA (look l)) x (.c (.fn f [])):=by exact az) (hv:EvL (evA (look l)) args.toList us:=by(first|((repeat(first|exact .nil|((apply EvL.cons);(· (first|(refine .wh rfl ?_;first|assumption|(rw[hp];rfl)|(simp_all;done))|exact .pl rfl)))));done)|fail)) (hP:MQL P f [] us v) (hok:okV noN us=true:=by(first|rfl|(simp[okV,V.ok,okL,C.ok,okA];done)|(simp[okV,V.ok,okL,C.ok,okA,fP,fQ,-List.map_map, *];done)|(simp[okV,V.ok,okL,bB,C.ok,okA,nsC,NS.zero,lvC,Lv.zero,rgC,Rg.zero,cxC,Ct.zero,moC,Mo.zero];done)|(simp[okV,V.ok,okL,C.ok,okA,-List.map_drop];done))) (k:∀ σ',J v σ' fs []):AY P ops (⟨d,.call {callee:=.value x,args:=args,argTypes:=ats},ty,pos,af,none⟩ :: rest) (mk l h) fs K J:=y_q hx hv hP hok k
end
section
variable [Tb]
variable {P:Program} {α β ε:Type} {sp:Except ε (α×β)} {R:α→V} {E:ε→Value} {rl:List ResultVar} {N:List Nat} {O:β→List (Nat×HO)} {l:List (Nat×V)} {h:List (Nat×HO)} {x:Exit} {σ:St}
theorem l_1 {O1:β→HO} {o:HO} {v:V} {t:Nat} (k:∃ a b,sp= .ok (a,b)∧v.un=R a∧HO.le o (O1 b)) (hx:Ev (evA (look l)) (.tmp t) v:=by exact az) (ho:look h 0=some o:=by rfl):iL P [.tmp t] [0] sp R (fun b=>[(0,O1 b)]) E .ret (mk l h):=x_1 hx ho k
end
section
variable [Tb]
variable {P:Program} {α β ε:Type} {sp:Except ε (α×β)} {R:α→V} {E:ε→Value} {rl:List ResultVar} {N:List Nat} {O:β→List (Nat×HO)} {l:List (Nat×V)} {h:List (Nat×HO)} {x:Exit} {σ:St}
theorem fN {O1:β→HO} {o:HO} {v:V} {t ty n off ty0 z:Nat} {cs:List C} {b:Bool} (k:∃ a b,sp= .ok (a,b)∧v.un=R a∧HO.le o (O1 b)) (hx:Ev (evA (look l)) (.tmp t) (.c (.ptr n off)):=by exact az) (hh:look h n=some (.obj ty0 cs):=by rfl) (ht:tyi P ty=some (z,b):=by exact dT rfl) (hc:aU b cs off z=some v:=by(first|(simp only[fK];rfl)|(rw[er _ _ _ _ _ (by(try simp only[kO]);decide)];simp only[fK,Nat.reduceAdd];rfl)|rfl)) (ho:look h 0=some o:=by rfl):iL P [.cell t ty] [0] sp R (fun b=>[(0,O1 b)]) E .ret (mk l h):=N6 hx hh ht hc ho k
end
section
variable [Tb]
variable {P:Program} {α β ε:Type} {sp:Except ε (α×β)} {R:α→V} {E:ε→Value} {rl:List ResultVar} {N:List Nat} {O:β→List (Nat×HO)} {l:List (Nat×V)} {h:List (Nat×HO)} {x:Exit} {σ:St}
theorem l_0 {O1:β→HO} {o:HO} (k:∃ a b,sp= .ok (a,b)∧.tup []=R a∧HO.le o (O1 b)) (hx:x= .ret∨x= .normal:=by(first|exact .inl rfl|exact .inr rfl)) (ho:look h 0=some o:=by rfl):iL P [] [0] sp R (fun b=>[(0,O1 b)]) E x (mk l h):=x_0 hx ho k
end
section
variable [Tb]
variable {P:Program} {α β ε:Type} {sp:Except ε (α×β)} {R:α→V} {E:ε→Value} {rl:List ResultVar} {N:List Nat} {O:β→List (Nat×HO)} {l:List (Nat×V)} {h:List (Nat×HO)} {x:Exit} {σ:St}
theorem l_d {O1 O2:β→HO} {o s:HO} {v:V} {t:Nat} (k:∃ a b,sp= .ok (a,b)∧v.un=R a∧HO.le o (O1 b)∧HO.le s (O2 b)) (hx:Ev (evA (look l)) (.tmp t) v:=by exact az) (ho:look h 0=some o:=by rfl) (hs:look h 1001=some s:=by rfl):iL P [.tmp t] [0,1001] sp R (fun b=>[(0,O1 b),(1001,O2 b)]) E .ret (mk l h):=x_d hx ho hs k
end
section
variable [Tb]
variable {P:Program} {α β ε:Type} {sp:Except ε (α×β)} {R:α→V} {E:ε→Value} {rl:List ResultVar} {N:List Nat} {O:β→List (Nat×HO)} {l:List (Nat×V)} {h:List (Nat×HO)} {x:Exit} {σ:St}
theorem qx {O1 O2:β→HO} {o s:HO} (k:∃ a b,sp= .ok (a,b)∧.tup []=R a∧HO.le o (O1 b)∧HO.le s (O2 b)) (hx:x= .ret∨x= .normal:=by(first|exact .inl rfl|exact .inr rfl)) (ho:look h 0=some o:=by rfl) (hs:look h 1001=some s:=by rfl):iL P [] [0,1001] sp R (fun b=>[(0,O1 b),(1001,O2 b)]) E x (mk l h):=N7 hx ho hs k
end
theorem aV {P:Program} {ops:Array Oper} {l:List (Nat×V)} {h:List (Nat×HO)} {rest:List Oper} {fs:List FP} {K:St→List FP→Prop} {J:Value→St→List FP→List Nat→Prop} {op:Op} {ty:TypeId} {pos:String} {af:Array Edge} (k:AY P ops (⟨none,op,ty,pos,af,none⟩ :: rest) (mk l h) fs K J):AY P ops (⟨none,op,ty,pos,af,none⟩ :: rest) (mk l h) fs K J:=k
theorem ak {P:Program} {ops:Array Oper} {l:List (Nat×V)} {h:List (Nat×HO)} {rest:List Oper} {fs:List FP} {K:St→List FP→Prop} {J:Value→St→List FP→List Nat→Prop} {op:Op} {ty:TypeId} {pos:String} {af:Array Edge} {t:Nat} (k:AY P ops (⟨some t,op,ty,pos,af,none⟩ :: rest) (mk l h) fs K J):AY P ops (⟨some t,op,ty,pos,af,none⟩ :: rest) (mk l h) fs K J:=k
theorem bc {P:Program} {ops:Array Oper} {l:List (Nat×V)} {h:List (Nat×HO)} {rest:List Oper} {fs:List FP} {K:St→List FP→Prop} {J:Value→St→List FP→List Nat→Prop} {op:Op} {ty:TypeId} {pos:String} {af:Array Edge} {t:Nat} {gp:Nat×Bool} (k:AY P ops (⟨some t,op,ty,pos,af,some gp⟩ :: rest) (mk l h) fs K J):AY P ops (⟨some t,op,ty,pos,af,some gp⟩ :: rest) (mk l h) fs K J:=k
theorem au {P:Program} {nt:Nat} {c:Code} {Q:Exit→St→Prop} {σ:St} (h:AW P nt c Q σ):AW P nt c Q σ:=h
theorem aA {P:Program} {rl:List ResultVar} {r:V} {x:Exit} {σ:St} (h:Ret P rl r x σ):Ret P rl r x σ:=h
theorem bo {α β ε:Type} {P:Program} {rl:List ResultVar} {N:List Nat} {sp:Except ε (α×β)} {R:α→V} {O:β→List (Nat×HO)} {E:ε→Value} {x:Exit} {σ:St} (h:iL P rl N sp R O E x σ):iL P rl N sp R O E x σ:=h
end Am
end Go.Proofs.YtkpodagbefnebaaGreatDoor
