import Derived.Test.YtkcojiopjkllgaaGreatDoorYq3
import Derived.Test.YtkcojiopjkllgaaGreatDoorProg
import Derived.Lib.LaidTab
import Derived.Lib.ItoaNum
import Derived.Test.YtkcojiopjkllgaaGreatDoorRows
import Derived.ProofKit
import Derived.OpenShut
import Derived.Deep.Slices
import Derived.Deep.Fields
import Derived.LaidMore
import Derived.LaidHandle
import Derived.Stop.Joined
import Derived.Stop.LaidErr
set_option linter.unusedSimpArgs false
set_option linter.unusedVariables false
set_option linter.unusedSectionVars false
namespace Go.Proofs.YtkcojiopjkllgaaGreatDoor
namespace Am
variable [Tb]
abbrev sI (n : Int) : C := .sc (.int .i64 n)
abbrev sU (n : Int) : C := .sc (.int .u64 n)
abbrev sB (b : Bool) : C := .sc (.bool b)
abbrev sS (s : ByteArray) : C := .sc (.string s)
def oneS (s : ByteArray) : List C := [sS s]
abbrev strL (l : List ByteArray) : C := .lst none 1 (l.map oneS)
structure Sp where
  frm : ByteArray
  to : ByteArray
def spC (x : Sp) : List C := [sS x.frm, sS x.to]
def Sp.zero : Sp := ⟨⟨#[]⟩, ⟨#[]⟩⟩
theorem spC_len (x : Sp) : (spC x).length = 2 := rfl
structure NS where
  all : Bool
  nt : Bool
  self : Bool
  names : List ByteArray
  except : List ByteArray
def nsC (x : NS) : List C := [sB x.all, sB x.nt, sB x.self, strL x.names, strL x.except]
def NS.zero : NS := ⟨false, false, false, [], []⟩
theorem nsC_len (x : NS) : (nsC x).length = 5 := rfl
structure Lv where
  sens : ByteArray
  cats : List Sp
def lvC (x : Lv) : List C := [sS x.sens, .lst none 2 (x.cats.map spC)]
def Lv.zero : Lv := ⟨⟨#[]⟩, []⟩
theorem lvC_len (x : Lv) : (lvC x).length = 2 := rfl
structure Rg where
  lo : Lv
  hi : Lv
def rgC (x : Rg) : List C := lvC x.lo ++ lvC x.hi
def Rg.zero : Rg := ⟨⟨⟨#[]⟩, []⟩, ⟨⟨#[]⟩, []⟩⟩
theorem rgC_len (x : Rg) : (rgC x).length = 4 := rfl
structure Ct where
  user : ByteArray
  role : ByteArray
  type : ByteArray
  rng : Rg
def cxC (x : Ct) : List C := [sS x.user, sS x.role, sS x.type] ++ rgC x.rng
def Ct.zero : Ct := ⟨⟨#[]⟩, ⟨#[]⟩, ⟨#[]⟩, ⟨⟨⟨#[]⟩, []⟩, ⟨⟨#[]⟩, []⟩⟩⟩
theorem cxC_len (x : Ct) : (cxC x).length = 7 := rfl
structure Se where
  a : Int
  b : Int
  c : Int
  d : Int
def seC (x : Se) : List C := [sU x.a, sU x.b, sU x.c, sU x.d]
def Se.zero : Se := ⟨0, 0, 0, 0⟩
theorem seC_len (x : Se) : (seC x).length = 4 := rfl
structure Ex where
  op : Int
  a : Int
  rel : Int
  b : Int
  names : List ByteArray
  set : Se
  kids : List Ex
mutual
def exC_kids : Ex → List (List C)
  | ⟨_, _, _, _, _, _, kids⟩ => exCs kids
def exCs : List Ex → List (List C)
  | [] => []
  | x :: l => ([sI x.op, sI x.a, sI x.rel, sI x.b, strL x.names] ++ seC x.set ++ [.lst none 10 (exC_kids x)]) :: exCs l
end
def exC (x : Ex) : List C := [sI x.op, sI x.a, sI x.rel, sI x.b, strL x.names] ++ seC x.set ++ [.lst none 10 (exC_kids x)]
theorem exCs_map : ∀ l : List Ex, exCs l = l.map exC
  | [] => by rw [exCs]; rfl
  | x :: l => by rw [exCs, exCs_map l]; rfl
theorem exC_kids_map (x : Ex) : exC_kids x = x.kids.map exC := by cases x; rw [exC_kids, exCs_map]
def Ex.zero : Ex := ⟨0, 0, 0, 0, [], ⟨0, 0, 0, 0⟩, []⟩
theorem exC_len (x : Ex) : (exC x).length = 10 := rfl
structure Po where
  line : Int
  col : Int
def poC (x : Po) : List C := [sI x.line, sI x.col]
def Po.zero : Po := ⟨0, 0⟩
theorem poC_len (x : Po) : (poC x).length = 2 := rfl
structure Stm where
  kind : Int
  op : Int
  pos : Po
  name : ByteArray
  result : ByteArray
  text : ByteArray
  list : List ByteArray
  aliases : List ByteArray
  source : NS
  target : NS
  cls : NS
  perms : NS
  cond : Ex
  level : Lv
  range : Rg
  ctx : Ct
  value : Bool
  thn : List Stm
  els : List Stm
mutual
def stC_thn : Stm → List (List C)
  | ⟨_, _, _, _, _, _, _, _, _, _, _, _, _, _, _, _, _, thn, _⟩ => stCs thn
def stC_els : Stm → List (List C)
  | ⟨_, _, _, _, _, _, _, _, _, _, _, _, _, _, _, _, _, _, els⟩ => stCs els
def stCs : List Stm → List (List C)
  | [] => []
  | x :: l => ([sI x.kind, sI x.op] ++ poC x.pos ++ [sS x.name, sS x.result, sS x.text, strL x.list, strL x.aliases] ++ nsC x.source ++ nsC x.target ++ nsC x.cls ++ nsC x.perms ++ exC x.cond ++ lvC x.level ++ rgC x.range ++ cxC x.ctx ++ [sB x.value, .lst none 55 (stC_thn x), .lst none 55 (stC_els x)]) :: stCs l
end
def stC (x : Stm) : List C := [sI x.kind, sI x.op] ++ poC x.pos ++ [sS x.name, sS x.result, sS x.text, strL x.list, strL x.aliases] ++ nsC x.source ++ nsC x.target ++ nsC x.cls ++ nsC x.perms ++ exC x.cond ++ lvC x.level ++ rgC x.range ++ cxC x.ctx ++ [sB x.value, .lst none 55 (stC_thn x), .lst none 55 (stC_els x)]
theorem stCs_map : ∀ l : List Stm, stCs l = l.map stC
  | [] => by rw [stCs]; rfl
  | x :: l => by rw [stCs, stCs_map l]; rfl
theorem stC_thn_map (x : Stm) : stC_thn x = x.thn.map stC := by cases x; rw [stC_thn, stCs_map]
theorem stC_els_map (x : Stm) : stC_els x = x.els.map stC := by cases x; rw [stC_els, stCs_map]
def Stm.zero : Stm := ⟨0, 0, ⟨0, 0⟩, ⟨#[]⟩, ⟨#[]⟩, ⟨#[]⟩, [], [], ⟨false, false, false, [], []⟩, ⟨false, false, false, [], []⟩, ⟨false, false, false, [], []⟩, ⟨false, false, false, [], []⟩, ⟨0, 0, 0, 0, [], ⟨0, 0, 0, 0⟩, []⟩, ⟨⟨#[]⟩, []⟩, ⟨⟨⟨#[]⟩, []⟩, ⟨⟨#[]⟩, []⟩⟩, ⟨⟨#[]⟩, ⟨#[]⟩, ⟨#[]⟩, ⟨⟨⟨#[]⟩, []⟩, ⟨⟨#[]⟩, []⟩⟩⟩, false, [], []⟩
theorem stC_len (x : Stm) : (stC x).length = 55 := rfl
structure Mo where
  name : ByteArray
  version : Int
  stmts : List Stm
def moC (x : Mo) : List C := [sS x.name, sI x.version, .lst none 55 (x.stmts.map stC)]
def Mo.zero : Mo := ⟨⟨#[]⟩, 0, []⟩
theorem moC_len (x : Mo) : (moC x).length = 3 := rfl
structure Tok where
  kind : Int
  text : ByteArray
  pos : Po
def tkC (x : Tok) : List C := [sI x.kind, sS x.text] ++ poC x.pos
def Tok.zero : Tok := ⟨0, ⟨#[]⟩, ⟨0, 0⟩⟩
theorem tkC_len (x : Tok) : (tkC x).length = 4 := rfl
structure Fa where
  code : Int
  pos : Po
  name : ByteArray
def faC (x : Fa) : List C := [sI x.code] ++ poC x.pos ++ [sS x.name]
def Fa.zero : Fa := ⟨0, ⟨0, 0⟩, ⟨#[]⟩⟩
theorem faC_len (x : Fa) : (faC x).length = 4 := rfl
structure Pa where
  names : NS
  cond : Ex
  validate : Bool
  range : Rg
  context : Ct
def paC (x : Pa) : List C := nsC x.names ++ exC x.cond ++ [sB x.validate] ++ rgC x.range ++ cxC x.context
def Pa.zero : Pa := ⟨⟨false, false, false, [], []⟩, ⟨0, 0, 0, 0, [], ⟨0, 0, 0, 0⟩, []⟩, false, ⟨⟨⟨#[]⟩, []⟩, ⟨⟨#[]⟩, []⟩⟩, ⟨⟨#[]⟩, ⟨#[]⟩, ⟨#[]⟩, ⟨⟨⟨#[]⟩, []⟩, ⟨⟨#[]⟩, []⟩⟩⟩⟩
theorem paC_len (x : Pa) : (paC x).length = 27 := rfl
structure Sy where
  kind : Int
  name : ByteArray
  req : Bool
  perms : List ByteArray
  pos : Po
def syC (x : Sy) : List C := [sI x.kind, sS x.name, sB x.req, strL x.perms] ++ poC x.pos
def Sy.zero : Sy := ⟨0, ⟨#[]⟩, false, [], ⟨0, 0⟩⟩
theorem syC_len (x : Sy) : (syC x).length = 6 := rfl
theorem cutA : (∀ x : Sp, cutV false (spC x) 0 1 = some (.c (sS x.frm))) ∧
    (∀ x : Sp, cutV false (spC x) 1 1 = some (.c (sS x.to))) ∧
    (∀ x : Sp, cutV true (spC x) 0 2 = some (.agg (spC x))) ∧
    (∀ x : NS, cutV false (nsC x) 0 1 = some (.c (sB x.all))) ∧
    (∀ x : NS, cutV false (nsC x) 1 1 = some (.c (sB x.nt))) ∧
    (∀ x : NS, cutV false (nsC x) 2 1 = some (.c (sB x.self))) ∧
    (∀ x : NS, cutV false (nsC x) 3 1 = some (.c (strL x.names))) ∧
    (∀ x : NS, cutV false (nsC x) 4 1 = some (.c (strL x.except))) ∧
    (∀ x : NS, cutV true (nsC x) 0 5 = some (.agg (nsC x))) ∧
    (∀ x : Lv, cutV false (lvC x) 0 1 = some (.c (sS x.sens))) ∧
    (∀ x : Lv, cutV false (lvC x) 1 1 = some (.c (.lst none 2 (x.cats.map spC)))) ∧
    (∀ x : Lv, cutV true (lvC x) 0 2 = some (.agg (lvC x))) ∧
    (∀ x : Rg, cutV true (rgC x) 0 2 = some (.agg (lvC x.lo))) ∧
    (∀ x : Rg, cutV true (rgC x) 2 2 = some (.agg (lvC x.hi))) ∧
    (∀ x : Rg, cutV true (rgC x) 0 4 = some (.agg (rgC x))) ∧
    (∀ x : Ct, cutV false (cxC x) 0 1 = some (.c (sS x.user))) ∧
    (∀ x : Ct, cutV false (cxC x) 1 1 = some (.c (sS x.role))) ∧
    (∀ x : Ct, cutV false (cxC x) 2 1 = some (.c (sS x.type))) ∧
    (∀ x : Ct, cutV true (cxC x) 3 4 = some (.agg (rgC x.rng))) ∧
    (∀ x : Ct, cutV true (cxC x) 0 7 = some (.agg (cxC x))) ∧
    (∀ x : Se, cutV false (seC x) 0 1 = some (.c (sU x.a))) ∧
    (∀ x : Se, cutV false (seC x) 1 1 = some (.c (sU x.b))) ∧
    (∀ x : Se, cutV false (seC x) 2 1 = some (.c (sU x.c))) ∧
    (∀ x : Se, cutV false (seC x) 3 1 = some (.c (sU x.d))) ∧
    (∀ x : Se, cutV true (seC x) 0 4 = some (.agg (seC x))) ∧
    (∀ x : Ex, cutV false (exC x) 0 1 = some (.c (sI x.op))) ∧
    (∀ x : Ex, cutV false (exC x) 1 1 = some (.c (sI x.a))) ∧
    (∀ x : Ex, cutV false (exC x) 2 1 = some (.c (sI x.rel))) ∧
    (∀ x : Ex, cutV false (exC x) 3 1 = some (.c (sI x.b))) ∧
    (∀ x : Ex, cutV false (exC x) 4 1 = some (.c (strL x.names))) ∧
    (∀ x : Ex, cutV true (exC x) 5 4 = some (.agg (seC x.set))) ∧
    (∀ x : Ex, cutV false (exC x) 9 1 = some (.c (.lst none 10 (x.kids.map exC)))) ∧
    (∀ x : Ex, cutV true (exC x) 0 10 = some (.agg (exC x))) ∧
    (∀ x : Po, cutV false (poC x) 0 1 = some (.c (sI x.line))) ∧
    (∀ x : Po, cutV false (poC x) 1 1 = some (.c (sI x.col))) ∧
    (∀ x : Po, cutV true (poC x) 0 2 = some (.agg (poC x))) ∧
    (∀ x : Stm, cutV false (stC x) 0 1 = some (.c (sI x.kind))) ∧
    (∀ x : Stm, cutV false (stC x) 1 1 = some (.c (sI x.op))) ∧
    (∀ x : Stm, cutV true (stC x) 2 2 = some (.agg (poC x.pos))) ∧
    (∀ x : Stm, cutV false (stC x) 4 1 = some (.c (sS x.name))) ∧
    (∀ x : Stm, cutV false (stC x) 5 1 = some (.c (sS x.result))) ∧
    (∀ x : Stm, cutV false (stC x) 6 1 = some (.c (sS x.text))) ∧
    (∀ x : Stm, cutV false (stC x) 7 1 = some (.c (strL x.list))) ∧
    (∀ x : Stm, cutV false (stC x) 8 1 = some (.c (strL x.aliases))) ∧
    (∀ x : Stm, cutV true (stC x) 9 5 = some (.agg (nsC x.source))) ∧
    (∀ x : Stm, cutV true (stC x) 14 5 = some (.agg (nsC x.target))) ∧
    (∀ x : Stm, cutV true (stC x) 19 5 = some (.agg (nsC x.cls))) ∧
    (∀ x : Stm, cutV true (stC x) 24 5 = some (.agg (nsC x.perms))) ∧
    (∀ x : Stm, cutV true (stC x) 29 10 = some (.agg (exC x.cond))) ∧
    (∀ x : Stm, cutV true (stC x) 39 2 = some (.agg (lvC x.level))) ∧
    (∀ x : Stm, cutV true (stC x) 41 4 = some (.agg (rgC x.range))) ∧
    (∀ x : Stm, cutV true (stC x) 45 7 = some (.agg (cxC x.ctx))) ∧
    (∀ x : Stm, cutV false (stC x) 52 1 = some (.c (sB x.value))) ∧
    (∀ x : Stm, cutV false (stC x) 53 1 = some (.c (.lst none 55 (x.thn.map stC)))) ∧
    (∀ x : Stm, cutV false (stC x) 54 1 = some (.c (.lst none 55 (x.els.map stC)))) ∧
    (∀ x : Stm, cutV true (stC x) 0 55 = some (.agg (stC x))) ∧
    (∀ x : Mo, cutV false (moC x) 0 1 = some (.c (sS x.name))) ∧
    (∀ x : Mo, cutV false (moC x) 1 1 = some (.c (sI x.version))) ∧
    (∀ x : Mo, cutV false (moC x) 2 1 = some (.c (.lst none 55 (x.stmts.map stC)))) ∧
    (∀ x : Mo, cutV true (moC x) 0 3 = some (.agg (moC x))) ∧
    (∀ x : Tok, cutV false (tkC x) 0 1 = some (.c (sI x.kind))) ∧
    (∀ x : Tok, cutV false (tkC x) 1 1 = some (.c (sS x.text))) ∧
    (∀ x : Tok, cutV true (tkC x) 2 2 = some (.agg (poC x.pos))) ∧
    (∀ x : Tok, cutV true (tkC x) 0 4 = some (.agg (tkC x))) ∧
    (∀ x : Fa, cutV false (faC x) 0 1 = some (.c (sI x.code))) ∧
    (∀ x : Fa, cutV true (faC x) 1 2 = some (.agg (poC x.pos))) ∧
    (∀ x : Fa, cutV false (faC x) 3 1 = some (.c (sS x.name))) ∧
    (∀ x : Fa, cutV true (faC x) 0 4 = some (.agg (faC x))) ∧
    (∀ x : Pa, cutV true (paC x) 0 5 = some (.agg (nsC x.names))) ∧
    (∀ x : Pa, cutV true (paC x) 5 10 = some (.agg (exC x.cond))) ∧
    (∀ x : Pa, cutV false (paC x) 15 1 = some (.c (sB x.validate))) ∧
    (∀ x : Pa, cutV true (paC x) 16 4 = some (.agg (rgC x.range))) ∧
    (∀ x : Pa, cutV true (paC x) 20 7 = some (.agg (cxC x.context))) ∧
    (∀ x : Pa, cutV true (paC x) 0 27 = some (.agg (paC x))) ∧
    (∀ x : Sy, cutV false (syC x) 0 1 = some (.c (sI x.kind))) ∧
    (∀ x : Sy, cutV false (syC x) 1 1 = some (.c (sS x.name))) ∧
    (∀ x : Sy, cutV false (syC x) 2 1 = some (.c (sB x.req))) ∧
    (∀ x : Sy, cutV false (syC x) 3 1 = some (.c (strL x.perms))) ∧
    (∀ x : Sy, cutV true (syC x) 4 2 = some (.agg (poC x.pos))) ∧
    (∀ x : Sy, cutV true (syC x) 0 6 = some (.agg (syC x))) := by
  refine ⟨?_, ?_, ?_, ?_, ?_, ?_, ?_, ?_, ?_, ?_, ?_, ?_, ?_, ?_, ?_, ?_, ?_, ?_, ?_, ?_, ?_, ?_, ?_, ?_, ?_, ?_, ?_, ?_, ?_, ?_, ?_, ?_, ?_, ?_, ?_, ?_, ?_, ?_, ?_, ?_, ?_, ?_, ?_, ?_, ?_, ?_, ?_, ?_, ?_, ?_, ?_, ?_, ?_, ?_, ?_, ?_, ?_, ?_, ?_, ?_, ?_, ?_, ?_, ?_, ?_, ?_, ?_, ?_, ?_, ?_, ?_, ?_, ?_, ?_, ?_, ?_, ?_, ?_, ?_, ?_⟩
  · intros; kernel_rfl
  · intros; kernel_rfl
  · intros; kernel_rfl
  · intros; kernel_rfl
  · intros; kernel_rfl
  · intros; kernel_rfl
  · intros; kernel_rfl
  · intros; kernel_rfl
  · intros; kernel_rfl
  · intros; kernel_rfl
  · intros; kernel_rfl
  · intros; kernel_rfl
  · intros; kernel_rfl
  · intros; kernel_rfl
  · intros; kernel_rfl
  · intros; kernel_rfl
  · intros; kernel_rfl
  · intros; kernel_rfl
  · intros; kernel_rfl
  · intros; kernel_rfl
  · intros; kernel_rfl
  · intros; kernel_rfl
  · intros; kernel_rfl
  · intros; kernel_rfl
  · intros; kernel_rfl
  · intros; kernel_rfl
  · intros; kernel_rfl
  · intros; kernel_rfl
  · intros; kernel_rfl
  · intros; kernel_rfl
  · intros; kernel_rfl
  · intros; rw [← exC_kids_map]; kernel_rfl
  · intros; kernel_rfl
  · intros; kernel_rfl
  · intros; kernel_rfl
  · intros; kernel_rfl
  · intros; kernel_rfl
  · intros; kernel_rfl
  · intros; kernel_rfl
  · intros; kernel_rfl
  · intros; kernel_rfl
  · intros; kernel_rfl
  · intros; kernel_rfl
  · intros; kernel_rfl
  · intros; kernel_rfl
  · intros; kernel_rfl
  · intros; kernel_rfl
  · intros; kernel_rfl
  · intros; kernel_rfl
  · intros; kernel_rfl
  · intros; kernel_rfl
  · intros; kernel_rfl
  · intros; kernel_rfl
  · intros; rw [← stC_thn_map]; kernel_rfl
  · intros; rw [← stC_els_map]; kernel_rfl
  · intros; kernel_rfl
  · intros; kernel_rfl
  · intros; kernel_rfl
  · intros; kernel_rfl
  · intros; kernel_rfl
  · intros; kernel_rfl
  · intros; kernel_rfl
  · intros; kernel_rfl
  · intros; kernel_rfl
  · intros; kernel_rfl
  · intros; kernel_rfl
  · intros; kernel_rfl
  · intros; kernel_rfl
  · intros; kernel_rfl
  · intros; kernel_rfl
  · intros; kernel_rfl
  · intros; kernel_rfl
  · intros; kernel_rfl
  · intros; kernel_rfl
  · intros; kernel_rfl
  · intros; kernel_rfl
  · intros; kernel_rfl
  · intros; kernel_rfl
  · intros; kernel_rfl
  · intros; kernel_rfl
theorem setA : (∀ (x : Sp) (y : ByteArray), setV (spC x) 0 ([sS y]) = some (spC { x with frm := y })) ∧
    (∀ (x : Sp) (y : ByteArray), setV (spC x) 1 ([sS y]) = some (spC { x with to := y })) ∧
    (∀ x y : Sp, setV (spC x) 0 (spC y) = some (spC y)) ∧
    (∀ (x : NS) (y : Bool), setV (nsC x) 0 ([sB y]) = some (nsC { x with all := y })) ∧
    (∀ (x : NS) (y : Bool), setV (nsC x) 1 ([sB y]) = some (nsC { x with nt := y })) ∧
    (∀ (x : NS) (y : Bool), setV (nsC x) 2 ([sB y]) = some (nsC { x with self := y })) ∧
    (∀ (x : NS) (y : List ByteArray), setV (nsC x) 3 ([strL y]) = some (nsC { x with names := y })) ∧
    (∀ (x : NS) (y : List ByteArray), setV (nsC x) 4 ([strL y]) = some (nsC { x with except := y })) ∧
    (∀ x y : NS, setV (nsC x) 0 (nsC y) = some (nsC y)) ∧
    (∀ (x : Lv) (y : ByteArray), setV (lvC x) 0 ([sS y]) = some (lvC { x with sens := y })) ∧
    (∀ (x : Lv) (y : List Sp), setV (lvC x) 1 ([.lst none 2 (y.map spC)]) = some (lvC { x with cats := y })) ∧
    (∀ x y : Lv, setV (lvC x) 0 (lvC y) = some (lvC y)) ∧
    (∀ (x : Rg) (y : Lv), setV (rgC x) 0 (lvC y) = some (rgC { x with lo := y })) ∧
    (∀ (x : Rg) (y : Lv), setV (rgC x) 2 (lvC y) = some (rgC { x with hi := y })) ∧
    (∀ x y : Rg, setV (rgC x) 0 (rgC y) = some (rgC y)) ∧
    (∀ (x : Ct) (y : ByteArray), setV (cxC x) 0 ([sS y]) = some (cxC { x with user := y })) ∧
    (∀ (x : Ct) (y : ByteArray), setV (cxC x) 1 ([sS y]) = some (cxC { x with role := y })) ∧
    (∀ (x : Ct) (y : ByteArray), setV (cxC x) 2 ([sS y]) = some (cxC { x with type := y })) ∧
    (∀ (x : Ct) (y : Rg), setV (cxC x) 3 (rgC y) = some (cxC { x with rng := y })) ∧
    (∀ x y : Ct, setV (cxC x) 0 (cxC y) = some (cxC y)) ∧
    (∀ (x : Se) (y : Int), setV (seC x) 0 ([sU y]) = some (seC { x with a := y })) ∧
    (∀ (x : Se) (y : Int), setV (seC x) 1 ([sU y]) = some (seC { x with b := y })) ∧
    (∀ (x : Se) (y : Int), setV (seC x) 2 ([sU y]) = some (seC { x with c := y })) ∧
    (∀ (x : Se) (y : Int), setV (seC x) 3 ([sU y]) = some (seC { x with d := y })) ∧
    (∀ x y : Se, setV (seC x) 0 (seC y) = some (seC y)) ∧
    (∀ (x : Ex) (y : Int), setV (exC x) 0 ([sI y]) = some (exC { x with op := y })) ∧
    (∀ (x : Ex) (y : Int), setV (exC x) 1 ([sI y]) = some (exC { x with a := y })) ∧
    (∀ (x : Ex) (y : Int), setV (exC x) 2 ([sI y]) = some (exC { x with rel := y })) ∧
    (∀ (x : Ex) (y : Int), setV (exC x) 3 ([sI y]) = some (exC { x with b := y })) ∧
    (∀ (x : Ex) (y : List ByteArray), setV (exC x) 4 ([strL y]) = some (exC { x with names := y })) ∧
    (∀ (x : Ex) (y : Se), setV (exC x) 5 (seC y) = some (exC { x with set := y })) ∧
    (∀ (x : Ex) (y : List Ex), setV (exC x) 9 ([.lst none 10 (y.map exC)]) = some (exC { x with kids := y })) ∧
    (∀ x y : Ex, setV (exC x) 0 (exC y) = some (exC y)) ∧
    (∀ (x : Po) (y : Int), setV (poC x) 0 ([sI y]) = some (poC { x with line := y })) ∧
    (∀ (x : Po) (y : Int), setV (poC x) 1 ([sI y]) = some (poC { x with col := y })) ∧
    (∀ x y : Po, setV (poC x) 0 (poC y) = some (poC y)) ∧
    (∀ (x : Stm) (y : Int), setV (stC x) 0 ([sI y]) = some (stC { x with kind := y })) ∧
    (∀ (x : Stm) (y : Int), setV (stC x) 1 ([sI y]) = some (stC { x with op := y })) ∧
    (∀ (x : Stm) (y : Po), setV (stC x) 2 (poC y) = some (stC { x with pos := y })) ∧
    (∀ (x : Stm) (y : ByteArray), setV (stC x) 4 ([sS y]) = some (stC { x with name := y })) ∧
    (∀ (x : Stm) (y : ByteArray), setV (stC x) 5 ([sS y]) = some (stC { x with result := y })) ∧
    (∀ (x : Stm) (y : ByteArray), setV (stC x) 6 ([sS y]) = some (stC { x with text := y })) ∧
    (∀ (x : Stm) (y : List ByteArray), setV (stC x) 7 ([strL y]) = some (stC { x with list := y })) ∧
    (∀ (x : Stm) (y : List ByteArray), setV (stC x) 8 ([strL y]) = some (stC { x with aliases := y })) ∧
    (∀ (x : Stm) (y : NS), setV (stC x) 9 (nsC y) = some (stC { x with source := y })) ∧
    (∀ (x : Stm) (y : NS), setV (stC x) 14 (nsC y) = some (stC { x with target := y })) ∧
    (∀ (x : Stm) (y : NS), setV (stC x) 19 (nsC y) = some (stC { x with cls := y })) ∧
    (∀ (x : Stm) (y : NS), setV (stC x) 24 (nsC y) = some (stC { x with perms := y })) ∧
    (∀ (x : Stm) (y : Ex), setV (stC x) 29 (exC y) = some (stC { x with cond := y })) ∧
    (∀ (x : Stm) (y : Lv), setV (stC x) 39 (lvC y) = some (stC { x with level := y })) ∧
    (∀ (x : Stm) (y : Rg), setV (stC x) 41 (rgC y) = some (stC { x with range := y })) ∧
    (∀ (x : Stm) (y : Ct), setV (stC x) 45 (cxC y) = some (stC { x with ctx := y })) ∧
    (∀ (x : Stm) (y : Bool), setV (stC x) 52 ([sB y]) = some (stC { x with value := y })) ∧
    (∀ (x : Stm) (y : List Stm), setV (stC x) 53 ([.lst none 55 (y.map stC)]) = some (stC { x with thn := y })) ∧
    (∀ (x : Stm) (y : List Stm), setV (stC x) 54 ([.lst none 55 (y.map stC)]) = some (stC { x with els := y })) ∧
    (∀ x y : Stm, setV (stC x) 0 (stC y) = some (stC y)) ∧
    (∀ (x : Mo) (y : ByteArray), setV (moC x) 0 ([sS y]) = some (moC { x with name := y })) ∧
    (∀ (x : Mo) (y : Int), setV (moC x) 1 ([sI y]) = some (moC { x with version := y })) ∧
    (∀ (x : Mo) (y : List Stm), setV (moC x) 2 ([.lst none 55 (y.map stC)]) = some (moC { x with stmts := y })) ∧
    (∀ x y : Mo, setV (moC x) 0 (moC y) = some (moC y)) ∧
    (∀ (x : Tok) (y : Int), setV (tkC x) 0 ([sI y]) = some (tkC { x with kind := y })) ∧
    (∀ (x : Tok) (y : ByteArray), setV (tkC x) 1 ([sS y]) = some (tkC { x with text := y })) ∧
    (∀ (x : Tok) (y : Po), setV (tkC x) 2 (poC y) = some (tkC { x with pos := y })) ∧
    (∀ x y : Tok, setV (tkC x) 0 (tkC y) = some (tkC y)) ∧
    (∀ (x : Fa) (y : Int), setV (faC x) 0 ([sI y]) = some (faC { x with code := y })) ∧
    (∀ (x : Fa) (y : Po), setV (faC x) 1 (poC y) = some (faC { x with pos := y })) ∧
    (∀ (x : Fa) (y : ByteArray), setV (faC x) 3 ([sS y]) = some (faC { x with name := y })) ∧
    (∀ x y : Fa, setV (faC x) 0 (faC y) = some (faC y)) ∧
    (∀ (x : Pa) (y : NS), setV (paC x) 0 (nsC y) = some (paC { x with names := y })) ∧
    (∀ (x : Pa) (y : Ex), setV (paC x) 5 (exC y) = some (paC { x with cond := y })) ∧
    (∀ (x : Pa) (y : Bool), setV (paC x) 15 ([sB y]) = some (paC { x with validate := y })) ∧
    (∀ (x : Pa) (y : Rg), setV (paC x) 16 (rgC y) = some (paC { x with range := y })) ∧
    (∀ (x : Pa) (y : Ct), setV (paC x) 20 (cxC y) = some (paC { x with context := y })) ∧
    (∀ x y : Pa, setV (paC x) 0 (paC y) = some (paC y)) ∧
    (∀ (x : Sy) (y : Int), setV (syC x) 0 ([sI y]) = some (syC { x with kind := y })) ∧
    (∀ (x : Sy) (y : ByteArray), setV (syC x) 1 ([sS y]) = some (syC { x with name := y })) ∧
    (∀ (x : Sy) (y : Bool), setV (syC x) 2 ([sB y]) = some (syC { x with req := y })) ∧
    (∀ (x : Sy) (y : List ByteArray), setV (syC x) 3 ([strL y]) = some (syC { x with perms := y })) ∧
    (∀ (x : Sy) (y : Po), setV (syC x) 4 (poC y) = some (syC { x with pos := y })) ∧
    (∀ x y : Sy, setV (syC x) 0 (syC y) = some (syC y)) := by
  refine ⟨?_, ?_, ?_, ?_, ?_, ?_, ?_, ?_, ?_, ?_, ?_, ?_, ?_, ?_, ?_, ?_, ?_, ?_, ?_, ?_, ?_, ?_, ?_, ?_, ?_, ?_, ?_, ?_, ?_, ?_, ?_, ?_, ?_, ?_, ?_, ?_, ?_, ?_, ?_, ?_, ?_, ?_, ?_, ?_, ?_, ?_, ?_, ?_, ?_, ?_, ?_, ?_, ?_, ?_, ?_, ?_, ?_, ?_, ?_, ?_, ?_, ?_, ?_, ?_, ?_, ?_, ?_, ?_, ?_, ?_, ?_, ?_, ?_, ?_, ?_, ?_, ?_, ?_, ?_, ?_⟩
  · intros; kernel_rfl
  · intros; kernel_rfl
  · intros; kernel_rfl
  · intros; kernel_rfl
  · intros; kernel_rfl
  · intros; kernel_rfl
  · intros; kernel_rfl
  · intros; kernel_rfl
  · intros; kernel_rfl
  · intros; kernel_rfl
  · intros; kernel_rfl
  · intros; kernel_rfl
  · intros; kernel_rfl
  · intros; kernel_rfl
  · intros; kernel_rfl
  · intros; kernel_rfl
  · intros; kernel_rfl
  · intros; kernel_rfl
  · intros; kernel_rfl
  · intros; kernel_rfl
  · intros; kernel_rfl
  · intros; kernel_rfl
  · intros; kernel_rfl
  · intros; kernel_rfl
  · intros; kernel_rfl
  · intro x y; cases x; kernel_rfl
  · intro x y; cases x; kernel_rfl
  · intro x y; cases x; kernel_rfl
  · intro x y; cases x; kernel_rfl
  · intro x y; cases x; kernel_rfl
  · intro x y; cases x; kernel_rfl
  · intro x y; cases x; rw [← exCs_map]; kernel_rfl
  · intros; kernel_rfl
  · intros; kernel_rfl
  · intros; kernel_rfl
  · intros; kernel_rfl
  · intro x y; cases x; kernel_rfl
  · intro x y; cases x; kernel_rfl
  · intro x y; cases x; kernel_rfl
  · intro x y; cases x; kernel_rfl
  · intro x y; cases x; kernel_rfl
  · intro x y; cases x; kernel_rfl
  · intro x y; cases x; kernel_rfl
  · intro x y; cases x; kernel_rfl
  · intro x y; cases x; kernel_rfl
  · intro x y; cases x; kernel_rfl
  · intro x y; cases x; kernel_rfl
  · intro x y; cases x; kernel_rfl
  · intro x y; cases x; kernel_rfl
  · intro x y; cases x; kernel_rfl
  · intro x y; cases x; kernel_rfl
  · intro x y; cases x; kernel_rfl
  · intro x y; cases x; kernel_rfl
  · intro x y; cases x; rw [← stCs_map]; kernel_rfl
  · intro x y; cases x; rw [← stCs_map]; kernel_rfl
  · intros; kernel_rfl
  · intros; kernel_rfl
  · intros; kernel_rfl
  · intros; kernel_rfl
  · intros; kernel_rfl
  · intros; kernel_rfl
  · intros; kernel_rfl
  · intros; kernel_rfl
  · intros; kernel_rfl
  · intros; kernel_rfl
  · intros; kernel_rfl
  · intros; kernel_rfl
  · intros; kernel_rfl
  · intros; kernel_rfl
  · intros; kernel_rfl
  · intros; kernel_rfl
  · intros; kernel_rfl
  · intros; kernel_rfl
  · intros; kernel_rfl
  · intros; kernel_rfl
  · intros; kernel_rfl
  · intros; kernel_rfl
  · intros; kernel_rfl
  · intros; kernel_rfl
  · intros; kernel_rfl
theorem ok_str (d : Nat → Bool) (l : List ByteArray) : C.ok d (strL l) = true := by
  show (true && okLL d _) = true
  rw [Bool.true_and]
  induction l with
  | nil => rfl
  | cons x l ih => rw [List.map_cons, okLL, ih]; rfl
theorem un_str (l : List ByteArray) : C.un (strL l) = strL l := by
  rw [C.un, unLL_map, List.map_map]
  rfl
theorem ok_maps {α : Type} {f : α → List C} {d : Nat → Bool} : ∀ l : List α, (∀ x ∈ l, okL d (f x) = true) → okLL d (l.map f) = true
  | [], _ => rfl
  | x :: l, h => by rw [List.map_cons, okLL, h x (.head _), ok_maps l fun y hy => h y (.tail _ hy)]; rfl
theorem un_maps {α : Type} {f : α → List C} : ∀ l : List α, (∀ x ∈ l, unL (f x) = f x) → unLL (l.map f) = l.map f
  | [], _ => rfl
  | x :: l, h => by rw [List.map_cons, unLL, h x (.head _), un_maps l fun y hy => h y (.tail _ hy)]
theorem ok_app (d : Nat → Bool) : ∀ a b : List C, okL d (a ++ b) = (okL d a && okL d b)
  | [], b => by rw [List.nil_append, okL, Bool.true_and]
  | x :: a, b => by rw [List.cons_append, okL, okL, ok_app d a b, Bool.and_assoc]
theorem un_app : ∀ a b : List C, unL (a ++ b) = unL a ++ unL b
  | [], b => rfl
  | x :: a, b => by rw [List.cons_append, unL, unL, un_app a b]; rfl
theorem ok_lst (d : Nat → Bool) (k : Nat) (xs : List (List C)) : C.ok d (.lst none k xs) = okLL d xs := by rw [C.ok]; simp
theorem un_lst (k : Nat) (xs : List (List C)) : C.un (.lst none k xs) = .lst none k (unLL xs) := by rw [C.un]
theorem ok_sc (d : Nat → Bool) (v : Value) : C.ok d (.sc v) = true := rfl
theorem un_sc (v : Value) : C.un (.sc v) = .sc v := rfl
theorem ok_one (d : Nat → Bool) (l : List ByteArray) : okLL d (l.map oneS) = true := ok_maps l fun x _ => rfl
theorem un_one (l : List ByteArray) : unLL (l.map oneS) = l.map oneS := un_maps l fun x _ => rfl
theorem ok_spC (d : Nat → Bool) (x : Sp) : okL d (spC x) = true := by simp [spC, ok_one, ok_app, ok_str, ok_lst, ok_sc, okL, okLL]
theorem un_spC (x : Sp) : unL (spC x) = spC x := by simp [spC, un_one, un_app, un_str, un_lst, un_sc, unL, unLL]
theorem ok_nsC (d : Nat → Bool) (x : NS) : okL d (nsC x) = true := by simp [nsC, ok_one, ok_app, ok_str, ok_lst, ok_sc, okL, okLL, ok_spC]
theorem un_nsC (x : NS) : unL (nsC x) = nsC x := by simp [nsC, un_one, un_app, un_str, un_lst, un_sc, unL, unLL, un_spC]
theorem ok_lvC (d : Nat → Bool) (x : Lv) : okL d (lvC x) = true := by simp [lvC, ok_one, ok_app, ok_str, ok_lst, ok_sc, okL, okLL, ok_spC, ok_nsC, ok_maps x.cats fun y _ => ok_spC d y]
theorem un_lvC (x : Lv) : unL (lvC x) = lvC x := by simp [lvC, un_one, un_app, un_str, un_lst, un_sc, unL, unLL, un_spC, un_nsC, un_maps x.cats fun y _ => un_spC y]
theorem ok_rgC (d : Nat → Bool) (x : Rg) : okL d (rgC x) = true := by simp [rgC, ok_one, ok_app, ok_str, ok_lst, ok_sc, okL, okLL, ok_spC, ok_nsC, ok_lvC]
theorem un_rgC (x : Rg) : unL (rgC x) = rgC x := by simp [rgC, un_one, un_app, un_str, un_lst, un_sc, unL, unLL, un_spC, un_nsC, un_lvC]
theorem ok_cxC (d : Nat → Bool) (x : Ct) : okL d (cxC x) = true := by simp [cxC, ok_one, ok_app, ok_str, ok_lst, ok_sc, okL, okLL, ok_spC, ok_nsC, ok_lvC, ok_rgC]
theorem un_cxC (x : Ct) : unL (cxC x) = cxC x := by simp [cxC, un_one, un_app, un_str, un_lst, un_sc, unL, unLL, un_spC, un_nsC, un_lvC, un_rgC]
theorem ok_seC (d : Nat → Bool) (x : Se) : okL d (seC x) = true := by simp [seC, ok_one, ok_app, ok_str, ok_lst, ok_sc, okL, okLL, ok_spC, ok_nsC, ok_lvC, ok_rgC, ok_cxC]
theorem un_seC (x : Se) : unL (seC x) = seC x := by simp [seC, un_one, un_app, un_str, un_lst, un_sc, unL, unLL, un_spC, un_nsC, un_lvC, un_rgC, un_cxC]
mutual
theorem ok_exC_kids (d : Nat → Bool) : ∀ x : Ex, okLL d (exC_kids x) = true
  | ⟨_, _, _, _, _, _, kids⟩ => by rw [exC_kids]; exact ok_exCs d kids
theorem ok_exCs (d : Nat → Bool) : ∀ l : List Ex, okLL d (exCs l) = true
  | [] => by rw [exCs, okLL]
  | x :: l => by rw [exCs, okLL, ok_exCs d l]; simp [ok_one, ok_app, ok_str, ok_lst, ok_sc, okL, okLL, ok_spC, ok_nsC, ok_lvC, ok_rgC, ok_cxC, ok_seC, ok_exC_kids d x]
end
theorem ok_exC (d : Nat → Bool) (x : Ex) : okL d (exC x) = true := by simp [exC, ok_one, ok_app, ok_str, ok_lst, ok_sc, okL, okLL, ok_spC, ok_nsC, ok_lvC, ok_rgC, ok_cxC, ok_seC, ok_exC_kids d x]
mutual
theorem un_exC_kids : ∀ x : Ex, unLL (exC_kids x) = exC_kids x
  | ⟨_, _, _, _, _, _, kids⟩ => by rw [exC_kids]; exact un_exCs kids
theorem un_exCs : ∀ l : List Ex, unLL (exCs l) = exCs l
  | [] => by rw [exCs, unLL]
  | x :: l => by rw [exCs, unLL, un_exCs l]; simp [un_one, un_app, un_str, un_lst, un_sc, unL, unLL, un_spC, un_nsC, un_lvC, un_rgC, un_cxC, un_seC, un_exC_kids x]
end
theorem un_exC (x : Ex) : unL (exC x) = exC x := by simp [exC, un_one, un_app, un_str, un_lst, un_sc, unL, unLL, un_spC, un_nsC, un_lvC, un_rgC, un_cxC, un_seC, un_exC_kids x]
theorem ok_poC (d : Nat → Bool) (x : Po) : okL d (poC x) = true := by simp [poC, ok_one, ok_app, ok_str, ok_lst, ok_sc, okL, okLL, ok_spC, ok_nsC, ok_lvC, ok_rgC, ok_cxC, ok_seC, ok_exC]
theorem un_poC (x : Po) : unL (poC x) = poC x := by simp [poC, un_one, un_app, un_str, un_lst, un_sc, unL, unLL, un_spC, un_nsC, un_lvC, un_rgC, un_cxC, un_seC, un_exC]
mutual
theorem ok_stC_thn (d : Nat → Bool) : ∀ x : Stm, okLL d (stC_thn x) = true
  | ⟨_, _, _, _, _, _, _, _, _, _, _, _, _, _, _, _, _, thn, _⟩ => by rw [stC_thn]; exact ok_stCs d thn
theorem ok_stC_els (d : Nat → Bool) : ∀ x : Stm, okLL d (stC_els x) = true
  | ⟨_, _, _, _, _, _, _, _, _, _, _, _, _, _, _, _, _, _, els⟩ => by rw [stC_els]; exact ok_stCs d els
theorem ok_stCs (d : Nat → Bool) : ∀ l : List Stm, okLL d (stCs l) = true
  | [] => by rw [stCs, okLL]
  | x :: l => by rw [stCs, okLL, ok_stCs d l]; simp [ok_one, ok_app, ok_str, ok_lst, ok_sc, okL, okLL, ok_spC, ok_nsC, ok_lvC, ok_rgC, ok_cxC, ok_seC, ok_exC, ok_poC, ok_stC_thn d x, ok_stC_els d x]
end
theorem ok_stC (d : Nat → Bool) (x : Stm) : okL d (stC x) = true := by simp [stC, ok_one, ok_app, ok_str, ok_lst, ok_sc, okL, okLL, ok_spC, ok_nsC, ok_lvC, ok_rgC, ok_cxC, ok_seC, ok_exC, ok_poC, ok_stC_thn d x, ok_stC_els d x]
mutual
theorem un_stC_thn : ∀ x : Stm, unLL (stC_thn x) = stC_thn x
  | ⟨_, _, _, _, _, _, _, _, _, _, _, _, _, _, _, _, _, thn, _⟩ => by rw [stC_thn]; exact un_stCs thn
theorem un_stC_els : ∀ x : Stm, unLL (stC_els x) = stC_els x
  | ⟨_, _, _, _, _, _, _, _, _, _, _, _, _, _, _, _, _, _, els⟩ => by rw [stC_els]; exact un_stCs els
theorem un_stCs : ∀ l : List Stm, unLL (stCs l) = stCs l
  | [] => by rw [stCs, unLL]
  | x :: l => by rw [stCs, unLL, un_stCs l]; simp [un_one, un_app, un_str, un_lst, un_sc, unL, unLL, un_spC, un_nsC, un_lvC, un_rgC, un_cxC, un_seC, un_exC, un_poC, un_stC_thn x, un_stC_els x]
end
theorem un_stC (x : Stm) : unL (stC x) = stC x := by simp [stC, un_one, un_app, un_str, un_lst, un_sc, unL, unLL, un_spC, un_nsC, un_lvC, un_rgC, un_cxC, un_seC, un_exC, un_poC, un_stC_thn x, un_stC_els x]
theorem ok_moC (d : Nat → Bool) (x : Mo) : okL d (moC x) = true := by simp [moC, ok_one, ok_app, ok_str, ok_lst, ok_sc, okL, okLL, ok_spC, ok_nsC, ok_lvC, ok_rgC, ok_cxC, ok_seC, ok_exC, ok_poC, ok_stC, ok_maps x.stmts fun y _ => ok_stC d y]
theorem un_moC (x : Mo) : unL (moC x) = moC x := by simp [moC, un_one, un_app, un_str, un_lst, un_sc, unL, unLL, un_spC, un_nsC, un_lvC, un_rgC, un_cxC, un_seC, un_exC, un_poC, un_stC, un_maps x.stmts fun y _ => un_stC y]
theorem ok_tkC (d : Nat → Bool) (x : Tok) : okL d (tkC x) = true := by simp [tkC, ok_one, ok_app, ok_str, ok_lst, ok_sc, okL, okLL, ok_spC, ok_nsC, ok_lvC, ok_rgC, ok_cxC, ok_seC, ok_exC, ok_poC, ok_stC, ok_moC]
theorem un_tkC (x : Tok) : unL (tkC x) = tkC x := by simp [tkC, un_one, un_app, un_str, un_lst, un_sc, unL, unLL, un_spC, un_nsC, un_lvC, un_rgC, un_cxC, un_seC, un_exC, un_poC, un_stC, un_moC]
theorem ok_faC (d : Nat → Bool) (x : Fa) : okL d (faC x) = true := by simp [faC, ok_one, ok_app, ok_str, ok_lst, ok_sc, okL, okLL, ok_spC, ok_nsC, ok_lvC, ok_rgC, ok_cxC, ok_seC, ok_exC, ok_poC, ok_stC, ok_moC, ok_tkC]
theorem un_faC (x : Fa) : unL (faC x) = faC x := by simp [faC, un_one, un_app, un_str, un_lst, un_sc, unL, unLL, un_spC, un_nsC, un_lvC, un_rgC, un_cxC, un_seC, un_exC, un_poC, un_stC, un_moC, un_tkC]
theorem ok_paC (d : Nat → Bool) (x : Pa) : okL d (paC x) = true := by simp [paC, ok_one, ok_app, ok_str, ok_lst, ok_sc, okL, okLL, ok_spC, ok_nsC, ok_lvC, ok_rgC, ok_cxC, ok_seC, ok_exC, ok_poC, ok_stC, ok_moC, ok_tkC, ok_faC]
theorem un_paC (x : Pa) : unL (paC x) = paC x := by simp [paC, un_one, un_app, un_str, un_lst, un_sc, unL, unLL, un_spC, un_nsC, un_lvC, un_rgC, un_cxC, un_seC, un_exC, un_poC, un_stC, un_moC, un_tkC, un_faC]
theorem ok_syC (d : Nat → Bool) (x : Sy) : okL d (syC x) = true := by simp [syC, ok_one, ok_app, ok_str, ok_lst, ok_sc, okL, okLL, ok_spC, ok_nsC, ok_lvC, ok_rgC, ok_cxC, ok_seC, ok_exC, ok_poC, ok_stC, ok_moC, ok_tkC, ok_faC, ok_paC]
theorem un_syC (x : Sy) : unL (syC x) = syC x := by simp [syC, un_one, un_app, un_str, un_lst, un_sc, unL, unLL, un_spC, un_nsC, un_lvC, un_rgC, un_cxC, un_seC, un_exC, un_poC, un_stC, un_moC, un_tkC, un_faC, un_paC]
theorem okA : (∀ d l, C.ok d (strL l) = true) ∧
    (∀ d (l : List ByteArray), okLL d (l.map oneS) = true) ∧
    (∀ d x, okL d (spC x) = true) ∧
    (∀ d x, okL d (nsC x) = true) ∧
    (∀ d x, okL d (lvC x) = true) ∧
    (∀ d x, okL d (rgC x) = true) ∧
    (∀ d x, okL d (cxC x) = true) ∧
    (∀ d x, okL d (seC x) = true) ∧
    (∀ d x, okL d (exC x) = true) ∧
    (∀ d x, okL d (poC x) = true) ∧
    (∀ d x, okL d (stC x) = true) ∧
    (∀ d x, okL d (moC x) = true) ∧
    (∀ d x, okL d (tkC x) = true) ∧
    (∀ d x, okL d (faC x) = true) ∧
    (∀ d x, okL d (paC x) = true) ∧
    (∀ d x, okL d (syC x) = true) ∧
    (∀ d (l : List Sp), okLL d (l.map spC) = true) ∧
    (∀ d (l : List NS), okLL d (l.map nsC) = true) ∧
    (∀ d (l : List Lv), okLL d (l.map lvC) = true) ∧
    (∀ d (l : List Rg), okLL d (l.map rgC) = true) ∧
    (∀ d (l : List Ct), okLL d (l.map cxC) = true) ∧
    (∀ d (l : List Se), okLL d (l.map seC) = true) ∧
    (∀ d (l : List Ex), okLL d (l.map exC) = true) ∧
    (∀ d (l : List Po), okLL d (l.map poC) = true) ∧
    (∀ d (l : List Stm), okLL d (l.map stC) = true) ∧
    (∀ d (l : List Mo), okLL d (l.map moC) = true) ∧
    (∀ d (l : List Tok), okLL d (l.map tkC) = true) ∧
    (∀ d (l : List Fa), okLL d (l.map faC) = true) ∧
    (∀ d (l : List Pa), okLL d (l.map paC) = true) ∧
    (∀ d (l : List Sy), okLL d (l.map syC) = true) :=
  ⟨ok_str, ok_one, ok_spC, ok_nsC, ok_lvC, ok_rgC, ok_cxC, ok_seC, ok_exC, ok_poC, ok_stC, ok_moC, ok_tkC, ok_faC, ok_paC, ok_syC, fun d l => ok_maps l fun x _ => ok_spC d x, fun d l => ok_maps l fun x _ => ok_nsC d x, fun d l => ok_maps l fun x _ => ok_lvC d x, fun d l => ok_maps l fun x _ => ok_rgC d x, fun d l => ok_maps l fun x _ => ok_cxC d x, fun d l => ok_maps l fun x _ => ok_seC d x, fun d l => ok_maps l fun x _ => ok_exC d x, fun d l => ok_maps l fun x _ => ok_poC d x, fun d l => ok_maps l fun x _ => ok_stC d x, fun d l => ok_maps l fun x _ => ok_moC d x, fun d l => ok_maps l fun x _ => ok_tkC d x, fun d l => ok_maps l fun x _ => ok_faC d x, fun d l => ok_maps l fun x _ => ok_paC d x, fun d l => ok_maps l fun x _ => ok_syC d x⟩
theorem unA : (∀ l, C.un (strL l) = strL l) ∧
    (∀ l : List ByteArray, unLL (l.map oneS) = l.map oneS) ∧
    (∀ x, unL (spC x) = spC x) ∧
    (∀ x, unL (nsC x) = nsC x) ∧
    (∀ x, unL (lvC x) = lvC x) ∧
    (∀ x, unL (rgC x) = rgC x) ∧
    (∀ x, unL (cxC x) = cxC x) ∧
    (∀ x, unL (seC x) = seC x) ∧
    (∀ x, unL (exC x) = exC x) ∧
    (∀ x, unL (poC x) = poC x) ∧
    (∀ x, unL (stC x) = stC x) ∧
    (∀ x, unL (moC x) = moC x) ∧
    (∀ x, unL (tkC x) = tkC x) ∧
    (∀ x, unL (faC x) = faC x) ∧
    (∀ x, unL (paC x) = paC x) ∧
    (∀ x, unL (syC x) = syC x) ∧
    (∀ l : List Sp, unLL (l.map spC) = l.map spC) ∧
    (∀ l : List NS, unLL (l.map nsC) = l.map nsC) ∧
    (∀ l : List Lv, unLL (l.map lvC) = l.map lvC) ∧
    (∀ l : List Rg, unLL (l.map rgC) = l.map rgC) ∧
    (∀ l : List Ct, unLL (l.map cxC) = l.map cxC) ∧
    (∀ l : List Se, unLL (l.map seC) = l.map seC) ∧
    (∀ l : List Ex, unLL (l.map exC) = l.map exC) ∧
    (∀ l : List Po, unLL (l.map poC) = l.map poC) ∧
    (∀ l : List Stm, unLL (l.map stC) = l.map stC) ∧
    (∀ l : List Mo, unLL (l.map moC) = l.map moC) ∧
    (∀ l : List Tok, unLL (l.map tkC) = l.map tkC) ∧
    (∀ l : List Fa, unLL (l.map faC) = l.map faC) ∧
    (∀ l : List Pa, unLL (l.map paC) = l.map paC) ∧
    (∀ l : List Sy, unLL (l.map syC) = l.map syC) :=
  ⟨un_str, un_one, un_spC, un_nsC, un_lvC, un_rgC, un_cxC, un_seC, un_exC, un_poC, un_stC, un_moC, un_tkC, un_faC, un_paC, un_syC, fun l => un_maps l fun x _ => un_spC x, fun l => un_maps l fun x _ => un_nsC x, fun l => un_maps l fun x _ => un_lvC x, fun l => un_maps l fun x _ => un_rgC x, fun l => un_maps l fun x _ => un_cxC x, fun l => un_maps l fun x _ => un_seC x, fun l => un_maps l fun x _ => un_exC x, fun l => un_maps l fun x _ => un_poC x, fun l => un_maps l fun x _ => un_stC x, fun l => un_maps l fun x _ => un_moC x, fun l => un_maps l fun x _ => un_tkC x, fun l => un_maps l fun x _ => un_faC x, fun l => un_maps l fun x _ => un_paC x, fun l => un_maps l fun x _ => un_syC x⟩
theorem lenA : (∀ x, (spC x).length = 2) ∧ (∀ x, (nsC x).length = 5) ∧ (∀ x, (lvC x).length = 2) ∧ (∀ x, (rgC x).length = 4) ∧ (∀ x, (cxC x).length = 7) ∧ (∀ x, (seC x).length = 4) ∧ (∀ x, (exC x).length = 10) ∧ (∀ x, (poC x).length = 2) ∧ (∀ x, (stC x).length = 55) ∧ (∀ x, (moC x).length = 3) ∧ (∀ x, (tkC x).length = 4) ∧ (∀ x, (faC x).length = 4) ∧ (∀ x, (paC x).length = 27) ∧ (∀ x, (syC x).length = 6) :=
  ⟨spC_len, nsC_len, lvC_len, rgC_len, cxC_len, seC_len, exC_len, poC_len, stC_len, moC_len, tkC_len, faC_len, paC_len, syC_len⟩
end Am
namespace Am
variable [Tb]
open Go.RowKit
section
variable {P : Program} {nt : Nat} {Q : Exit → St → Prop} {N : St → Prop} {σ : St} {id i : Nat} {y : Code} {l : List Oper}
def Ret (P : Program) (rl : List ResultVar) (r : V) : Exit → St → Prop := fun e σ => (e = .ret ∨ e = .normal) ∧ ∃ vs, ARes P σ rl vs ∧ (one vs).un = r
theorem w_reg (hl : (l.all fun o => match o.dst with | some t => decide (t < nt) | none => true) = true) (h : AL P l.toArray l σ [] fun σ' _ => AW P nt y Q σ') : AW P nt (.seq (.region id l.toArray false) y) Q σ := .seq (.region hl h)
theorem w_drw (hl : (l.all fun o => match o.dst with | some t => decide (t < nt) | none => true) = true) (hm : P.follows .mixedOrders = true) (h : AL P l.toArray l σ [] fun σ' fs => chkD l.toArray fs = true ∧ AW P nt y Q σ') : AW P nt (.seq (.region id l.toArray true) y) Q σ := .seq (.drawn hl hm h)
theorem q_then (h : N σ) : thenQ N Q .normal σ := h
theorem q_thenR (h : Q .ret σ) : thenQ N Q .ret σ := h
theorem q_thenE (h : Q (.exit i) σ) : thenQ N Q (.exit i) σ := h
theorem q_bloN (h : Q .normal σ) : blockQ id Q .normal σ := h
theorem q_bloR (h : Q .ret σ) : blockQ id Q .ret σ := h
theorem q_bloE (h : Q .normal σ) : blockQ id Q (.exit id) σ := by simp only [blockQ, if_true]; exact h
theorem q_bloX (hi : Nat.beq i id = false) (h : Q (.exit i) σ) : blockQ id Q (.exit i) σ := by
  have : i ≠ id := fun e => by rw [e] at hi; simp at hi
  simp only [blockQ, this, if_false]; exact h
theorem q_strN (h : Q .normal σ) : straightQ Q .normal σ := h
theorem q_strR (h : Q .ret σ) : straightQ Q .ret σ := h
theorem q_strE (h : Q (.exit i) σ) : straightQ Q (.exit i) σ := h
theorem r_v {t : Nat} {v r : V} (hx : Ev (evA σ.sl) (.tmp t) v) (h : v.un = r) : Ret P [.tmp t] r .ret σ := ⟨.inl rfl, [v], .tmp hx .nil, h⟩
theorem r_b {t : Nat} {a b : Bool} (hx : Ev (evA σ.sl) (.tmp t) (.c (.sc (.bool a)))) (h : a = b) : Ret P [.tmp t] (.c (.sc (.bool b))) .ret σ := h ▸ ⟨.inl rfl, [_], .tmp hx .nil, rfl⟩
theorem r_i {t : Nat} {k : IntKind} {a b : Int} (hx : Ev (evA σ.sl) (.tmp t) (.c (.sc (.int k a)))) (h : a = b) : Ret P [.tmp t] (.c (.sc (.int k b))) .ret σ := h ▸ ⟨.inl rfl, [_], .tmp hx .nil, rfl⟩
theorem r_s {t : Nat} {a b : ByteArray} (hx : Ev (evA σ.sl) (.tmp t) (.c (.sc (.string a)))) (h : a = b) : Ret P [.tmp t] (.c (.sc (.string b))) .ret σ := h ▸ ⟨.inl rfl, [_], .tmp hx .nil, rfl⟩
theorem un_b {a b : Bool} (h : a = b) : (V.c (.sc (.bool a))).un = .c (.sc (.bool b)) := h ▸ rfl
theorem un_i {k : IntKind} {a b : Int} (h : a = b) : (V.c (.sc (.int k a))).un = .c (.sc (.int k b)) := h ▸ rfl
theorem un_s {a b : ByteArray} (h : a = b) : (V.c (.sc (.string a))).un = .c (.sc (.string b)) := h ▸ rfl
theorem un_a {a b : List C} (h : unL a = b) : (V.agg a).un = .agg b := h ▸ rfl
theorem r_0 : Ret P [] (.tup []) .ret σ := ⟨.inl rfl, [], .nil, rfl⟩
theorem r_0n : Ret P [] (.tup []) .normal σ := ⟨.inr rfl, [], .nil, rfl⟩
theorem r_2 {t u : Nat} {v1 v2 u1 u2 : V} (h1 : Ev (evA σ.sl) (.tmp t) v1) (h2 : Ev (evA σ.sl) (.tmp u) v2) (e1 : v1.un = u1) (e2 : v2.un = u2) : Ret P [.tmp t, .tmp u] (.tup [u1, u2]) .ret σ := by
  subst e1 e2
  exact ⟨.inl rfl, [v1, v2], .tmp h1 (.tmp h2 .nil), rfl⟩
theorem r_2c {t u ty n off ty0 k : Nat} {cs : List C} {b : Bool} {v1 v2 u1 u2 : V} (h1 : Ev (evA σ.sl) (.tmp t) v1) (h2 : Ev (evA σ.sl) (.tmp u) (.c (.ptr n off))) (hh : σ.hp n = some (.obj ty0 cs)) (ht : tyi P ty = some (k, b)) (hc : cutV b cs off k = some v2) (e1 : v1.un = u1) (e2 : v2.un = u2) : Ret P [.tmp t, .cell u ty] (.tup [u1, u2]) .ret σ := by
  subst e1 e2
  exact ⟨.inl rfl, [v1, v2], .tmp h1 (.cell h2 hh ht hc .nil), rfl⟩
theorem m_b {rl : List ResultVar} {r : V} {ty e : TypeId} {bs bs' : List Value} {x : Exit} (hh : σ.hp 0 = some (.bld ty e bs)) (h : bs = bs') (k : Ret P rl r x σ) : RetM P rl r (.bld ty e bs') x σ := ⟨k.1, ⟨_, hh, by rw [h]; rfl⟩, k.2⟩
theorem m_o {rl : List ResultVar} {r : V} {ty : TypeId} {cs cs' : List C} {x : Exit} (hh : σ.hp 0 = some (.obj ty cs)) (h : unL cs = cs') (k : Ret P rl r x σ) : RetM P rl r (.obj ty cs') x σ := ⟨k.1, ⟨_, hh, by rw [← h]; rfl⟩, k.2⟩
theorem m_g {rl : List ResultVar} {r : V} {x : Exit} (hh : σ.hp 0 = some .gone) (k : Ret P rl r x σ) : RetM P rl r .gone x σ := ⟨k.1, ⟨_, hh, rfl⟩, k.2⟩
end
section
variable {P : Program} {f nt : Nat} {fn : Func} {c : Code} {rl : List ResultVar} {r a0 a1 a2 a3 a4 : V}
theorem fn0 (hc : Callable P f) (hf : P.funcs[f]? = some fn) (hb : fn.body = some c) (hn : fn.ntmps = nt) (hres : fn.results = rl.toArray) (hl : Nat.ble 0 nt = true) (hr : V.ok noN r = true) (h : AW P nt c (Ret P rl r) (mk [] [])) : Pure P f [] r :=
  Pure.of hc hf hb hn (Nat.le_of_ble_eq_true hl) hr (by
    have e : (⟨fun i => ([] : List V)[i]?, fun _ => none⟩ : St) = mk [] [] := by congr
    rw [e, hres]; exact h)
theorem fn1 (hc : Callable P f) (hf : P.funcs[f]? = some fn) (hb : fn.body = some c) (hn : fn.ntmps = nt) (hres : fn.results = rl.toArray) (hl : Nat.ble 1 nt = true) (hr : V.ok noN r = true) (h : AW P nt c (Ret P rl r) (mk [(0, a0)] [])) : Pure P f [a0] r :=
  Pure.of hc hf hb hn (Nat.le_of_ble_eq_true hl) hr (by
    have e : (⟨fun i => [a0][i]?, fun _ => none⟩ : St) = mk [(0, a0)] [] := by
      congr 1
      funext i
      match i with
      | 0 => rfl
      | i + 1 => rfl
    rw [e, hres]; exact h)
theorem fn2 (hc : Callable P f) (hf : P.funcs[f]? = some fn) (hb : fn.body = some c) (hn : fn.ntmps = nt) (hres : fn.results = rl.toArray) (hl : Nat.ble 2 nt = true) (hr : V.ok noN r = true) (h : AW P nt c (Ret P rl r) (mk [(0, a0), (1, a1)] [])) : Pure P f [a0, a1] r :=
  Pure.of hc hf hb hn (Nat.le_of_ble_eq_true hl) hr (by
    have e : (⟨fun i => [a0, a1][i]?, fun _ => none⟩ : St) = mk [(0, a0), (1, a1)] [] := by
      congr 1
      funext i
      match i with
      | 0 => rfl
      | 1 => rfl
      | i + 2 => rfl
    rw [e, hres]; exact h)
theorem fn3 (hc : Callable P f) (hf : P.funcs[f]? = some fn) (hb : fn.body = some c) (hn : fn.ntmps = nt) (hres : fn.results = rl.toArray) (hl : Nat.ble 3 nt = true) (hr : V.ok noN r = true) (h : AW P nt c (Ret P rl r) (mk [(0, a0), (1, a1), (2, a2)] [])) : Pure P f [a0, a1, a2] r :=
  Pure.of hc hf hb hn (Nat.le_of_ble_eq_true hl) hr (by
    have e : (⟨fun i => [a0, a1, a2][i]?, fun _ => none⟩ : St) = mk [(0, a0), (1, a1), (2, a2)] [] := by
      congr 1
      funext i
      match i with
      | 0 => rfl
      | 1 => rfl
      | 2 => rfl
      | i + 3 => rfl
    rw [e, hres]; exact h)
theorem fm2 {o o' : HO} (hc : Callable P f) (hf : P.funcs[f]? = some fn) (hb : fn.body = some c) (hn : fn.ntmps = nt) (hres : fn.results = rl.toArray) (hl : Nat.ble 2 nt = true) (hr : V.ok noN r = true) (h1 : o.one = true) (h2 : o'.one = true) (h : AW P nt c (RetM P rl r o') (mk [(0, .c (.ptr 0 0)), (1, a1)] [(0, o)])) : MC P f o [a1] r o' :=
  MC.of hc hf hb hn (Nat.le_of_ble_eq_true hl) hr h1 h2 (by
    have e : (⟨fun i => ([V.c (.ptr 0 0), a1] : List V)[i]?, fun n => if n = 0 then some o else none⟩ : St) = mk [(0, .c (.ptr 0 0)), (1, a1)] [(0, o)] := by
      congr 1
      · funext i
        match i with
        | 0 => rfl
        | 1 => rfl
        | i + 2 => rfl
      · funext i
        match i with
        | 0 => rfl
        | i + 1 => rfl
    rw [e, hres]; exact h)
theorem fm3 {o o' : HO} (hc : Callable P f) (hf : P.funcs[f]? = some fn) (hb : fn.body = some c) (hn : fn.ntmps = nt) (hres : fn.results = rl.toArray) (hl : Nat.ble 3 nt = true) (hr : V.ok noN r = true) (h1 : o.one = true) (h2 : o'.one = true) (h : AW P nt c (RetM P rl r o') (mk [(0, .c (.ptr 0 0)), (1, a1), (2, a2)] [(0, o)])) : MC P f o [a1, a2] r o' :=
  MC.of hc hf hb hn (Nat.le_of_ble_eq_true hl) hr h1 h2 (by
    have e : (⟨fun i => ([V.c (.ptr 0 0), a1, a2] : List V)[i]?, fun n => if n = 0 then some o else none⟩ : St) = mk [(0, .c (.ptr 0 0)), (1, a1), (2, a2)] [(0, o)] := by
      congr 1
      · funext i
        match i with
        | 0 => rfl
        | 1 => rfl
        | 2 => rfl
        | i + 3 => rfl
      · funext i
        match i with
        | 0 => rfl
        | i + 1 => rfl
    rw [e, hres]; exact h)
end
section
variable {P : Program} {ρ : Operand → Option V} {H : Nat → Option HO} {d : Option Nat} {ty : TypeId} {pos : String} {af : Array Edge} {gu : Option (Nat × Bool)} {x : Operand}
end
section
variable {P : Program} {ρ : Operand → Option V} {H : Nat → Option HO} {d : Option Nat} {ty : TypeId} {pos : String} {af : Array Edge} {gu : Option (Nat × Bool)} {x : Operand}
theorem a_eye {args : Array Operand} {ats : Array TypeId} {f : Nat} {caps : List C} {vs us : List V} {r : V} {ns : List Nat} (hx : Ev ρ x (.c (.fn f caps))) (hv : EvL ρ args.toList vs) (hn : (vs ++ caps.map V.c).flatMap ptV = ns) (hu : (vs ++ caps.map V.c).map (snV H) = us) (hP : Pure P f us r) (hok : okV noN us = true) (hsc : scO r = true) :
    AS P ρ H ⟨d, .call { callee := .value x, args := args, argTypes := ats }, ty, pos, af, gu⟩ ⟨r, none, ns⟩ := .callE rfl hx hv hn hu hok hP hsc
theorem a_mut {args : Array Operand} {ats : Array TypeId} {f n : Nat} {us : List V} {r : V} {ob ob' : HO} (hx : Ev ρ x (.c (.fn f []))) (hv : EvL ρ args.toList (.c (.ptr n 0) :: us)) (hn : H n = some ob) (hP : MC P f ob us r ob') (hok : okV noN us = true) (h1 : ob.one = true) (h2 : ob'.one = true) :
    AS P ρ H ⟨d, .call { callee := .value x, args := args, argTypes := ats }, ty, pos, af, gu⟩ ⟨r, some (n, ob'), [n]⟩ := .callM rfl hx hv (by rw [List.map_nil, List.append_nil]) hn h1 h2 hok hP
theorem beqN (a b : Nat) : Nat.beq a b = decide (a = b) := by rw [Bool.eq_iff_iff]; simp
theorem okV_app (d : Nat → Bool) : ∀ a b : List V, okV d (a ++ b) = (okV d a && okV d b)
  | [], b => by rw [List.nil_append, okV, Bool.true_and]
  | x :: a, b => by rw [List.cons_append, okV, okV, okV_app d a b, Bool.and_assoc]
theorem okV_map (d : Nat → Bool) : ∀ l : List C, okV d (l.map V.c) = okL d l
  | [] => rfl
  | x :: l => by rw [List.map_cons, okV, okL, okV_map d l]; rfl
end
theorem AW.fact {P : Program} {nt : Nat} {c : Code} {Q : Exit → St → Prop} {σ : St} {F : Prop} {t : Nat} {v : V} (hx : σ.sl t = some v) (hF : ∀ (κ : K) (w : World) (x : Value), RepV κ w v x → F) (k : F → AW P nt c Q σ) : AW P nt c Q σ := fun X a w κ hX g => by
  obtain ⟨x, _, hr⟩ := g.sl t v hx
  exact k (hF κ w x hr) X a w κ hX g
theorem rep_s {κ : K} {w : World} {s : ByteArray} {x : Value} (h : Rep κ w (.sc (.string s)) x) : s.size ≤ 9223372036854775807 := by
  cases h with | sc h => exact of_decide_eq_true h
theorem repV_s {κ : K} {w : World} {s : ByteArray} {x : Value} (h : RepV κ w (.c (.sc (.string s))) x) : s.size ≤ 9223372036854775807 := by
  cases h with | c h => exact rep_s h
theorem rep_n {κ : K} {w : World} {t : Option Nat} {k : Nat} {xs : List (List C)} {x : Value} (h : Rep κ w (.lst t k xs) x) : xs.length ≤ 9223372036854775807 := by
  cases h with | lst cv hn hk h1 h2 => unfold maxLen at h2; omega
theorem repV_n {κ : K} {w : World} {t : Option Nat} {k : Nat} {xs : List (List C)} {x : Value} (h : RepV κ w (.c (.lst t k xs)) x) : xs.length ≤ 9223372036854775807 := by
  cases h with | c h => exact rep_n h
theorem repV_l {κ : K} {w : World} {t : Option Nat} {k : Nat} {α : Type} {f : α → List C} {l : List α} {x : Value} (h : RepV κ w (.c (.lst t k (l.map f))) x) : l.length ≤ 9223372036854775807 := by
  have := repV_n h; rwa [List.length_map] at this
theorem reps_mem {κ : K} {w : World} {cs : List C} {vs : List Value} (h : Reps κ w cs vs) {c : C} (hc : c ∈ cs) : ∃ v, Rep κ w c v := by
  obtain ⟨j, hj⟩ := List.mem_iff_getElem?.1 hc
  obtain ⟨v, _, hv⟩ := h.get hj
  exact ⟨v, hv⟩
theorem Pure.of_calls {P : Program} {f : FuncId} {vs : List Value} {r : V} {x : Value} (hc : Callable P f) (hr : Conc r x) (h : (∀ v ∈ vs, scal v = true) → ∀ w, Calls P f vs.toArray w fun e w' => e = .returned x ∧ w = w') : Pure P f (vs.map fun v => .c (.sc v)) r :=
  ⟨hc, fun w S us _ hS hu => by
    have hl : us.toList.length = vs.length := by have := hu.1; simpa using this.symm
    have he : us = vs.toArray := by
      apply Array.ext'
      apply List.ext_getElem? 
      intro j
      rcases Nat.lt_or_ge j vs.length with hj | hj
      · have h1 : us.toList[j]? = some us.toList[j] := List.getElem?_eq_getElem (by omega)
        have h2 := hu.2 j (.c (.sc vs[j])) _ (by rw [List.getElem?_map, List.getElem?_eq_getElem hj]; rfl) h1
        have h3 := Cq.uniq .sc h2
        rw [h1, h3]
        simp [hj]
      · rw [List.getElem?_eq_none (by omega), List.getElem?_eq_none (by simpa using hj)]
    subst he
    refine (h (fun v hv => ?_) w).mono fun e w' he => ?_
    · obtain ⟨j, hj⟩ := List.mem_iff_getElem?.1 hv
      have h2 := hu.2 j (.c (.sc v)) v (by rw [List.getElem?_map, hj]; rfl) (by simpa using hj)
      cases h2 with | c h2 => (cases h2 with | sc h2 => exact h2)
    · obtain ⟨rfl, rfl⟩ := he
      exact ⟨x, rfl, Keep.refl _ _, hr.rep⟩⟩
theorem mapget {α β : Type} {f : α → β} {l : List α} {j : Nat} {x : α} (h : l[j]? = some x) : (l.map f)[j]? = some (f x) := by rw [List.getElem?_map, h]; rfl
theorem cutDrop (b : Bool) (cs : List C) (o off k : Nat) (ho : o ≤ cs.length) : cutV b (cs.drop o) off k = cutV b cs (o + off) k := by
  unfold cutV
  rw [List.length_drop, List.drop_drop, List.getElem?_drop]
  by_cases h : off + k ≤ cs.length - o
  · have : o + off + k ≤ cs.length := by omega
    simp [h, this]
  · have : ¬ (o + off + k ≤ cs.length) := by omega
    simp [h, this]
theorem wk_mk {l l' : List (Nat × V)} {h h' : List (Nat × HO)} (hs : ∀ p ∈ l', ∃ u, look l p.1 = some u ∧ (u = p.2 ∨ u.un = p.2) ∧ V.ok (fun n => (look h' n).isSome) p.2 = true)
    (hh : ∀ p ∈ h', ∃ u, look h p.1 = some u ∧ (u = p.2 ∨ u.un = p.2) ∧ p.2.ok (fun n => (look h' n).isSome) = true) (h0 : (look h 0).isSome = true → (look h' 0).isSome = true) : Wk (mk l h) (mk l' h') := by
  have lm : ∀ {α : Type} {l : List (Nat × α)} {n : Nat} {v : α}, look l n = some v → (n, v) ∈ l := by
    intro α l
    induction l with
    | nil => intro n v h; cases h
    | cons p l ih =>
      intro n v h
      obtain ⟨k, u⟩ := p
      unfold look at h
      cases hb : Nat.beq k n with
      | true => rw [hb] at h; injection h with h; rw [h, Nat.eq_of_beq_eq_true hb]; exact .head _
      | false => rw [hb] at h; exact .tail _ (ih h)
  exact Wk.forget (fun t v hv => hs (t, v) (lm hv)) (fun n o ho => hh (n, o) (lm ho)) h0
theorem all_nil {α : Type} {p : α → Prop} : ∀ x ∈ ([] : List α), p x := fun x h => by cases h
theorem all_cons {α : Type} {p : α → Prop} {a : α} {l : List α} (h : p a) (hl : ∀ x ∈ l, p x) : ∀ x ∈ a :: l, p x := fun x hx => by
  rcases List.mem_cons.1 hx with rfl | hx
  · exact h
  · exact hl x hx
end Am
namespace Am
set_option maxRecDepth 100000
instance : Tb where
  T w := Lib.TabIs Tryz.prog w "internal/strconv.uint64pow10" .u64 Lib.pow10Tab
  G b := Tryz.prog.globalNamed "internal/strconv.uint64pow10" = some b
  lt w b hT hG := by
    rcases Nat.lt_or_ge b w.heap.size with h | h
    · exact h
    · exfalso
      simp [Lib.TabIs, World.var?, hG, Array.getElem?_eq_none h] at hT
  keep w w' hT h := by
    cases hg : Tryz.prog.globalNamed "internal/strconv.uint64pow10" with
    | none => simp [Lib.TabIs, World.var?, hg] at hT
    | some b =>
      have e := h b hg
      simp only [Lib.TabIs, World.var?, hg, Option.bind_some] at hT ⊢
      rw [e]; exact hT
def tyT : List (Nat × (Nat × Bool)) := [(2, (1, false)), (3, (1, false)), (4, (1, false)), (5, (1, false)), (9, (1, false)), (21, (1, false)), (22, (1, false)), (24, (3, true)), (27, (1, false)), (32, (2, true)), (33, (1, false)), (35, (5, true)), (36, (1, false)), (38, (4, true)), (39, (1, false)), (41, (10, true)), (42, (1, false)), (44, (2, true)), (46, (4, true)), (48, (7, true)), (50, (55, true)), (58, (27, true)), (66, (1, false)), (67, (1, false)), (69, (2, true)), (71, (2, true)), (79, (1, false)), (82, (1, false)), (85, (1, false)), (98, (1, false)), (104, (1, false)), (118, (1, false)), (120, (2, true)), (126, (1, false)), (133, (4, true)), (144, (1, false)), (147, (1, false)), (149, (1, false)), (150, (1, false)), (152, (24, true)), (157, (1, false)), (166, (20, true)), (167, (1, false)), (168, (65, true)), (178, (32, true)), (179, (64, true))]
def fldT : List (Nat × (Nat × Nat)) := [(2400, (0, 9)), (2401, (1, 3)), (2402, (2, 22)), (3200, (0, 3)), (3201, (1, 3)), (3500, (0, 4)), (3501, (1, 4)), (3502, (2, 4)), (3503, (3, 33)), (3504, (4, 33)), (4100, (0, 3)), (4101, (1, 3)), (4102, (2, 3)), (4103, (3, 3)), (4104, (4, 33)), (4105, (5, 38)), (4106, (9, 39)), (4400, (0, 9)), (4401, (1, 42)), (4600, (0, 44)), (4601, (2, 44)), (4800, (0, 9)), (4801, (1, 9)), (4802, (2, 9)), (4803, (3, 46)), (5000, (0, 3)), (5001, (1, 3)), (5002, (2, 32)), (5003, (4, 9)), (5004, (5, 9)), (5005, (6, 9)), (5006, (7, 33)), (5007, (8, 33)), (5008, (9, 35)), (5009, (14, 35)), (5010, (19, 35)), (5011, (24, 35)), (5012, (29, 41)), (5013, (39, 44)), (5014, (41, 46)), (5015, (45, 48)), (5016, (52, 4)), (5017, (53, 22)), (5018, (54, 22)), (5800, (0, 35)), (5801, (5, 41)), (5802, (15, 4)), (5803, (16, 46)), (5804, (20, 48)), (6900, (0, 66)), (6901, (1, 67)), (7100, (0, 69)), (12000, (0, 9)), (12001, (1, 9)), (13300, (0, 3)), (13301, (1, 9)), (13302, (2, 32))]
def sleT : List (Nat × (Nat × Nat)) := [(22, (50, 55)), (33, (9, 1)), (39, (41, 10)), (42, (120, 2)), (67, (5, 1)), (118, (44, 2))]
theorem look_mem {α : Type} : ∀ {l : List (Nat × α)} {n : Nat} {v : α}, look l n = some v → (n, v) ∈ l
  | [], _, _, h => by cases h
  | (k, u) :: l, n, v, h => by
    unfold look at h
    cases hb : Nat.beq k n with
    | true => rw [hb] at h; injection h with h; rw [h, Nat.eq_of_beq_eq_true hb]; exact .head _
    | false => rw [hb] at h; exact .tail _ (look_mem h)
theorem tyT_all : tyT.all (fun p => decide (tyi Tryz.prog p.1 = some p.2)) = true := by decide +kernel
theorem fldT_all : fldT.all (fun p => decide (fld Tryz.prog (p.1 / 100) (p.1 % 100) = some p.2)) = true := by decide +kernel
theorem sleT_all : sleT.all (fun p => decide (sle Tryz.prog p.1 = some p.2)) = true := by decide +kernel
theorem tyT_ok {t k : Nat} {b : Bool} (h : look tyT t = some (k, b)) : tyi Tryz.prog t = some (k, b) := of_decide_eq_true (List.all_eq_true.1 tyT_all _ (look_mem h))
theorem sleT_ok {t e k : Nat} (h : look sleT t = some (e, k)) : sle Tryz.prog t = some (e, k) := of_decide_eq_true (List.all_eq_true.1 sleT_all _ (look_mem h))
theorem fldT_ok {s f o u : Nat} (h : look fldT (s * 100 + f) = some (o, u)) (hf : f < 100) : fld Tryz.prog s f = some (o, u) := by
  have := of_decide_eq_true (List.all_eq_true.1 fldT_all _ (look_mem h))
  have e1 : (s * 100 + f) / 100 = s := by omega
  have e2 : (s * 100 + f) % 100 = f := by omega
  simp only [e1, e2] at this
  exact this
theorem fldT_ok' {s f o u : Nat} (h : look fldT (s * 100 + f) = some (o, u)) (hf : Nat.blt f 100 = true) : fld Tryz.prog s f = some (o, u) := fldT_ok h (Nat.le_of_ble_eq_true hf)
def repZ : C → Value → Bool
  | .sc (.int k n), .int k' n' => decide (k = k') && decide (n = n')
  | .sc (.bool a), .bool b => decide (a = b)
  | .sc (.string s), .string t => decide (s.data.toList = t.data.toList) && decide (s.size ≤ 9223372036854775807)
  | .sc .nilFunc, .nilFunc => true
  | .sc .nilIface, .nilIface => true
  | .sc (.pointer none), .pointer none => true
  | .sc (.map none), .map none => true
  | .nil, .slice none 0 0 => true
  | .lst none _ [], .slice none 0 0 => true
  | _, _ => false
theorem repZ_rep {κ : K} {w : World} {c : C} {v : Value} (h : repZ c v = true) : Rep κ w c v := by
  unfold repZ at h
  split at h <;> first | (exact Rep.sc rfl) | (exact .nil) | (cases h; done) | skip
  · rw [Bool.and_eq_true] at h
    rw [of_decide_eq_true h.1, of_decide_eq_true h.2]
    exact .sc rfl
  · rw [of_decide_eq_true h]; exact .sc rfl
  · rw [Bool.and_eq_true] at h
    have h1 := of_decide_eq_true h.2
    have h := of_decide_eq_true h.1
    have : ∀ {s t : ByteArray}, s.data.toList = t.data.toList → s = t := fun h => ByteArray.ext (Array.ext' h)
    rw [← this h]; exact .sc (decide_eq_true h1)
  · exact .lst (fun _ _ => default) rfl (fun x hx => by cases hx) (Nat.le_refl _) (Nat.zero_le _) (.inl rfl) (fun i j x c hx => by cases hx) fun τ e => by cases e
def repZs : List C → List Value → Bool
  | [], [] => true
  | c :: cs, v :: vs => repZ c v && repZs cs vs
  | _, _ => false
theorem repZs_rep {κ : K} {w : World} : ∀ {cs : List C} {vs : List Value}, repZs cs vs = true → Reps κ w cs vs
  | [], [], _ => .nil
  | c :: cs, v :: vs, h => by
    rw [repZs, Bool.and_eq_true] at h
    exact .cons (repZ_rep h.1) (repZs_rep h.2)
  | [], _ :: _, h => by cases h
  | _ :: _, [], h => by cases h
def zwB (P : Program) (t : Nat) (cs : List C) : Bool := match P.info? t with | some i => (match i.zero with | some z => repZs cs z.cells.toList | none => false) | none => false
theorem Zw.of {P : Program} {t : Nat} {cs : List C} (h : zwB P t cs = true) : Zw P t cs := by
  unfold zwB at h
  cases hi : P.info? t with
  | none => rw [hi] at h; cases h
  | some i =>
    rw [hi] at h
    cases hz : i.zero with
    | none => simp only [hz] at h; cases h
    | some z => simp only [hz] at h; exact ⟨i, z, hi, hz, fun κ w => repZs_rep h⟩
def zwT : List (Nat × List C) := [(3, [sI 0]), (4, [sB false]), (9, [sS ⟨#[]⟩]), (22, [.nil]), (24, moC Mo.zero), (27, [sI 0]), (32, poC Po.zero), (33, [.nil]), (35, nsC NS.zero), (38, seC Se.zero), (39, [.nil]), (41, exC Ex.zero), (42, [.nil]), (44, lvC Lv.zero), (46, rgC Rg.zero), (48, cxC Ct.zero), (50, stC Stm.zero), (67, [.nil]), (118, [.nil]), (120, spC Sp.zero), (133, tkC Tok.zero)]
theorem zwT_all : zwT.all (fun p => zwB Tryz.prog p.1 p.2) = true := by decide +kernel
theorem zwT_ok {t : Nat} {cs : List C} (h : look zwT t = some cs) : Zw Tryz.prog t cs := Zw.of (List.all_eq_true.1 zwT_all _ (look_mem h))
def plT (t i : Nat) : Option (Nat × Nat) := match look fldT (t * 100 + i) with
  | some (o, u) => match Nat.blt i 100, look tyT u with
    | true, some (k, _) => some (o, k)
    | _, _ => none
  | none => none
theorem fill_mono {p q : Nat → Option (Nat × Nat)} (h : ∀ i x, p i = some x → q i = some x) : ∀ {ps : List (Nat × List C)} {zs cs : List C}, fillC p zs ps = some cs → fillC q zs ps = some cs
  | [], _, _, hf => hf
  | (i, ds) :: ps, zs, cs, hf => by
    unfold fillC at hf ⊢
    cases hp : p i with
    | none => rw [hp] at hf; cases hf
    | some x =>
      rw [hp] at hf
      rw [h i x hp]
      simp only at hf ⊢
      split at hf
      · rename_i hl
        rw [if_pos hl]
        cases hs : setV zs x.1 ds with
        | none => rw [hs] at hf; cases hf
        | some c2 => rw [hs] at hf; exact fill_mono h hf
      · cases hf
theorem a_buildT {ρ : Operand → Option V} {H : Nat → Option HO} {d : Option Nat} {ty : TypeId} {pos : String} {af : Array Edge} {gu : Option (Nat × Bool)} {t : Nat} {parts : Array (Nat × Operand)} {zs cs : List C} {ps : List (Nat × List C)} (hz : Zw Tryz.prog t zs) (hp : (places Tryz.prog t).isSome = true) (hs : (match Tryz.prog.underlying t with | some (.struct _) => true | _ => false) = true) (hv : EvP ρ parts.toList ps) (hf : fillC (plT t) zs ps = some cs) :
    AS Tryz.prog ρ H ⟨d, .build t parts, ty, pos, af, gu⟩ ⟨.agg cs, none, []⟩ := by
  cases hpl : places Tryz.prog t with
  | none => rw [hpl] at hp; cases hp
  | some pl =>
    refine .build rfl hz hpl hv (fill_mono (fun i x hx => ?_) hf)
    unfold plT at hx
    split at hx
    · rename_i o u ho
      split at hx
      · rename_i k b hi hk
        injection hx with hx
        subst hx
        have h1 := fldT_ok' ho hi
        obtain ⟨inf, dd, h2, _, h3, _⟩ := tyi_some (tyT_ok hk)
        unfold fld at h1
        unfold places at hpl
        split at h1
        · rename_i fs hu
          rw [hu] at hpl
          simp only at hpl
          split at hpl
          · injection hpl with hpl
            subst hpl
            split at h1
            · rename_i q hq
              split at h1
              · cases h1
              · injection h1 with h1
                injection h1 with h4 h5
                subst h4 h5
                simp only [hq, Option.map_some, Program.cellsOf, h2, h3, Option.getD_some]
            · cases h1
          · cases hpl
        · cases h1
      · cases hx
    · cases hx
theorem a_build0T {ρ : Operand → Option V} {H : Nat → Option HO} {d : Option Nat} {ty : TypeId} {pos : String} {af : Array Edge} {gu : Option (Nat × Bool)} {t : Nat} {zs : List C} (hz : Zw Tryz.prog t zs) (hp : (places Tryz.prog t).isSome = true) : AS Tryz.prog ρ H ⟨d, .build t #[], ty, pos, af, gu⟩ ⟨.agg zs, none, []⟩ := by
  cases hpl : places Tryz.prog t with
  | none => rw [hpl] at hp; cases hp
  | some pl => exact .build rfl hz hpl .nil rfl
end Am
namespace Am
open Go.ChangeShapes Go.WideShapes Go.ChangeAt Go.RowKit
set_option maxRecDepth 100000
theorem own : ownKnob Tryz.prog.godebug = none := by kernel_rfl
theorem laidOut : laidOutB Tryz.prog = true := by kernel_rfl
section
variable {H : Type} {enc : TypeId × Value → H} {P : Program}
theorem post_grown {f : Func} {s : ChangeSpec} {apart fresh handsOn again : Bool} {W W' : World} {args : Array Value} {v : Value} {ds gs : List (DataW H)} {before pa pv : List MemPlace}
    (hW : DataW.Whole enc P f.params.toList s.vars apart W args.toList ds gs before)
    (hres : ∀ (b : Nat) (sp : Nat → Bool) (hd : Bool), DataW.TrodAll enc P W' b sp hd f.resultTypes.toList (v.resultList f.resultTypes.size) (s.fn H (ds ++ gs)).results [])
    (hargs : ∀ sp : Nat → Bool, (∀ p ∈ before, sp p.block = true) → DataW.TrodAll enc P W' 0 sp true f.params.toList args.toList (s.fn H (ds ++ gs)).args pa)
    (hvars : ∀ sp : Nat → Bool, (∀ p ∈ before, sp p.block = true) → DataW.TrodVars enc P W' sp s.vars (s.fn H (ds ++ gs)).vars pv)
    (hps : before = pa ++ pv) (hb : Below W.heap.size W W')
    (hok : ∀ (j : Nat) (t : TypeId) (r : Value), f.resultTypes[j]? = some t → (v.resultList f.resultTypes.size)[j]? = some r → Value.okWide P W' .any 0 t r) :
    s.post enc P f apart fresh handsOn again W args v W' := by
  have hlt : ∀ p ∈ before, p.block < W.heap.size := fun p hp => hW.lt p hp
  have hold : ∀ p ∈ before, (fun b => decide (b < W.heap.size)) p.block = true := fun p hp => by simpa using hlt p hp
  refine ⟨ds, gs, before, [], pa, pv, hW, hres _ _ _, hargs _ hold, hvars _ hold, World.keptBut_mono (fun p hp => ⟨hp, ?_⟩) (hb.frame (· ∈ before)), fun _ => ?_⟩
  · rw [hps, List.mem_append] at hp
    exact Or.inr hp
  · obtain ⟨_, _, _, _, _, hz, hn⟩ := hW
    refine ⟨hok, _, _, ([] ++ pa) ++ pv, ⟨[] ++ pa, pv, trodAll_append (hargs _ (fun _ _ => rfl)) (hres _ _ _), hvars _ (fun _ _ => rfl), rfl, ?_, ?_⟩, ?_⟩
    · intro b off hp
      have hin : MemPlace.cell b off ∈ before := by rw [hps]; simpa using hp
      rw [hb.frozen (hlt _ hin)]
      exact hz b off hin
    · intro ha
      have := hn ha
      rw [hps] at this
      simpa using this
    · intro p hp _
      rw [hps]
      simpa using hp
theorem trod_grown {t : TypeId} (hl : laidOutB P = true) (hr : P.readableRec t = true) (hrow : t < P.types.size) {W W' : World} {sp : Nat → Bool} {v : Value} {d : DataW H} {ps : List MemPlace}
    (h : DataW.Trod enc P W 0 (fun _ => true) true t v d ps) (hb : Below W.heap.size W W') (hlt : ∀ x ∈ ps, x.block < W.heap.size) (hs : ∀ x ∈ ps, sp x.block = true) : DataW.Trod enc P W' 0 sp true t v d ps :=
  WideElems.Trod_stays hl hr hrow h (fun x hx => hb.same (hlt x hx)) hs
end

theorem field_at {fs : Array Field} {l : List (TypeId × Nat)} (h : fs.toList.map (fun f => (f.type, f.offset)) = l) (i : Nat) (p : TypeId × Nat) (hp : l[i]? = some p) : ∃ f, fs[i]? = some f ∧ f.type = p.1 ∧ f.offset = p.2 := by
  subst h
  rw [List.getElem?_map, Array.getElem?_toList] at hp
  cases hf : fs[i]? with
  | none => rw [hf] at hp; cases hp
  | some f => rw [hf] at hp; injection hp with hp; subst hp; exact ⟨f, rfl, rfl, rfl⟩
theorem some_len {α : Type} {xs : List α} {i : Nat} {n : Nat} (h : xs.length = n) (hi : i < n) : ∃ x, xs[i]? = some x := ⟨_, List.getElem?_eq_getElem (by omega)⟩
theorem add_add (b o i j : Nat) : ((⟨b, o, none⟩ : Addr).add i).add j = ⟨b, o + i + j, none⟩ := by
  have e : ∀ o j, (⟨b, o, none⟩ : Addr).add j = ⟨b, o + j, none⟩ := fun o j => by unfold Addr.add; split <;> simp_all
  rw [e, e]
theorem choose_list {α : Type} {p : Nat → α → Prop} : ∀ (n : Nat), (∀ i, i < n → ∃ x, p i x) → ∃ xs : List α, xs.length = n ∧ ∀ i x, xs[i]? = some x → p i x
  | 0, _ => ⟨[], rfl, by simp⟩
  | n + 1, h => by
    obtain ⟨xs, h1, h2⟩ := choose_list n fun i hi => h i (by omega)
    obtain ⟨x, hx⟩ := h n (by omega)
    refine ⟨xs ++ [x], by simp [h1], fun i y hy => ?_⟩
    by_cases hi : i < n
    · rw [List.getElem?_append_left (by omega)] at hy
      exact h2 i y hy
    · have hlt := (List.getElem?_eq_some_iff.1 hy).1
      simp only [List.length_append, List.length_cons, List.length_nil] at hlt
      have : i = n := by omega
      subst this
      rw [List.getElem?_append_right (by omega), h1, Nat.sub_self] at hy
      injection hy with hy
      subst hy; exact hx
abbrev laid3 : List (String × DataW Unit) := Rows.printerModulesRow.laid
theorem gPow : Tryz.prog.globalNamed "internal/strconv.uint64pow10" = some 0 := by kernel_rfl
theorem tPow : ∃ t e n, (Tryz.prog.globals[0]?).map (·.type) = some t ∧ Tryz.prog.underlying t = some (.array n e) ∧ Tryz.prog.underlying e = some (.int .u64) ∧ Tryz.prog.cellsOf e = 1 ∧ Tryz.prog.cellsOf t = n := ⟨_, 36, 20, rfl, by kernel_rfl, by kernel_rfl, by kernel_rfl, by kernel_rfl⟩
theorem door_met (os : Os) (args : Array Value) : laidMetH Tryz.prog laid3 ((World.doorLaid Tryz.prog 24 os).forCall (fun _ _ => 0) ⟨#[], args, []⟩).memory :=
  laidMetH_of_parts3 (fuel := 8) (laidMet_of_run' 8 (by kernel_rfl) (by kernel_rfl)) (by kernel_rfl) (by kernel_rfl)
theorem tab_of_laid {W : World} (h : laidMetH Tryz.prog laid3 W) : Tb.T W := by
  rw [MakeChecks.laidMetH_plain _ _ _ (by kernel_rfl)] at h
  have h3 : laidMet Tryz.prog [("internal/strconv.uint64pow10", Lib.tabData .u64 Lib.pow10Tab)] W := laidMet.tail (laidMet.tail h)
  obtain ⟨t, e, n, h4, h5, h6, h7, h8⟩ := tPow
  exact Lib.tabIs_of_head gPow h4 h5 h6 h7 h8 h3
def worldK (w : World) : K := bareK fun g _ => g < w.heap.size
section
variable {H : Type} {enc : TypeId × Value → H} {W : World}
theorem pure_row {f : FuncId} {args : List V} (hP : Pure Tryz.prog f args (.c (sB true))) (hT : Tb.T W) {vs : Array Value} (hr : RepVs (worldK W) W args vs.toList) : Calls Tryz.prog f vs W fun e w' => e = .returned (.bool true) ∧ Below W.heap.size W w' :=
  (hP.2 W (fun g _ => g < W.heap.size) vs hT (fun _ _ h => h) hr).mono fun e w' h => by
    obtain ⟨x, rfl, hk, hx⟩ := h
    cases hx with | c hx => cases hx; exact ⟨rfl, hk.below⟩
theorem reps_split {cs : List Value} {o k : Nat} {A B : List C} (h1 : Reps (worldK W) W A ((cs.drop o).take k)) (h2 : Reps (worldK W) W B (cs.drop (o + k))) : Reps (worldK W) W (A ++ B) (cs.drop o) := by
  have := h1.append h2
  rwa [← List.drop_drop, List.take_append_drop] at this
theorem lst_open {P : Program} {α : Type} {f : α → List C} {k : Nat} {T E : TypeId} (N : Nat) (und : P.underlying T = some (.slice E)) (hE : P.cellsOf E = k) (hk : 0 < k) (hf : ∀ x, (f x).length = k)
    (cells : ∀ {fuel : Nat} {base : Nat} {sp : Nat → Bool} {held : Bool} {cs : List Value} {x : DataW H × List MemPlace}, fuel < N → DataW.trod enc P W base sp held fuel E cs = some x → ∃ a : α, Reps (worldK W) W (f a) cs)
    {sp : Nat → Bool} {held : Bool} {base fuel : Nat} {cs : List Value} {x : DataW H × List MemPlace} (hN : fuel ≤ N) (hh : DataW.trod enc P W base sp held fuel T cs = some x) :
    ∃ xs : List α, Reps (worldK W) W [.lst none k (xs.map f)] cs := by
  rcases DataW.trod_slice und hh with ⟨hc, hx⟩ | ⟨a, len, cap, elems, rest, n, hn, rfl, rfl, _, hle, hm, hlen, hat, _, _⟩
  · refine ⟨[], ?_⟩
    rw [hc]
    exact .cons (.lst (fun _ _ => default) rfl (fun x hx => by cases hx) (Nat.le_refl _) (Nat.zero_le _) (.inl rfl) (fun i j x c hx => by cases hx) fun τ e => by cases e) .nil
  · have each : ∀ i, i < len → ∃ x : α, ∃ vs : List Value, Reps (worldK W) W (f x) vs ∧ ∀ j, j < k → W.cell? ((a.add (i * k)).add j) = vs[j]? := by
      intro i hi
      have h1 := hat i hi
      obtain ⟨y, hy⟩ := some_len hlen hi
      rw [hy, Option.bind_eq_some_iff] at h1
      obtain ⟨cs', hcs, ht⟩ := h1
      obtain ⟨x, hx⟩ := cells (by omega) ht
      rw [hE] at hcs
      obtain ⟨_, _, hcell⟩ := World.cells?_some hcs
      exact ⟨x, cs', hx, fun j hj => hcell j (by omega)⟩
    obtain ⟨xs, hxl, hxs⟩ := choose_list len each
    obtain ⟨b, o, sp'⟩ := a
    have cell : ∀ (i : Nat) (x : α) (j : Nat) (c : C), xs[i]? = some x → (f x)[j]? = some c → ∃ v, W.cell? (((⟨b, o, sp'⟩ : Addr).add (i * k)).add j) = some v ∧ Rep (worldK W) W c v := fun i x j c hi hj => by
      obtain ⟨vs, h1, h2⟩ := hxs i x hi
      obtain ⟨v, hv, hr⟩ := h1.get hj
      have hjk : j < k := by have := (List.getElem?_eq_some_iff.1 hj).1; rwa [hf] at this
      exact ⟨v, (h2 j hjk).trans hv, hr⟩
    have first : ∀ (h0 : 0 < xs.length), ∃ v, W.cell? ((⟨b, o, sp'⟩ : Addr).add 0) = some v := fun h0 => by
      have h1 : xs[0]? = some xs[0] := List.getElem?_eq_getElem h0
      have h2 : (f xs[0])[0]? = some ((f xs[0])[0]'(by rw [hf]; exact hk)) := List.getElem?_eq_getElem _
      obtain ⟨v, hv, _⟩ := cell 0 _ 0 _ h1 h2
      rw [Nat.zero_mul] at hv
      have e : ((⟨b, o, sp'⟩ : Addr).add 0).add 0 = (⟨b, o, sp'⟩ : Addr).add 0 := by cases sp' <;> rfl
      rw [e] at hv
      exact ⟨v, hv⟩
    have hnone : 0 < xs.length → sp' = none := fun h0 => by
      cases sp' with
      | none => rfl
      | some q =>
        exfalso
        obtain ⟨v, h1⟩ := first h0
        have e : (⟨b, o, some q⟩ : Addr).add 0 = ⟨b, o, some q⟩ := rfl
        rw [e] at h1
        unfold World.cell? at h1
        split at h1
        · simp at h1
        · cases h1
    refine ⟨xs, .cons ?_ .nil⟩
    have hl : ∀ x ∈ xs.map f, x.length = k := fun x hx => by
      obtain ⟨y, _, rfl⟩ := List.mem_map.1 hx
      exact hf y
    by_cases h0 : xs.length = 0
    · have : xs = [] := List.length_eq_zero_iff.1 h0
      subst this
      have : len = 0 := by simpa using hxl.symm
      subst this
      exact .lst (fun _ _ => default) rfl hl (by omega) hm (.inl rfl) (fun i j x c hx => by simp at hx) fun τ e => by cases e
    · have hs := hnone (by omega)
      subst hs
      have hcell : ∀ (i : Nat) (x : α) (j : Nat) (c : C), xs[i]? = some x → (f x)[j]? = some c → ∃ v, W.cell? ⟨b, o + i * k + j, none⟩ = some v ∧ Rep (worldK W) W c v := fun i x j c hi hj => by
        obtain ⟨v, hv, hr⟩ := cell i x j c hi hj
        rw [add_add] at hv
        exact ⟨v, hv, hr⟩
      refine .lst (fun i j => (W.cell? ⟨b, o + i * k + j, none⟩).getD default) (by rw [List.length_map]; exact hxl.symm) hl (by omega) hm (.inr ⟨b, o, rfl, fun i j hi hj => ?_⟩) (fun i j x c hx hc => ?_) fun τ e => by cases e
      · rw [List.length_map] at hi
        have h1 : xs[i]? = some xs[i] := List.getElem?_eq_getElem hi
        have h2 : (f xs[i])[j]? = some ((f xs[i])[j]'(by rw [hf]; exact hj)) := List.getElem?_eq_getElem _
        obtain ⟨v, hv, _⟩ := hcell i _ j _ h1 h2
        exact ⟨cell_lt hv, by rw [hv]; rfl⟩
      · rw [List.getElem?_map, Option.map_eq_some_iff] at hx
        obtain ⟨y, hy, rfl⟩ := hx
        obtain ⟨v, hv, hr⟩ := hcell i y j c hy hc
        rw [hv]; exact hr
end
end Am
end Go.Proofs.YtkcojiopjkllgaaGreatDoor
