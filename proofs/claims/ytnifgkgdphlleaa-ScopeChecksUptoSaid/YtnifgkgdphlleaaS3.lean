/- V1 -/
import Derived.Test.YtnifgkgdphlleaaS2
set_option linter.unusedSimpArgs false
set_option linter.unusedVariables false
namespace Go.Proofs.Ytnifgkgdphlleaa
open Go.RowKit Tk
/-- the head of a slice, but for its length -/
structure Hd where
  a : Option Addr
  c : Nat
deriving Inhabited
@[reducible] def Hd.v (h : Hd) (n : Nat) : Value := .slice h.a n h.c
structure NSet where
  all : Bool
  nt : Bool
  self : Bool
  hn : Hd
  names : List ByteArray
  he : Hd
  except : List ByteArray
structure Lvl where
  sens : ByteArray
  hc : Hd
  cats : List (ByteArray × ByteArray)
structure Rng where
  lo : Lvl
  hi : Lvl
structure Ctx where
  user : ByteArray
  role : ByteArray
  type : ByteArray
  rng : Rng
structure ExH where
  op : Int
  a : Int
  rel : Int
  b : Int
  hn : Hd
  names : List ByteArray
  s0 : Int
  s1 : Int
  s2 : Int
  s3 : Int
  hk : Hd
inductive Ex where
  | mk (h : ExH) (kids : List Ex)
def Ex.h : Ex → ExH | .mk h _ => h
def Ex.kids : Ex → List Ex | .mk _ k => k
structure StH where
  kind : Int
  op : Int
  line : Int
  col : Int
  name : ByteArray
  result : ByteArray
  text : ByteArray
  hl : Hd
  list : List ByteArray
  ha : Hd
  aliases : List ByteArray
  source : NSet
  target : NSet
  cls : NSet
  perms : NSet
  cond : Ex
  level : Lvl
  range : Rng
  ctx : Ctx
  value : Bool
  ht : Hd
  he : Hd
inductive St where
  | mk (h : StH) (thn els : List St)
def St.h : St → StH | .mk h _ _ => h
def St.thn : St → List St | .mk _ t _ => t
def St.els : St → List St | .mk _ _ e => e
/-- a symbol, its permissions with the head of their slice -/
structure Sy where
  kind : Int
  name : ByteArray
  req : Bool
  hp : Hd
  perms : List ByteArray
  line : Int
  col : Int
/-- the cells of a NSet -/
def nsC (x : NSet) : List Value := [.bool x.all, .bool x.nt, .bool x.self, .slice x.hn.a x.names.length x.hn.c, .slice x.he.a x.except.length x.he.c]
@[simp] theorem nsC_len (x : NSet) : (nsC x).length = 5 := rfl
@[go_sem, simp] theorem nsC_size (x : NSet) : (nsC x).toArray.size = 5 := rfl
@[go_sem, simp] theorem nsC_one (x : NSet) : (nsC x).toArray.all (fun c => c.oneCell') = true := by rw [List.all_toArray]; rfl
@[go_sem] theorem nsC_a0 (x : NSet) : (nsC x).toArray[0]? = some (.bool x.all) := rfl
@[go_sem] theorem nsC_g0 (x : NSet) (h : 0 < (nsC x).length) : (nsC x)[0]'h = Value.bool x.all := rfl
@[go_sem] theorem nsC_l0 (x : NSet) : (nsC x)[0]? = some (.bool x.all) := rfl
@[go_sem] theorem nsC_a1 (x : NSet) : (nsC x).toArray[1]? = some (.bool x.nt) := rfl
@[go_sem] theorem nsC_g1 (x : NSet) (h : 1 < (nsC x).length) : (nsC x)[1]'h = Value.bool x.nt := rfl
@[go_sem] theorem nsC_l1 (x : NSet) : (nsC x)[1]? = some (.bool x.nt) := rfl
@[go_sem] theorem nsC_a2 (x : NSet) : (nsC x).toArray[2]? = some (.bool x.self) := rfl
@[go_sem] theorem nsC_g2 (x : NSet) (h : 2 < (nsC x).length) : (nsC x)[2]'h = Value.bool x.self := rfl
@[go_sem] theorem nsC_l2 (x : NSet) : (nsC x)[2]? = some (.bool x.self) := rfl
@[go_sem] theorem nsC_a3 (x : NSet) : (nsC x).toArray[3]? = some (.slice x.hn.a x.names.length x.hn.c) := rfl
@[go_sem] theorem nsC_g3 (x : NSet) (h : 3 < (nsC x).length) : (nsC x)[3]'h = Value.slice x.hn.a x.names.length x.hn.c := rfl
@[go_sem] theorem nsC_l3 (x : NSet) : (nsC x)[3]? = some (.slice x.hn.a x.names.length x.hn.c) := rfl
@[go_sem] theorem nsC_a4 (x : NSet) : (nsC x).toArray[4]? = some (.slice x.he.a x.except.length x.he.c) := rfl
@[go_sem] theorem nsC_g4 (x : NSet) (h : 4 < (nsC x).length) : (nsC x)[4]'h = Value.slice x.he.a x.except.length x.he.c := rfl
@[go_sem] theorem nsC_l4 (x : NSet) : (nsC x)[4]? = some (.slice x.he.a x.except.length x.he.c) := rfl
/-- the cells of a Lvl -/
def lvC (x : Lvl) : List Value := [.string x.sens, .slice x.hc.a x.cats.length x.hc.c]
@[simp] theorem lvC_len (x : Lvl) : (lvC x).length = 2 := rfl
@[go_sem, simp] theorem lvC_size (x : Lvl) : (lvC x).toArray.size = 2 := rfl
@[go_sem, simp] theorem lvC_one (x : Lvl) : (lvC x).toArray.all (fun c => c.oneCell') = true := by rw [List.all_toArray]; rfl
@[go_sem] theorem lvC_a0 (x : Lvl) : (lvC x).toArray[0]? = some (.string x.sens) := rfl
@[go_sem] theorem lvC_g0 (x : Lvl) (h : 0 < (lvC x).length) : (lvC x)[0]'h = Value.string x.sens := rfl
@[go_sem] theorem lvC_l0 (x : Lvl) : (lvC x)[0]? = some (.string x.sens) := rfl
@[go_sem] theorem lvC_a1 (x : Lvl) : (lvC x).toArray[1]? = some (.slice x.hc.a x.cats.length x.hc.c) := rfl
@[go_sem] theorem lvC_g1 (x : Lvl) (h : 1 < (lvC x).length) : (lvC x)[1]'h = Value.slice x.hc.a x.cats.length x.hc.c := rfl
@[go_sem] theorem lvC_l1 (x : Lvl) : (lvC x)[1]? = some (.slice x.hc.a x.cats.length x.hc.c) := rfl
/-- the cells of a Rng -/
def rgC (x : Rng) : List Value := [.string x.lo.sens, .slice x.lo.hc.a x.lo.cats.length x.lo.hc.c, .string x.hi.sens, .slice x.hi.hc.a x.hi.cats.length x.hi.hc.c]
@[simp] theorem rgC_len (x : Rng) : (rgC x).length = 4 := rfl
@[go_sem, simp] theorem rgC_size (x : Rng) : (rgC x).toArray.size = 4 := rfl
@[go_sem, simp] theorem rgC_one (x : Rng) : (rgC x).toArray.all (fun c => c.oneCell') = true := by rw [List.all_toArray]; rfl
@[go_sem] theorem rgC_a0 (x : Rng) : (rgC x).toArray[0]? = some (.string x.lo.sens) := rfl
@[go_sem] theorem rgC_g0 (x : Rng) (h : 0 < (rgC x).length) : (rgC x)[0]'h = Value.string x.lo.sens := rfl
@[go_sem] theorem rgC_l0 (x : Rng) : (rgC x)[0]? = some (.string x.lo.sens) := rfl
@[go_sem] theorem rgC_a1 (x : Rng) : (rgC x).toArray[1]? = some (.slice x.lo.hc.a x.lo.cats.length x.lo.hc.c) := rfl
@[go_sem] theorem rgC_g1 (x : Rng) (h : 1 < (rgC x).length) : (rgC x)[1]'h = Value.slice x.lo.hc.a x.lo.cats.length x.lo.hc.c := rfl
@[go_sem] theorem rgC_l1 (x : Rng) : (rgC x)[1]? = some (.slice x.lo.hc.a x.lo.cats.length x.lo.hc.c) := rfl
@[go_sem] theorem rgC_a2 (x : Rng) : (rgC x).toArray[2]? = some (.string x.hi.sens) := rfl
@[go_sem] theorem rgC_g2 (x : Rng) (h : 2 < (rgC x).length) : (rgC x)[2]'h = Value.string x.hi.sens := rfl
@[go_sem] theorem rgC_l2 (x : Rng) : (rgC x)[2]? = some (.string x.hi.sens) := rfl
@[go_sem] theorem rgC_a3 (x : Rng) : (rgC x).toArray[3]? = some (.slice x.hi.hc.a x.hi.cats.length x.hi.hc.c) := rfl
@[go_sem] theorem rgC_g3 (x : Rng) (h : 3 < (rgC x).length) : (rgC x)[3]'h = Value.slice x.hi.hc.a x.hi.cats.length x.hi.hc.c := rfl
@[go_sem] theorem rgC_l3 (x : Rng) : (rgC x)[3]? = some (.slice x.hi.hc.a x.hi.cats.length x.hi.hc.c) := rfl
/-- the cells of a Ctx -/
def cxC (x : Ctx) : List Value := [.string x.user, .string x.role, .string x.type, .string x.rng.lo.sens, .slice x.rng.lo.hc.a x.rng.lo.cats.length x.rng.lo.hc.c, .string x.rng.hi.sens, .slice x.rng.hi.hc.a x.rng.hi.cats.length x.rng.hi.hc.c]
@[simp] theorem cxC_len (x : Ctx) : (cxC x).length = 7 := rfl
@[go_sem, simp] theorem cxC_size (x : Ctx) : (cxC x).toArray.size = 7 := rfl
@[go_sem, simp] theorem cxC_one (x : Ctx) : (cxC x).toArray.all (fun c => c.oneCell') = true := by rw [List.all_toArray]; rfl
@[go_sem] theorem cxC_a0 (x : Ctx) : (cxC x).toArray[0]? = some (.string x.user) := rfl
@[go_sem] theorem cxC_g0 (x : Ctx) (h : 0 < (cxC x).length) : (cxC x)[0]'h = Value.string x.user := rfl
@[go_sem] theorem cxC_l0 (x : Ctx) : (cxC x)[0]? = some (.string x.user) := rfl
@[go_sem] theorem cxC_a1 (x : Ctx) : (cxC x).toArray[1]? = some (.string x.role) := rfl
@[go_sem] theorem cxC_g1 (x : Ctx) (h : 1 < (cxC x).length) : (cxC x)[1]'h = Value.string x.role := rfl
@[go_sem] theorem cxC_l1 (x : Ctx) : (cxC x)[1]? = some (.string x.role) := rfl
@[go_sem] theorem cxC_a2 (x : Ctx) : (cxC x).toArray[2]? = some (.string x.type) := rfl
@[go_sem] theorem cxC_g2 (x : Ctx) (h : 2 < (cxC x).length) : (cxC x)[2]'h = Value.string x.type := rfl
@[go_sem] theorem cxC_l2 (x : Ctx) : (cxC x)[2]? = some (.string x.type) := rfl
@[go_sem] theorem cxC_a3 (x : Ctx) : (cxC x).toArray[3]? = some (.string x.rng.lo.sens) := rfl
@[go_sem] theorem cxC_g3 (x : Ctx) (h : 3 < (cxC x).length) : (cxC x)[3]'h = Value.string x.rng.lo.sens := rfl
@[go_sem] theorem cxC_l3 (x : Ctx) : (cxC x)[3]? = some (.string x.rng.lo.sens) := rfl
@[go_sem] theorem cxC_a4 (x : Ctx) : (cxC x).toArray[4]? = some (.slice x.rng.lo.hc.a x.rng.lo.cats.length x.rng.lo.hc.c) := rfl
@[go_sem] theorem cxC_g4 (x : Ctx) (h : 4 < (cxC x).length) : (cxC x)[4]'h = Value.slice x.rng.lo.hc.a x.rng.lo.cats.length x.rng.lo.hc.c := rfl
@[go_sem] theorem cxC_l4 (x : Ctx) : (cxC x)[4]? = some (.slice x.rng.lo.hc.a x.rng.lo.cats.length x.rng.lo.hc.c) := rfl
@[go_sem] theorem cxC_a5 (x : Ctx) : (cxC x).toArray[5]? = some (.string x.rng.hi.sens) := rfl
@[go_sem] theorem cxC_g5 (x : Ctx) (h : 5 < (cxC x).length) : (cxC x)[5]'h = Value.string x.rng.hi.sens := rfl
@[go_sem] theorem cxC_l5 (x : Ctx) : (cxC x)[5]? = some (.string x.rng.hi.sens) := rfl
@[go_sem] theorem cxC_a6 (x : Ctx) : (cxC x).toArray[6]? = some (.slice x.rng.hi.hc.a x.rng.hi.cats.length x.rng.hi.hc.c) := rfl
@[go_sem] theorem cxC_g6 (x : Ctx) (h : 6 < (cxC x).length) : (cxC x)[6]'h = Value.slice x.rng.hi.hc.a x.rng.hi.cats.length x.rng.hi.hc.c := rfl
@[go_sem] theorem cxC_l6 (x : Ctx) : (cxC x)[6]? = some (.slice x.rng.hi.hc.a x.rng.hi.cats.length x.rng.hi.hc.c) := rfl
/-- the cells of a Ex -/
def exC (x : Ex) : List Value := [.int .i64 x.h.op, .int .i64 x.h.a, .int .i64 x.h.rel, .int .i64 x.h.b, .slice x.h.hn.a x.h.names.length x.h.hn.c, .int .u64 x.h.s0, .int .u64 x.h.s1, .int .u64 x.h.s2, .int .u64 x.h.s3, .slice x.h.hk.a x.kids.length x.h.hk.c]
@[simp] theorem exC_len (x : Ex) : (exC x).length = 10 := rfl
@[go_sem, simp] theorem exC_size (x : Ex) : (exC x).toArray.size = 10 := rfl
@[go_sem, simp] theorem exC_one (x : Ex) : (exC x).toArray.all (fun c => c.oneCell') = true := by rw [List.all_toArray]; rfl
@[go_sem] theorem exC_a0 (x : Ex) : (exC x).toArray[0]? = some (.int .i64 x.h.op) := rfl
@[go_sem] theorem exC_g0 (x : Ex) (h : 0 < (exC x).length) : (exC x)[0]'h = Value.int .i64 x.h.op := rfl
@[go_sem] theorem exC_l0 (x : Ex) : (exC x)[0]? = some (.int .i64 x.h.op) := rfl
@[go_sem] theorem exC_a1 (x : Ex) : (exC x).toArray[1]? = some (.int .i64 x.h.a) := rfl
@[go_sem] theorem exC_g1 (x : Ex) (h : 1 < (exC x).length) : (exC x)[1]'h = Value.int .i64 x.h.a := rfl
@[go_sem] theorem exC_l1 (x : Ex) : (exC x)[1]? = some (.int .i64 x.h.a) := rfl
@[go_sem] theorem exC_a2 (x : Ex) : (exC x).toArray[2]? = some (.int .i64 x.h.rel) := rfl
@[go_sem] theorem exC_g2 (x : Ex) (h : 2 < (exC x).length) : (exC x)[2]'h = Value.int .i64 x.h.rel := rfl
@[go_sem] theorem exC_l2 (x : Ex) : (exC x)[2]? = some (.int .i64 x.h.rel) := rfl
@[go_sem] theorem exC_a3 (x : Ex) : (exC x).toArray[3]? = some (.int .i64 x.h.b) := rfl
@[go_sem] theorem exC_g3 (x : Ex) (h : 3 < (exC x).length) : (exC x)[3]'h = Value.int .i64 x.h.b := rfl
@[go_sem] theorem exC_l3 (x : Ex) : (exC x)[3]? = some (.int .i64 x.h.b) := rfl
@[go_sem] theorem exC_a4 (x : Ex) : (exC x).toArray[4]? = some (.slice x.h.hn.a x.h.names.length x.h.hn.c) := rfl
@[go_sem] theorem exC_g4 (x : Ex) (h : 4 < (exC x).length) : (exC x)[4]'h = Value.slice x.h.hn.a x.h.names.length x.h.hn.c := rfl
@[go_sem] theorem exC_l4 (x : Ex) : (exC x)[4]? = some (.slice x.h.hn.a x.h.names.length x.h.hn.c) := rfl
@[go_sem] theorem exC_a5 (x : Ex) : (exC x).toArray[5]? = some (.int .u64 x.h.s0) := rfl
@[go_sem] theorem exC_g5 (x : Ex) (h : 5 < (exC x).length) : (exC x)[5]'h = Value.int .u64 x.h.s0 := rfl
@[go_sem] theorem exC_l5 (x : Ex) : (exC x)[5]? = some (.int .u64 x.h.s0) := rfl
@[go_sem] theorem exC_a6 (x : Ex) : (exC x).toArray[6]? = some (.int .u64 x.h.s1) := rfl
@[go_sem] theorem exC_g6 (x : Ex) (h : 6 < (exC x).length) : (exC x)[6]'h = Value.int .u64 x.h.s1 := rfl
@[go_sem] theorem exC_l6 (x : Ex) : (exC x)[6]? = some (.int .u64 x.h.s1) := rfl
@[go_sem] theorem exC_a7 (x : Ex) : (exC x).toArray[7]? = some (.int .u64 x.h.s2) := rfl
@[go_sem] theorem exC_g7 (x : Ex) (h : 7 < (exC x).length) : (exC x)[7]'h = Value.int .u64 x.h.s2 := rfl
@[go_sem] theorem exC_l7 (x : Ex) : (exC x)[7]? = some (.int .u64 x.h.s2) := rfl
@[go_sem] theorem exC_a8 (x : Ex) : (exC x).toArray[8]? = some (.int .u64 x.h.s3) := rfl
@[go_sem] theorem exC_g8 (x : Ex) (h : 8 < (exC x).length) : (exC x)[8]'h = Value.int .u64 x.h.s3 := rfl
@[go_sem] theorem exC_l8 (x : Ex) : (exC x)[8]? = some (.int .u64 x.h.s3) := rfl
@[go_sem] theorem exC_a9 (x : Ex) : (exC x).toArray[9]? = some (.slice x.h.hk.a x.kids.length x.h.hk.c) := rfl
@[go_sem] theorem exC_g9 (x : Ex) (h : 9 < (exC x).length) : (exC x)[9]'h = Value.slice x.h.hk.a x.kids.length x.h.hk.c := rfl
@[go_sem] theorem exC_l9 (x : Ex) : (exC x)[9]? = some (.slice x.h.hk.a x.kids.length x.h.hk.c) := rfl
/-- the cells of a St -/
def stC (x : St) : List Value := [.int .i64 x.h.kind, .int .i64 x.h.op, .int .i64 x.h.line, .int .i64 x.h.col, .string x.h.name, .string x.h.result, .string x.h.text, .slice x.h.hl.a x.h.list.length x.h.hl.c, .slice x.h.ha.a x.h.aliases.length x.h.ha.c, .bool x.h.source.all, .bool x.h.source.nt, .bool x.h.source.self, .slice x.h.source.hn.a x.h.source.names.length x.h.source.hn.c, .slice x.h.source.he.a x.h.source.except.length x.h.source.he.c, .bool x.h.target.all, .bool x.h.target.nt, .bool x.h.target.self, .slice x.h.target.hn.a x.h.target.names.length x.h.target.hn.c, .slice x.h.target.he.a x.h.target.except.length x.h.target.he.c, .bool x.h.cls.all, .bool x.h.cls.nt, .bool x.h.cls.self, .slice x.h.cls.hn.a x.h.cls.names.length x.h.cls.hn.c, .slice x.h.cls.he.a x.h.cls.except.length x.h.cls.he.c, .bool x.h.perms.all, .bool x.h.perms.nt, .bool x.h.perms.self, .slice x.h.perms.hn.a x.h.perms.names.length x.h.perms.hn.c, .slice x.h.perms.he.a x.h.perms.except.length x.h.perms.he.c, .int .i64 x.h.cond.h.op, .int .i64 x.h.cond.h.a, .int .i64 x.h.cond.h.rel, .int .i64 x.h.cond.h.b, .slice x.h.cond.h.hn.a x.h.cond.h.names.length x.h.cond.h.hn.c, .int .u64 x.h.cond.h.s0, .int .u64 x.h.cond.h.s1, .int .u64 x.h.cond.h.s2, .int .u64 x.h.cond.h.s3, .slice x.h.cond.h.hk.a x.h.cond.kids.length x.h.cond.h.hk.c, .string x.h.level.sens, .slice x.h.level.hc.a x.h.level.cats.length x.h.level.hc.c, .string x.h.range.lo.sens, .slice x.h.range.lo.hc.a x.h.range.lo.cats.length x.h.range.lo.hc.c, .string x.h.range.hi.sens, .slice x.h.range.hi.hc.a x.h.range.hi.cats.length x.h.range.hi.hc.c, .string x.h.ctx.user, .string x.h.ctx.role, .string x.h.ctx.type, .string x.h.ctx.rng.lo.sens, .slice x.h.ctx.rng.lo.hc.a x.h.ctx.rng.lo.cats.length x.h.ctx.rng.lo.hc.c, .string x.h.ctx.rng.hi.sens, .slice x.h.ctx.rng.hi.hc.a x.h.ctx.rng.hi.cats.length x.h.ctx.rng.hi.hc.c, .bool x.h.value, .slice x.h.ht.a x.thn.length x.h.ht.c, .slice x.h.he.a x.els.length x.h.he.c]
@[simp] theorem stC_len (x : St) : (stC x).length = 55 := rfl
@[go_sem, simp] theorem stC_size (x : St) : (stC x).toArray.size = 55 := rfl
@[go_sem, simp] theorem stC_one (x : St) : (stC x).toArray.all (fun c => c.oneCell') = true := by rw [List.all_toArray]; rfl
@[go_sem] theorem stC_a0 (x : St) : (stC x).toArray[0]? = some (.int .i64 x.h.kind) := rfl
@[go_sem] theorem stC_g0 (x : St) (h : 0 < (stC x).length) : (stC x)[0]'h = Value.int .i64 x.h.kind := rfl
@[go_sem] theorem stC_l0 (x : St) : (stC x)[0]? = some (.int .i64 x.h.kind) := rfl
@[go_sem] theorem stC_a1 (x : St) : (stC x).toArray[1]? = some (.int .i64 x.h.op) := rfl
@[go_sem] theorem stC_g1 (x : St) (h : 1 < (stC x).length) : (stC x)[1]'h = Value.int .i64 x.h.op := rfl
@[go_sem] theorem stC_l1 (x : St) : (stC x)[1]? = some (.int .i64 x.h.op) := rfl
@[go_sem] theorem stC_a2 (x : St) : (stC x).toArray[2]? = some (.int .i64 x.h.line) := rfl
@[go_sem] theorem stC_g2 (x : St) (h : 2 < (stC x).length) : (stC x)[2]'h = Value.int .i64 x.h.line := rfl
@[go_sem] theorem stC_l2 (x : St) : (stC x)[2]? = some (.int .i64 x.h.line) := rfl
@[go_sem] theorem stC_a3 (x : St) : (stC x).toArray[3]? = some (.int .i64 x.h.col) := rfl
@[go_sem] theorem stC_g3 (x : St) (h : 3 < (stC x).length) : (stC x)[3]'h = Value.int .i64 x.h.col := rfl
@[go_sem] theorem stC_l3 (x : St) : (stC x)[3]? = some (.int .i64 x.h.col) := rfl
@[go_sem] theorem stC_a4 (x : St) : (stC x).toArray[4]? = some (.string x.h.name) := rfl
@[go_sem] theorem stC_g4 (x : St) (h : 4 < (stC x).length) : (stC x)[4]'h = Value.string x.h.name := rfl
@[go_sem] theorem stC_l4 (x : St) : (stC x)[4]? = some (.string x.h.name) := rfl
@[go_sem] theorem stC_a5 (x : St) : (stC x).toArray[5]? = some (.string x.h.result) := rfl
@[go_sem] theorem stC_g5 (x : St) (h : 5 < (stC x).length) : (stC x)[5]'h = Value.string x.h.result := rfl
@[go_sem] theorem stC_l5 (x : St) : (stC x)[5]? = some (.string x.h.result) := rfl
@[go_sem] theorem stC_a6 (x : St) : (stC x).toArray[6]? = some (.string x.h.text) := rfl
@[go_sem] theorem stC_g6 (x : St) (h : 6 < (stC x).length) : (stC x)[6]'h = Value.string x.h.text := rfl
@[go_sem] theorem stC_l6 (x : St) : (stC x)[6]? = some (.string x.h.text) := rfl
@[go_sem] theorem stC_a7 (x : St) : (stC x).toArray[7]? = some (.slice x.h.hl.a x.h.list.length x.h.hl.c) := rfl
@[go_sem] theorem stC_g7 (x : St) (h : 7 < (stC x).length) : (stC x)[7]'h = Value.slice x.h.hl.a x.h.list.length x.h.hl.c := rfl
@[go_sem] theorem stC_l7 (x : St) : (stC x)[7]? = some (.slice x.h.hl.a x.h.list.length x.h.hl.c) := rfl
@[go_sem] theorem stC_a8 (x : St) : (stC x).toArray[8]? = some (.slice x.h.ha.a x.h.aliases.length x.h.ha.c) := rfl
@[go_sem] theorem stC_g8 (x : St) (h : 8 < (stC x).length) : (stC x)[8]'h = Value.slice x.h.ha.a x.h.aliases.length x.h.ha.c := rfl
@[go_sem] theorem stC_l8 (x : St) : (stC x)[8]? = some (.slice x.h.ha.a x.h.aliases.length x.h.ha.c) := rfl
@[go_sem] theorem stC_a9 (x : St) : (stC x).toArray[9]? = some (.bool x.h.source.all) := rfl
@[go_sem] theorem stC_g9 (x : St) (h : 9 < (stC x).length) : (stC x)[9]'h = Value.bool x.h.source.all := rfl
@[go_sem] theorem stC_l9 (x : St) : (stC x)[9]? = some (.bool x.h.source.all) := rfl
@[go_sem] theorem stC_a10 (x : St) : (stC x).toArray[10]? = some (.bool x.h.source.nt) := rfl
@[go_sem] theorem stC_g10 (x : St) (h : 10 < (stC x).length) : (stC x)[10]'h = Value.bool x.h.source.nt := rfl
@[go_sem] theorem stC_l10 (x : St) : (stC x)[10]? = some (.bool x.h.source.nt) := rfl
@[go_sem] theorem stC_a11 (x : St) : (stC x).toArray[11]? = some (.bool x.h.source.self) := rfl
@[go_sem] theorem stC_g11 (x : St) (h : 11 < (stC x).length) : (stC x)[11]'h = Value.bool x.h.source.self := rfl
@[go_sem] theorem stC_l11 (x : St) : (stC x)[11]? = some (.bool x.h.source.self) := rfl
@[go_sem] theorem stC_a12 (x : St) : (stC x).toArray[12]? = some (.slice x.h.source.hn.a x.h.source.names.length x.h.source.hn.c) := rfl
@[go_sem] theorem stC_g12 (x : St) (h : 12 < (stC x).length) : (stC x)[12]'h = Value.slice x.h.source.hn.a x.h.source.names.length x.h.source.hn.c := rfl
@[go_sem] theorem stC_l12 (x : St) : (stC x)[12]? = some (.slice x.h.source.hn.a x.h.source.names.length x.h.source.hn.c) := rfl
@[go_sem] theorem stC_a13 (x : St) : (stC x).toArray[13]? = some (.slice x.h.source.he.a x.h.source.except.length x.h.source.he.c) := rfl
@[go_sem] theorem stC_g13 (x : St) (h : 13 < (stC x).length) : (stC x)[13]'h = Value.slice x.h.source.he.a x.h.source.except.length x.h.source.he.c := rfl
@[go_sem] theorem stC_l13 (x : St) : (stC x)[13]? = some (.slice x.h.source.he.a x.h.source.except.length x.h.source.he.c) := rfl
@[go_sem] theorem stC_a14 (x : St) : (stC x).toArray[14]? = some (.bool x.h.target.all) := rfl
@[go_sem] theorem stC_g14 (x : St) (h : 14 < (stC x).length) : (stC x)[14]'h = Value.bool x.h.target.all := rfl
@[go_sem] theorem stC_l14 (x : St) : (stC x)[14]? = some (.bool x.h.target.all) := rfl
@[go_sem] theorem stC_a15 (x : St) : (stC x).toArray[15]? = some (.bool x.h.target.nt) := rfl
@[go_sem] theorem stC_g15 (x : St) (h : 15 < (stC x).length) : (stC x)[15]'h = Value.bool x.h.target.nt := rfl
@[go_sem] theorem stC_l15 (x : St) : (stC x)[15]? = some (.bool x.h.target.nt) := rfl
@[go_sem] theorem stC_a16 (x : St) : (stC x).toArray[16]? = some (.bool x.h.target.self) := rfl
@[go_sem] theorem stC_g16 (x : St) (h : 16 < (stC x).length) : (stC x)[16]'h = Value.bool x.h.target.self := rfl
@[go_sem] theorem stC_l16 (x : St) : (stC x)[16]? = some (.bool x.h.target.self) := rfl
@[go_sem] theorem stC_a17 (x : St) : (stC x).toArray[17]? = some (.slice x.h.target.hn.a x.h.target.names.length x.h.target.hn.c) := rfl
@[go_sem] theorem stC_g17 (x : St) (h : 17 < (stC x).length) : (stC x)[17]'h = Value.slice x.h.target.hn.a x.h.target.names.length x.h.target.hn.c := rfl
@[go_sem] theorem stC_l17 (x : St) : (stC x)[17]? = some (.slice x.h.target.hn.a x.h.target.names.length x.h.target.hn.c) := rfl
@[go_sem] theorem stC_a18 (x : St) : (stC x).toArray[18]? = some (.slice x.h.target.he.a x.h.target.except.length x.h.target.he.c) := rfl
@[go_sem] theorem stC_g18 (x : St) (h : 18 < (stC x).length) : (stC x)[18]'h = Value.slice x.h.target.he.a x.h.target.except.length x.h.target.he.c := rfl
@[go_sem] theorem stC_l18 (x : St) : (stC x)[18]? = some (.slice x.h.target.he.a x.h.target.except.length x.h.target.he.c) := rfl
@[go_sem] theorem stC_a19 (x : St) : (stC x).toArray[19]? = some (.bool x.h.cls.all) := rfl
@[go_sem] theorem stC_g19 (x : St) (h : 19 < (stC x).length) : (stC x)[19]'h = Value.bool x.h.cls.all := rfl
@[go_sem] theorem stC_l19 (x : St) : (stC x)[19]? = some (.bool x.h.cls.all) := rfl
@[go_sem] theorem stC_a20 (x : St) : (stC x).toArray[20]? = some (.bool x.h.cls.nt) := rfl
@[go_sem] theorem stC_g20 (x : St) (h : 20 < (stC x).length) : (stC x)[20]'h = Value.bool x.h.cls.nt := rfl
@[go_sem] theorem stC_l20 (x : St) : (stC x)[20]? = some (.bool x.h.cls.nt) := rfl
@[go_sem] theorem stC_a21 (x : St) : (stC x).toArray[21]? = some (.bool x.h.cls.self) := rfl
@[go_sem] theorem stC_g21 (x : St) (h : 21 < (stC x).length) : (stC x)[21]'h = Value.bool x.h.cls.self := rfl
@[go_sem] theorem stC_l21 (x : St) : (stC x)[21]? = some (.bool x.h.cls.self) := rfl
@[go_sem] theorem stC_a22 (x : St) : (stC x).toArray[22]? = some (.slice x.h.cls.hn.a x.h.cls.names.length x.h.cls.hn.c) := rfl
@[go_sem] theorem stC_g22 (x : St) (h : 22 < (stC x).length) : (stC x)[22]'h = Value.slice x.h.cls.hn.a x.h.cls.names.length x.h.cls.hn.c := rfl
@[go_sem] theorem stC_l22 (x : St) : (stC x)[22]? = some (.slice x.h.cls.hn.a x.h.cls.names.length x.h.cls.hn.c) := rfl
@[go_sem] theorem stC_a23 (x : St) : (stC x).toArray[23]? = some (.slice x.h.cls.he.a x.h.cls.except.length x.h.cls.he.c) := rfl
@[go_sem] theorem stC_g23 (x : St) (h : 23 < (stC x).length) : (stC x)[23]'h = Value.slice x.h.cls.he.a x.h.cls.except.length x.h.cls.he.c := rfl
@[go_sem] theorem stC_l23 (x : St) : (stC x)[23]? = some (.slice x.h.cls.he.a x.h.cls.except.length x.h.cls.he.c) := rfl
@[go_sem] theorem stC_a24 (x : St) : (stC x).toArray[24]? = some (.bool x.h.perms.all) := rfl
@[go_sem] theorem stC_g24 (x : St) (h : 24 < (stC x).length) : (stC x)[24]'h = Value.bool x.h.perms.all := rfl
@[go_sem] theorem stC_l24 (x : St) : (stC x)[24]? = some (.bool x.h.perms.all) := rfl
@[go_sem] theorem stC_a25 (x : St) : (stC x).toArray[25]? = some (.bool x.h.perms.nt) := rfl
@[go_sem] theorem stC_g25 (x : St) (h : 25 < (stC x).length) : (stC x)[25]'h = Value.bool x.h.perms.nt := rfl
@[go_sem] theorem stC_l25 (x : St) : (stC x)[25]? = some (.bool x.h.perms.nt) := rfl
@[go_sem] theorem stC_a26 (x : St) : (stC x).toArray[26]? = some (.bool x.h.perms.self) := rfl
@[go_sem] theorem stC_g26 (x : St) (h : 26 < (stC x).length) : (stC x)[26]'h = Value.bool x.h.perms.self := rfl
@[go_sem] theorem stC_l26 (x : St) : (stC x)[26]? = some (.bool x.h.perms.self) := rfl
@[go_sem] theorem stC_a27 (x : St) : (stC x).toArray[27]? = some (.slice x.h.perms.hn.a x.h.perms.names.length x.h.perms.hn.c) := rfl
@[go_sem] theorem stC_g27 (x : St) (h : 27 < (stC x).length) : (stC x)[27]'h = Value.slice x.h.perms.hn.a x.h.perms.names.length x.h.perms.hn.c := rfl
@[go_sem] theorem stC_l27 (x : St) : (stC x)[27]? = some (.slice x.h.perms.hn.a x.h.perms.names.length x.h.perms.hn.c) := rfl
@[go_sem] theorem stC_a28 (x : St) : (stC x).toArray[28]? = some (.slice x.h.perms.he.a x.h.perms.except.length x.h.perms.he.c) := rfl
@[go_sem] theorem stC_g28 (x : St) (h : 28 < (stC x).length) : (stC x)[28]'h = Value.slice x.h.perms.he.a x.h.perms.except.length x.h.perms.he.c := rfl
@[go_sem] theorem stC_l28 (x : St) : (stC x)[28]? = some (.slice x.h.perms.he.a x.h.perms.except.length x.h.perms.he.c) := rfl
@[go_sem] theorem stC_a29 (x : St) : (stC x).toArray[29]? = some (.int .i64 x.h.cond.h.op) := rfl
@[go_sem] theorem stC_g29 (x : St) (h : 29 < (stC x).length) : (stC x)[29]'h = Value.int .i64 x.h.cond.h.op := rfl
@[go_sem] theorem stC_l29 (x : St) : (stC x)[29]? = some (.int .i64 x.h.cond.h.op) := rfl
@[go_sem] theorem stC_a30 (x : St) : (stC x).toArray[30]? = some (.int .i64 x.h.cond.h.a) := rfl
@[go_sem] theorem stC_g30 (x : St) (h : 30 < (stC x).length) : (stC x)[30]'h = Value.int .i64 x.h.cond.h.a := rfl
@[go_sem] theorem stC_l30 (x : St) : (stC x)[30]? = some (.int .i64 x.h.cond.h.a) := rfl
@[go_sem] theorem stC_a31 (x : St) : (stC x).toArray[31]? = some (.int .i64 x.h.cond.h.rel) := rfl
@[go_sem] theorem stC_g31 (x : St) (h : 31 < (stC x).length) : (stC x)[31]'h = Value.int .i64 x.h.cond.h.rel := rfl
@[go_sem] theorem stC_l31 (x : St) : (stC x)[31]? = some (.int .i64 x.h.cond.h.rel) := rfl
@[go_sem] theorem stC_a32 (x : St) : (stC x).toArray[32]? = some (.int .i64 x.h.cond.h.b) := rfl
@[go_sem] theorem stC_g32 (x : St) (h : 32 < (stC x).length) : (stC x)[32]'h = Value.int .i64 x.h.cond.h.b := rfl
@[go_sem] theorem stC_l32 (x : St) : (stC x)[32]? = some (.int .i64 x.h.cond.h.b) := rfl
@[go_sem] theorem stC_a33 (x : St) : (stC x).toArray[33]? = some (.slice x.h.cond.h.hn.a x.h.cond.h.names.length x.h.cond.h.hn.c) := rfl
@[go_sem] theorem stC_g33 (x : St) (h : 33 < (stC x).length) : (stC x)[33]'h = Value.slice x.h.cond.h.hn.a x.h.cond.h.names.length x.h.cond.h.hn.c := rfl
@[go_sem] theorem stC_l33 (x : St) : (stC x)[33]? = some (.slice x.h.cond.h.hn.a x.h.cond.h.names.length x.h.cond.h.hn.c) := rfl
@[go_sem] theorem stC_a34 (x : St) : (stC x).toArray[34]? = some (.int .u64 x.h.cond.h.s0) := rfl
@[go_sem] theorem stC_g34 (x : St) (h : 34 < (stC x).length) : (stC x)[34]'h = Value.int .u64 x.h.cond.h.s0 := rfl
@[go_sem] theorem stC_l34 (x : St) : (stC x)[34]? = some (.int .u64 x.h.cond.h.s0) := rfl
@[go_sem] theorem stC_a35 (x : St) : (stC x).toArray[35]? = some (.int .u64 x.h.cond.h.s1) := rfl
@[go_sem] theorem stC_g35 (x : St) (h : 35 < (stC x).length) : (stC x)[35]'h = Value.int .u64 x.h.cond.h.s1 := rfl
@[go_sem] theorem stC_l35 (x : St) : (stC x)[35]? = some (.int .u64 x.h.cond.h.s1) := rfl
@[go_sem] theorem stC_a36 (x : St) : (stC x).toArray[36]? = some (.int .u64 x.h.cond.h.s2) := rfl
@[go_sem] theorem stC_g36 (x : St) (h : 36 < (stC x).length) : (stC x)[36]'h = Value.int .u64 x.h.cond.h.s2 := rfl
@[go_sem] theorem stC_l36 (x : St) : (stC x)[36]? = some (.int .u64 x.h.cond.h.s2) := rfl
@[go_sem] theorem stC_a37 (x : St) : (stC x).toArray[37]? = some (.int .u64 x.h.cond.h.s3) := rfl
@[go_sem] theorem stC_g37 (x : St) (h : 37 < (stC x).length) : (stC x)[37]'h = Value.int .u64 x.h.cond.h.s3 := rfl
@[go_sem] theorem stC_l37 (x : St) : (stC x)[37]? = some (.int .u64 x.h.cond.h.s3) := rfl
@[go_sem] theorem stC_a38 (x : St) : (stC x).toArray[38]? = some (.slice x.h.cond.h.hk.a x.h.cond.kids.length x.h.cond.h.hk.c) := rfl
@[go_sem] theorem stC_g38 (x : St) (h : 38 < (stC x).length) : (stC x)[38]'h = Value.slice x.h.cond.h.hk.a x.h.cond.kids.length x.h.cond.h.hk.c := rfl
@[go_sem] theorem stC_l38 (x : St) : (stC x)[38]? = some (.slice x.h.cond.h.hk.a x.h.cond.kids.length x.h.cond.h.hk.c) := rfl
@[go_sem] theorem stC_a39 (x : St) : (stC x).toArray[39]? = some (.string x.h.level.sens) := rfl
@[go_sem] theorem stC_g39 (x : St) (h : 39 < (stC x).length) : (stC x)[39]'h = Value.string x.h.level.sens := rfl
@[go_sem] theorem stC_l39 (x : St) : (stC x)[39]? = some (.string x.h.level.sens) := rfl
@[go_sem] theorem stC_a40 (x : St) : (stC x).toArray[40]? = some (.slice x.h.level.hc.a x.h.level.cats.length x.h.level.hc.c) := rfl
@[go_sem] theorem stC_g40 (x : St) (h : 40 < (stC x).length) : (stC x)[40]'h = Value.slice x.h.level.hc.a x.h.level.cats.length x.h.level.hc.c := rfl
@[go_sem] theorem stC_l40 (x : St) : (stC x)[40]? = some (.slice x.h.level.hc.a x.h.level.cats.length x.h.level.hc.c) := rfl
@[go_sem] theorem stC_a41 (x : St) : (stC x).toArray[41]? = some (.string x.h.range.lo.sens) := rfl
@[go_sem] theorem stC_g41 (x : St) (h : 41 < (stC x).length) : (stC x)[41]'h = Value.string x.h.range.lo.sens := rfl
@[go_sem] theorem stC_l41 (x : St) : (stC x)[41]? = some (.string x.h.range.lo.sens) := rfl
@[go_sem] theorem stC_a42 (x : St) : (stC x).toArray[42]? = some (.slice x.h.range.lo.hc.a x.h.range.lo.cats.length x.h.range.lo.hc.c) := rfl
@[go_sem] theorem stC_g42 (x : St) (h : 42 < (stC x).length) : (stC x)[42]'h = Value.slice x.h.range.lo.hc.a x.h.range.lo.cats.length x.h.range.lo.hc.c := rfl
@[go_sem] theorem stC_l42 (x : St) : (stC x)[42]? = some (.slice x.h.range.lo.hc.a x.h.range.lo.cats.length x.h.range.lo.hc.c) := rfl
@[go_sem] theorem stC_a43 (x : St) : (stC x).toArray[43]? = some (.string x.h.range.hi.sens) := rfl
@[go_sem] theorem stC_g43 (x : St) (h : 43 < (stC x).length) : (stC x)[43]'h = Value.string x.h.range.hi.sens := rfl
@[go_sem] theorem stC_l43 (x : St) : (stC x)[43]? = some (.string x.h.range.hi.sens) := rfl
@[go_sem] theorem stC_a44 (x : St) : (stC x).toArray[44]? = some (.slice x.h.range.hi.hc.a x.h.range.hi.cats.length x.h.range.hi.hc.c) := rfl
@[go_sem] theorem stC_g44 (x : St) (h : 44 < (stC x).length) : (stC x)[44]'h = Value.slice x.h.range.hi.hc.a x.h.range.hi.cats.length x.h.range.hi.hc.c := rfl
@[go_sem] theorem stC_l44 (x : St) : (stC x)[44]? = some (.slice x.h.range.hi.hc.a x.h.range.hi.cats.length x.h.range.hi.hc.c) := rfl
@[go_sem] theorem stC_a45 (x : St) : (stC x).toArray[45]? = some (.string x.h.ctx.user) := rfl
@[go_sem] theorem stC_g45 (x : St) (h : 45 < (stC x).length) : (stC x)[45]'h = Value.string x.h.ctx.user := rfl
@[go_sem] theorem stC_l45 (x : St) : (stC x)[45]? = some (.string x.h.ctx.user) := rfl
@[go_sem] theorem stC_a46 (x : St) : (stC x).toArray[46]? = some (.string x.h.ctx.role) := rfl
@[go_sem] theorem stC_g46 (x : St) (h : 46 < (stC x).length) : (stC x)[46]'h = Value.string x.h.ctx.role := rfl
@[go_sem] theorem stC_l46 (x : St) : (stC x)[46]? = some (.string x.h.ctx.role) := rfl
@[go_sem] theorem stC_a47 (x : St) : (stC x).toArray[47]? = some (.string x.h.ctx.type) := rfl
@[go_sem] theorem stC_g47 (x : St) (h : 47 < (stC x).length) : (stC x)[47]'h = Value.string x.h.ctx.type := rfl
@[go_sem] theorem stC_l47 (x : St) : (stC x)[47]? = some (.string x.h.ctx.type) := rfl
@[go_sem] theorem stC_a48 (x : St) : (stC x).toArray[48]? = some (.string x.h.ctx.rng.lo.sens) := rfl
@[go_sem] theorem stC_g48 (x : St) (h : 48 < (stC x).length) : (stC x)[48]'h = Value.string x.h.ctx.rng.lo.sens := rfl
@[go_sem] theorem stC_l48 (x : St) : (stC x)[48]? = some (.string x.h.ctx.rng.lo.sens) := rfl
@[go_sem] theorem stC_a49 (x : St) : (stC x).toArray[49]? = some (.slice x.h.ctx.rng.lo.hc.a x.h.ctx.rng.lo.cats.length x.h.ctx.rng.lo.hc.c) := rfl
@[go_sem] theorem stC_g49 (x : St) (h : 49 < (stC x).length) : (stC x)[49]'h = Value.slice x.h.ctx.rng.lo.hc.a x.h.ctx.rng.lo.cats.length x.h.ctx.rng.lo.hc.c := rfl
@[go_sem] theorem stC_l49 (x : St) : (stC x)[49]? = some (.slice x.h.ctx.rng.lo.hc.a x.h.ctx.rng.lo.cats.length x.h.ctx.rng.lo.hc.c) := rfl
@[go_sem] theorem stC_a50 (x : St) : (stC x).toArray[50]? = some (.string x.h.ctx.rng.hi.sens) := rfl
@[go_sem] theorem stC_g50 (x : St) (h : 50 < (stC x).length) : (stC x)[50]'h = Value.string x.h.ctx.rng.hi.sens := rfl
@[go_sem] theorem stC_l50 (x : St) : (stC x)[50]? = some (.string x.h.ctx.rng.hi.sens) := rfl
@[go_sem] theorem stC_a51 (x : St) : (stC x).toArray[51]? = some (.slice x.h.ctx.rng.hi.hc.a x.h.ctx.rng.hi.cats.length x.h.ctx.rng.hi.hc.c) := rfl
@[go_sem] theorem stC_g51 (x : St) (h : 51 < (stC x).length) : (stC x)[51]'h = Value.slice x.h.ctx.rng.hi.hc.a x.h.ctx.rng.hi.cats.length x.h.ctx.rng.hi.hc.c := rfl
@[go_sem] theorem stC_l51 (x : St) : (stC x)[51]? = some (.slice x.h.ctx.rng.hi.hc.a x.h.ctx.rng.hi.cats.length x.h.ctx.rng.hi.hc.c) := rfl
@[go_sem] theorem stC_a52 (x : St) : (stC x).toArray[52]? = some (.bool x.h.value) := rfl
@[go_sem] theorem stC_g52 (x : St) (h : 52 < (stC x).length) : (stC x)[52]'h = Value.bool x.h.value := rfl
@[go_sem] theorem stC_l52 (x : St) : (stC x)[52]? = some (.bool x.h.value) := rfl
@[go_sem] theorem stC_a53 (x : St) : (stC x).toArray[53]? = some (.slice x.h.ht.a x.thn.length x.h.ht.c) := rfl
@[go_sem] theorem stC_g53 (x : St) (h : 53 < (stC x).length) : (stC x)[53]'h = Value.slice x.h.ht.a x.thn.length x.h.ht.c := rfl
@[go_sem] theorem stC_l53 (x : St) : (stC x)[53]? = some (.slice x.h.ht.a x.thn.length x.h.ht.c) := rfl
@[go_sem] theorem stC_a54 (x : St) : (stC x).toArray[54]? = some (.slice x.h.he.a x.els.length x.h.he.c) := rfl
@[go_sem] theorem stC_g54 (x : St) (h : 54 < (stC x).length) : (stC x)[54]'h = Value.slice x.h.he.a x.els.length x.h.he.c := rfl
@[go_sem] theorem stC_l54 (x : St) : (stC x)[54]? = some (.slice x.h.he.a x.els.length x.h.he.c) := rfl
/-- the cells of a Sy -/
def syC (x : Sy) : List Value := [.int .i64 x.kind, .string x.name, .bool x.req, .slice x.hp.a x.perms.length x.hp.c, .int .i64 x.line, .int .i64 x.col]
@[simp] theorem syC_len (x : Sy) : (syC x).length = 6 := rfl
@[go_sem, simp] theorem syC_size (x : Sy) : (syC x).toArray.size = 6 := rfl
@[go_sem, simp] theorem syC_one (x : Sy) : (syC x).toArray.all (fun c => c.oneCell') = true := by rw [List.all_toArray]; rfl
theorem syC_ones (x : Sy) : ∀ c ∈ syC x, Value.oneCell' c = true := fun c hc => (List.all_eq_true.1 (show (syC x).all (fun c => c.oneCell') = true from rfl)) c hc
@[go_sem] theorem syC_a0 (x : Sy) : (syC x).toArray[0]? = some (.int .i64 x.kind) := rfl
@[go_sem] theorem syC_g0 (x : Sy) (h : 0 < (syC x).length) : (syC x)[0]'h = Value.int .i64 x.kind := rfl
@[go_sem] theorem syC_l0 (x : Sy) : (syC x)[0]? = some (.int .i64 x.kind) := rfl
@[go_sem] theorem syC_a1 (x : Sy) : (syC x).toArray[1]? = some (.string x.name) := rfl
@[go_sem] theorem syC_g1 (x : Sy) (h : 1 < (syC x).length) : (syC x)[1]'h = Value.string x.name := rfl
@[go_sem] theorem syC_l1 (x : Sy) : (syC x)[1]? = some (.string x.name) := rfl
@[go_sem] theorem syC_a2 (x : Sy) : (syC x).toArray[2]? = some (.bool x.req) := rfl
@[go_sem] theorem syC_g2 (x : Sy) (h : 2 < (syC x).length) : (syC x)[2]'h = Value.bool x.req := rfl
@[go_sem] theorem syC_l2 (x : Sy) : (syC x)[2]? = some (.bool x.req) := rfl
@[go_sem] theorem syC_a3 (x : Sy) : (syC x).toArray[3]? = some (.slice x.hp.a x.perms.length x.hp.c) := rfl
@[go_sem] theorem syC_g3 (x : Sy) (h : 3 < (syC x).length) : (syC x)[3]'h = Value.slice x.hp.a x.perms.length x.hp.c := rfl
@[go_sem] theorem syC_l3 (x : Sy) : (syC x)[3]? = some (.slice x.hp.a x.perms.length x.hp.c) := rfl
@[go_sem] theorem syC_a4 (x : Sy) : (syC x).toArray[4]? = some (.int .i64 x.line) := rfl
@[go_sem] theorem syC_g4 (x : Sy) (h : 4 < (syC x).length) : (syC x)[4]'h = Value.int .i64 x.line := rfl
@[go_sem] theorem syC_l4 (x : Sy) : (syC x)[4]? = some (.int .i64 x.line) := rfl
@[go_sem] theorem syC_a5 (x : Sy) : (syC x).toArray[5]? = some (.int .i64 x.col) := rfl
@[go_sem] theorem syC_g5 (x : Sy) (h : 5 < (syC x).length) : (syC x)[5]'h = Value.int .i64 x.col := rfl
@[go_sem] theorem syC_l5 (x : Sy) : (syC x)[5]? = some (.int .i64 x.col) := rfl
/-- the cells of a ByteArray × ByteArray -/
def spanC (x : ByteArray × ByteArray) : List Value := [.string x.1, .string x.2]
@[simp] theorem spanC_len (x : ByteArray × ByteArray) : (spanC x).length = 2 := rfl
@[go_sem, simp] theorem spanC_size (x : ByteArray × ByteArray) : (spanC x).toArray.size = 2 := rfl
@[go_sem, simp] theorem spanC_one (x : ByteArray × ByteArray) : (spanC x).toArray.all (fun c => c.oneCell') = true := by rw [List.all_toArray]; rfl
@[go_sem] theorem spanC_a0 (x : ByteArray × ByteArray) : (spanC x).toArray[0]? = some (.string x.1) := rfl
@[go_sem] theorem spanC_g0 (x : ByteArray × ByteArray) (h : 0 < (spanC x).length) : (spanC x)[0]'h = Value.string x.1 := rfl
@[go_sem] theorem spanC_l0 (x : ByteArray × ByteArray) : (spanC x)[0]? = some (.string x.1) := rfl
@[go_sem] theorem spanC_a1 (x : ByteArray × ByteArray) : (spanC x).toArray[1]? = some (.string x.2) := rfl
@[go_sem] theorem spanC_g1 (x : ByteArray × ByteArray) (h : 1 < (spanC x).length) : (spanC x)[1]'h = Value.string x.2 := rfl
@[go_sem] theorem spanC_l1 (x : ByteArray × ByteArray) : (spanC x)[1]? = some (.string x.2) := rfl
section
variable {w w1 : World} {F : List Nat}
/-- what lies behind the heads -/
structure NSet.ok (w : World) (x : NSet) : Prop where
  n : Reads w (x.hn.v x.names.length) x.names
  e : Reads w (x.he.v x.except.length) x.except
structure Lvl.ok (w : World) (x : Lvl) : Prop where
  c : RRow w 2 spanC (x.hc.v x.cats.length) x.cats
structure Rng.ok (w : World) (x : Rng) : Prop where
  lo : x.lo.ok w
  hi : x.hi.ok w
mutual
def Ex.ok (w : World) : Ex → Prop
  | .mk h kids => Reads w (h.hn.v h.names.length) h.names ∧ RRow w 10 exC (h.hk.v kids.length) kids ∧ Ex.oks w kids
def Ex.oks (w : World) : List Ex → Prop
  | [] => True
  | e :: l => e.ok w ∧ Ex.oks w l
end
structure StH.ok (w : World) (x : StH) : Prop where
  list : Reads w (x.hl.v x.list.length) x.list
  aliases : Reads w (x.ha.v x.aliases.length) x.aliases
  source : x.source.ok w
  target : x.target.ok w
  cls : x.cls.ok w
  perms : x.perms.ok w
  cond : x.cond.ok w
  level : x.level.ok w
  range : x.range.ok w
  ctx : x.ctx.rng.ok w
mutual
def St.ok (w : World) : St → Prop
  | .mk h t e => h.ok w ∧ RRow w 55 stC (h.ht.v t.length) t ∧ St.oks w t ∧ RRow w 55 stC (h.he.v e.length) e ∧ St.oks w e
def St.oks (w : World) : List St → Prop
  | [] => True
  | s :: l => s.ok w ∧ St.oks w l
end
theorem Reads.ext {v : Value} {xs : List ByteArray} (h : Reads w v xs) (hx : Ext w w1) : Reads w1 v xs := RRow.ext h hx
theorem NSet.ok.ext {x : NSet} (h : x.ok w) (hx : Ext w w1) : x.ok w1 := ⟨h.n.ext hx, h.e.ext hx⟩
theorem Lvl.ok.ext {x : Lvl} (h : x.ok w) (hx : Ext w w1) : x.ok w1 := ⟨h.c.ext hx⟩
theorem Rng.ok.ext {x : Rng} (h : x.ok w) (hx : Ext w w1) : x.ok w1 := ⟨h.lo.ext hx, h.hi.ext hx⟩
mutual
theorem Ex.ok.ext (hx : Ext w w1) : ∀ {x : Ex}, x.ok w → x.ok w1
  | .mk _ kids, h => by
    unfold Ex.ok at h ⊢
    exact ⟨h.1.ext hx, h.2.1.ext hx, Ex.oks.ext hx (l := kids) h.2.2⟩
theorem Ex.oks.ext (hx : Ext w w1) : ∀ {l : List Ex}, Ex.oks w l → Ex.oks w1 l
  | [], _ => trivial
  | e :: l, h => by
    unfold Ex.oks at h ⊢
    exact ⟨Ex.ok.ext hx (x := e) h.1, Ex.oks.ext hx (l := l) h.2⟩
end
theorem StH.ok.ext {x : StH} (h : x.ok w) (hx : Ext w w1) : x.ok w1 := ⟨h.list.ext hx, h.aliases.ext hx, h.source.ext hx, h.target.ext hx, h.cls.ext hx, h.perms.ext hx, Ex.ok.ext hx h.cond, h.level.ext hx, h.range.ext hx, h.ctx.ext hx⟩
mutual
theorem St.ok.ext (hx : Ext w w1) : ∀ {x : St}, x.ok w → x.ok w1
  | .mk _ t e, h => by
    unfold St.ok at h ⊢
    exact ⟨h.1.ext hx, h.2.1.ext hx, St.oks.ext hx (l := t) h.2.2.1, h.2.2.2.1.ext hx, St.oks.ext hx (l := e) h.2.2.2.2⟩
theorem St.oks.ext (hx : Ext w w1) : ∀ {l : List St}, St.oks w l → St.oks w1 l
  | [], _ => trivial
  | e :: l, h => by
    unfold St.oks at h ⊢
    exact ⟨St.ok.ext hx (x := e) h.1, St.oks.ext hx (l := l) h.2⟩
end
theorem Ex.oks.at : ∀ {l : List Ex}, Ex.oks w l → ∀ {i : Nat} (h : i < l.length), (l[i]).ok w
  | e :: l, h, 0, _ => by unfold Ex.oks at h; exact h.1
  | e :: l, h, i + 1, hi => by unfold Ex.oks at h; exact Ex.oks.at h.2 (by simpa using hi)
theorem St.oks.at : ∀ {l : List St}, St.oks w l → ∀ {i : Nat} (h : i < l.length), (l[i]).ok w
  | e :: l, h, 0, _ => by unfold St.oks at h; exact h.1
  | e :: l, h, i + 1, hi => by unfold St.oks at h; exact St.oks.at h.2 (by simpa using hi)
theorem Ex.ok.names {x : Ex} (h : x.ok w) : Reads w (x.h.hn.v x.h.names.length) x.h.names := by cases x; unfold Ex.ok at h; exact h.1
theorem Ex.ok.kids {x : Ex} (h : x.ok w) : RRow w 10 exC (x.h.hk.v x.kids.length) x.kids := by cases x; unfold Ex.ok at h; exact h.2.1
theorem Ex.ok.subs {x : Ex} (h : x.ok w) : Ex.oks w x.kids := by cases x; unfold Ex.ok at h; exact h.2.2
theorem St.ok.hd {x : St} (h : x.ok w) : x.h.ok w := by cases x; unfold St.ok at h; exact h.1
theorem St.ok.thn {x : St} (h : x.ok w) : RRow w 55 stC (x.h.ht.v x.thn.length) x.thn := by cases x; unfold St.ok at h; exact h.2.1
theorem St.ok.thns {x : St} (h : x.ok w) : St.oks w x.thn := by cases x; unfold St.ok at h; exact h.2.2.1
theorem St.ok.els {x : St} (h : x.ok w) : RRow w 55 stC (x.h.he.v x.els.length) x.els := by cases x; unfold St.ok at h; exact h.2.2.2.1
theorem St.ok.elss {x : St} (h : x.ok w) : St.oks w x.els := by cases x; unfold St.ok at h; exact h.2.2.2.2
/-- a list of records is read at a place -/
theorem RRow.cells {α : Type} {k : Nat} {f : α → List Value} {a : Option Addr} {n c : Nat} {xs : List α} (h : RRow w k f (.slice a n c) xs) {i : Nat} (hi : i < xs.length) :
    ∃ g o, a = some ⟨g, o, none⟩ ∧ g < w.heap.size ∧ ∀ j, j < k → w.cell? ⟨g, o + i * k + j, none⟩ = (f xs[i])[j]? := by
  obtain ⟨g, o, cap', e, -, -, hg, hc⟩ := RRow.at h (by omega)
  injection e with e1 e2 e3
  exact ⟨g, o, e1, hg, fun j hj => hc i hi j hj⟩
end
section
variable {P : Program} {w : World} {K : Act → World → Prop} {a : Act} {Q : Exit → Act → World → Prop}
/-- the load of a record -/
theorem wp_rec {α : Type} {k : Nat} {f : α → List Value} {xs : List α} {o : Oper} {ty : TypeId} {x : Operand} {g off n c i : Nat} {d : TypeDesc} (r : RRow w k f (.slice (some ⟨g, off, none⟩) n c) xs) (hi : i < xs.length)
    (hf : ∀ x, (f x).length = k) (ho : o.op = .load ty x) (hx : a.eval x = .pointer (some ⟨g, off + i * k, none⟩))
    (hu : P.underlying ty = some d) (hd : (match d with | .struct _ | .array _ _ => true | _ => false) = true) (hk : (P.info? ty).map (·.size) = some k)
    (h : K (a.put o.dst (.agg (f xs[i]).toArray)) w) : o.wp P a w K Q := by
  obtain ⟨g', o', cap', e, -, -, hg, hc⟩ := RRow.at r (by omega)
  injection e with e1 e2 e3
  injection e1 with e1
  injection e1 with e4 e5 e6
  subst e4 e5
  have hl : (loadCells ⟨g, off + i * k, none⟩ k).run P w = .ok (f xs[i]).toArray w := by
    have := run_loadCells_list (P := P) w ⟨g, off + i * k, none⟩ (f xs[i]) (fun j v hv => by
      have hadd : (⟨g, off + i * k, none⟩ : Addr).add j = ⟨g, off + i * k + j, none⟩ := by unfold Addr.add; split <;> simp_all
      have hj : j < k := by
        have := (List.getElem?_eq_some_iff.1 hv).1
        rw [hf] at this; exact this
      rw [hadd, hc i hi j hj, hv])
    rwa [hf] at this
  cases hq : P.info? ty with
  | none => simp [hq] at hk
  | some inf =>
    have hs : inf.size = k := by simpa [hq] using hk
    have hagg : (isAgg ty).run P w = .ok true w := by
      unfold isAgg
      rw [Sem.run_bind, run_underlying hu w]
      cases d <;> simp_all
    unfold Oper.wp execOp
    simp only [ho, hx, Instr.loadAt, Instr.sureAddr, loadVar, Sem.run_bind, Sem.run_pure, Result.andThen_ok, hagg, if_true, sizeOf, typeInfo, hq, hs]
    simp [hq, hs, hl, Oper.upon_value]
    exact h
end
section
variable {P : Program} {w : World} {K : Act → World → Prop} {a : Act} {Q : Exit → Act → World → Prop}
def aggB (P : Program) (ty : TypeId) : Bool := match P.underlying ty with | some (.struct _) => true | some (.array _ _) => true | _ => false
/-- the load of a record, by the record -/
theorem wp_rec2 {α : Type} {k : Nat} {f : α → List Value} {xs : List α} {y : α} {o : Oper} {ty : TypeId} {x : Operand} {g off n c i : Nat} (r : RRow w k f (.slice (some ⟨g, off, none⟩) n c) xs) (hy : xs[i]? = some y)
    (hf : ∀ x, (f x).length = k) (ho : o.op = .load ty x) (hx : a.eval x = .pointer (some ⟨g, off + i * k, none⟩))
    (hu : aggB P ty = true) (hk : (P.info? ty).map (·.size) = some k)
    (h : K (a.put o.dst (.agg (f y).toArray)) w) : o.wp P a w K Q := by
  obtain ⟨hi, e⟩ := List.getElem?_eq_some_iff.1 hy
  subst e
  unfold aggB at hu
  split at hu
  · rename_i fs h1
    exact wp_rec r hi hf ho hx h1 rfl hk h
  · rename_i a b h1
    exact wp_rec r hi hf ho hx h1 rfl hk h
  · cases hu
end
section
variable {P : Program} {w : World} {K : Act → World → Prop} {a : Act} {Q : Exit → Act → World → Prop} {X : Nat} {t : TypeId} {cs : Array Value}
/-- the load of a part of a block, by what the part is -/
theorem wp_part {o : Oper} {ty : TypeId} {x : Operand} {off : Nat} {vs : Array Value} (b : Blk w X t cs) (ho : o.op = .load ty x) (hx : a.eval x = .pointer (some ⟨X, off, none⟩))
    (hu : aggB P ty = true) (hk : (P.info? ty).map (·.size) = some vs.size) (he : (cs.toList.drop off).take vs.size = vs.toList)
    (h : K (a.put o.dst (.agg vs)) w) : o.wp P a w K Q := by
  have hle : off + vs.size ≤ cs.size ∨ vs.size = 0 := by
    have := congrArg List.length he
    simp only [List.length_take, List.length_drop, Array.length_toList] at this
    omega
  have hl : (loadCells ⟨X, off, none⟩ vs.size).run P w = .ok vs w := by
    have := run_loadCells_list (P := P) w ⟨X, off, none⟩ vs.toList (fun j v hv => by
      have hadd : (⟨X, off, none⟩ : Addr).add j = ⟨X, off + j, none⟩ := by unfold Addr.add; split <;> simp_all
      rw [hadd, b.cell, ← hv, ← he, List.getElem?_take, List.getElem?_drop, if_pos (by
        have := (List.getElem?_eq_some_iff.1 hv).1
        simpa using this), Array.getElem?_toList])
    rwa [Array.length_toList, Array.toArray_toList] at this
  unfold aggB at hu
  cases hq : P.info? ty with
  | none => simp [hq] at hk
  | some inf =>
    have hs : inf.size = vs.size := by simpa [hq] using hk
    have hagg : (isAgg ty).run P w = .ok true w := by
      unfold isAgg
      split at hu
      · rename_i fs h1
        rw [Sem.run_bind, run_underlying h1 w]; rfl
      · rename_i a b h1
        rw [Sem.run_bind, run_underlying h1 w]; rfl
      · cases hu
    unfold Oper.wp execOp
    simp only [ho, hx, Instr.loadAt, Instr.sureAddr, loadVar, Sem.run_bind, Sem.run_pure, Result.andThen_ok, hagg, if_true, sizeOf, typeInfo, hq, hs]
    simp [hq, hs, hl, Oper.upon_value]
    exact h
/-- the load of a whole block -/
theorem wp_all {o : Oper} {ty : TypeId} {x : Operand} (b : Blk w X t cs) (ho : o.op = .load ty x) (hx : a.eval x = .pointer (some ⟨X, 0, none⟩))
    (hu : aggB P ty = true) (hk : (P.info? ty).map (·.size) = some cs.size)
    (h : K (a.put o.dst (.agg cs)) w) : o.wp P a w K Q := wp_part b ho hx hu hk (by rw [List.drop_zero, ← Array.length_toList, List.take_length]) h
end
theorem sizL : (∀ x, (syC x).toArray.size = 6) ∧ (∀ x, (stC x).toArray.size = 55) ∧ (∀ x, (exC x).toArray.size = 10) ∧ (∀ x, (nsC x).toArray.size = 5) ∧ (∀ x, (lvC x).toArray.size = 2) ∧ (∀ x, (rgC x).toArray.size = 4) ∧ (∀ x, (cxC x).toArray.size = 7) ∧ (∀ x, (spanC x).toArray.size = 2) := ⟨syC_size, stC_size, exC_size, nsC_size, lvC_size, rgC_size, cxC_size, spanC_size⟩
end Go.Proofs.Ytnifgkgdphlleaa
