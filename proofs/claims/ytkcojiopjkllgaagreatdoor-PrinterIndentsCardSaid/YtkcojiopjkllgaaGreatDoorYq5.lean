import Derived.Test.YtkcojiopjkllgaaGreatDoorYq4
import Derived.Test.YtkcojiopjkllgaaGreatDoorYq1
import Derived.Lib.Builder
import Derived.Laws.Externs
import Derived.Maps.AppendAt
import Derived.Lib.AppendStr
import Derived.Test.YtkcojiopjkllgaaGreatDoorRows
import Derived.WalkKit
import Derived.WalkSpells
import Derived.WalkLawsBesides
import Derived.Lib.Hide
import Derived.Lib.UnsafeStr
import Derived.Shelf.RegionOpenPlain
import Derived.Laws.IdiomStrings
set_option linter.unusedSimpArgs false
set_option linter.unusedVariables false
set_option linter.unusedSectionVars false
namespace Go.Proofs.YtkcojiopjkllgaaGreatDoor
namespace Am
open Go.ChangeShapes Go.WideShapes Go.ChangeAt Go.RowKit
set_option maxRecDepth 100000
set_option maxHeartbeats 1000000
section
variable {H : Type} {enc : TypeId × Value → H} {W : World}
theorem one_LapiExpr : Tryz.prog.cellsOf 39 = 1 := by kernel_rfl
theorem one_LapiSpan : Tryz.prog.cellsOf 42 = 1 := by kernel_rfl
theorem one_LapiStmt : Tryz.prog.cellsOf 22 = 1 := by kernel_rfl
theorem one_Lstring : Tryz.prog.cellsOf 33 = 1 := by kernel_rfl
theorem one_accesscontrollaw08Parts : Tryz.prog.cellsOf 58 = 27 := by kernel_rfl
theorem one_apiContextText : Tryz.prog.cellsOf 48 = 7 := by kernel_rfl
theorem one_apiExpr : Tryz.prog.cellsOf 41 = 10 := by kernel_rfl
theorem one_apiLevelText : Tryz.prog.cellsOf 44 = 2 := by kernel_rfl
theorem one_apiModule : Tryz.prog.cellsOf 24 = 3 := by kernel_rfl
theorem one_apiNameSet : Tryz.prog.cellsOf 35 = 5 := by kernel_rfl
theorem one_apiPos : Tryz.prog.cellsOf 32 = 2 := by kernel_rfl
theorem one_apiRangeText : Tryz.prog.cellsOf 46 = 4 := by kernel_rfl
theorem one_apiSet : Tryz.prog.cellsOf 38 = 4 := by kernel_rfl
theorem one_apiSpan : Tryz.prog.cellsOf 120 = 2 := by kernel_rfl
theorem one_apiStmt : Tryz.prog.cellsOf 50 = 55 := by kernel_rfl
theorem one_bool : Tryz.prog.cellsOf 4 = 1 := by kernel_rfl
theorem one_int : Tryz.prog.cellsOf 3 = 1 := by kernel_rfl
theorem one_string : Tryz.prog.cellsOf 9 = 1 := by kernel_rfl
theorem one_uint64 : Tryz.prog.cellsOf 36 = 1 := by kernel_rfl
theorem undL_string : Tryz.prog.underlying 33 = some (.slice 9) := by kernel_rfl
theorem undL_exC : Tryz.prog.underlying 39 = some (.slice 41) := by kernel_rfl
theorem undL_spC : Tryz.prog.underlying 42 = some (.slice 120) := by kernel_rfl
theorem undL_stC : Tryz.prog.underlying 22 = some (.slice 50) := by kernel_rfl
theorem int_o {fuel : Nat} {base : Nat} {sp : Nat → Bool} {held : Bool} {cs : List Value} {x : DataW H × List MemPlace} (h : DataW.trod enc Tryz.prog W base sp held fuel 3 cs = some x) : ∃ a : Int, Reps (worldK W) W [sI a] cs := by
  obtain ⟨m, c, d, r⟩ := DataW.trod_int Tryz.underlying3 h
  exact ⟨m, by rw [c]; exact .cons (.sc rfl) .nil⟩
theorem u64_o {fuel : Nat} {base : Nat} {sp : Nat → Bool} {held : Bool} {cs : List Value} {x : DataW H × List MemPlace} (h : DataW.trod enc Tryz.prog W base sp held fuel 36 cs = some x) : ∃ a : Int, Reps (worldK W) W [sU a] cs := by
  obtain ⟨m, c, d, r⟩ := DataW.trod_int Tryz.underlying36 h
  exact ⟨m, by rw [c]; exact .cons (.sc rfl) .nil⟩
theorem bool_o {fuel : Nat} {base : Nat} {sp : Nat → Bool} {held : Bool} {cs : List Value} {x : DataW H × List MemPlace} (h : DataW.trod enc Tryz.prog W base sp held fuel 4 cs = some x) : ∃ a : Bool, Reps (worldK W) W [sB a] cs := by
  obtain ⟨m, c, d⟩ := DataW.trod_bool Tryz.underlying4 h
  exact ⟨m, by rw [c]; exact .cons (.sc rfl) .nil⟩
theorem string_o {fuel : Nat} {base : Nat} {sp : Nat → Bool} {held : Bool} {cs : List Value} {x : DataW H × List MemPlace} (h : DataW.trod enc Tryz.prog W base sp held fuel 9 cs = some x) : ∃ a : ByteArray, Reps (worldK W) W [sS a] cs := by
  obtain ⟨s, c, d, r⟩ := DataW.trod_string Tryz.underlying9 h
  exact ⟨s, by rw [c]; exact .cons (.sc (decide_eq_true (by unfold maxLen at r; omega))) .nil⟩
theorem names_o {fuel : Nat} {base : Nat} {sp : Nat → Bool} {held : Bool} {cs : List Value} {x : DataW H × List MemPlace} (h : DataW.trod enc Tryz.prog W base sp held fuel 33 cs = some x) : ∃ a : List ByteArray, Reps (worldK W) W [strL a] cs :=
  lst_open (f := oneS) fuel undL_string one_string (by omega) (fun _ => rfl) (fun _ h => string_o h) (Nat.le_refl _) h
theorem undf_poC : ∃ fs, Tryz.prog.underlying 32 = some (.struct fs) ∧ fs.toList.map (fun f => (f.type, f.offset)) = [(3, 0), (3, 1)] := ⟨_, Tryz.underlying32, by kernel_rfl⟩
theorem poC_o {fuel : Nat} {base : Nat} {sp : Nat → Bool} {held : Bool} {cs : List Value} {x : DataW H × List MemPlace} (h : DataW.trod enc Tryz.prog W base sp held fuel 32 cs = some x) : ∃ a : Po, Reps (worldK W) W (poC a) cs := by
  obtain ⟨fs, hu, hf⟩ := undf_poC
  obtain ⟨xs, n, hn, hx, hl, hxl, hat⟩ := DataW.trod_struct hu h
  rw [one_apiPos] at hl
  have hsz : fs.size = 2 := by have := congrArg List.length hf; simpa using this
  rw [hsz] at hxl
  obtain ⟨f0, e0, t0, o0⟩ := field_at hf 0 _ rfl
  obtain ⟨x0, g0⟩ := some_len hxl (i := 0) (by omega)
  have h0 := (hat 0 f0 e0).trans g0
  rw [t0, o0] at h0
  dsimp only at h0
  rw [one_int] at h0
  obtain ⟨m0, c0⟩ := int_o h0
  obtain ⟨f1, e1, t1, o1⟩ := field_at hf 1 _ rfl
  obtain ⟨x1, g1⟩ := some_len hxl (i := 1) (by omega)
  have h1 := (hat 1 f1 e1).trans g1
  rw [t1, o1] at h1
  dsimp only at h1
  rw [one_int] at h1
  obtain ⟨m1, c1⟩ := int_o h1
  have hend : cs.drop 2 = [] := List.drop_of_length_le (by omega)
  exact ⟨⟨m0, m1⟩, show Reps _ _ ([sI m0] ++ ([sI m1] ++ [])) (cs.drop 0) from (reps_split c0 (reps_split c1 (by rw [hend]; exact .nil)))⟩
theorem undf_nsC : ∃ fs, Tryz.prog.underlying 35 = some (.struct fs) ∧ fs.toList.map (fun f => (f.type, f.offset)) = [(4, 0), (4, 1), (4, 2), (33, 3), (33, 4)] := ⟨_, Tryz.underlying35, by kernel_rfl⟩
theorem nsC_o {fuel : Nat} {base : Nat} {sp : Nat → Bool} {held : Bool} {cs : List Value} {x : DataW H × List MemPlace} (h : DataW.trod enc Tryz.prog W base sp held fuel 35 cs = some x) : ∃ a : NS, Reps (worldK W) W (nsC a) cs := by
  obtain ⟨fs, hu, hf⟩ := undf_nsC
  obtain ⟨xs, n, hn, hx, hl, hxl, hat⟩ := DataW.trod_struct hu h
  rw [one_apiNameSet] at hl
  have hsz : fs.size = 5 := by have := congrArg List.length hf; simpa using this
  rw [hsz] at hxl
  obtain ⟨f0, e0, t0, o0⟩ := field_at hf 0 _ rfl
  obtain ⟨x0, g0⟩ := some_len hxl (i := 0) (by omega)
  have h0 := (hat 0 f0 e0).trans g0
  rw [t0, o0] at h0
  dsimp only at h0
  rw [one_bool] at h0
  obtain ⟨m0, c0⟩ := bool_o h0
  obtain ⟨f1, e1, t1, o1⟩ := field_at hf 1 _ rfl
  obtain ⟨x1, g1⟩ := some_len hxl (i := 1) (by omega)
  have h1 := (hat 1 f1 e1).trans g1
  rw [t1, o1] at h1
  dsimp only at h1
  rw [one_bool] at h1
  obtain ⟨m1, c1⟩ := bool_o h1
  obtain ⟨f2, e2, t2, o2⟩ := field_at hf 2 _ rfl
  obtain ⟨x2, g2⟩ := some_len hxl (i := 2) (by omega)
  have h2 := (hat 2 f2 e2).trans g2
  rw [t2, o2] at h2
  dsimp only at h2
  rw [one_bool] at h2
  obtain ⟨m2, c2⟩ := bool_o h2
  obtain ⟨f3, e3, t3, o3⟩ := field_at hf 3 _ rfl
  obtain ⟨x3, g3⟩ := some_len hxl (i := 3) (by omega)
  have h3 := (hat 3 f3 e3).trans g3
  rw [t3, o3] at h3
  dsimp only at h3
  rw [one_Lstring] at h3
  obtain ⟨m3, c3⟩ := names_o h3
  obtain ⟨f4, e4, t4, o4⟩ := field_at hf 4 _ rfl
  obtain ⟨x4, g4⟩ := some_len hxl (i := 4) (by omega)
  have h4 := (hat 4 f4 e4).trans g4
  rw [t4, o4] at h4
  dsimp only at h4
  rw [one_Lstring] at h4
  obtain ⟨m4, c4⟩ := names_o h4
  have hend : cs.drop 5 = [] := List.drop_of_length_le (by omega)
  exact ⟨⟨m0, m1, m2, m3, m4⟩, show Reps _ _ ([sB m0] ++ ([sB m1] ++ ([sB m2] ++ ([strL m3] ++ ([strL m4] ++ []))))) (cs.drop 0) from (reps_split c0 (reps_split c1 (reps_split c2 (reps_split c3 (reps_split c4 (by rw [hend]; exact .nil))))))⟩
theorem undA_set : Tryz.prog.underlying 38 = some (.array 4 36) := by kernel_rfl
theorem seC_o {fuel : Nat} {base : Nat} {sp : Nat → Bool} {held : Bool} {cs : List Value} {x : DataW H × List MemPlace} (h : DataW.trod enc Tryz.prog W base sp held fuel 38 cs = some x) : ∃ a : Se, Reps (worldK W) W (seC a) cs := by
  obtain ⟨xs, n, _, _, hl, hxl, hat⟩ := DataW.trod_array undA_set h
  rw [one_apiSet] at hl
  obtain ⟨x0, g0⟩ := some_len hxl (i := 0) (by omega)
  have h0 := (hat 0 (by omega)).trans g0
  rw [one_uint64] at h0
  obtain ⟨m0, c0⟩ := u64_o h0
  obtain ⟨x1, g1⟩ := some_len hxl (i := 1) (by omega)
  have h1 := (hat 1 (by omega)).trans g1
  rw [one_uint64] at h1
  obtain ⟨m1, c1⟩ := u64_o h1
  obtain ⟨x2, g2⟩ := some_len hxl (i := 2) (by omega)
  have h2 := (hat 2 (by omega)).trans g2
  rw [one_uint64] at h2
  obtain ⟨m2, c2⟩ := u64_o h2
  obtain ⟨x3, g3⟩ := some_len hxl (i := 3) (by omega)
  have h3 := (hat 3 (by omega)).trans g3
  rw [one_uint64] at h3
  obtain ⟨m3, c3⟩ := u64_o h3
  have hend : cs.drop 4 = [] := List.drop_of_length_le (by omega)
  exact ⟨⟨m0, m1, m2, m3⟩, show Reps _ _ ([sU m0] ++ ([sU m1] ++ ([sU m2] ++ ([sU m3] ++ [])))) (cs.drop 0) from reps_split c0 (reps_split c1 (reps_split c2 (reps_split c3 (by rw [hend]; exact .nil))))⟩
theorem undf_exC : ∃ fs, Tryz.prog.underlying 41 = some (.struct fs) ∧ fs.toList.map (fun f => (f.type, f.offset)) = [(3, 0), (3, 1), (3, 2), (3, 3), (33, 4), (38, 5), (39, 9)] := ⟨_, Tryz.underlying41, by kernel_rfl⟩
theorem exC_o0 (N : Nat) (ih : ∀ {fuel : Nat} {base : Nat} {sp : Nat → Bool} {held : Bool} {cs : List Value} {x : DataW H × List MemPlace}, fuel < N → DataW.trod enc Tryz.prog W base sp held fuel 41 cs = some x → ∃ a : Ex, Reps (worldK W) W (exC a) cs) {fuel : Nat} {base : Nat} {sp : Nat → Bool} {held : Bool} {cs : List Value} {x : DataW H × List MemPlace} (hN : fuel ≤ N) (h : DataW.trod enc Tryz.prog W base sp held fuel 41 cs = some x) : ∃ a : Ex, Reps (worldK W) W (exC a) cs := by
  obtain ⟨fs, hu, hf⟩ := undf_exC
  obtain ⟨xs, n, hn, hx, hl, hxl, hat⟩ := DataW.trod_struct hu h
  rw [one_apiExpr] at hl
  have hsz : fs.size = 7 := by have := congrArg List.length hf; simpa using this
  rw [hsz] at hxl
  obtain ⟨f0, e0, t0, o0⟩ := field_at hf 0 _ rfl
  obtain ⟨x0, g0⟩ := some_len hxl (i := 0) (by omega)
  have h0 := (hat 0 f0 e0).trans g0
  rw [t0, o0] at h0
  dsimp only at h0
  rw [one_int] at h0
  obtain ⟨m0, c0⟩ := int_o h0
  obtain ⟨f1, e1, t1, o1⟩ := field_at hf 1 _ rfl
  obtain ⟨x1, g1⟩ := some_len hxl (i := 1) (by omega)
  have h1 := (hat 1 f1 e1).trans g1
  rw [t1, o1] at h1
  dsimp only at h1
  rw [one_int] at h1
  obtain ⟨m1, c1⟩ := int_o h1
  obtain ⟨f2, e2, t2, o2⟩ := field_at hf 2 _ rfl
  obtain ⟨x2, g2⟩ := some_len hxl (i := 2) (by omega)
  have h2 := (hat 2 f2 e2).trans g2
  rw [t2, o2] at h2
  dsimp only at h2
  rw [one_int] at h2
  obtain ⟨m2, c2⟩ := int_o h2
  obtain ⟨f3, e3, t3, o3⟩ := field_at hf 3 _ rfl
  obtain ⟨x3, g3⟩ := some_len hxl (i := 3) (by omega)
  have h3 := (hat 3 f3 e3).trans g3
  rw [t3, o3] at h3
  dsimp only at h3
  rw [one_int] at h3
  obtain ⟨m3, c3⟩ := int_o h3
  obtain ⟨f4, e4, t4, o4⟩ := field_at hf 4 _ rfl
  obtain ⟨x4, g4⟩ := some_len hxl (i := 4) (by omega)
  have h4 := (hat 4 f4 e4).trans g4
  rw [t4, o4] at h4
  dsimp only at h4
  rw [one_Lstring] at h4
  obtain ⟨m4, c4⟩ := names_o h4
  obtain ⟨f5, e5, t5, o5⟩ := field_at hf 5 _ rfl
  obtain ⟨x5, g5⟩ := some_len hxl (i := 5) (by omega)
  have h5 := (hat 5 f5 e5).trans g5
  rw [t5, o5] at h5
  dsimp only at h5
  rw [one_apiSet] at h5
  obtain ⟨m5, c5⟩ := seC_o h5
  obtain ⟨f6, e6, t6, o6⟩ := field_at hf 6 _ rfl
  obtain ⟨x6, g6⟩ := some_len hxl (i := 6) (by omega)
  have h6 := (hat 6 f6 e6).trans g6
  rw [t6, o6] at h6
  dsimp only at h6
  rw [one_LapiExpr] at h6
  obtain ⟨m6, c6⟩ := lst_open (f := exC) N undL_exC one_apiExpr (by omega) exC_len (fun hlt hh => ih hlt hh) (by omega) h6
  rw [← exCs_map] at c6
  have hend : cs.drop 10 = [] := List.drop_of_length_le (by omega)
  exact ⟨⟨m0, m1, m2, m3, m4, m5, m6⟩, show Reps _ _ ([sI m0] ++ ([sI m1] ++ ([sI m2] ++ ([sI m3] ++ ([strL m4] ++ (seC m5 ++ ([.lst none 10 (exCs m6)] ++ []))))))) (cs.drop 0) from (reps_split c0 (reps_split c1 (reps_split c2 (reps_split c3 (reps_split c4 (reps_split c5 (reps_split c6 (by rw [hend]; exact .nil))))))))⟩
theorem exC_o1 : ∀ (N : Nat) {fuel : Nat} {base : Nat} {sp : Nat → Bool} {held : Bool} {cs : List Value} {x : DataW H × List MemPlace}, fuel < N → DataW.trod enc Tryz.prog W base sp held fuel 41 cs = some x → ∃ a : Ex, Reps (worldK W) W (exC a) cs
  | 0, _, _, _, _, _, _, h, _ => absurd h (Nat.not_lt_zero _)
  | N + 1, _, _, _, _, _, _, hl, h => exC_o0 N (fun h1 h2 => exC_o1 N h1 h2) (by omega) h
theorem exC_o {fuel : Nat} {base : Nat} {sp : Nat → Bool} {held : Bool} {cs : List Value} {x : DataW H × List MemPlace} (h : DataW.trod enc Tryz.prog W base sp held fuel 41 cs = some x) : ∃ a : Ex, Reps (worldK W) W (exC a) cs := exC_o1 (fuel + 1) (Nat.lt_succ_self _) h
theorem undf_spC : ∃ fs, Tryz.prog.underlying 120 = some (.struct fs) ∧ fs.toList.map (fun f => (f.type, f.offset)) = [(9, 0), (9, 1)] := ⟨_, Tryz.underlying120, by kernel_rfl⟩
theorem spC_o {fuel : Nat} {base : Nat} {sp : Nat → Bool} {held : Bool} {cs : List Value} {x : DataW H × List MemPlace} (h : DataW.trod enc Tryz.prog W base sp held fuel 120 cs = some x) : ∃ a : Sp, Reps (worldK W) W (spC a) cs := by
  obtain ⟨fs, hu, hf⟩ := undf_spC
  obtain ⟨xs, n, hn, hx, hl, hxl, hat⟩ := DataW.trod_struct hu h
  rw [one_apiSpan] at hl
  have hsz : fs.size = 2 := by have := congrArg List.length hf; simpa using this
  rw [hsz] at hxl
  obtain ⟨f0, e0, t0, o0⟩ := field_at hf 0 _ rfl
  obtain ⟨x0, g0⟩ := some_len hxl (i := 0) (by omega)
  have h0 := (hat 0 f0 e0).trans g0
  rw [t0, o0] at h0
  dsimp only at h0
  rw [one_string] at h0
  obtain ⟨m0, c0⟩ := string_o h0
  obtain ⟨f1, e1, t1, o1⟩ := field_at hf 1 _ rfl
  obtain ⟨x1, g1⟩ := some_len hxl (i := 1) (by omega)
  have h1 := (hat 1 f1 e1).trans g1
  rw [t1, o1] at h1
  dsimp only at h1
  rw [one_string] at h1
  obtain ⟨m1, c1⟩ := string_o h1
  have hend : cs.drop 2 = [] := List.drop_of_length_le (by omega)
  exact ⟨⟨m0, m1⟩, show Reps _ _ ([sS m0] ++ ([sS m1] ++ [])) (cs.drop 0) from (reps_split c0 (reps_split c1 (by rw [hend]; exact .nil)))⟩
theorem undf_lvC : ∃ fs, Tryz.prog.underlying 44 = some (.struct fs) ∧ fs.toList.map (fun f => (f.type, f.offset)) = [(9, 0), (42, 1)] := ⟨_, Tryz.underlying44, by kernel_rfl⟩
theorem lvC_o {fuel : Nat} {base : Nat} {sp : Nat → Bool} {held : Bool} {cs : List Value} {x : DataW H × List MemPlace} (h : DataW.trod enc Tryz.prog W base sp held fuel 44 cs = some x) : ∃ a : Lv, Reps (worldK W) W (lvC a) cs := by
  obtain ⟨fs, hu, hf⟩ := undf_lvC
  obtain ⟨xs, n, hn, hx, hl, hxl, hat⟩ := DataW.trod_struct hu h
  rw [one_apiLevelText] at hl
  have hsz : fs.size = 2 := by have := congrArg List.length hf; simpa using this
  rw [hsz] at hxl
  obtain ⟨f0, e0, t0, o0⟩ := field_at hf 0 _ rfl
  obtain ⟨x0, g0⟩ := some_len hxl (i := 0) (by omega)
  have h0 := (hat 0 f0 e0).trans g0
  rw [t0, o0] at h0
  dsimp only at h0
  rw [one_string] at h0
  obtain ⟨m0, c0⟩ := string_o h0
  obtain ⟨f1, e1, t1, o1⟩ := field_at hf 1 _ rfl
  obtain ⟨x1, g1⟩ := some_len hxl (i := 1) (by omega)
  have h1 := (hat 1 f1 e1).trans g1
  rw [t1, o1] at h1
  dsimp only at h1
  rw [one_LapiSpan] at h1
  obtain ⟨m1, c1⟩ := lst_open (f := spC) n undL_spC one_apiSpan (by omega) spC_len (fun _ hh => spC_o hh) (Nat.le_refl _) h1
  have hend : cs.drop 2 = [] := List.drop_of_length_le (by omega)
  exact ⟨⟨m0, m1⟩, show Reps _ _ ([sS m0] ++ ([.lst none 2 (m1.map spC)] ++ [])) (cs.drop 0) from (reps_split c0 (reps_split c1 (by rw [hend]; exact .nil)))⟩
theorem undf_rgC : ∃ fs, Tryz.prog.underlying 46 = some (.struct fs) ∧ fs.toList.map (fun f => (f.type, f.offset)) = [(44, 0), (44, 2)] := ⟨_, Tryz.underlying46, by kernel_rfl⟩
theorem rgC_o {fuel : Nat} {base : Nat} {sp : Nat → Bool} {held : Bool} {cs : List Value} {x : DataW H × List MemPlace} (h : DataW.trod enc Tryz.prog W base sp held fuel 46 cs = some x) : ∃ a : Rg, Reps (worldK W) W (rgC a) cs := by
  obtain ⟨fs, hu, hf⟩ := undf_rgC
  obtain ⟨xs, n, hn, hx, hl, hxl, hat⟩ := DataW.trod_struct hu h
  rw [one_apiRangeText] at hl
  have hsz : fs.size = 2 := by have := congrArg List.length hf; simpa using this
  rw [hsz] at hxl
  obtain ⟨f0, e0, t0, o0⟩ := field_at hf 0 _ rfl
  obtain ⟨x0, g0⟩ := some_len hxl (i := 0) (by omega)
  have h0 := (hat 0 f0 e0).trans g0
  rw [t0, o0] at h0
  dsimp only at h0
  rw [one_apiLevelText] at h0
  obtain ⟨m0, c0⟩ := lvC_o h0
  obtain ⟨f1, e1, t1, o1⟩ := field_at hf 1 _ rfl
  obtain ⟨x1, g1⟩ := some_len hxl (i := 1) (by omega)
  have h1 := (hat 1 f1 e1).trans g1
  rw [t1, o1] at h1
  dsimp only at h1
  rw [one_apiLevelText] at h1
  obtain ⟨m1, c1⟩ := lvC_o h1
  have hend : cs.drop 4 = [] := List.drop_of_length_le (by omega)
  exact ⟨⟨m0, m1⟩, show Reps _ _ (lvC m0 ++ (lvC m1 ++ [])) (cs.drop 0) from (reps_split c0 (reps_split c1 (by rw [hend]; exact .nil)))⟩
theorem undf_cxC : ∃ fs, Tryz.prog.underlying 48 = some (.struct fs) ∧ fs.toList.map (fun f => (f.type, f.offset)) = [(9, 0), (9, 1), (9, 2), (46, 3)] := ⟨_, Tryz.underlying48, by kernel_rfl⟩
theorem cxC_o {fuel : Nat} {base : Nat} {sp : Nat → Bool} {held : Bool} {cs : List Value} {x : DataW H × List MemPlace} (h : DataW.trod enc Tryz.prog W base sp held fuel 48 cs = some x) : ∃ a : Ct, Reps (worldK W) W (cxC a) cs := by
  obtain ⟨fs, hu, hf⟩ := undf_cxC
  obtain ⟨xs, n, hn, hx, hl, hxl, hat⟩ := DataW.trod_struct hu h
  rw [one_apiContextText] at hl
  have hsz : fs.size = 4 := by have := congrArg List.length hf; simpa using this
  rw [hsz] at hxl
  obtain ⟨f0, e0, t0, o0⟩ := field_at hf 0 _ rfl
  obtain ⟨x0, g0⟩ := some_len hxl (i := 0) (by omega)
  have h0 := (hat 0 f0 e0).trans g0
  rw [t0, o0] at h0
  dsimp only at h0
  rw [one_string] at h0
  obtain ⟨m0, c0⟩ := string_o h0
  obtain ⟨f1, e1, t1, o1⟩ := field_at hf 1 _ rfl
  obtain ⟨x1, g1⟩ := some_len hxl (i := 1) (by omega)
  have h1 := (hat 1 f1 e1).trans g1
  rw [t1, o1] at h1
  dsimp only at h1
  rw [one_string] at h1
  obtain ⟨m1, c1⟩ := string_o h1
  obtain ⟨f2, e2, t2, o2⟩ := field_at hf 2 _ rfl
  obtain ⟨x2, g2⟩ := some_len hxl (i := 2) (by omega)
  have h2 := (hat 2 f2 e2).trans g2
  rw [t2, o2] at h2
  dsimp only at h2
  rw [one_string] at h2
  obtain ⟨m2, c2⟩ := string_o h2
  obtain ⟨f3, e3, t3, o3⟩ := field_at hf 3 _ rfl
  obtain ⟨x3, g3⟩ := some_len hxl (i := 3) (by omega)
  have h3 := (hat 3 f3 e3).trans g3
  rw [t3, o3] at h3
  dsimp only at h3
  rw [one_apiRangeText] at h3
  obtain ⟨m3, c3⟩ := rgC_o h3
  have hend : cs.drop 7 = [] := List.drop_of_length_le (by omega)
  exact ⟨⟨m0, m1, m2, m3⟩, show Reps _ _ ([sS m0] ++ ([sS m1] ++ ([sS m2] ++ (rgC m3 ++ [])))) (cs.drop 0) from (reps_split c0 (reps_split c1 (reps_split c2 (reps_split c3 (by rw [hend]; exact .nil)))))⟩
theorem undf_stC : ∃ fs, Tryz.prog.underlying 50 = some (.struct fs) ∧ fs.toList.map (fun f => (f.type, f.offset)) = [(3, 0), (3, 1), (32, 2), (9, 4), (9, 5), (9, 6), (33, 7), (33, 8), (35, 9), (35, 14), (35, 19), (35, 24), (41, 29), (44, 39), (46, 41), (48, 45), (4, 52), (22, 53), (22, 54)] := ⟨_, Tryz.underlying50, by kernel_rfl⟩
theorem stC_o0 (N : Nat) (ih : ∀ {fuel : Nat} {base : Nat} {sp : Nat → Bool} {held : Bool} {cs : List Value} {x : DataW H × List MemPlace}, fuel < N → DataW.trod enc Tryz.prog W base sp held fuel 50 cs = some x → ∃ a : Stm, Reps (worldK W) W (stC a) cs) {fuel : Nat} {base : Nat} {sp : Nat → Bool} {held : Bool} {cs : List Value} {x : DataW H × List MemPlace} (hN : fuel ≤ N) (h : DataW.trod enc Tryz.prog W base sp held fuel 50 cs = some x) : ∃ a : Stm, Reps (worldK W) W (stC a) cs := by
  obtain ⟨fs, hu, hf⟩ := undf_stC
  obtain ⟨xs, n, hn, hx, hl, hxl, hat⟩ := DataW.trod_struct hu h
  rw [one_apiStmt] at hl
  have hsz : fs.size = 19 := by have := congrArg List.length hf; simpa using this
  rw [hsz] at hxl
  obtain ⟨f0, e0, t0, o0⟩ := field_at hf 0 _ rfl
  obtain ⟨x0, g0⟩ := some_len hxl (i := 0) (by omega)
  have h0 := (hat 0 f0 e0).trans g0
  rw [t0, o0] at h0
  dsimp only at h0
  rw [one_int] at h0
  obtain ⟨m0, c0⟩ := int_o h0
  obtain ⟨f1, e1, t1, o1⟩ := field_at hf 1 _ rfl
  obtain ⟨x1, g1⟩ := some_len hxl (i := 1) (by omega)
  have h1 := (hat 1 f1 e1).trans g1
  rw [t1, o1] at h1
  dsimp only at h1
  rw [one_int] at h1
  obtain ⟨m1, c1⟩ := int_o h1
  obtain ⟨f2, e2, t2, o2⟩ := field_at hf 2 _ rfl
  obtain ⟨x2, g2⟩ := some_len hxl (i := 2) (by omega)
  have h2 := (hat 2 f2 e2).trans g2
  rw [t2, o2] at h2
  dsimp only at h2
  rw [one_apiPos] at h2
  obtain ⟨m2, c2⟩ := poC_o h2
  obtain ⟨f3, e3, t3, o3⟩ := field_at hf 3 _ rfl
  obtain ⟨x3, g3⟩ := some_len hxl (i := 3) (by omega)
  have h3 := (hat 3 f3 e3).trans g3
  rw [t3, o3] at h3
  dsimp only at h3
  rw [one_string] at h3
  obtain ⟨m3, c3⟩ := string_o h3
  obtain ⟨f4, e4, t4, o4⟩ := field_at hf 4 _ rfl
  obtain ⟨x4, g4⟩ := some_len hxl (i := 4) (by omega)
  have h4 := (hat 4 f4 e4).trans g4
  rw [t4, o4] at h4
  dsimp only at h4
  rw [one_string] at h4
  obtain ⟨m4, c4⟩ := string_o h4
  obtain ⟨f5, e5, t5, o5⟩ := field_at hf 5 _ rfl
  obtain ⟨x5, g5⟩ := some_len hxl (i := 5) (by omega)
  have h5 := (hat 5 f5 e5).trans g5
  rw [t5, o5] at h5
  dsimp only at h5
  rw [one_string] at h5
  obtain ⟨m5, c5⟩ := string_o h5
  obtain ⟨f6, e6, t6, o6⟩ := field_at hf 6 _ rfl
  obtain ⟨x6, g6⟩ := some_len hxl (i := 6) (by omega)
  have h6 := (hat 6 f6 e6).trans g6
  rw [t6, o6] at h6
  dsimp only at h6
  rw [one_Lstring] at h6
  obtain ⟨m6, c6⟩ := names_o h6
  obtain ⟨f7, e7, t7, o7⟩ := field_at hf 7 _ rfl
  obtain ⟨x7, g7⟩ := some_len hxl (i := 7) (by omega)
  have h7 := (hat 7 f7 e7).trans g7
  rw [t7, o7] at h7
  dsimp only at h7
  rw [one_Lstring] at h7
  obtain ⟨m7, c7⟩ := names_o h7
  obtain ⟨f8, e8, t8, o8⟩ := field_at hf 8 _ rfl
  obtain ⟨x8, g8⟩ := some_len hxl (i := 8) (by omega)
  have h8 := (hat 8 f8 e8).trans g8
  rw [t8, o8] at h8
  dsimp only at h8
  rw [one_apiNameSet] at h8
  obtain ⟨m8, c8⟩ := nsC_o h8
  obtain ⟨f9, e9, t9, o9⟩ := field_at hf 9 _ rfl
  obtain ⟨x9, g9⟩ := some_len hxl (i := 9) (by omega)
  have h9 := (hat 9 f9 e9).trans g9
  rw [t9, o9] at h9
  dsimp only at h9
  rw [one_apiNameSet] at h9
  obtain ⟨m9, c9⟩ := nsC_o h9
  obtain ⟨f10, e10, t10, o10⟩ := field_at hf 10 _ rfl
  obtain ⟨x10, g10⟩ := some_len hxl (i := 10) (by omega)
  have h10 := (hat 10 f10 e10).trans g10
  rw [t10, o10] at h10
  dsimp only at h10
  rw [one_apiNameSet] at h10
  obtain ⟨m10, c10⟩ := nsC_o h10
  obtain ⟨f11, e11, t11, o11⟩ := field_at hf 11 _ rfl
  obtain ⟨x11, g11⟩ := some_len hxl (i := 11) (by omega)
  have h11 := (hat 11 f11 e11).trans g11
  rw [t11, o11] at h11
  dsimp only at h11
  rw [one_apiNameSet] at h11
  obtain ⟨m11, c11⟩ := nsC_o h11
  obtain ⟨f12, e12, t12, o12⟩ := field_at hf 12 _ rfl
  obtain ⟨x12, g12⟩ := some_len hxl (i := 12) (by omega)
  have h12 := (hat 12 f12 e12).trans g12
  rw [t12, o12] at h12
  dsimp only at h12
  rw [one_apiExpr] at h12
  obtain ⟨m12, c12⟩ := exC_o h12
  obtain ⟨f13, e13, t13, o13⟩ := field_at hf 13 _ rfl
  obtain ⟨x13, g13⟩ := some_len hxl (i := 13) (by omega)
  have h13 := (hat 13 f13 e13).trans g13
  rw [t13, o13] at h13
  dsimp only at h13
  rw [one_apiLevelText] at h13
  obtain ⟨m13, c13⟩ := lvC_o h13
  obtain ⟨f14, e14, t14, o14⟩ := field_at hf 14 _ rfl
  obtain ⟨x14, g14⟩ := some_len hxl (i := 14) (by omega)
  have h14 := (hat 14 f14 e14).trans g14
  rw [t14, o14] at h14
  dsimp only at h14
  rw [one_apiRangeText] at h14
  obtain ⟨m14, c14⟩ := rgC_o h14
  obtain ⟨f15, e15, t15, o15⟩ := field_at hf 15 _ rfl
  obtain ⟨x15, g15⟩ := some_len hxl (i := 15) (by omega)
  have h15 := (hat 15 f15 e15).trans g15
  rw [t15, o15] at h15
  dsimp only at h15
  rw [one_apiContextText] at h15
  obtain ⟨m15, c15⟩ := cxC_o h15
  obtain ⟨f16, e16, t16, o16⟩ := field_at hf 16 _ rfl
  obtain ⟨x16, g16⟩ := some_len hxl (i := 16) (by omega)
  have h16 := (hat 16 f16 e16).trans g16
  rw [t16, o16] at h16
  dsimp only at h16
  rw [one_bool] at h16
  obtain ⟨m16, c16⟩ := bool_o h16
  obtain ⟨f17, e17, t17, o17⟩ := field_at hf 17 _ rfl
  obtain ⟨x17, g17⟩ := some_len hxl (i := 17) (by omega)
  have h17 := (hat 17 f17 e17).trans g17
  rw [t17, o17] at h17
  dsimp only at h17
  rw [one_LapiStmt] at h17
  obtain ⟨m17, c17⟩ := lst_open (f := stC) N undL_stC one_apiStmt (by omega) stC_len (fun hlt hh => ih hlt hh) (by omega) h17
  rw [← stCs_map] at c17
  obtain ⟨f18, e18, t18, o18⟩ := field_at hf 18 _ rfl
  obtain ⟨x18, g18⟩ := some_len hxl (i := 18) (by omega)
  have h18 := (hat 18 f18 e18).trans g18
  rw [t18, o18] at h18
  dsimp only at h18
  rw [one_LapiStmt] at h18
  obtain ⟨m18, c18⟩ := lst_open (f := stC) N undL_stC one_apiStmt (by omega) stC_len (fun hlt hh => ih hlt hh) (by omega) h18
  rw [← stCs_map] at c18
  have hend : cs.drop 55 = [] := List.drop_of_length_le (by omega)
  exact ⟨⟨m0, m1, m2, m3, m4, m5, m6, m7, m8, m9, m10, m11, m12, m13, m14, m15, m16, m17, m18⟩, show Reps _ _ ([sI m0] ++ ([sI m1] ++ (poC m2 ++ ([sS m3] ++ ([sS m4] ++ ([sS m5] ++ ([strL m6] ++ ([strL m7] ++ (nsC m8 ++ (nsC m9 ++ (nsC m10 ++ (nsC m11 ++ (exC m12 ++ (lvC m13 ++ (rgC m14 ++ (cxC m15 ++ ([sB m16] ++ ([.lst none 55 (stCs m17)] ++ ([.lst none 55 (stCs m18)] ++ []))))))))))))))))))) (cs.drop 0) from (reps_split c0 (reps_split c1 (reps_split c2 (reps_split c3 (reps_split c4 (reps_split c5 (reps_split c6 (reps_split c7 (reps_split c8 (reps_split c9 (reps_split c10 (reps_split c11 (reps_split c12 (reps_split c13 (reps_split c14 (reps_split c15 (reps_split c16 (reps_split c17 (reps_split c18 (by rw [hend]; exact .nil))))))))))))))))))))⟩
theorem stC_o1 : ∀ (N : Nat) {fuel : Nat} {base : Nat} {sp : Nat → Bool} {held : Bool} {cs : List Value} {x : DataW H × List MemPlace}, fuel < N → DataW.trod enc Tryz.prog W base sp held fuel 50 cs = some x → ∃ a : Stm, Reps (worldK W) W (stC a) cs
  | 0, _, _, _, _, _, _, h, _ => absurd h (Nat.not_lt_zero _)
  | N + 1, _, _, _, _, _, _, hl, h => stC_o0 N (fun h1 h2 => stC_o1 N h1 h2) (by omega) h
theorem stC_o {fuel : Nat} {base : Nat} {sp : Nat → Bool} {held : Bool} {cs : List Value} {x : DataW H × List MemPlace} (h : DataW.trod enc Tryz.prog W base sp held fuel 50 cs = some x) : ∃ a : Stm, Reps (worldK W) W (stC a) cs := stC_o1 (fuel + 1) (Nat.lt_succ_self _) h
theorem undf_moC : ∃ fs, Tryz.prog.underlying 24 = some (.struct fs) ∧ fs.toList.map (fun f => (f.type, f.offset)) = [(9, 0), (3, 1), (22, 2)] := ⟨_, Tryz.underlying24, by kernel_rfl⟩
theorem moC_o {fuel : Nat} {base : Nat} {sp : Nat → Bool} {held : Bool} {cs : List Value} {x : DataW H × List MemPlace} (h : DataW.trod enc Tryz.prog W base sp held fuel 24 cs = some x) : ∃ a : Mo, Reps (worldK W) W (moC a) cs := by
  obtain ⟨fs, hu, hf⟩ := undf_moC
  obtain ⟨xs, n, hn, hx, hl, hxl, hat⟩ := DataW.trod_struct hu h
  rw [one_apiModule] at hl
  have hsz : fs.size = 3 := by have := congrArg List.length hf; simpa using this
  rw [hsz] at hxl
  obtain ⟨f0, e0, t0, o0⟩ := field_at hf 0 _ rfl
  obtain ⟨x0, g0⟩ := some_len hxl (i := 0) (by omega)
  have h0 := (hat 0 f0 e0).trans g0
  rw [t0, o0] at h0
  dsimp only at h0
  rw [one_string] at h0
  obtain ⟨m0, c0⟩ := string_o h0
  obtain ⟨f1, e1, t1, o1⟩ := field_at hf 1 _ rfl
  obtain ⟨x1, g1⟩ := some_len hxl (i := 1) (by omega)
  have h1 := (hat 1 f1 e1).trans g1
  rw [t1, o1] at h1
  dsimp only at h1
  rw [one_int] at h1
  obtain ⟨m1, c1⟩ := int_o h1
  obtain ⟨f2, e2, t2, o2⟩ := field_at hf 2 _ rfl
  obtain ⟨x2, g2⟩ := some_len hxl (i := 2) (by omega)
  have h2 := (hat 2 f2 e2).trans g2
  rw [t2, o2] at h2
  dsimp only at h2
  rw [one_LapiStmt] at h2
  obtain ⟨m2, c2⟩ := lst_open (f := stC) n undL_stC one_apiStmt (by omega) stC_len (fun _ hh => stC_o hh) (Nat.le_refl _) h2
  have hend : cs.drop 3 = [] := List.drop_of_length_le (by omega)
  exact ⟨⟨m0, m1, m2⟩, show Reps _ _ ([sS m0] ++ ([sI m1] ++ ([.lst none 55 (m2.map stC)] ++ []))) (cs.drop 0) from (reps_split c0 (reps_split c1 (reps_split c2 (by rw [hend]; exact .nil))))⟩
theorem undf_paC : ∃ fs, Tryz.prog.underlying 58 = some (.struct fs) ∧ fs.toList.map (fun f => (f.type, f.offset)) = [(35, 0), (41, 5), (4, 15), (46, 16), (48, 20)] := ⟨_, Tryz.underlying58, by kernel_rfl⟩
theorem paC_o {fuel : Nat} {base : Nat} {sp : Nat → Bool} {held : Bool} {cs : List Value} {x : DataW H × List MemPlace} (h : DataW.trod enc Tryz.prog W base sp held fuel 58 cs = some x) : ∃ a : Pa, Reps (worldK W) W (paC a) cs := by
  obtain ⟨fs, hu, hf⟩ := undf_paC
  obtain ⟨xs, n, hn, hx, hl, hxl, hat⟩ := DataW.trod_struct hu h
  rw [one_accesscontrollaw08Parts] at hl
  have hsz : fs.size = 5 := by have := congrArg List.length hf; simpa using this
  rw [hsz] at hxl
  obtain ⟨f0, e0, t0, o0⟩ := field_at hf 0 _ rfl
  obtain ⟨x0, g0⟩ := some_len hxl (i := 0) (by omega)
  have h0 := (hat 0 f0 e0).trans g0
  rw [t0, o0] at h0
  dsimp only at h0
  rw [one_apiNameSet] at h0
  obtain ⟨m0, c0⟩ := nsC_o h0
  obtain ⟨f1, e1, t1, o1⟩ := field_at hf 1 _ rfl
  obtain ⟨x1, g1⟩ := some_len hxl (i := 1) (by omega)
  have h1 := (hat 1 f1 e1).trans g1
  rw [t1, o1] at h1
  dsimp only at h1
  rw [one_apiExpr] at h1
  obtain ⟨m1, c1⟩ := exC_o h1
  obtain ⟨f2, e2, t2, o2⟩ := field_at hf 2 _ rfl
  obtain ⟨x2, g2⟩ := some_len hxl (i := 2) (by omega)
  have h2 := (hat 2 f2 e2).trans g2
  rw [t2, o2] at h2
  dsimp only at h2
  rw [one_bool] at h2
  obtain ⟨m2, c2⟩ := bool_o h2
  obtain ⟨f3, e3, t3, o3⟩ := field_at hf 3 _ rfl
  obtain ⟨x3, g3⟩ := some_len hxl (i := 3) (by omega)
  have h3 := (hat 3 f3 e3).trans g3
  rw [t3, o3] at h3
  dsimp only at h3
  rw [one_apiRangeText] at h3
  obtain ⟨m3, c3⟩ := rgC_o h3
  obtain ⟨f4, e4, t4, o4⟩ := field_at hf 4 _ rfl
  obtain ⟨x4, g4⟩ := some_len hxl (i := 4) (by omega)
  have h4 := (hat 4 f4 e4).trans g4
  rw [t4, o4] at h4
  dsimp only at h4
  rw [one_apiContextText] at h4
  obtain ⟨m4, c4⟩ := cxC_o h4
  have hend : cs.drop 27 = [] := List.drop_of_length_le (by omega)
  exact ⟨⟨m0, m1, m2, m3, m4⟩, show Reps _ _ (nsC m0 ++ (exC m1 ++ ([sB m2] ++ (rgC m3 ++ (cxC m4 ++ []))))) (cs.drop 0) from (reps_split c0 (reps_split c1 (reps_split c2 (reps_split c3 (reps_split c4 (by rw [hend]; exact .nil))))))⟩
theorem open_stC {sp : Nat → Bool} {held : Bool} {base : Nat} {r : Reach} {b0 : Nat} {v : Value} {d : DataW H} {ps : List MemPlace} (hval : Value.okWide Tryz.prog W r b0 50 v) (h : DataW.Trod enc Tryz.prog W base sp held 50 v d ps) : ∃ x : Stm, RepV (worldK W) W (.agg (stC x)) v := by
  obtain ⟨fs, hu, -⟩ := undf_stC
  obtain ⟨cs, rfl, _⟩ := okWide_struct hu hval
  obtain ⟨fuel, hf⟩ := h
  obtain ⟨x, hc⟩ := stC_o hf
  exact ⟨x, .agg (by simpa [Value.cells] using hc)⟩
theorem open_moC {sp : Nat → Bool} {held : Bool} {base : Nat} {r : Reach} {b0 : Nat} {v : Value} {d : DataW H} {ps : List MemPlace} (hval : Value.okWide Tryz.prog W r b0 24 v) (h : DataW.Trod enc Tryz.prog W base sp held 24 v d ps) : ∃ x : Mo, RepV (worldK W) W (.agg (moC x)) v := by
  obtain ⟨fs, hu, -⟩ := undf_moC
  obtain ⟨cs, rfl, _⟩ := okWide_struct hu hval
  obtain ⟨fuel, hf⟩ := h
  obtain ⟨x, hc⟩ := moC_o hf
  exact ⟨x, .agg (by simpa [Value.cells] using hc)⟩
theorem open_paC {sp : Nat → Bool} {held : Bool} {base : Nat} {r : Reach} {b0 : Nat} {v : Value} {d : DataW H} {ps : List MemPlace} (hval : Value.okWide Tryz.prog W r b0 58 v) (h : DataW.Trod enc Tryz.prog W base sp held 58 v d ps) : ∃ x : Pa, RepV (worldK W) W (.agg (paC x)) v := by
  obtain ⟨fs, hu, -⟩ := undf_paC
  obtain ⟨cs, rfl, _⟩ := okWide_struct hu hval
  obtain ⟨fuel, hf⟩ := h
  obtain ⟨x, hc⟩ := paC_o hf
  exact ⟨x, .agg (by simpa [Value.cells] using hc)⟩
end
end Am
end Go.Proofs.YtkcojiopjkllgaaGreatDoor
namespace Go.Proofs.YtkcojiopjkllgaaGreatDoor.Tk

def letB (c : Int) : Bool := decide (97 ≤ c ∧ c ≤ 122) || decide (65 ≤ c ∧ c ≤ 90) || decide (c = 95)
def digB (c : Int) : Bool := decide (48 ≤ c ∧ c ≤ 57)
def prtB (c : Int) : Bool := decide (32 ≤ c ∧ c ≤ 126 ∧ c ≠ 34)

def bi (c : UInt8) : Int := (c.toNat : Int)
def nmB (c : UInt8) : Bool := letB (bi c) || digB (bi c)
def dgB (c : UInt8) : Bool := digB (bi c)
def ptB (c : UInt8) : Bool := prtB (bi c)

def nameB (l : List UInt8) : Bool := !l.isEmpty && decide (l.length ≤ 32) && !dgB (l.getD 0 0) && l.all nmB
def quoB (l : List UInt8) : Bool := decide (l.length ≤ 256) && l.all ptB

def words : List UInt8 → List UInt8 → List (List UInt8)
  | _, [] => []
  | acc, c :: l => if c = 32 then acc :: words [] l else words (acc ++ [c]) l
def inWords (s ws : List UInt8) : Bool := !s.isEmpty && (words [] ws).contains s
def inRest (s ws : List UInt8) (f k : Nat) : Bool := !s.isEmpty && (words ((ws.drop f).take (k - f)) (ws.drop k)).contains s

theorem inRest_start (s ws : List UInt8) : inRest s ws 0 0 = inWords s ws := by simp [inRest, inWords]
theorem inRest_end (s ws : List UInt8) (f k : Nat) (h : ws.length ≤ k) : inRest s ws f k = false := by
  simp [inRest, List.drop_of_length_le h, words]
theorem inRest_hit (s ws : List UInt8) (f k : Nat) (h : k < ws.length) (hb : ws[k] = 32) (hs : (ws.drop f).take (k - f) = s) (hn : s.isEmpty = false) : inRest s ws f k = true := by
  simp [inRest, List.drop_eq_getElem_cons h, hb, words, hs, hn]
theorem inRest_miss (s ws : List UInt8) (f k : Nat) (h : k < ws.length) (hb : ws[k] = 32) (hs : ¬ ((ws.drop f).take (k - f) = s ∧ s.isEmpty = false)) : inRest s ws f k = inRest s ws (k + 1) (k + 1) := by
  by_cases hn : s.isEmpty = false
  · have h1 : ¬ (ws.drop f).take (k - f) = s := fun h' => hs ⟨h', hn⟩
    have h2 : ¬ s = (ws.drop f).take (k - f) := fun h' => h1 h'.symm
    simp [inRest, List.drop_eq_getElem_cons h, hb, words, h2]
  · have hn' : s.isEmpty = true := by simpa using hn
    simp [inRest, hn']
theorem inRest_other (s ws : List UInt8) (f k : Nat) (hf : f ≤ k) (h : k < ws.length) (hb : ¬ ws[k] = 32) : inRest s ws f k = inRest s ws f (k + 1) := by
  have ht : (ws.drop f).take (k - f) ++ [ws[k]] = (ws.drop f).take (k + 1 - f) := by
    have hl : k - f < (ws.drop f).length := by simp; omega
    rw [show k + 1 - f = (k - f) + 1 by omega, List.take_succ_eq_append_getElem hl]
    simp [show f + (k - f) = k by omega]
  simp only [inRest]
  rw [List.drop_eq_getElem_cons h, words, if_neg hb, ht]

theorem take_all_succ {p : UInt8 → Bool} (l : List UInt8) (k : Nat) (h : k < l.length) : (l.take (k + 1)).all p = ((l.take k).all p && p l[k]) := by
  rw [List.take_succ_eq_append_getElem h, List.all_append]; simp
theorem all_false_of {p : UInt8 → Bool} (l : List UInt8) (k : Nat) (h : k < l.length) (hp : p l[k] = false) : l.all p = false := by
  rw [List.all_eq_false]; exact ⟨l[k], List.getElem_mem h, by simp [hp]⟩
theorem all_of_take {p : UInt8 → Bool} (l : List UInt8) (k : Nat) (h : l.length ≤ k) (hp : (l.take k).all p = true) : l.all p = true := by
  rwa [List.take_of_length_le h] at hp

theorem sz (s : ByteArray) : s.data.toList.length = s.size := Array.length_toList
theorem at_ (s : ByteArray) (k : Nat) (h : k < s.size) : s.data.toList[k]'(by rw [sz]; exact h) = s[k] := rfl
theorem all_step {p : UInt8 → Bool} (s : ByteArray) (k : Nat) (h : k < s.size) (ha : (s.data.toList.take k).all p = true) (hp : p s[k] = true) : (s.data.toList.take (k + 1)).all p = true := by
  rw [take_all_succ _ _ (by rw [sz]; exact h), ha, at_ s k h, hp]; rfl
theorem all_stop {p : UInt8 → Bool} (s : ByteArray) (k : Nat) (h : k < s.size) (hp : p s[k] = false) : s.data.toList.all p = false :=
  all_false_of _ k (by rw [sz]; exact h) (by rw [at_ s k h]; exact hp)
theorem all_done {p : UInt8 → Bool} (s : ByteArray) (k : Nat) (h : s.size ≤ k) (ha : (s.data.toList.take k).all p = true) : s.data.toList.all p = true :=
  all_of_take _ k (by rw [sz]; exact h) ha
theorem isEmpty_of (s : ByteArray) (h : 0 < s.size) : s.data.toList.isEmpty = false := by
  cases hl : s.data.toList with
  | nil => have := sz s; rw [hl] at this; simp at this; omega
  | cons => rfl
theorem isEmpty_no (s : ByteArray) (h : ¬ 0 < s.size) : s.data.toList = [] := by
  cases hl : s.data.toList with
  | nil => rfl
  | cons => have := sz s; rw [hl] at this; simp at this; omega
theorem getD_of (s : ByteArray) (h : 0 < s.size) : s.data.toList.getD 0 0 = s[0] := by
  rw [List.getD_eq_getElem?_getD, List.getElem?_eq_getElem (by rw [sz]; exact h)]; rfl

def tw (p : UInt8 → Bool) (l : List UInt8) : Nat := (l.takeWhile p).length
def kwList : List (List UInt8) := [[109, 111, 100, 117, 108, 101],
  [99, 108, 97, 115, 115],
  [116, 121, 112, 101],
  [97, 108, 105, 97, 115],
  [116, 121, 112, 101, 97, 116, 116, 114, 105, 98, 117, 116, 101],
  [97, 116, 116, 114, 105, 98, 117, 116, 101],
  [114, 111, 108, 101],
  [116, 121, 112, 101, 115],
  [114, 111, 108, 101, 97, 108, 108, 111, 119],
  [114, 111, 108, 101, 95, 116, 114, 97, 110, 115, 105, 116, 105, 111, 110],
  [117, 115, 101, 114],
  [114, 111, 108, 101, 115],
  [108, 101, 118, 101, 108],
  [114, 97, 110, 103, 101],
  [98, 111, 111, 108],
  [116, 114, 117, 101],
  [102, 97, 108, 115, 101],
  [115, 101, 110, 115, 105, 116, 105, 118, 105, 116, 121],
  [99, 97, 116, 101, 103, 111, 114, 121],
  [97, 108, 108, 111, 119],
  [97, 117, 100, 105, 116, 97, 108, 108, 111, 119],
  [100, 111, 110, 116, 97, 117, 100, 105, 116],
  [110, 101, 118, 101, 114, 97, 108, 108, 111, 119],
  [116, 121, 112, 101, 95, 116, 114, 97, 110, 115, 105, 116, 105, 111, 110],
  [116, 121, 112, 101, 95, 99, 104, 97, 110, 103, 101],
  [116, 121, 112, 101, 95, 109, 101, 109, 98, 101, 114],
  [114, 97, 110, 103, 101, 95, 116, 114, 97, 110, 115, 105, 116, 105, 111, 110],
  [99, 111, 110, 115, 116, 114, 97, 105, 110],
  [118, 97, 108, 105, 100, 97, 116, 101, 116, 114, 97, 110, 115],
  [105, 102],
  [101, 108, 115, 101],
  [111, 112, 116, 105, 111, 110, 97, 108],
  [114, 101, 113, 117, 105, 114, 101],
  [115, 105, 100],
  [102, 105, 108, 101, 99, 111, 110],
  [112, 101, 114, 109, 105, 115, 115, 105, 118, 101],
  [97, 115, 115, 101, 114, 116],
  [115, 101, 108, 102],
  [105, 110]]
def kwB (l : List UInt8) : Bool := kwList.contains l

end Go.Proofs.YtkcojiopjkllgaaGreatDoor.Tk
namespace Go.Proofs.YtkcojiopjkllgaaGreatDoor
open Go.RowKit Tk

theorem bu_info : (Tryz.prog.info? 69).map (·.size) = some 2 := by kernel_rfl
theorem bu_lies : liesAt Tryz.prog Tryz.prog.depth 71 (2 / Tryz.prog.cellsOf 71) 0 69 1 = true := by kernel_rfl
theorem bu_ptr : Tryz.prog.underlying 66 = some (.pointer 69) := by kernel_rfl
theorem bu_un : Tryz.prog.underlying 150 = some .unsafePointer := by kernel_rfl
theorem bu_bytes : Tryz.prog.underlying 67 = some (.slice 5) := by kernel_rfl
theorem bu_str : Tryz.prog.underlying 9 = some .string := by kernel_rfl
theorem info_byte : (Tryz.prog.info? 5).map (fun i => (i.zero, i.size, i.bytes)) = some (some (.int .u8 0), 1, 1) := by kernel_rfl

set_option maxHeartbeats 1000000 in
set_option maxRecDepth 100000 in
theorem copyCheck_used (b : Nat) (w : World) (h0 : w.cell? ⟨b, 0, none⟩ = some (.pointer (some ⟨b, 0, none⟩))) :
    Calls Tryz.prog 125 #[.pointer (some ⟨b, 0, none⟩)] w fun e w' => e = .returned (.tuple #[]) ∧ w = w' := by
  obtain ⟨j, hj, _⟩ := Option.map_eq_some_iff.1 bu_info
  have hne := Lib.run_neq_ptr_same w ⟨b, 0, none⟩ bu_ptr hj
  go_enter Tryz.func125, Tryz.ntmps125
  go_wp2
  go_end0
  exact ⟨rfl, rfl⟩
set_option maxHeartbeats 1000000 in
set_option maxRecDepth 100000 in
theorem copyCheck_fresh (b : Nat) (w : World) (h0 : w.cell? ⟨b, 0, none⟩ = some (.pointer none)) (hsh : w.shape? b = some (71, 2)) (hfz : w.frozen? ⟨b, 0, none⟩ = false) :
    Calls Tryz.prog 125 #[.pointer (some ⟨b, 0, none⟩)] w fun e w' => e = .returned (.tuple #[]) ∧ w.setCell ⟨b, 0, none⟩ (.pointer (some ⟨b, 0, none⟩)) = w' := by
  obtain ⟨j, hj, hjs⟩ := Option.map_eq_some_iff.1 bu_info
  go_enter Tryz.func125, Tryz.ntmps125
  go_wp2
  rw [Lib.run_to_unsafe w ⟨b, 0, none⟩ bu_ptr bu_un hj (by rw [hjs]; decide) hsh (Nat.zero_lt_succ 1)]
  simp only [Result.andThen]
  rw [Oper.upon_value]
  go_wp2
  rw [run_callFunc_extern Tryz.func160 (by kernel_rfl) (by kernel_rfl) (by kernel_rfl) (e := Extern.AbiNoEscape.same) (by kernel_rfl)]
  rw [Lib.run_noEscape]
  simp only [Result.andThen]
  rw [Oper.upon_value]
  go_wp2
  rw [Lib.run_from_unsafe w ⟨b, 0, none⟩ bu_un bu_ptr hj hsh bu_lies]
  simp only [Result.andThen]
  rw [Oper.upon_value]
  go_wp2
  go_end0
  exact ⟨rfl, rfl⟩
theorem copyCheck_k (b : Nat) (w : World) {p v : Value} (hb : Blk w b 71 #[p, v]) (hp : p = .pointer none ∨ p = .pointer (some ⟨b, 0, none⟩)) :
    Calls Tryz.prog 125 #[.pointer (some ⟨b, 0, none⟩)] w fun e w' => e = .returned (.tuple #[]) ∧ Blk w' b 71 #[.pointer (some ⟨b, 0, none⟩), v] ∧ But b w w' := by
  rcases hp with rfl | rfl
  · refine (copyCheck_fresh b w (by simpa using hb.cell 0) (by have h : w.heap[b]? = _ := hb; simp [World.shape?, h]) (by simpa using hb.free 0)).mono ?_
    rintro e w' ⟨rfl, rfl⟩
    exact ⟨rfl, by simpa using Blk.set hb 0 (.pointer (some ⟨b, 0, none⟩)), (But.refl b w).set (.inl rfl) _⟩
  · refine (copyCheck_used b w (by simpa using hb.cell 0)).mono ?_
    rintro e w' ⟨rfl, rfl⟩
    exact ⟨rfl, hb, But.refl b _⟩
theorem own_where {P : Program} (w : World) (t u ty e : TypeId) (i : TypeInfo) (ht : P.underlying t = some (.slice e)) (hu : P.underlying u = some .string) (hi : P.info? e = some i) (hz : i.zero = some (.int .u8 0)) (hsize : i.size = 1) (hby : i.bytes = 1)
    (v : Value) (n : Nat) (xs : List Value) (hown : w.ownsRow 0 e 1 v n xs) (s : ByteArray) (hbytes : n + s.size ≤ 140737488355328) {v' : Value} {w' : World} (hr : (Builtin.append_ #[t, u] ty #[v, .string s]).run P w = .ok v' w')
    (hnil : v' = .slice none 0 0 ↔ v = .slice none 0 0 ∧ s.size = 0) : v'.ownBlock = v.ownBlock ∨ v'.ownBlock = some w.heap.size := by
  have hxl : xs.length = n := by simpa using hown.1
  rcases hown.2 with ⟨rfl, rfl⟩ | ⟨g, cap, cur, rfl, hbg, hg, hnc, hcm, hcs, htake⟩
  · by_cases hm : s.size = 0
    · rw [hnil.2 ⟨rfl, hm⟩]; exact .inl rfl
    · rw [run_append_nil_string (P := P) w t u ty e i (.int .u8 0) ht hu hi hz s (by omega) (by omega) (by rw [hby]; omega)] at hr
      injection hr with h1 h2
      rw [← h1]; exact .inr rfl
  · by_cases hroom : n + s.size ≤ cap
    · have hcs' : cur.size = cap := by simpa using hcs
      rw [Lib.run_append_room_string (P := P) w t u ty e i ht hu hi hsize g n cap cur hg s hroom (by omega)] at hr
      injection hr with h1 h2
      rw [← h1]; exact .inl rfl
    · have holds : ∀ j u, xs[j]? = some u → w.cell? ((⟨g, 0, none⟩ : Addr).add j) = some u := hown.cells (g := g) rfl
      rw [Lib.run_append_grow_string (P := P) w t u ty e i (.int .u8 0) ht hu hi hz ⟨g, 0, none⟩ n cap xs (by rw [hsize]; simpa using hxl) holds s (by omega) (by omega) (by rw [hby]; exact growslice_fits (by omega) (by omega))] at hr
      injection hr with h1 h2
      rw [← h1]; exact .inr rfl
theorem wpl_str {P : Program} {w : World} {ops : Array Oper} {rest : List Oper} {o : Oper} {a : Act} {Q : Exit → Act → World → Prop} (hgd : o.guard = none) (sl x : Operand) (t u : TypeId)
    (ho : o.op = .call { callee := .builtin .append, args := #[sl, x], argTypes := #[t, u] })
    (e : TypeId) (i : TypeInfo) (ht : P.underlying t = some (.slice e)) (hu : P.underlying u = some .string) (hi : P.info? e = some i) (hz : i.zero = some (.int .u8 0))
    (hsize : i.size = 1) (hby : i.bytes = 1)
    (v : Value) (n : Nat) (xs : List Value) (hs : a.eval sl = v) (hown : w.ownsRow 0 e 1 v n xs) (s : ByteArray) (hx : a.eval x = .string s) (hbytes : n + s.size ≤ 140737488355328)
    (h : ∀ v' w', w'.ownsRow 0 e 1 v' (n + s.size) (xs ++ Lib.strCells s) → w.grownBy w' v.ownBlock → (v'.ownBlock = v.ownBlock ∨ v'.ownBlock = some w.heap.size) → wpList P ops Q rest (a.put o.dst v') w') : wpList P ops Q (o :: rest) a w := by
  refine wpList_plain hgd fun K hK => ?_
  obtain ⟨v', w', hr, h2, h3, h4⟩ := Lib.run_append_own_string (P := P) w 0 t u o.type e i ht hu hi hz hsize hby v n xs hown s (by unfold maxLen; omega) hbytes (Nat.zero_le _)
  have h5 := own_where w t u o.type e i ht hu hi hz hsize hby v n xs hown s hbytes hr h4
  unfold Oper.wp execOp
  simp only [ho, resolve, invoke, builtin, Sem.run_bind, Sem.run_pure, Result.andThen_ok, List.map_toArray, List.map_cons, List.map_nil, hs, hx, hr]
  exact hK _ _ (h v' w' h2 h3 h5)
theorem own_kept {w w' : World} {B : Nat} {e : TypeId} {v : Value} {n : Nat} {xs : List Value} (h : w.ownsRow B e 1 v n xs) (hb : ∀ g, v.ownBlock = some g → w'.heap[g]? = w.heap[g]?) : w'.ownsRow B e 1 v n xs := by
  refine ⟨h.1, ?_⟩
  rcases h.2 with h2 | ⟨g, cap, cur, h1, h2, h3, h4⟩
  · exact .inl h2
  · exact .inr ⟨g, cap, cur, h1, h2, (hb g (by rw [h1]; rfl)).trans h3, h4⟩
def Wrote (b : Nat) (w : World) (v : Value) (bs : List Value) (w' : World) : Prop := ∃ v', Blk w' b 71 #[.pointer (some ⟨b, 0, none⟩), v'] ∧ w'.ownsRow 0 5 1 v' bs.length bs ∧ (∀ g, v'.ownBlock = some g → (v.ownBlock = some g ∨ w.heap.size ≤ g) ∧ g < w'.heap.size ∧ g ≠ b) ∧ Am.Keep (b :: v.ownBlock.toList) w w'
theorem own_ne1 {b : Nat} {w w1 : World} {v : Value} (hne : v.ownBlock ≠ some b) (hw1 : But b w w1) {T : TypeId} {cs : Array Value} (hb0 : Blk w b T cs) : b < w.heap.size := Blk.lt hb0
theorem wrote_end {b : Nat} {w w1 w2 : World} {p v v' : Value} {bs bs' : List Value} (hb0 : Blk w b 71 #[p, v]) (hown : w.ownsRow 0 5 1 v bs.length bs) (hne : v.ownBlock ≠ some b)
    (hbk : Blk w1 b 71 #[.pointer (some ⟨b, 0, none⟩), v]) (hw1 : But b w w1) (hlt : b < w.heap.size) (hb2 : Blk w2 b 71 #[.pointer (some ⟨b, 0, none⟩), v])
    (hown' : w2.ownsRow 0 5 1 v' bs'.length bs') (hgrow : w1.grownBy w2 v.ownBlock) (hat : v'.ownBlock = v.ownBlock ∨ ∃ g, v'.ownBlock = some g ∧ w.heap.size ≤ g) : Wrote b w v bs' (w2.setCell ⟨b, 1, none⟩ v') := by
  have hge : ∀ g, v'.ownBlock = some g → (v.ownBlock = some g ∨ w.heap.size ≤ g) ∧ g ≠ b := fun g hg => by
    rcases hat with h | ⟨g', h, hs⟩
    · rw [h] at hg; exact ⟨.inl hg, fun e => hne (e ▸ hg)⟩
    · rw [h] at hg; injection hg with hg; subst hg; exact ⟨.inr hs, by omega⟩
  have hset : ∀ k, k ≠ b → (w2.setCell ⟨b, 1, none⟩ v').heap[k]? = w2.heap[k]? := fun k hk => Below.heap_setCell w2 ⟨b, 1, none⟩ v' k hk
  have hsz : (w2.setCell ⟨b, 1, none⟩ v').heap.size = w2.heap.size := by simp [World.setCell]
  refine ⟨v', by simpa using Blk.set hb2 1 v', own_kept hown' fun g hg => hset g (hge g hg).2, fun g hg => ⟨(hge g hg).1, by rw [hsz]; exact (hown'.lt g hg).2, (hge g hg).2⟩, ?_⟩
  refine ⟨hgrow.os.trans hw1.os, hgrow.tape.trans hw1.tape, hgrow.output.trans hw1.output, by rw [hsz]; exact Nat.le_trans hw1.size hgrow.size, fun k hk hn => ?_⟩
  have hkb : k ≠ b := fun e => hn (by rw [e]; exact .head _)
  have hkv : some k ≠ v.ownBlock := fun e => hn (by rw [← e]; simp)
  exact (hset k hkb).trans ((hgrow.block k (Nat.lt_of_lt_of_le hk hw1.size) hkv).trans (hw1.block k hk hkb))
set_option maxHeartbeats 2000000 in
set_option maxRecDepth 100000 in
theorem bWriteString_k (b : Nat) (bs : List Value) (s : ByteArray) (w : World) {p v : Value} (hb0 : Blk w b 71 #[p, v]) (hp : p = .pointer none ∨ p = .pointer (some ⟨b, 0, none⟩)) (hown : w.ownsRow 0 5 1 v bs.length bs) (hne : v.ownBlock ≠ some b) (hlen : bs.length + s.size ≤ 140737488355328) :
    Calls Tryz.prog 76 #[.pointer (some ⟨b, 0, none⟩), .string s] w fun e w' => e = .returned (.tuple #[.int .i64 s.size, .nilIface]) ∧ Wrote b w v (bs ++ Lib.strCells s) w' := by
  obtain ⟨i0, hi, hz0, hz1, hz2⟩ := info_parts info_byte
  go_enter Tryz.func76, Tryz.ntmps76
  go_wp2_with (first | (at_builtin; refine wpl_str rfl _ _ 67 9 rfl 5 i0 bu_bytes bu_str hi hz0 hz1 hz2 _ _ _ rfl hown1 s rfl hlen ?_) | (go_at_call 125; ((with_reducible refine (copyCheck_k b _ hb0 hp).mono ?_); rintro e w1 ⟨rfl, hbk, hw1⟩; have c0 := Blk.cell hbk 0; have c1 := Blk.cell hbk 1; have hown1 := own_kept hown fun g hg => hw1.block g (hown.lt g hg).2 (fun e => hne (e ▸ hg)))))
  intro v' w2 hown' hgrow hat
  have hlt : b < w1.heap.size := Blk.lt hbk
  have hb2 : Blk w2 b 71 #[.pointer (some ⟨b, 0, none⟩), v] := Blk.grown hbk hgrow (fun e => hne e.symm)
  have d0 := Blk.cell hb2 0
  have d1 := Blk.cell hb2 1
  have f1 := Blk.free hb2 1
  obtain ⟨ao, n', cap, rfl⟩ : ∃ ao n' cap, v' = .slice ao n' cap := by
    rcases hown'.2 with ⟨hv, _⟩ | ⟨g, cap, cur, hv, _⟩
    · exact ⟨_, _, _, hv⟩
    · exact ⟨_, _, _, hv⟩
  go_wp2
  go_ret2
  exact ⟨rfl, wrote_end hb0 hown hne hbk hw1 (own_ne1 hne hw1 hb0) hb2 (by simpa [Lib.strCells_length] using hown') hgrow (hat.imp_right fun h => ⟨_, h, hw1.size⟩) ⟩
set_option maxHeartbeats 2000000 in
set_option maxRecDepth 100000 in
theorem bWriteByte_k (b : Nat) (bs : List Value) (c : Int) (w : World) {p v : Value} (hb0 : Blk w b 71 #[p, v]) (hp : p = .pointer none ∨ p = .pointer (some ⟨b, 0, none⟩)) (hown : w.ownsRow 0 5 1 v bs.length bs) (hne : v.ownBlock ≠ some b) (hlen : bs.length + 1 ≤ 140737488355328) :
    Calls Tryz.prog 75 #[.pointer (some ⟨b, 0, none⟩), .int .u8 c] w fun e w' => e = .returned .nilIface ∧ Wrote b w v (bs ++ [.int .u8 c]) w' := by
  obtain ⟨i0, hi, hz0, hz1, hz2⟩ := info_parts info_byte
  go_enter Tryz.func75, Tryz.ntmps75
  go_wp2_with (first | (at_builtin; refine wpList_append_own_at _ rfl _ _ 67 rfl 0 5 i0 (.int .u8 0) 1 1 bu_bytes hi hz0 hz1 hz2 rfl (by decide) _ _ _ rfl (hown1.alloc _) ⟨w1.heap.size, 0, none⟩ 1 1 [.int .u8 c] rfl rfl ?c1 ?c2 ?c3 ?c4 ?c5 ?_) | (go_at_call 125; ((with_reducible refine (copyCheck_k b _ hb0 hp).mono ?_); rintro e w1 ⟨rfl, hbk, hw1⟩; have c0 := Blk.cell hbk 0; have c1 := Blk.cell hbk 1; have hown1 := own_kept hown fun g hg => hw1.block g (hown.lt g hg).2 (fun e => hne (e ▸ hg)))))
  case c1 =>
    intro j u hj
    match j, hj with
    | 0, hj => simp at hj; subst hj; simp [Addr.add]
  case c2 => intro u hu; simp at hu; subst hu; rfl
  case c3 => unfold maxLen; omega
  case c4 => omega
  case c5 => omega
  intro v' w2 hown' hgrow _ hat
  have hlt : b < w1.heap.size := Blk.lt hbk
  have hb2 : Blk w2 b 71 #[.pointer (some ⟨b, 0, none⟩), v] := Blk.grown (Blk.alloc hbk _) hgrow (fun e => hne e.symm)
  have d0 := Blk.cell hb2 0
  have d1 := Blk.cell hb2 1
  have f1 := Blk.free hb2 1
  obtain ⟨g, cap, rfl⟩ : ∃ g cap, v' = .slice (some ⟨g, 0, none⟩) (bs.length + 1) cap := by
    rcases hown'.2 with ⟨_, h0⟩ | ⟨g, cap, cur, hv, _⟩
    · omega
    · exact ⟨g, cap, hv⟩
  go_wp2
  go_ret
  exact ⟨rfl, wrote_end (bs' := bs ++ [.int .u8 c]) hb0 hown hne (Blk.alloc hbk _) (hw1.alloc _) (Blk.lt hb0) hb2 (by simpa using hown') hgrow (hat.imp_right fun h => ⟨_, h, by have := hw1.size; omega⟩)⟩
end Go.Proofs.YtkcojiopjkllgaaGreatDoor
namespace Go.Proofs.YtkcojiopjkllgaaGreatDoor
open Go.RowKit Tk
theorem mixed : Tryz.prog.follows .mixedOrders = true := by kernel_rfl
@[go_sem] theorem wrap32_byte (c : UInt8) : wrap32 (c.toNat : Int) = (c.toNat : Int) := by
  have := c.toNat_lt; exact IntWalk.wrap32_in _ ⟨by omega, by omega⟩
@[go_sem] theorem wrap64_byte (c : UInt8) : wrap64 (c.toNat : Int) = (c.toNat : Int) := by
  have := c.toNat_lt; exact IntWalk.wrap64_in _ ⟨by omega, by omega⟩
@[go_sem] theorem kwrap32_byte (c : UInt8) : IntKind.i32.wrap (c.toNat : Int) = (c.toNat : Int) := by
  have := c.toNat_lt; exact IntWalk.i32_in _ ⟨by omega, by omega⟩
@[go_sem] theorem kwrap64_byte (c : UInt8) : IntKind.i64.wrap (c.toNat : Int) = (c.toNat : Int) := by
  have := c.toNat_lt; exact IntWalk.i64_in _ ⟨by omega, by omega⟩
theorem ret_bool {a b : Bool} (h : a = b) : Ending.returned (.bool a) = .returned (.bool b) := by rw [h]
theorem bl (s : ByteArray) : s.toList = s.data.toList := by rw [ByteArray.toList_eq]
theorem some_of {s : ByteArray} (h : 0 < s.size) : ¬ s.toList = [] ∧ s.toList.isEmpty = false := by
  have := isEmpty_of s h
  rw [bl]
  exact ⟨fun h' => (by rw [h'] at this; cases this), this⟩
theorem none_of {s : ByteArray} (h : ¬ 0 < s.size) : s.toList = [] := by rw [bl]; exact isEmpty_no s h
end Go.Proofs.YtkcojiopjkllgaaGreatDoor
namespace Go.Proofs.YtkcojiopjkllgaaGreatDoor
open Go.RowKit Tk
theorem us_none (W : World) (q : Option Addr) : (Builtin.unsafeString_ #[104, 3] 9 #[.pointer q, .int .i64 0]).run Tryz.prog W = .ok (.string .empty) W := Lib.run_unsafeString_none W _ _ _ q
theorem freeze_keep (w : World) (g n : Nat) : Am.Keep [g] w (w.drew.freeze ⟨g, 0, none⟩ n) := by
  unfold World.freeze
  split
  · exact ⟨rfl, rfl, rfl, Nat.le_refl _, fun k _ _ => rfl⟩
  · exact ⟨rfl, rfl, rfl, by rw [Array.size_modify]; exact Nat.le_refl _, fun k hk hn => by
      simp only [Array.getElem?_modify]
      rw [if_neg (by simpa [eq_comm] using hn)]
      rfl⟩
set_option maxHeartbeats 2000000 in
set_option maxRecDepth 100000 in
theorem wString_some (b g cap : Nat) (p : Value) (l : List UInt8) (w : World) (hbk : w.heap[b]? = some (.cells #[p, .slice (some ⟨g, 0, none⟩) l.length cap] 71 (0, 0))) (hown : w.ownsRow 0 5 1 (.slice (some ⟨g, 0, none⟩) l.length cap) l.length (Lib.byteCells l)) (h0 : l ≠ []) :
    Calls Tryz.prog 37 #[.pointer (some ⟨b, 0, none⟩)] w fun e w' => e = .returned (.string ⟨l.toArray⟩) ∧ Am.Keep [g] w w' := by
  have hl0 : l.length ≠ 0 := by simpa using h0
  obtain ⟨cur, hg, hnc, hcm, hcs⟩ : ∃ cur, w.heap[g]? = some (.cells cur 5 (0, 0)) ∧ l.length ≤ cap ∧ cap ≤ maxLen ∧ cur.size = cap * 1 := by
    rcases hown.2 with ⟨h, _⟩ | ⟨g', cap', cur, h1, _, h3, h4, h5, h6, _⟩
    · cases h
    · injection h1 with e1 _ e2
      injection e1 with e1
      injection e1 with e1
      subst e1 e2
      exact ⟨cur, h3, h4, h5, h6⟩
  have c1 : w.drew.cell? ⟨b, 1, none⟩ = some (.slice (some ⟨g, 0, none⟩) l.length cap) := by
    have : w.drew.heap[b]? = some (.cells #[p, .slice (some ⟨g, 0, none⟩) l.length cap] 71 (0, 0)) := hbk
    rw [Lib.cell_of_heap this]; rfl
  have hSD : (Builtin.unsafeSliceData_ #[67] 104 #[.slice (some ⟨g, 0, none⟩) l.length cap]).run Tryz.prog w.drew = .ok (.pointer (some ⟨g, 0, none⟩)) w.drew :=
    Lib.run_unsafeSliceData_row _ _ _ _ _ _ (by omega)
  have hUS : (Builtin.unsafeString_ #[104, 3] 9 #[.pointer (some ⟨g, 0, none⟩), .int .i64 l.length]).run Tryz.prog w.drew = .ok (.string ⟨l.toArray⟩) (w.drew.freeze ⟨g, 0, none⟩ l.length) := by
    refine Lib.run_unsafeString_row w.drew 104 3 9 5 (by kernel_rfl) (by kernel_rfl) g cur.size (by have hg' : w.drew.heap[g]? = some (.cells cur 5 (0, 0)) := hg; simp [World.shape?, hg']) l h0 (by omega) (by unfold maxLen at hcm; omega) ?_
    intro j x hx
    have := hown.cells (g := g) rfl j (.int .u8 x.toNat) (by simp [Lib.byteCells, hx])
    exact this
  have mx : Tryz.prog.follows .mixedOrders = true := mixed
  go_enter Tryz.func37, Tryz.ntmps37
  go_wp2
  go_region_o
  all_goals (go_wp2; go_ret; exact ⟨rfl, freeze_keep w g _⟩)
set_option maxHeartbeats 2000000 in
set_option maxRecDepth 100000 in
theorem wString_nil (B b : Nat) (p : Value) (w : World) (hbk : w.heap[b]? = some (.cells #[p, .slice none 0 0] 71 (0, 0))) :
    Calls Tryz.prog 37 #[.pointer (some ⟨b, 0, none⟩)] w fun e w' => e = .returned (.string ⟨#[]⟩) ∧ Below B w w' := by
  have hUS := us_none
  have c1 : w.drew.cell? ⟨b, 1, none⟩ = some (.slice none 0 0) := by
    have : w.drew.heap[b]? = some (.cells #[p, .slice none 0 0] 71 (0, 0)) := hbk
    rw [Lib.cell_of_heap this]; rfl
  have hSD : (Builtin.unsafeSliceData_ #[67] 104 #[.slice none 0 0]).run Tryz.prog w.drew = .ok (.pointer none) w.drew := rfl
  have mx : Tryz.prog.follows .mixedOrders = true := mixed
  go_enter Tryz.func37, Tryz.ntmps37
  go_wp2
  go_region_o
  all_goals (go_wp2; go_ret; exact ⟨rfl, Below.drew (Below.refl B w)⟩)
set_option maxHeartbeats 2000000 in
set_option maxRecDepth 100000 in
theorem wString_room (B b g cap : Nat) (p : Value) (w : World) (hc0 : cap ≠ 0) (hbk : w.heap[b]? = some (.cells #[p, .slice (some ⟨g, 0, none⟩) 0 cap] 71 (0, 0))) :
    Calls Tryz.prog 37 #[.pointer (some ⟨b, 0, none⟩)] w fun e w' => e = .returned (.string ⟨#[]⟩) ∧ Below B w w' := by
  have hUS := us_none
  have c1 : w.drew.cell? ⟨b, 1, none⟩ = some (.slice (some ⟨g, 0, none⟩) 0 cap) := by
    have : w.drew.heap[b]? = some (.cells #[p, .slice (some ⟨g, 0, none⟩) 0 cap] 71 (0, 0)) := hbk
    rw [Lib.cell_of_heap this]; rfl
  have hSD : (Builtin.unsafeSliceData_ #[67] 104 #[.slice (some ⟨g, 0, none⟩) 0 cap]).run Tryz.prog w.drew = .ok (.pointer (some ⟨g, 0, none⟩)) w.drew :=
    Lib.run_unsafeSliceData_row _ _ _ _ _ _ hc0
  clear hc0
  have mx : Tryz.prog.follows .mixedOrders = true := mixed
  go_enter Tryz.func37, Tryz.ntmps37
  go_wp2
  go_region_o
  all_goals (go_wp2; go_ret; exact ⟨rfl, Below.drew (Below.refl B w)⟩)
set_option maxHeartbeats 2000000 in
set_option maxRecDepth 100000 in
theorem wString_noroom (B b g : Nat) (p : Value) (cur : Array Value) (w : World) (hBw : B ≤ w.heap.size) (hbk : w.heap[b]? = some (.cells #[p, .slice (some ⟨g, 0, none⟩) 0 0] 71 (0, 0))) (hg : w.heap[g]? = some (.cells cur 5 (0, 0))) :
    Calls Tryz.prog 37 #[.pointer (some ⟨b, 0, none⟩)] w fun e w' => e = .returned (.string ⟨#[]⟩) ∧ Below B w w' := by
  have hUS := us_none
  have hlt : b < w.heap.size := by
    rcases Nat.lt_or_ge b w.heap.size with h' | h'
    · exact h'
    · simp [Array.getElem?_eq_none h'] at hbk
  have c1 : w.drew.cell? ⟨b, 1, none⟩ = some (.slice (some ⟨g, 0, none⟩) 0 0) := by
    have : w.drew.heap[b]? = some (.cells #[p, .slice (some ⟨g, 0, none⟩) 0 0] 71 (0, 0)) := hbk
    rw [Lib.cell_of_heap this]; rfl
  have hSD : (Builtin.unsafeSliceData_ #[67] 104 #[.slice (some ⟨g, 0, none⟩) 0 0]).run Tryz.prog w.drew = .ok (.pointer (some ⟨w.drew.heap.size, 0, none⟩)) (w.drew.alloc (.view ⟨g, 0, none⟩ 5)) :=
    Lib.run_unsafeSliceData_zero w.drew _ _ 5 (by kernel_rfl) ⟨g, 0, none⟩ 0 (5, cur.size) (by have hg' : w.drew.heap[g]? = some (.cells cur 5 (0, 0)) := hg; simp [World.shape?, hg'])
  have c2 : (w.drew.alloc (.view ⟨g, 0, none⟩ 5)).cell? ⟨b, 1, none⟩ = some (.slice (some ⟨g, 0, none⟩) 0 0) := by
    have : (w.drew.alloc (.view ⟨g, 0, none⟩ 5)).heap[b]? = _ := (Lib.alloc_old w.drew _ b hlt).trans hbk
    rw [Lib.cell_of_heap this]; rfl
  have c3 : (w.alloc (.view ⟨g, 0, none⟩ 5)).drew.cell? ⟨b, 1, none⟩ = some (.slice (some ⟨g, 0, none⟩) 0 0) := c2
  have c0 : w.cell? ⟨b, 1, none⟩ = some (.slice (some ⟨g, 0, none⟩) 0 0) := c1
  have mx : Tryz.prog.follows .mixedOrders = true := mixed
  go_enter Tryz.func37, Tryz.ntmps37
  go_wp2
  go_region_o
  all_goals (go_wp2; go_ret; exact ⟨rfl, (Below.drew (Below.refl B w)).alloc hBw _⟩)
theorem bString_k (b : Nat) (s : ByteArray) (w : World) {p v : Value} (hbk : Blk w b 71 #[p, v]) (hown : w.ownsRow 0 5 1 v s.size (Lib.strCells s)) :
    Calls Tryz.prog 37 #[.pointer (some ⟨b, 0, none⟩)] w fun e w' => e = .returned (.string s) ∧ Am.Keep v.ownBlock.toList w w' := by
  have hs : Lib.strCells s = Lib.byteCells s.data.toList := rfl
  have he : (⟨s.data.toList.toArray⟩ : ByteArray) = s := by cases s; simp
  have hn : s.size = s.data.toList.length := by cases s; simp [ByteArray.size]
  rw [hs, hn] at hown
  have hK : ∀ w', Below w.heap.size w w' → Am.Keep v.ownBlock.toList w w' := fun w' h => Am.Keep.of_below h
  by_cases h0 : s.data.toList = []
  · rw [h0] at hown he
    rw [← he]
    rcases hown.2 with ⟨rfl, _⟩ | ⟨g, cap, cur, rfl, hbg, hg, _, _, _, _⟩
    · exact (wString_nil w.heap.size b p w hbk).mono fun e w' h => ⟨h.1, hK w' h.2⟩
    · by_cases hc0 : cap = 0
      · subst hc0
        exact (wString_noroom w.heap.size b g p cur w (Nat.le_refl _) hbk hg).mono fun e w' h => ⟨h.1, hK w' h.2⟩
      · exact (wString_room w.heap.size b g cap p w hc0 hbk).mono fun e w' h => ⟨h.1, hK w' h.2⟩
  · rcases hown.2 with ⟨_, h⟩ | ⟨g, cap, cur, rfl, hbg, hg, _, _, _, _⟩
    · exact absurd (List.length_eq_zero_iff.1 h) h0
    · have := wString_some b g cap p s.data.toList w hbk hown h0
      rw [he] at this
      exact this
theorem bLen_k (b : Nat) (bs : List Value) (w : World) {p v : Value} (hbk : Blk w b 71 #[p, v]) (hown : w.ownsRow 0 5 1 v bs.length bs) :
    Calls Tryz.prog 36 #[.pointer (some ⟨b, 0, none⟩)] w fun e w' => e = .returned (.int .i64 bs.length) ∧ w' = w := by
  obtain ⟨ao, cap, rfl⟩ : ∃ ao cap, v = .slice ao bs.length cap := by
    rcases hown.2 with ⟨hv, h0⟩ | ⟨g, cap, cur, hv, _⟩
    · exact ⟨none, 0, by rw [hv, h0]⟩
    · exact ⟨_, _, hv⟩
  have c1 : w.cell? ⟨b, 1, none⟩ = some (.slice ao bs.length cap) := by
    rw [Lib.cell_of_heap hbk]; rfl
  go_enter Tryz.func36, Tryz.ntmps36
  go_wp2
  go_ret
  exact ⟨rfl, rfl⟩
end Go.Proofs.YtkcojiopjkllgaaGreatDoor
namespace Go.Proofs.YtkcojiopjkllgaaGreatDoor
namespace Am
set_option maxRecDepth 100000
set_option maxHeartbeats 1000000
theorem Sp.ext' {a b : Sp} (h1 : a.frm = b.frm) (h2 : a.to = b.to) : a = b := by cases a; cases b; simp_all
instance : DecidableEq Sp := fun a b => if h : a.frm = b.frm ∧ a.to = b.to then isTrue (Sp.ext' h.1 h.2) else isFalse fun e => h (e ▸ ⟨rfl, rfl⟩)
theorem ba_toList {a b : ByteArray} : a.toList = b.toList ↔ a = b := by rw [ByteArray.toList_eq, ByteArray.toList_eq]; exact ⟨fun h => ByteArray.ext (Array.ext' h), fun h => by rw [h]⟩
theorem bin_sp (a b : Sp) (x y : Operand) (w : World) : (do eqGuard .neq 120 x y (.agg #[.string a.frm, .string a.to]) (.agg #[.string b.frm, .string b.to]); binOp .neq 120 (.agg #[.string a.frm, .string a.to]) (.agg #[.string b.frm, .string b.to]) : Sem Value).run Tryz.prog w = .ok (.bool (!decide (a = b))) w := by
  simp [go_sem]
  by_cases h1 : a.frm = b.frm
  · by_cases h2 : a.to = b.to
    · simp [h1, h2, Sp.ext' h1 h2]
    · have : a ≠ b := fun e => h2 (e ▸ rfl)
      simp [h1, ba_toList, h2, this]
  · have : a ≠ b := fun e => h1 (e ▸ rfl)
    simp [ba_toList, h1, this]
def Se.eqB (a b : Se) : Bool := decide (a.a = b.a) && (decide (a.b = b.b) && (decide (a.c = b.c) && decide (a.d = b.d)))
set_option maxRecDepth 10000 in
theorem set_in (n : Nat) (a b c d i j k l : Int) (w : World) : (Op.equalIn (n + 2) 38 (.agg #[.int .u64 a, .int .u64 b, .int .u64 c, .int .u64 d]) (.agg #[.int .u64 i, .int .u64 j, .int .u64 k, .int .u64 l])).run Tryz.prog w = .ok ((a == i) && ((b == j) && ((c == k) && (d == l)))) w := by
  have hS : Tryz.prog.underlying 38 = some (.array 4 36) := by kernel_rfl
  have hU : Tryz.prog.underlying 36 = some (.int .u64) := by kernel_rfl
  have hz : ∀ w, (sizeOf 36).run Tryz.prog w = .ok 1 w := fun w => by kernel_rfl
  have p0a : ∀ w : World, (part 36 #[.int .u64 a, .int .u64 b, .int .u64 c, .int .u64 d] 0).run Tryz.prog w = .ok (.int .u64 a) w := fun w => by go_simp
  have p1a : ∀ w : World, (part 36 #[.int .u64 a, .int .u64 b, .int .u64 c, .int .u64 d] 1).run Tryz.prog w = .ok (.int .u64 b) w := fun w => by go_simp
  have p2a : ∀ w : World, (part 36 #[.int .u64 a, .int .u64 b, .int .u64 c, .int .u64 d] 2).run Tryz.prog w = .ok (.int .u64 c) w := fun w => by go_simp
  have p3a : ∀ w : World, (part 36 #[.int .u64 a, .int .u64 b, .int .u64 c, .int .u64 d] 3).run Tryz.prog w = .ok (.int .u64 d) w := fun w => by go_simp
  have p0b : ∀ w : World, (part 36 #[.int .u64 i, .int .u64 j, .int .u64 k, .int .u64 l] 0).run Tryz.prog w = .ok (.int .u64 i) w := fun w => by go_simp
  have p1b : ∀ w : World, (part 36 #[.int .u64 i, .int .u64 j, .int .u64 k, .int .u64 l] 1).run Tryz.prog w = .ok (.int .u64 j) w := fun w => by go_simp
  have p2b : ∀ w : World, (part 36 #[.int .u64 i, .int .u64 j, .int .u64 k, .int .u64 l] 2).run Tryz.prog w = .ok (.int .u64 k) w := fun w => by go_simp
  have p3b : ∀ w : World, (part 36 #[.int .u64 i, .int .u64 j, .int .u64 k, .int .u64 l] 3).run Tryz.prog w = .ok (.int .u64 l) w := fun w => by go_simp
  have hi : ∀ (a b : Int) (w : World), (Op.equalIn (n + 1) 36 (.int .u64 a) (.int .u64 b)).run Tryz.prog w = .ok (a == b) w := fun a b w => run_equalIn_int w n _ .u64 .u64 a b hU
  have hr : ∀ {β : Type} (f : Nat → β → Sem (ForInStep β)) (b : β), forIn [:4] b f = forIn [0, 1, 2, 3] b f := fun f b => by
    rw [Std.Legacy.Range.forIn_eq_forIn_range']; rfl
  unfold Op.equalIn
  simp only [Sem.run_bind, run_underlying hS, Result.andThen_ok, hz, hr, List.forIn_cons, List.forIn_nil, Nat.zero_mul, Nat.mul_one, p0a, p0b, hi]
  by_cases h0 : a = i
  · subst h0; simp only [beq_self_eq_true, Bool.not_true, Bool.false_eq_true, if_false, Sem.run_pure, Result.andThen_ok, Sem.run_bind, p1a, p1b, hi]
    by_cases h1 : b = j
    · subst h1; simp only [beq_self_eq_true, Bool.not_true, Bool.false_eq_true, if_false, Sem.run_pure, Result.andThen_ok, Sem.run_bind, p2a, p2b, hi]
      by_cases h2 : c = k
      · subst h2; simp only [beq_self_eq_true, Bool.not_true, Bool.false_eq_true, if_false, Sem.run_pure, Result.andThen_ok, Sem.run_bind, p3a, p3b, hi]
        by_cases h3 : d = l
        · subst h3; simp
        · simp [h3]
      · simp [h2]
    · simp [h1]
  · simp [h0]
theorem bin_se (a b : Se) (x y : Operand) (w : World) : (do eqGuard .eql 38 x y (.agg #[.int .u64 a.a, .int .u64 a.b, .int .u64 a.c, .int .u64 a.d]) (.agg #[.int .u64 b.a, .int .u64 b.b, .int .u64 b.c, .int .u64 b.d]); binOp .eql 38 (.agg #[.int .u64 a.a, .int .u64 a.b, .int .u64 a.c, .int .u64 a.d]) (.agg #[.int .u64 b.a, .int .u64 b.b, .int .u64 b.c, .int .u64 b.d]) : Sem Value).run Tryz.prog w = .ok (.bool (Se.eqB a b)) w := by
  simp [go_sem]
  simp [set_in 9998, Se.eqB, beqd]
section
variable {ρ : Operand → Option V} {H : Nat → Option HO} {d : Option Nat} {ty t2 : TypeId} {pos : String} {af : Array Edge} {gu : Option (Nat × Bool)} {x y : Operand}
theorem a_neSp {a b : Sp} (hx : Ev ρ x (.agg (spC a))) (hy : Ev ρ y (.agg (spC b))) : AS Tryz.prog ρ H ⟨d, .binOp .neq 120 x y t2, ty, pos, af, gu⟩ ⟨.c (sB (!decide (a = b))), none, []⟩ := by
  refine .still (fun q hq w => ?_) fun _ => .sc rfl
  have h1 := hq x (by simp [Op.operands]) _ _ hx (Cq.agg (vs := [.string a.frm, .string a.to]))
  have h2 := hq y (by simp [Op.operands]) _ _ hy (Cq.agg (vs := [.string b.frm, .string b.to]))
  have h3 := bin_sp a b x y w
  unfold execOp
  simp only [h1, h2]
  simp only [Sem.run_bind] at h3 ⊢
  rw [h3]
  simp
theorem a_eqSe {a b : Se} (hx : Ev ρ x (.agg (seC a))) (hy : Ev ρ y (.agg (seC b))) : AS Tryz.prog ρ H ⟨d, .binOp .eql 38 x y t2, ty, pos, af, gu⟩ ⟨.c (sB (Se.eqB a b)), none, []⟩ := by
  refine .still (fun q hq w => ?_) fun _ => .sc rfl
  have h1 := hq x (by simp [Op.operands]) _ _ hx (Cq.agg (vs := [.int .u64 a.a, .int .u64 a.b, .int .u64 a.c, .int .u64 a.d]))
  have h2 := hq y (by simp [Op.operands]) _ _ hy (Cq.agg (vs := [.int .u64 b.a, .int .u64 b.b, .int .u64 b.c, .int .u64 b.d]))
  have h3 := bin_se a b x y w
  unfold execOp
  simp only [h1, h2]
  simp only [Sem.run_bind] at h3 ⊢
  rw [h3]
  simp
end
section
variable {ρ : Operand → Option V} {H : Nat → Option HO} {d : Option Nat} {ty t2 : TypeId} {pos : String} {af : Array Edge} {gu : Option (Nat × Bool)} {x y : Operand}
theorem a_neSe {a b : Se} (hx : Ev ρ x (.agg (seC a))) (hy : Ev ρ y (.agg (seC b))) : AS Tryz.prog ρ H ⟨d, .binOp .neq 38 x y t2, ty, pos, af, gu⟩ ⟨.c (sB (!Se.eqB a b)), none, []⟩ := by
  refine .still (fun q hq w => ?_) fun _ => .sc rfl
  have h1 := hq x (by simp [Op.operands]) _ _ hx (Cq.agg (vs := [.int .u64 a.a, .int .u64 a.b, .int .u64 a.c, .int .u64 a.d]))
  have h2 := hq y (by simp [Op.operands]) _ _ hy (Cq.agg (vs := [.int .u64 b.a, .int .u64 b.b, .int .u64 b.c, .int .u64 b.d]))
  unfold execOp
  simp only [h1, h2]
  simp [go_sem]
  simp [set_in 9998, Se.eqB, beqd]
end
abbrev bldS (s : ByteArray) : HO := .bld 71 5 (Lib.strCells s)
theorem zbT {t : Nat} (h : Nat.beq t 71 = true) : Zb Tryz.prog t := by
  have := Nat.eq_of_beq_eq_true h
  subst this
  exact ⟨_, rfl, by kernel_rfl⟩
theorem a_allocW {ρ : Operand → Option V} {H : Nat → Option HO} {ty : TypeId} {pos : String} {af : Array Edge} {gu : Option (Nat × Bool)} {t : Nat} (hn : H t = none) : AS Tryz.prog ρ H ⟨some t, .alloc 71, ty, pos, af, gu⟩ ⟨.c (.ptr t 0), some (t, bldS ⟨#[]⟩), [t]⟩ := a_allocB hn (zbT rfl)
theorem ba_size (a : Array UInt8) : ByteArray.size ⟨a⟩ = a.size := rfl
section
variable {ρ : Operand → Option V} {H : Nat → Option HO} {d : Option Nat} {ty : TypeId} {pos : String} {af : Array Edge} {gu : Option (Nat × Bool)}
theorem a_words1 {x0 : Operand} {a0 : ByteArray} (h0 : Ev ρ x0 (.c (sS a0))) : AS Tryz.prog ρ H ⟨d, .buildSlice 33 1 #[(0, x0)], ty, pos, af, gu⟩ ⟨.c (strL [a0]), none, []⟩ :=
  a_slice (zs := [sS ⟨#[]⟩]) (sleT_ok rfl) (zwT_ok rfl) rfl (by decide) (by decide) (show EvP ρ _ _ from .cons h0 rfl (.nil)) rfl rfl
theorem a_words2 {x0 x1 : Operand} {a0 a1 : ByteArray} (h0 : Ev ρ x0 (.c (sS a0))) (h1 : Ev ρ x1 (.c (sS a1))) : AS Tryz.prog ρ H ⟨d, .buildSlice 33 2 #[(0, x0), (1, x1)], ty, pos, af, gu⟩ ⟨.c (strL [a0, a1]), none, []⟩ :=
  a_slice (zs := [sS ⟨#[]⟩]) (sleT_ok rfl) (zwT_ok rfl) rfl (by decide) (by decide) (show EvP ρ _ _ from .cons h0 rfl (.cons h1 rfl (.nil))) rfl rfl
theorem a_words3 {x0 x1 x2 : Operand} {a0 a1 a2 : ByteArray} (h0 : Ev ρ x0 (.c (sS a0))) (h1 : Ev ρ x1 (.c (sS a1))) (h2 : Ev ρ x2 (.c (sS a2))) : AS Tryz.prog ρ H ⟨d, .buildSlice 33 3 #[(0, x0), (1, x1), (2, x2)], ty, pos, af, gu⟩ ⟨.c (strL [a0, a1, a2]), none, []⟩ :=
  a_slice (zs := [sS ⟨#[]⟩]) (sleT_ok rfl) (zwT_ok rfl) rfl (by decide) (by decide) (show EvP ρ _ _ from .cons h0 rfl (.cons h1 rfl (.cons h2 rfl (.nil)))) rfl rfl
theorem a_words4 {x0 x1 x2 x3 : Operand} {a0 a1 a2 a3 : ByteArray} (h0 : Ev ρ x0 (.c (sS a0))) (h1 : Ev ρ x1 (.c (sS a1))) (h2 : Ev ρ x2 (.c (sS a2))) (h3 : Ev ρ x3 (.c (sS a3))) : AS Tryz.prog ρ H ⟨d, .buildSlice 33 4 #[(0, x0), (1, x1), (2, x2), (3, x3)], ty, pos, af, gu⟩ ⟨.c (strL [a0, a1, a2, a3]), none, []⟩ :=
  a_slice (zs := [sS ⟨#[]⟩]) (sleT_ok rfl) (zwT_ok rfl) rfl (by decide) (by decide) (show EvP ρ _ _ from .cons h0 rfl (.cons h1 rfl (.cons h2 rfl (.cons h3 rfl (.nil))))) rfl rfl
theorem a_words5 {x0 x1 x2 x3 x4 : Operand} {a0 a1 a2 a3 a4 : ByteArray} (h0 : Ev ρ x0 (.c (sS a0))) (h1 : Ev ρ x1 (.c (sS a1))) (h2 : Ev ρ x2 (.c (sS a2))) (h3 : Ev ρ x3 (.c (sS a3))) (h4 : Ev ρ x4 (.c (sS a4))) : AS Tryz.prog ρ H ⟨d, .buildSlice 33 5 #[(0, x0), (1, x1), (2, x2), (3, x3), (4, x4)], ty, pos, af, gu⟩ ⟨.c (strL [a0, a1, a2, a3, a4]), none, []⟩ :=
  a_slice (zs := [sS ⟨#[]⟩]) (sleT_ok rfl) (zwT_ok rfl) rfl (by decide) (by decide) (show EvP ρ _ _ from .cons h0 rfl (.cons h1 rfl (.cons h2 rfl (.cons h3 rfl (.cons h4 rfl (.nil)))))) rfl rfl
theorem a_words8 {x0 x1 x2 x3 x4 x5 x6 x7 : Operand} {a0 a1 a2 a3 a4 a5 a6 a7 : ByteArray} (h0 : Ev ρ x0 (.c (sS a0))) (h1 : Ev ρ x1 (.c (sS a1))) (h2 : Ev ρ x2 (.c (sS a2))) (h3 : Ev ρ x3 (.c (sS a3))) (h4 : Ev ρ x4 (.c (sS a4))) (h5 : Ev ρ x5 (.c (sS a5))) (h6 : Ev ρ x6 (.c (sS a6))) (h7 : Ev ρ x7 (.c (sS a7))) : AS Tryz.prog ρ H ⟨d, .buildSlice 33 8 #[(0, x0), (1, x1), (2, x2), (3, x3), (4, x4), (5, x5), (6, x6), (7, x7)], ty, pos, af, gu⟩ ⟨.c (strL [a0, a1, a2, a3, a4, a5, a6, a7]), none, []⟩ :=
  a_slice (zs := [sS ⟨#[]⟩]) (sleT_ok rfl) (zwT_ok rfl) rfl (by decide) (by decide) (show EvP ρ _ _ from .cons h0 rfl (.cons h1 rfl (.cons h2 rfl (.cons h3 rfl (.cons h4 rfl (.cons h5 rfl (.cons h6 rfl (.cons h7 rfl (.nil))))))))) rfl rfl
theorem unLL_strs (l : List ByteArray) : unLL (l.map oneS) = l.map oneS := unA.2.1 l
theorem a_appS {x y : Operand} {τ m : Nat} {tg : Option Nat} {l1 l2 : List ByteArray} (hx : Ev ρ x (.c (.lst (some τ) 1 (l1.map oneS)))) (hh : H τ = some (.row 9 1 m)) (hm : l1.length = m) (hy : Ev ρ y (.c (.lst tg 1 (l2.map oneS)))) (h1 : (l1 ++ l2).length ≤ 8796093022208) :
    AS Tryz.prog ρ H ⟨d, .call { callee := .builtin .append, args := #[x, y], argTypes := #[33, 33] }, ty, pos, af, gu⟩ ⟨.c (.lst (some τ) 1 ((l1 ++ l2).map oneS)), some (τ, .row 9 1 (l1 ++ l2).length), [τ]⟩ := by
  have hby : Tryz.prog.bytesOf 9 = 16 := by kernel_rfl
  have := a_app (P := Tryz.prog) (ρ := ρ) (H := H) (d := d) (ty := ty) (pos := pos) (af := af) (gu := gu) (t := 33) (zl := [sS ⟨#[]⟩]) (zs := (l1 ++ l2).map oneS) (sleT_ok rfl) (by decide) hx hh (by rw [List.length_map]; exact hm) (zwT_ok rfl) rfl hy (by rw [unLL_strs, List.map_append]) (by rw [List.length_map]; unfold maxLen; omega) (by rw [List.length_map, hby]; omega)
  rw [List.length_map] at this
  exact this
theorem nilRowS {l : List (Nat × V)} {h : List (Nat × HO)} {P : Program} {nt : Nat} {c : Code} {Q : Exit → St → Prop} (t τ : Nat) (hn : look h τ = none) (ht : look l t = some (.c .nil)) (k : AW P nt c Q (mk ((t, .c (.lst (some τ) 1 (([] : List ByteArray).map oneS))) :: l) ((τ, .row 9 1 ([] : List ByteArray).length) :: h))) : AW P nt c Q (mk l h) :=
  AW.weak (Wk.nilRow (σ := mk l h) (e := 9) (k := 1) hn ht) (by
    have := k
    rw [← put_mk, ← set_mk] at this
    exact this)
end
theorem okLL_strs (d : Nat → Bool) : ∀ l : List ByteArray, okLL d (l.map oneS) = true
  | [] => rfl
  | x :: l => by
    rw [List.map_cons, okLL, okLL_strs d l]
    rfl
theorem okRow {d : Nat → Bool} {τ : Nat} {l : List ByteArray} (h : d τ = true) : V.ok d (.c (.lst (some τ) 1 (l.map oneS))) = true := by
  rw [V.ok]
  change (d τ && okLL d (l.map oneS)) = true
  rw [h, okLL_strs]; rfl
theorem CvL.un (vs : List V) : CvL vs (vs.map V.un) := fun κ w xs h => ⟨by rw [List.length_map]; exact h.1, fun j c v hc hv => by
  rw [List.getElem?_map, Option.map_eq_some_iff] at hc
  obtain ⟨z, hz, rfl⟩ := hc
  exact (h.2 j z v hz hv).un⟩
theorem reg_at {P : Program} {nt : Nat} {l : List Oper} {b : Bool} {y : Code} {Q : Exit → St → Prop} {σ : St} (id : Nat) (h : AW P nt (.seq (.region id l.toArray b) y) Q σ) : AW P nt (.seq (.region id l.toArray b) y) Q σ := h
section
variable {ρ : Operand → Option V} {H : Nat → Option HO} {d : Option Nat} {ty : TypeId} {pos : String} {af : Array Edge} {gu : Option (Nat × Bool)} {x y : Operand} {n off ty0 : Nat} {cs cs' : List C}
theorem a_storeNs (hx : Ev ρ x (.c (.ptr n off))) (hh : H n = some (.obj ty0 cs)) (hy : ρ y = some (.c .nil)) (hs : setV cs off [strL ([] : List ByteArray)] = some cs') : AS Tryz.prog ρ H ⟨d, .store 33 x y, ty, pos, af, gu⟩ ⟨undV, some (n, .obj ty0 cs'), [n]⟩ :=
  a_storeC hx hh (.nl hy) (tyT_ok rfl) hs
theorem a_storeNx (hx : Ev ρ x (.c (.ptr n off))) (hh : H n = some (.obj ty0 cs)) (hy : ρ y = some (.c .nil)) (hs : setV cs off [.lst none 55 (([] : List Stm).map stC)] = some cs') : AS Tryz.prog ρ H ⟨d, .store 22 x y, ty, pos, af, gu⟩ ⟨undV, some (n, .obj ty0 cs'), [n]⟩ :=
  a_storeC hx hh (.nl hy) (tyT_ok rfl) hs
theorem und_str : Tryz.prog.underlying 9 = some .string := by kernel_rfl
theorem a_chr {i : Operand} {s : ByteArray} {kd : IntKind} {j : Nat} {c : UInt8} (hx : Ev ρ x (.c (.sc (.string s)))) (hi : Ev ρ i (.c (.sc (.int kd j)))) (hc : s.data.toList[j]? = some c) : AS Tryz.prog ρ H ⟨d, .index 9 x i, ty, pos, af, gu⟩ ⟨.c (.sc (.int .u8 c.toNat)), none, []⟩ := by
  refine .still (fun q hq w => ?_) fun _ => .sc rfl
  have h1 := hq x (by simp [Op.operands]) _ _ hx .sc
  have h2 := hq i (by simp [Op.operands]) _ _ hi .sc
  have h3 : s[j]? = some c := by
    have : s.data[j]? = some c := by simpa using hc
    have e := (Array.getElem?_eq_some_iff.1 this)
    obtain ⟨hlt, he⟩ := e
    have hlt' : j < s.size := hlt
    rw [getElem?_pos s j hlt']
    exact congrArg some he
  unfold execOp
  simp only [h1, h2]
  simp [Instr.index, asIntOf, run_underlying und_str, h3]
end
section
variable {ρ : Operand → Option V} {H : Nat → Option HO} {d : Option Nat} {ty : TypeId} {pos : String} {af : Array Edge} {gu : Option (Nat × Bool)} {x y : Operand}
theorem und_u8 : Tryz.prog.underlying 5 = some (.int .u8) := by kernel_rfl
theorem und_i32 : Tryz.prog.underlying 21 = some (.int .i32) := by kernel_rfl
theorem a_rune {c : UInt8} (hx : Ev ρ x (.c (.sc (.int .u8 c.toNat)))) : AS Tryz.prog ρ H ⟨d, .convert 5 21 x, ty, pos, af, gu⟩ ⟨.c (.sc (.int .i32 c.toNat)), none, []⟩ := by
  have hc := c.toNat_lt
  refine .still (fun q hq w => ?_) fun _ => .sc rfl
  have h1 := hq x (by simp [Op.operands]) _ _ hx .sc
  have h2 : IntKind.i32.wrap (c.toNat : Int) = c.toNat := by
    rw [IntKind.wrap_i32]; omega
  unfold execOp
  simp only [h1]
  simp [go_sem, run_underlying und_u8, run_underlying und_i32, h2]
end
theorem w_drb {P : Program} {nt id : Nat} {l : List Oper} {Q : Exit → St → Prop} {σ : St} (hl : (l.all fun o => match o.dst with | some t => decide (t < nt) | none => true) = true) (hm : P.follows .mixedOrders = true) (h : AL P l.toArray l σ [] fun σ' fs => chkD l.toArray fs = true ∧ Q .normal σ') : AW P nt (.region id l.toArray true) Q σ := .drawn hl hm h
section
variable {P : Program} {ρ : Operand → Option V} {H : Nat → Option HO} {d : Option Nat} {ty : TypeId} {pos : String} {af : Array Edge} {gu : Option (Nat × Bool)} {x y : Operand} {t t2 : TypeId} {p q : Int}
theorem a_addW (hx : Ev ρ x (.c (.sc (.int .i64 p)))) (hy : Ev ρ y (.c (.sc (.int .i64 q)))) : AS P ρ H ⟨d, .binOp .add t x y t2, ty, pos, af, gu⟩ ⟨.c (.sc (.int .i64 (IntKind.i64.wrap (p + q)))), none, []⟩ :=
  a_bin hx hy rfl fun w => by simp [eqGuard, binOp, Op.intArith]
end
section
variable {P : Program} {ρ : Operand → Option V} {H : Nat → Option HO} {d : Option Nat} {ty : TypeId} {pos : String} {af : Array Edge} {gu : Option (Nat × Bool)} {x y z : Operand} {p q r : Int} {t1 t2 t3 : TypeId}
theorem a_max3 {m : Int} (hx : Ev ρ x (.c (.sc (.int .i64 p)))) (hy : Ev ρ y (.c (.sc (.int .i64 q)))) (hz : Ev ρ z (.c (.sc (.int .i64 r)))) (hm : max (max p q) r = m) : AS P ρ H ⟨d, .call { callee := .builtin .max, args := #[x, y, z], argTypes := #[t1, t2, t3] }, ty, pos, af, gu⟩ ⟨.c (.sc (.int .i64 m)), none, []⟩ := by
  subst hm
  refine .still (fun g hg w => ?_) fun _ => .sc rfl
  have h1 := hg x (by simp [Op.operands, Call.operands]) _ _ hx .sc
  have h2 := hg y (by simp [Op.operands, Call.operands]) _ _ hy .sc
  have h3 := hg z (by simp [Op.operands, Call.operands]) _ _ hz .sc
  have e1 : ∀ a b : Int, (Builtin.max2 (.int .i64 a) (.int .i64 b)).run P w = .ok (.int .i64 (max a b)) w := fun a b => by
    simp only [Builtin.max2, Sem.run_pure]
    congr 2
    split <;> omega
  unfold execOp
  simp only [resolve, invoke, builtin]
  simp [h1, h2, h3, Builtin.max_, e1]
end
theorem a_idxO {P : Program} {ρ : Operand → Option V} {H : Nat → Option HO} {d : Option Nat} {ty : TypeId} {pos : String} {af : Array Edge} {gu : Option (Nat × Bool)} {x y : Operand} {t e k j : Nat} {tg : Option Nat} {xs : List (List C)} {kd : IntKind} {z : Int} {cs : List C} (hx : Ev ρ x (.c (.lst tg k xs))) (hi : Ev ρ y (.c (.sc (.int kd z)))) (ht : sle P t = some (e, k)) (hj : xs[j]? = some cs) (hz : z = (j : Nat)) : AS P ρ H ⟨d, .indexAddr t x y, ty, pos, af, gu⟩ ⟨.c (.ep cs), none, []⟩ := a_idx hx hi ht hz hj
section
variable {ρ : Operand → Option V} {H : Nat → Option HO} {d : Option Nat} {ty : TypeId} {pos : String} {af : Array Edge} {gu : Option (Nat × Bool)} {x y : Operand} {t t2 : TypeId} {p q : Int}
theorem a_rem {r : Int} (hx : Ev ρ x (.c (.sc (.int .i64 p)))) (hy : Ev ρ y (.c (.sc (.int .i64 q)))) (hq : q ≠ 0) (h1 : q ≠ -1) (hr : Int.tmod p q = r) (hw : IntKind.i64.wrap r = r) : AS Tryz.prog ρ H ⟨d, .binOp .rem t x y t2, ty, pos, af, gu⟩ ⟨.c (.sc (.int .i64 r)), none, []⟩ := by
  subst hr
  exact a_bin hx hy rfl fun w => by simp [eqGuard, binOp, Op.intArith, Op.intDiv, hq, h1, hw]
theorem a_quo {r : Int} (hx : Ev ρ x (.c (.sc (.int .i64 p)))) (hy : Ev ρ y (.c (.sc (.int .i64 q)))) (hq : q ≠ 0) (h1 : q ≠ -1) (hr : Int.tdiv p q = r) (hw : IntKind.i64.wrap r = r) : AS Tryz.prog ρ H ⟨d, .binOp .quo t x y t2, ty, pos, af, gu⟩ ⟨.c (.sc (.int .i64 r)), none, []⟩ := by
  subst hr
  exact a_bin hx hy rfl fun w => by simp [eqGuard, binOp, Op.intArith, Op.intDiv, hq, h1, hw]
theorem a_substr {lo hi : Operand} {s : ByteArray} {i j : Nat} {p q : Int} (hx : Ev ρ x (.c (.sc (.string s)))) (hlo : Ev ρ lo (.c (.sc (.int .i64 p)))) (hhi : Ev ρ hi (.c (.sc (.int .i64 q)))) (hp : p = i) (hq : q = j) (hij : i ≤ j) (hj : j ≤ s.size) (hs : s.size ≤ 9223372036854775807) : AS Tryz.prog ρ H ⟨d, .slice 9 x (some lo) (some hi) none, ty, pos, af, gu⟩ ⟨.c (.sc (.string (s.extract i j))), none, []⟩ := by
  subst hp hq
  refine .still (fun g hg w => ?_) fun _ => .sc (decide_eq_true ?_)
  · have h1 := hg x (by simp [Op.operands]) _ _ hx .sc
    have h2 := hg lo (by simp [Op.operands]) _ _ hlo .sc
    have h3 := hg hi (by simp [Op.operands]) _ _ hhi .sc
    unfold execOp
    simp only [h1, h2, h3, Option.map_some, Option.map_none]
    have e1 : ((i : Int) ≤ j) := by omega
    have e2 : ((j : Int) ≤ s.size) := by omega
    simp [Instr.sliceAt, Instr.slice, Instr.sliceBounds, Instr.sliceBound, run_underlying und_str, asIntOf, e1, e2, hij, hj]
  · rw [ByteArray.size_extract]; omega
end
section
variable {ρ : Operand → Option V} {H : Nat → Option HO} {d : Option Nat} {ty : TypeId} {pos : String} {af : Array Edge} {gu : Option (Nat × Bool)}
theorem a_stm1 {x0 : Operand} {s : Stm} (h0 : Ev ρ x0 (.agg (stC s))) : AS Tryz.prog ρ H ⟨d, .buildSlice 22 1 #[(0, x0)], ty, pos, af, gu⟩ ⟨.c (.lst none 55 ([s].map stC)), none, []⟩ :=
  a_slice (zs := stC Stm.zero) (sleT_ok rfl) (zwT_ok rfl) rfl (by decide) (by decide) (show EvP ρ _ _ from .cons h0 rfl (.nil)) rfl rfl
end
theorem r_c {P : Program} {σ : St} {u ty n off ty0 k : Nat} {cs cs' ds : List C} {b : Bool} (h2 : Ev (evA σ.sl) (.tmp u) (.c (.ptr n off))) (hh : σ.hp n = some (.obj ty0 cs)) (ht : tyi P ty = some (k, b)) (hc : cutV b cs off k = some (.agg cs')) (e1 : unL cs' = ds) : Ret P [.cell u ty] (.agg ds) .ret σ := by
  subst e1
  exact ⟨.inl rfl, [.agg cs'], .cell h2 hh ht hc .nil, rfl⟩
section
variable {ρ : Operand → Option V} {H : Nat → Option HO} {d : Option Nat} {ty : TypeId} {pos : String} {af : Array Edge} {gu : Option (Nat × Bool)}
theorem a_lv2 {x0 x1 : Operand} {a b : Lv} (h0 : Ev ρ x0 (.agg (lvC a))) (h1 : Ev ρ x1 (.agg (lvC b))) : AS Tryz.prog ρ H ⟨d, .buildSlice 118 2 #[(0, x0), (1, x1)], ty, pos, af, gu⟩ ⟨.c (.lst none 2 ([a, b].map lvC)), none, []⟩ :=
  a_slice (zs := lvC Lv.zero) (sleT_ok rfl) (zwT_ok rfl) rfl (by decide) (by decide) (show EvP ρ _ _ from .cons h0 rfl (.cons h1 rfl (.nil))) rfl rfl
end
section
variable {ρ : Operand → Option V} {H : Nat → Option HO} {d : Option Nat} {ty : TypeId} {pos : String} {af : Array Edge} {gu : Option (Nat × Bool)} {x : Operand}
theorem und_int : Tryz.prog.underlying 3 = some (.int .i64) := by kernel_rfl
theorem und_u8s : Tryz.prog.underlying 67 = some (.slice 5) := by kernel_rfl
theorem rep_sc {κ : K} {w : World} {v u : Value} (h : Rep κ w (.sc v) u) : u = v := by cases h; rfl
theorem a_byte {p : Int} (hx : Ev ρ x (.c (.sc (.int .i64 p)))) (h0 : 0 ≤ p) (h1 : p < 256) : AS Tryz.prog ρ H ⟨d, .convert 3 5 x, ty, pos, af, gu⟩ ⟨.c (.sc (.int .u8 p)), none, []⟩ := by
  refine .still (fun q hq w => ?_) fun _ => .sc rfl
  have h1 := hq x (by simp [Op.operands]) _ _ hx .sc
  have h2 : IntKind.u8.wrap p = p := by rw [IntKind.wrap_u8]; omega
  unfold execOp
  simp only [h1]
  simp [go_sem, run_underlying und_int, run_underlying und_u8, h2]
def u8L (l : List UInt8) : List (List C) := l.map fun c => [C.sc (.int .u8 c.toNat)]
theorem a_bytes {t : Option Nat} {l : List UInt8} (hx : Ev ρ x (.c (.lst t 1 (u8L l)))) (h0 : 0 < l.length) (hl : l.length ≤ 9223372036854775807) : AS Tryz.prog ρ H ⟨d, .convert 67 9 x, ty, pos, af, gu⟩ ⟨.c (sS ⟨l.toArray⟩), none, []⟩ := by
  refine .view (fun κ w r hr => ?_) (.sc (decide_eq_true (by show l.toArray.size ≤ _; rw [List.size_toArray]; exact hl)))
  have h := hr x (by simp [Op.operands]) _ hx
  generalize hv : r x = v at h
  cases h with | c h => cases h with
    | lst cv hn hk h1 h2 hrr hc ht =>
      have hlen : (u8L l).length = l.length := List.length_map ..
      rw [hlen] at hn hrr
      rcases hrr with h3 | ⟨g, o, rfl, hrr⟩
      · omega
      subst hn
      have e : (convert 67 9 (r x)).run Tryz.prog w = .ok (.string ⟨l.toArray⟩) w := by
        rw [hv]
        refine run_convert_bytes_back w _ _ 5 ⟨g, o, none⟩ _ l und_u8s und_u8 und_str fun j hj => ?_
        have h4 := (hrr j 0 hj (by omega)).2
        have h5 := hc j 0 [C.sc (.int .u8 l[j].toNat)] _ (by unfold u8L; rw [List.getElem?_map, List.getElem?_eq_getElem hj]; rfl) rfl
        have h6 : cv j 0 = .int .u8 l[j].toNat := rep_sc h5
        have h7 : (⟨g, o, none⟩ : Addr).add j = ⟨g, o + j, none⟩ := by unfold Addr.add; split <;> simp_all
        rw [h7, ← h6, ← h4, Nat.mul_one, Nat.add_zero]
      unfold execOp
      simp only [Sem.run_bind, e]
      rfl
theorem a_u8one {x0 : Operand} {c : UInt8} {p : Int} (h0 : Ev ρ x0 (.c (.sc (.int .u8 p)))) (hp : p = c.toNat) : AS Tryz.prog ρ H ⟨d, .buildSlice 67 1 #[(0, x0)], ty, pos, af, gu⟩ ⟨.c (.lst none 1 (u8L [c])), none, []⟩ := by
  subst hp
  exact a_slice (zs := [.sc (.int .u8 0)]) (sleT_ok rfl) (Zw.of (by decide +kernel)) rfl (by decide) (by decide) (show EvP ρ _ _ from .cons h0 rfl (.nil)) rfl rfl
end
end Am
end Go.Proofs.YtkcojiopjkllgaaGreatDoor
