/- The walks of the table's small functions. -/
import Derived.Test.YtjpgnadfbejihaaSy
import Derived.Test.YtjpgnadfbejihaaC4
import Derived.Laws.CopyOwn
import Derived.Deep.OwnRows
set_option linter.unusedSimpArgs false
set_option linter.unusedVariables false
namespace Go.Proofs.Ytjpgnadfbejihaa
open Go.RowKit Tk
theorem und_map : Try.prog.underlying 56 = some (.map 9 3) := by kernel_rfl
theorem und_str : Try.prog.underlying 9 = some .string := by kernel_rfl
theorem zero_int (w : World) : (zeroValue 3).run Try.prog w = .ok (.int .i64 0) w := by kernel_rfl
@[go_sem] theorem neq_some (m : Nat) (w : World) : (binOp .neq 56 (.map (some m)) (.map none)).run Try.prog w = .ok (.bool true) w := by kernel_rfl
@[go_sem] theorem neq_none (w : World) : (binOp .neq 56 (.map none) (.map none)).run Try.prog w = .ok (.bool false) w := by kernel_rfl
structure TabC (w : World) (b m : Nat) (nv av : Value) (T : TS) : Prop where
  c0 : w.cell? ⟨b, 0, none⟩ = some (.int .i64 T.lim)
  c1 : w.cell? ⟨b, 1, none⟩ = some nv
  c2 : w.cell? ⟨b, 2, none⟩ = some av
  c3 : w.cell? ⟨b, 3, none⟩ = some (.map (some m))
theorem TabAt.cells {w : World} {b m : Nat} {nv av : Value} {ml : List (ByteArray × Value)} {T : TS} (h : TabAt w b m nv av ml T) : TabC w b m nv av T :=
  ⟨h.blk.cell 0, h.blk.cell 1, h.blk.cell 2, h.blk.cell 3⟩
set_option maxHeartbeats 400000 in
set_option maxRecDepth 100000 in
theorem made_tab {w : World} {b m : Nat} (c3 : w.cell? ⟨b, 3, none⟩ = some (.map (some m))) : Calls Try.prog 28 #[.pointer (some ⟨b, 0, none⟩)] w fun e w' => e = .returned (.bool true) ∧ w = w' := by
  go_enter Try.func28, Try.ntmps28
  go_wp2
  all_goals (go_ret; exact ⟨rfl, rfl⟩)
set_option maxHeartbeats 400000 in
set_option maxRecDepth 100000 in
/-- the table that New has not made: its map is nil -/
theorem made_zero {w : World} {b : Nat} (c3 : w.cell? ⟨b, 3, none⟩ = some (.map none)) : Calls Try.prog 28 #[.pointer (some ⟨b, 0, none⟩)] w fun e w' => e = .returned (.bool false) ∧ w = w' := by
  go_enter Try.func28, Try.ntmps28
  go_wp2
  all_goals (go_ret; exact ⟨rfl, rfl⟩)
set_option maxHeartbeats 400000 in
set_option maxRecDepth 100000 in
theorem made_nil (w : World) : Calls Try.prog 28 #[.pointer none] w fun e w' => e = .returned (.bool false) ∧ w = w' := by
  go_enter Try.func28, Try.ntmps28
  go_wp2
  all_goals (go_ret; exact ⟨rfl, rfl⟩)
set_option maxHeartbeats 400000 in
theorem known_tab {w : World} {b m : Nat} {nv av : Value} {ml : List (ByteArray × Value)} {T : TS} (h : TabAt w b m nv av ml T) (s : ByteArray) :
    Calls Try.prog 30 #[.pointer (some ⟨b, 0, none⟩), .string s] w fun e w' => e = .returned (.bool (T.find s).isSome) ∧ w = w' := by
  obtain ⟨c0, c1, c2, c3⟩ := h.cells
  have hl := run_lookup_str w und_map und_str (zero_int w) h.map s true
  rw [h.get] at hl
  go_enter Try.func30, Try.ntmps30
  go_wp2
  all_goals (go_ret; exact ⟨rfl, rfl⟩)
set_option maxHeartbeats 400000 in
theorem find_tab {w : World} {b m : Nat} {nv av : Value} {ml : List (ByteArray × Value)} {T : TS} (h : TabAt w b m nv av ml T) (s : ByteArray) :
    Calls Try.prog 13 #[.pointer (some ⟨b, 0, none⟩), .string s] w fun e w' => e = .returned (.tuple #[.int .i64 ((T.find s).getD 0), .bool (T.find s).isSome]) ∧ w = w' := by
  obtain ⟨c0, c1, c2, c3⟩ := h.cells
  have hl := run_lookup_str w und_map und_str (zero_int w) h.map s true
  rw [h.get] at hl
  go_enter Try.func13, Try.ntmps13
  go_wp2_with (first | ((with_reducible refine wpTxt_q ?_ ?_ ?_); rfl; rfl; intro _ _) | ((with_reducible refine wpTxt_w0 ?_ ?_ ?_); rfl; rfl; intro _ _) | ((with_reducible refine wpTxt_s ?_ ?_); rfl; intro _ _; go_simp) | ((with_reducible refine wpTxt_sw ?_ ?_); rfl; intro _ _; go_simp) | (with_reducible refine wpTxt_nil ?_) | ((with_reducible refine wp_region_t mixed ?_ ?_); decide +kernel; intro _ _) | (go_at_call 28; ((with_reducible refine (made_tab (by assumption)).mono ?_); rintro e w' ⟨rfl, rfl⟩)))
  refine bodyPost_ret (v := .tuple #[.int .i64 ((T.find s).getD 0), .bool (T.find s).isSome]) (by simp [results, Try.f13, go_sem]) rfl ⟨rfl, rfl⟩
set_option maxHeartbeats 400000 in
theorem len_tab {w : World} {b m : Nat} {nv av : Value} {ml : List (ByteArray × Value)} {T : TS} (h : TabAt w b m nv av ml T) :
    Calls Try.prog 20 #[.pointer (some ⟨b, 0, none⟩)] w fun e w' => e = .returned (.int .i64 T.names.length) ∧ w = w' := by
  obtain ⟨c0, c1, c2, c3⟩ := h.cells
  obtain ⟨ao, cap, rfl, hn1, hn2⟩ := h.names.len
  go_enter Try.func20, Try.ntmps20
  go_wp2_with (first | ((with_reducible refine wpTxt_q ?_ ?_ ?_); rfl; rfl; intro _ _) | ((with_reducible refine wpTxt_w0 ?_ ?_ ?_); rfl; rfl; intro _ _) | ((with_reducible refine wpTxt_s ?_ ?_); rfl; intro _ _; go_simp) | ((with_reducible refine wpTxt_sw ?_ ?_); rfl; intro _ _; go_simp) | (with_reducible refine wpTxt_nil ?_) | ((with_reducible refine wp_region_t mixed ?_ ?_); decide +kernel; intro _ _) | (go_at_call 28; ((with_reducible refine (made_tab (by assumption)).mono ?_); rintro e w' ⟨rfl, rfl⟩)))
  all_goals (go_ret; exact ⟨rfl, rfl⟩)
set_option maxHeartbeats 400000 in
theorem name_tab {w : World} {b m : Nat} {nv av : Value} {ml : List (ByteArray × Value)} {T : TS} (h : TabAt w b m nv av ml T) (n : Int) :
    Calls Try.prog 15 #[.pointer (some ⟨b, 0, none⟩), .int .i64 n] w fun e w' => e = .returned (.tuple #[.string ((T.name n).getD ⟨#[]⟩), .bool (T.name n).isSome]) ∧ w = w' := by
  obtain ⟨c0, c1, c2, c3⟩ := h.cells
  by_cases hin : 0 ≤ n ∧ n < T.names.length
  · obtain ⟨k, rfl⟩ := Int.eq_ofNat_of_zero_le hin.1
    have hk : k < T.names.length := by omega
    have hn : T.name (k : Int) = some T.names[k] := by unfold TS.name; rw [if_neg (by omega)]; simp [hk]
    obtain ⟨g, cap, rfl, hn1, hn2, hc⟩ := h.names.at (by omega)
    have hck := hc k hk
    rw [hn]
    clear hn hc
    go_enter Try.func15, Try.ntmps15
    go_wp2_with (first | ((with_reducible refine wpTxt_q ?_ ?_ ?_); rfl; rfl; intro _ _) | ((with_reducible refine wpTxt_w0 ?_ ?_ ?_); rfl; rfl; intro _ _) | ((with_reducible refine wpTxt_s ?_ ?_); rfl; intro _ _; go_simp) | ((with_reducible refine wpTxt_sw ?_ ?_); rfl; intro _ _; go_simp) | (with_reducible refine wpTxt_nil ?_) | ((with_reducible refine wp_region_t mixed ?_ ?_); decide +kernel; intro _ _) | (go_at_call 28; ((with_reducible refine (made_tab (by assumption)).mono ?_); rintro e w' ⟨rfl, rfl⟩)))
    all_goals first
      | exact bodyPost_ret (v := .tuple #[.string T.names[k], .bool true]) (by simp [results, Try.f15, go_sem]) rfl ⟨rfl, rfl⟩
      | (exfalso; omega)
  · have hn : T.name n = none := by unfold TS.name; split
                                    · rfl
                                    · exact List.getElem?_eq_none (by omega)
    obtain ⟨ao, cap, rfl, hn1, hn2⟩ := h.names.len
    rw [hn]
    clear hn
    go_enter Try.func15, Try.ntmps15
    go_wp2_with (first | ((with_reducible refine wpTxt_q ?_ ?_ ?_); rfl; rfl; intro _ _) | ((with_reducible refine wpTxt_w0 ?_ ?_ ?_); rfl; rfl; intro _ _) | ((with_reducible refine wpTxt_s ?_ ?_); rfl; intro _ _; go_simp) | ((with_reducible refine wpTxt_sw ?_ ?_); rfl; intro _ _; go_simp) | (with_reducible refine wpTxt_nil ?_) | ((with_reducible refine wp_region_t mixed ?_ ?_); decide +kernel; intro _ _) | (go_at_call 28; ((with_reducible refine (made_tab (by assumption)).mono ?_); rintro e w' ⟨rfl, rfl⟩)))
    all_goals first
      | exact bodyPost_ret (v := .tuple #[.string ⟨#[]⟩, .bool false]) (by simp [results, Try.f15, go_sem]) rfl ⟨rfl, rfl⟩
      | (exfalso; omega)
theorem info_str : (Try.prog.info? 9).map (fun i => (i.zero, i.size, i.bytes)) = some (some (.string ⟨#[]⟩), 1, 16) := by kernel_rfl
theorem size_str : (Try.prog.info? 9).map (·.size) = some 1 := by kernel_rfl
theorem und_strs : Try.prog.underlying 25 = some (.slice 9) := by kernel_rfl
theorem made_list (z : Value) (n : Nat) : madeCells #[z] n = (List.replicate n z).toArray := by
  apply Array.ext'
  simp [madeCells]
  apply List.ext_getElem <;> simp [Nat.mod_one]
set_option maxHeartbeats 400000 in
set_option maxRecDepth 100000 in
theorem copied_row {w : World} {v : Value} {xs : List ByteArray} (h : Row w v xs) (hx : xs.length ≤ 8192) :
    Calls Try.prog 31 #[v] w fun e w' => ∃ v', e = .returned v' ∧ Row w' v' xs ∧ Below w.heap.size w w' ∧ ∀ x ∈ ownB v', w.heap.size ≤ x := by
  obtain ⟨ao, cap, rfl, hn1, hn2⟩ := h.len
  have hmk := run_make_row' (P := Try.prog) 25 9 (.string ⟨#[]⟩) 16 und_strs info_str rfl .i64 .i64 xs.length (by omega) (by omega) w
  rw [made_list] at hmk
  have hB : Blk (w.alloc (.cells (List.replicate xs.length (Value.string ⟨#[]⟩)).toArray 9)) w.heap.size 9 (List.replicate xs.length (Value.string ⟨#[]⟩)).toArray := Blk.fresh _ _ _
  have hsrc : 0 < (xs.map Value.string).length → (some (⟨w.heap.size, 0, none⟩ : Addr)) = some ⟨w.heap.size, 0, none⟩ ∧ ∃ ad, ao = some ad ∧ ∀ j u, (xs.map Value.string)[j]? = some u → (w.alloc (.cells (List.replicate xs.length (Value.string ⟨#[]⟩)).toArray 9)).cell? (ad.add j) = some u := by
    intro h0
    obtain ⟨g, cap', e, _, _, hc⟩ := h.at (by simpa using h0)
    injection e with e1 e2 e3
    refine ⟨rfl, _, e1, fun j u hj => ?_⟩
    have hjl : j < xs.length := by
      rcases Nat.lt_or_ge j xs.length with hlt | hge
      · exact hlt
      · rw [List.getElem?_eq_none (by simpa using hge)] at hj; cases hj
    have hu : u = .string xs[j] := by simpa [hjl] using hj.symm
    have hcc := hc j hjl
    have hg : g < w.heap.size := World.block_lt_of_cell? w _ hcc
    rw [hu, ← hcc]
    have e : (⟨g, 0, none⟩ : Addr).add j = ⟨g, j, none⟩ := by cases j <;> simp [Addr.add]
    rw [e]
    exact World.cell?_of_block (a := ⟨g, j, none⟩) (Below.heap_alloc w _ g hg)
  replace hsrc := Lib.hid hsrc
  replace hB := Lib.hid hB
  go_enter Try.func31, Try.ntmps31
  go_wp2_with (first | ((refine wpList_copy_splice (o := ⟨some 9, _, _, _, _, _⟩) rfl _ _ 25 25 rfl 9 und_strs size_str _ _ _ _ _ _ rfl rfl w.heap.size 0 _ 9 hB.out (xs.map Value.string) ?c1 (fun h0 => ⟨rfl, (hsrc.out h0).2⟩) ?c2 ?c3 w.heap.size w ?c4 (Nat.le_refl _) ?_)) | ((with_reducible refine wpTxt_q ?_ ?_ ?_); rfl; rfl; intro _ _) | ((with_reducible refine wpTxt_w0 ?_ ?_ ?_); rfl; rfl; intro _ _) | ((with_reducible refine wpTxt_s ?_ ?_); rfl; intro _ _; go_simp) | ((with_reducible refine wpTxt_sw ?_ ?_); rfl; intro _ _; go_simp) | (with_reducible refine wpTxt_nil ?_) | ((with_reducible refine wp_region_t mixed ?_ ?_); decide +kernel; intro _ _))
  case c3 => intro u hu; rfl
  case c4 => exact (Below.refl _ _).alloc (Nat.le_refl _) _
  intro w' hg hb
  go_wp2_with (first | ((with_reducible refine wpTxt_q ?_ ?_ ?_); rfl; rfl; intro _ _) | ((with_reducible refine wpTxt_w0 ?_ ?_ ?_); rfl; rfl; intro _ _) | ((with_reducible refine wpTxt_s ?_ ?_); rfl; intro _ _; go_simp) | ((with_reducible refine wpTxt_sw ?_ ?_); rfl; intro _ _; go_simp) | (with_reducible refine wpTxt_nil ?_) | ((with_reducible refine wp_region_t mixed ?_ ?_); decide +kernel; intro _ _))
  go_ret
  refine ⟨_, rfl, ⟨by simp, .inr ⟨w.heap.size, xs.length, _, rfl, Nat.zero_le _, hg.out, Nat.le_refl _, by omega, ?_, ?_⟩⟩, hb, ?_⟩
  · simp [splice]
  · simp only [splice, List.take_zero, List.nil_append, List.length_map, Nat.zero_add, Nat.mul_one, List.drop_replicate, Nat.sub_self, List.replicate_zero, List.append_nil]
    rw [List.take_of_length_le (by simp)]
  · intro x hx; simp [ownB, Value.ownBlock] at hx; omega
set_option maxHeartbeats 400000 in
theorem names_tab {w : World} {b m : Nat} {nv av : Value} {ml : List (ByteArray × Value)} {T : TS} (h : TabAt w b m nv av ml T) :
    Calls Try.prog 24 #[.pointer (some ⟨b, 0, none⟩)] w fun e w' => ∃ v', e = .returned v' ∧ Row w' v' T.names ∧ Below w.heap.size w w' ∧ ∀ x ∈ ownB v', w.heap.size ≤ x := by
  obtain ⟨c0, c1, c2, c3⟩ := h.cells
  have hr := h.names
  have h1 := h.ok.len
  have h2 := h.ok.hi
  go_enter Try.func24, Try.ntmps24
  go_wp2_with (first | ((with_reducible refine wpTxt_q ?_ ?_ ?_); rfl; rfl; intro _ _) | ((with_reducible refine wpTxt_w0 ?_ ?_ ?_); rfl; rfl; intro _ _) | ((with_reducible refine wpTxt_s ?_ ?_); rfl; intro _ _; go_simp) | ((with_reducible refine wpTxt_sw ?_ ?_); rfl; intro _ _; go_simp) | (with_reducible refine wpTxt_nil ?_) | ((with_reducible refine wp_region_t mixed ?_ ?_); decide +kernel; intro _ _) | (go_at_call 28; ((with_reducible refine (made_tab (by assumption)).mono ?_); rintro e w' ⟨rfl, rfl⟩)) | (go_at_call 31; ((with_reducible refine (copied_row (by assumption) ?_).mono ?_); (· omega); rintro e w2 ⟨v2, rfl, hr2, hb2, hf2⟩)))
  all_goals (go_ret; exact ⟨_, rfl, hr2, hb2, hf2⟩)
end Go.Proofs.Ytjpgnadfbejihaa
