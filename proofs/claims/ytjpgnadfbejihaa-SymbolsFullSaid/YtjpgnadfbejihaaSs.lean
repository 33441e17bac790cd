/- The walk of same: the table's answers are the reference's. -/
import Derived.Test.YtjpgnadfbejihaaSp
import Derived.Test.YtjpgnadfbejihaaC7
set_option linter.unusedSimpArgs false
set_option linter.unusedVariables false
namespace Go.Proofs.Ytjpgnadfbejihaa
open Go.RowKit Tk
theorem names_any {w : World} {b : Nat} {F : List Nat} {T : TS} (h : Tab w b F T) : Calls Try.prog 24 #[.pointer (some ⟨b, 0, none⟩)] w fun e w' => ∃ v', e = .returned v' ∧ Row w' v' T.names ∧ Below w.heap.size w w' ∧ ∀ x ∈ ownB v', w.heap.size ≤ x := by
  obtain ⟨m, nv, av, ml, rfl, h⟩ := h; exact names_tab h
theorem sorted_any {w : World} {b : Nat} {F : List Nat} {T : TS} (h : Tab w b F T) : Calls Try.prog 21 #[.pointer (some ⟨b, 0, none⟩)] w fun e w' => ∃ v', e = .returned v' ∧ Row w' v' (sortS T.all) ∧ Below w.heap.size w w' ∧ ∀ x ∈ ownB v', w.heap.size ≤ x := by
  obtain ⟨m, nv, av, ml, rfl, h⟩ := h; exact sorted_tab h
theorem len_any {w : World} {b : Nat} {F : List Nat} {T : TS} (h : Tab w b F T) : Calls Try.prog 20 #[.pointer (some ⟨b, 0, none⟩)] w fun e w' => e = .returned (.int .i64 T.names.length) ∧ w = w' := by
  obtain ⟨m, nv, av, ml, rfl, h⟩ := h; exact len_tab h
theorem name_any {w : World} {b : Nat} {F : List Nat} {T : TS} (h : Tab w b F T) (n : Int) : Calls Try.prog 15 #[.pointer (some ⟨b, 0, none⟩), .int .i64 n] w fun e w' => e = .returned (.tuple #[.string ((T.name n).getD ⟨#[]⟩), .bool (T.name n).isSome]) ∧ w = w' := by
  obtain ⟨m, nv, av, ml, rfl, h⟩ := h; exact name_tab h n
theorem find_any {w : World} {b : Nat} {F : List Nat} {T : TS} (h : Tab w b F T) (s : ByteArray) : Calls Try.prog 13 #[.pointer (some ⟨b, 0, none⟩), .string s] w fun e w' => e = .returned (.tuple #[.int .i64 ((T.find s).getD 0), .bool (T.find s).isSome]) ∧ w = w' := by
  obtain ⟨m, nv, av, ml, rfl, h⟩ := h; exact find_tab h s
theorem copy_any {w : World} {b : Nat} {F : List Nat} {T : TS} (h : Tab w b F T) : Calls Try.prog 23 #[.pointer (some ⟨b, 0, none⟩)] w (TPost T w) := by
  obtain ⟨m, nv, av, ml, rfl, h⟩ := h; exact copy_tab h
theorem find_all {T : TS} {s : ByteArray} (h : s ∈ T.all) : (T.find s).isSome = true := by
  unfold TS.all at h
  have hn : (numb T.names 0).map (·.1) = T.names := by
    have : ∀ (l : List ByteArray) (i : Nat), (numb l i).map (·.1) = l := fun l => by
      induction l with
      | nil => intro i; rfl
      | cons x l ih => intro i; simp [numb, ih]
    exact this _ _
  unfold TS.find look
  rw [Option.isSome_map, List.find?_isSome]
  rcases List.mem_append.1 h with h | h
  · rw [← hn] at h
    obtain ⟨p, hp, e⟩ := List.mem_map.1 h
    exact ⟨p, List.mem_append.2 (.inl hp), by simp [e]⟩
  · obtain ⟨p, hp, e⟩ := List.mem_map.1 h
    exact ⟨p, List.mem_append.2 (.inr hp), by simp [e]⟩
theorem find_sorted {T : TS} {k : Nat} (h : k < (sortS T.all).length) : (T.find (sortS T.all)[k]).isSome = true := find_all ((sortS_perm T.all).subset (List.getElem_mem h))
theorem texts_eq (a : List ByteArray) (va vb : Value) (w : World) (ha : Reads w va a) (hb : Reads w vb a) : Calls Try.prog 25 #[va, vb] w (QPost true w) := by
  have := texts_any a a va vb w ha hb
  rwa [show eqL a a = true from by simp [eqL]] at this
def BPost (b : Bool) (w : World) (e : Ending) (w' : World) : Prop := e = .returned (.bool b) ∧ Below w.heap.size w w'
set_option maxHeartbeats 4000000 in
set_option maxRecDepth 100000 in
theorem same_any {w : World} {b : Nat} {F : List Nat} {nv av : Value} {T : TS} (hT : Tab w b F T) (hS : StA w nv av T) : Calls Try.prog 22 #[.pointer (some ⟨b, 0, none⟩), .agg #[.int .i64 T.lim, nv, av]] w (BPost true w) := by
  obtain ⟨no, nc, rfl, -, -⟩ := hS.1.len
  obtain ⟨ao, ac, rfl, -, -⟩ := hS.2.1.len
  have hok := hS.2.2
  have o1 := hok.len
  have o2 := hok.hi
  have o3 := hok.als
  have hl2 : ((T.names.length : Int) != (T.names.length : Int)) = false := by simp
  go_enter Try.func22, Try.ntmps22
  go_upto_region 1 with (first | ((with_reducible refine wpTxt_q ?_ ?_ ?_); rfl; rfl; intro _ _) | ((with_reducible refine wpTxt_w0 ?_ ?_ ?_); rfl; rfl; intro _ _) | ((with_reducible refine wpTxt_s ?_ ?_); rfl; intro _ _; go_simp) | ((with_reducible refine wpTxt_sw ?_ ?_); rfl; intro _ _; go_simp) | (with_reducible refine wpTxt_nil ?_) | ((with_reducible refine wp_region_t mixed ?_ ?_); decide +kernel; intro _ _))
  generalize hw1 : w.alloc (.cells #[.int .i64 T.lim, .slice no T.names.length nc, .slice ao T.als.length ac] 28) = w1
  have hB1 : Below w.heap.size w w1 := by rw [← hw1]; (repeat (first | with_reducible assumption | with_reducible exact Below.refl _ _ | ((with_reducible refine Below.setCell ?_ ?_ _); rotate_left; (· first | omega | (simp only [World.size_alloc, World.size_drew, World.size_setCell]; omega) | (dsimp only; omega))) | ((with_reducible refine Below.alloc ?_ ?_ _); rotate_left; (· first | omega | (simp only [World.size_alloc, World.size_drew, World.size_setCell]; omega))) | ((with_reducible refine Below.drewN' ?_ _)) | ((with_reducible refine Below.drew ?_))))
  have hX1 : Blk w1 w.heap.size 28 #[.int .i64 T.lim, .slice no T.names.length nc, .slice ao T.als.length ac] := by rw [← hw1]; exact Blk.fresh _ _ _
  clear hw1
  have hz1 := hX1.lt
  refine wp_region_og [w.heap.size] [0, 1, 2, 1, 3, 0, 0, 0, 1, 2, 3, 3, 0, 0, 0, 0, 2, 3, 3, 3, 0, 0] [0, 2, 3, 4, 1, 5, 6, 7, 9, 10, 8, 11, 12, 13, 14, 15, 17, 16, 18, 19, 20, 21] mixed ?_ ?_
  · decide +kernel
  intro K hK
  dsimp only [pickL, List.getElem?_cons_succ, List.getElem?_cons_zero]
  have hTd : Tab w1.drew b F T := hT.low hB1.drew
  obtain ⟨x0, x1, x2, -, -, -⟩ := (hX1.drew).c3
  go_wp2_with (first | ((with_reducible refine wpTag_q ?_ ?_ ?_); rfl; rfl; intro _ _) | ((with_reducible refine wpTag_w ?_ ?_ ?_); rfl; rfl; intro _ _) | ((with_reducible refine wpTag_s ?_ ?_); rfl; intro _ _; go_simp) | ((with_reducible refine wpTag_sw ?_ ?_); rfl; intro _ _; go_simp) | (with_reducible refine wpTag_nil ?_))
  refine wpTag_1 (.pointer (some ⟨w.heap.size, 1, none⟩)) rfl rfl ?_ ?_
  · intro w'
    go_simp
  refine wpTag_2 (.slice no T.names.length nc) rfl rfl ?_ ?_
  · intro w' hk
    have e : ∀ i, w'.cell? ⟨w.heap.size, i, none⟩ = _ := fun i => World.cell?_of_block (hk _ (by simp))
    go_simp
  refine wpTag_1 (.int .i64 T.names.length) rfl rfl ?_ ?_
  · intro w'
    go_simp
  refine wpTag_3 rfl rfl (fun K2 hK2 => ?_)
  go_wp2_with fail
  refine (len_any hTd).mono ?_
  rintro e w2 ⟨rfl, rfl⟩
  go_wp2_with fail
  refine ⟨SameAt.refl _ _, ?_⟩
  go_wp2_with (first | ((with_reducible refine wpTag_q ?_ ?_ ?_); rfl; rfl; intro _ _) | ((with_reducible refine wpTag_w ?_ ?_ ?_); rfl; rfl; intro _ _) | ((with_reducible refine wpTag_s ?_ ?_); rfl; intro _ _; go_simp) | ((with_reducible refine wpTag_sw ?_ ?_); rfl; intro _ _; go_simp) | (with_reducible refine wpTag_nil ?_))
  refine wpTag_1 (.pointer (some ⟨w.heap.size, 1, none⟩)) rfl ?_ ?_ ?_
  · go_simp
  · intro w'
    go_simp
  refine wpTag_2 (.slice no T.names.length nc) rfl ?_ ?_ ?_
  · go_simp
  · intro w' hk
    have e : ∀ i, w'.cell? ⟨w.heap.size, i, none⟩ = _ := fun i => World.cell?_of_block (hk _ (by simp))
    go_simp
  refine wpTag_3 rfl ?_ (fun K3 hK3 => ?_)
  · go_simp
  go_wp2_with fail
  refine (names_any hTd).mono ?_
  rintro e w3 ⟨v3, rfl, hR3, hb3, -⟩
  go_wp2_with fail
  refine ⟨sameAt_below hb3 (by simp; exact hz1), ?_⟩
  have hB3 : Below w.heap.size w w3 := hB1.drew.trans (hb3.mono hB1.size)
  refine wpTag_3 rfl ?_ (fun K4 hK4 => ?_)
  · go_simp
  go_wp2_with fail
  refine (texts_eq T.names _ _ _ hR3.reads (hS.1.low hB3).reads).mono ?_
  rintro e w4 ⟨rfl, n4, rfl⟩
  go_wp2_with fail
  refine ⟨fun _ _ => rfl, ?_⟩
  have hX3 := hX1.drew.low hb3
  clear x0 x1 x2
  obtain ⟨x0, x1, x2, -, -, -⟩ := (hX3.drewN n4).c3
  have hB4 : Below w.heap.size w (w3.drewN n4) := Below.drewN' hB3 n4
  go_wp2_with (first | ((with_reducible refine wpTag_q ?_ ?_ ?_); rfl; rfl; intro _ _) | ((with_reducible refine wpTag_w ?_ ?_ ?_); rfl; rfl; intro _ _) | ((with_reducible refine wpTag_s ?_ ?_); rfl; intro _ _; go_simp) | ((with_reducible refine wpTag_sw ?_ ?_); rfl; intro _ _; go_simp) | (with_reducible refine wpTag_nil ?_))
  refine wpTag_2 (.agg #[.int .i64 T.lim, .slice no T.names.length nc, .slice ao T.als.length ac]) rfl ?_ ?_ ?_
  · go_simp
  · intro w' hk
    have e : ∀ i, w'.cell? ⟨w.heap.size, i, none⟩ = _ := fun i => World.cell?_of_block (hk _ (by simp))
    go_simp
  refine wpTag_3 rfl ?_ (fun K5 hK5 => ?_)
  · go_simp
  go_wp2_with fail
  refine (sorted_any (hT.low hB4)).mono ?_
  rintro e w5 ⟨v5, rfl, hR5, hb5, -⟩
  go_wp2_with fail
  refine ⟨sameAt_below hb5 (by simp; exact hX3.lt), ?_⟩
  have hX5 := (hX3.drewN n4).low hb5
  have hB5 : Below w.heap.size w w5 := hB4.trans (hb5.mono hB4.size)
  refine wpTag_3 rfl ?_ (fun K6 hK6 => ?_)
  · go_simp
  go_wp2_with fail
  refine (r4Sorted_any (hS.low hB5)).mono ?_
  rintro e w6 ⟨v6, rfl, hR6, hb6⟩
  go_wp2_with fail
  refine ⟨sameAt_below hb6 (by simp; exact hX5.lt), ?_⟩
  have hX6 := hX5.low hb6
  have hB6 : Below w.heap.size w w6 := hB5.trans (hb6.mono hB5.size)
  refine wpTag_3 rfl ?_ (fun K7 hK7 => ?_)
  · go_simp
  go_wp2_with fail
  refine (texts_eq (sortS T.all) _ _ _ (hR5.low hb6).reads hR6.reads).mono ?_
  rintro e w7 ⟨rfl, n7, rfl⟩
  go_wp2_with fail
  refine ⟨fun _ _ => rfl, ?_⟩
  clear x0 x1 x2
  go_wp2_with (first | ((with_reducible refine wpTag_q ?_ ?_ ?_); rfl; rfl; intro _ _) | ((with_reducible refine wpTag_w ?_ ?_ ?_); rfl; rfl; intro _ _) | ((with_reducible refine wpTag_s ?_ ?_); rfl; intro _ _; go_simp) | ((with_reducible refine wpTag_sw ?_ ?_); rfl; intro _ _; go_simp) | (with_reducible refine wpTag_nil ?_))
  have hX7 := hX6.drewN n7
  have hB7 : Below w.heap.size w (w6.drewN n7) := Below.drewN' hB6 n7
  generalize w6.drewN n7 = w7 at hX7 hB7 ⊢
  go_loopw [5] (fun i wr => ∃ z : Int, i = .int .i64 z ∧ -1 ≤ z ∧ z ≤ T.names.length + 1 ∧ Below w7.heap.size w7 wr) (fun i _ => (T.names.length + 1 - intOf i).toNat)
  case atStart => exact ⟨-1, rfl, by omega, by omega, Below.refl _ _⟩
  case round =>
    obtain ⟨z, rfl, hz, hz', hBr⟩ := hrel
    obtain ⟨wo, hwo⟩ : ∃ wo, wo = wr := ⟨_, rfl⟩
    subst hwo
    have hBo : Below w.heap.size w wo := hB7.trans (hBr.mono hB7.size)
    have hXo := hX7.low hBr
    obtain ⟨x0, x1, x2, -, -, -⟩ := hXo.c3
    by_cases hlt : z ≤ T.names.length
    · go_wp2_with (first | ((with_reducible refine wpTxt_q ?_ ?_ ?_); rfl; rfl; intro _ _) | ((with_reducible refine wpTxt_w0 ?_ ?_ ?_); rfl; rfl; intro _ _) | ((with_reducible refine wpTxt_s ?_ ?_); rfl; intro _ _; go_simp) | ((with_reducible refine wpTxt_sw ?_ ?_); rfl; intro _ _; go_simp) | (with_reducible refine wpTxt_nil ?_) | ((with_reducible refine wp_region_t mixed ?_ ?_); decide +kernel; intro _ _) | (go_at_call 15; ((with_reducible refine (name_any (hT.low hBo) z).mono ?_); rintro e w' ⟨rfl, rfl⟩)) | (go_at_call 16; ((with_reducible refine (r4Name_any (hS.low hBo) z).mono ?_); rintro e w8 ⟨rfl, hb8⟩)))
      go_roundw
      case rel => exact ⟨z + 1, rfl, by omega, by omega, hBr.trans (hb8.mono hBr.size)⟩
      case measure => simp [intOf]; omega
    · go_wp2_with (first | ((with_reducible refine wpTxt_q ?_ ?_ ?_); rfl; rfl; intro _ _) | ((with_reducible refine wpTxt_w0 ?_ ?_ ?_); rfl; rfl; intro _ _) | ((with_reducible refine wpTxt_s ?_ ?_); rfl; intro _ _; go_simp) | ((with_reducible refine wpTxt_sw ?_ ?_); rfl; intro _ _; go_simp) | (with_reducible refine wpTxt_nil ?_) | ((with_reducible refine wp_region_t mixed ?_ ?_); decide +kernel; intro _ _) | (go_at_call 33; ((with_reducible refine (r4Sorted_any (hS.low hBo)).mono ?_); rintro e w8 ⟨v8, rfl, hR8, hb8⟩)))
      have hB8 : Below w.heap.size w w8 := hBo.trans (hb8.mono hBo.size)
      have hX8 := hXo.low hb8
      have hla : T.all.length ≤ 9000 := by simp [TS.all]; omega
      obtain ⟨g8, c8, rfl, hc8, hc8'⟩ := hR8.len
      unfold maxLen at hc8'
      have hsl : (sortS T.all).length ≤ 9000 := by rw [sortS_len]; exact hla
      clear x0 x1 x2
      go_loopw [11] (fun i wr => ∃ k : Nat, i = .int .i64 k ∧ k ≤ (sortS T.all).length ∧ Below w8.heap.size w8 wr) (fun i _ => (sortS T.all).length - (intOf i).toNat)
      case atStart => exact ⟨0, rfl, Nat.zero_le _, Below.refl _ _⟩
      case round =>
        obtain ⟨k, rfl, hk, hBk⟩ := hrel
        obtain ⟨wp, hwp⟩ : ∃ wp, wp = wr := ⟨_, rfl⟩
        subst hwp
        have hBp : Below w.heap.size w wp := hB8.trans (hBk.mono hB8.size)
        have hBd : Below w.heap.size w wp.drew := hBp.drew
        obtain ⟨x0, x1, x2, -, -, -⟩ := (hX8.low hBk).c3
        by_cases hlt : k < (sortS T.all).length
        · obtain ⟨g, cap', e, -, -, hcc⟩ := (hR8.low hBk).at (by omega)
          injection e with e1 e2 e3
          subst e1
          have hck := hcc k hlt
          have hfk := find_sorted hlt
          clear hcc e2 e3
          generalize (sortS T.all)[k] = sk at *
          go_wp2_with (first | ((with_reducible refine wpTxt_q ?_ ?_ ?_); rfl; rfl; intro _ _) | ((with_reducible refine wpTxt_w0 ?_ ?_ ?_); rfl; rfl; intro _ _) | ((with_reducible refine wpTxt_s ?_ ?_); rfl; intro _ _; go_simp) | ((with_reducible refine wpTxt_sw ?_ ?_); rfl; intro _ _; go_simp) | (with_reducible refine wpTxt_nil ?_) | ((with_reducible refine wp_region_t mixed ?_ ?_); decide +kernel; intro _ _) | (go_at_call 13; ((with_reducible refine (find_any (hT.low hBp) sk).mono ?_); rintro e w' ⟨rfl, rfl⟩)) | (go_at_call 14; ((with_reducible refine (r4Find_any (hS.low hBd) sk).mono ?_); rintro e w9 ⟨rfl, hb9⟩)))
          go_roundw
          case rel => exact ⟨k + 1, by go_num, by omega, hBk.drew.trans (hb9.mono hBk.size)⟩
          case measure => simp [intOf]; omega
        · go_wp2_with (first | ((with_reducible refine wpTxt_q ?_ ?_ ?_); rfl; rfl; intro _ _) | ((with_reducible refine wpTxt_w0 ?_ ?_ ?_); rfl; rfl; intro _ _) | ((with_reducible refine wpTxt_s ?_ ?_); rfl; intro _ _; go_simp) | ((with_reducible refine wpTxt_sw ?_ ?_); rfl; intro _ _; go_simp) | (with_reducible refine wpTxt_nil ?_) | ((with_reducible refine wp_region_t mixed ?_ ?_); decide +kernel; intro _ _))
          go_ret
          exact ⟨rfl, hBp⟩
end Go.Proofs.Ytjpgnadfbejihaa
