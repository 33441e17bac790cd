/- The walks of both Locates. -/
import Derived.Test.YtffflmghfcgkfaaTj
set_option linter.unusedSimpArgs false
set_option linter.unusedVariables false
namespace Go.Proofs.Ytffflmghfcgkfaa
open Go.RowKit Tk

def locI (src : ByteArray) (i : Int) : Int × Int := if 0 ≤ i ∧ i ≤ src.size then loc src.data.toList i.toNat else (0, 0)
theorem locI_in {src : ByteArray} {n : Nat} (h : n ≤ src.size) : locI src n = loc src.data.toList n := by
  unfold locI; rw [if_pos ⟨by omega, by omega⟩]; rfl
theorem locI_out {src : ByteArray} {i : Int} (h : i < 0 ∨ (src.size : Int) < i) : locI src i = (0, 0) := by
  unfold locI; rw [if_neg (by omega)]
def LocPost (src : ByteArray) (i : Int) (w : World) (e : Ending) (w' : World) : Prop :=
  e = .returned (.agg #[.int .i64 (locI src i).1, .int .i64 (locI src i).2]) ∧ Below w.heap.size w w'
theorem Blk.two {w : World} {g : Nat} {t : TypeId} {a b : Value} (h : Blk w g t #[a, b]) :
    w.cell? ⟨g, 0, none⟩ = some a ∧ w.cell? ⟨g, 1, none⟩ = some b ∧ w.frozen? ⟨g, 0, none⟩ = false ∧ w.frozen? ⟨g, 1, none⟩ = false :=
  ⟨h.cell 0, h.cell 1, h.free 0, h.free 1⟩

set_option maxHeartbeats 1000000 in
theorem tLocate_any (src : ByteArray) (i : Int) (w : World) (hs : src.size ≤ 65536) (h0 : -9223372036854775808 ≤ i) : Calls Try.prog 26 #[.string src, .int .i64 i] w (LocPost src i w) := by
  by_cases hi : i < 0
  · have e0 := Lib.hid (locI_out (src := src) (.inl hi))
    go_enter Try.func26, Try.ntmps26
    go_wp2_with (first | ((with_reducible refine wpTxt_q ?_ ?_ ?_); rfl; rfl; intro _ _) | ((with_reducible refine wpTxt_w0 ?_ ?_ ?_); rfl; rfl; intro _ _) | ((with_reducible refine wpTxt_s ?_ ?_); rfl; intro _ _; go_simp) | ((with_reducible refine wpTxt_sw ?_ ?_); rfl; intro _ _; go_simp) | (with_reducible refine wpTxt_nil ?_) | ((with_reducible refine wp_region_t mixed ?_ ?_); decide +kernel; intro _ _))
    refine bodyPost_ret (v := .agg #[.int .i64 0, .int .i64 0]) (by simp [results, Try.f26, go_sem]) rfl ?_
    unfold LocPost
    rw [e0.out]
    refine ⟨rfl, ?_⟩
    (repeat (first | with_reducible assumption | with_reducible exact Below.refl _ _ | ((with_reducible refine Below.setCell ?_ ?_ _); rotate_left; (· first | omega | (simp only [World.size_alloc, World.size_drew, World.size_setCell]; omega))) | ((with_reducible refine Below.alloc ?_ ?_ _); rotate_left; (· first | omega | (simp only [World.size_alloc, World.size_drew, World.size_setCell]; omega))) | ((with_reducible refine Below.drewN' ?_ _)) | ((with_reducible refine Below.drew ?_))))
  · by_cases hj : (src.size : Int) < i
    · have e0 := Lib.hid (locI_out (src := src) (.inr hj))
      go_enter Try.func26, Try.ntmps26
      go_wp2_with (first | ((with_reducible refine wpTxt_q ?_ ?_ ?_); rfl; rfl; intro _ _) | ((with_reducible refine wpTxt_w0 ?_ ?_ ?_); rfl; rfl; intro _ _) | ((with_reducible refine wpTxt_s ?_ ?_); rfl; intro _ _; go_simp) | ((with_reducible refine wpTxt_sw ?_ ?_); rfl; intro _ _; go_simp) | (with_reducible refine wpTxt_nil ?_) | ((with_reducible refine wp_region_t mixed ?_ ?_); decide +kernel; intro _ _))
      refine bodyPost_ret (v := .agg #[.int .i64 0, .int .i64 0]) (by simp [results, Try.f26, go_sem]) rfl ?_
      unfold LocPost
      rw [e0.out]
      refine ⟨rfl, ?_⟩
      (repeat (first | with_reducible assumption | with_reducible exact Below.refl _ _ | ((with_reducible refine Below.setCell ?_ ?_ _); rotate_left; (· first | omega | (simp only [World.size_alloc, World.size_drew, World.size_setCell]; omega))) | ((with_reducible refine Below.alloc ?_ ?_ _); rotate_left; (· first | omega | (simp only [World.size_alloc, World.size_drew, World.size_setCell]; omega))) | ((with_reducible refine Below.drewN' ?_ _)) | ((with_reducible refine Below.drew ?_))))
    · obtain ⟨n, rfl⟩ : ∃ n : Nat, i = n := ⟨i.toNat, by omega⟩
      have e0 := Lib.hid (locI_in (src := src) (n := n) (by omega))
      have hn : n ≤ src.size := by omega
      go_enter Try.func26, Try.ntmps26
      go_wp2_with (first | ((with_reducible refine wpTxt_q ?_ ?_ ?_); rfl; rfl; intro _ _) | ((with_reducible refine wpTxt_w0 ?_ ?_ ?_); rfl; rfl; intro _ _) | ((with_reducible refine wpTxt_s ?_ ?_); rfl; intro _ _; go_simp) | ((with_reducible refine wpTxt_sw ?_ ?_); rfl; intro _ _; go_simp) | (with_reducible refine wpTxt_nil ?_) | ((with_reducible refine wp_region_t mixed ?_ ?_); decide +kernel; intro _ _))
      go_loopw [18] (fun v wr => ∃ j : Nat, v = .int .i64 j ∧ j ≤ n ∧ Hid (Blk wr (w.heap.size + 1) 26 #[.int .i64 (loc src.data.toList j).1, .int .i64 (loc src.data.toList j).2]) ∧ Hid (Blk wr w.heap.size 26 #[.int .i64 0, .int .i64 0]) ∧ Hid (Below w.heap.size w wr)) (fun v _ => n - (intOf v).toNat)
      case atStart =>
        have hN := (Blk.fresh w 26 #[.int .i64 0, .int .i64 0]).alloc (.cells #[.int .i64 1, .int .i64 1] 26)
        have hM := Blk.fresh (w.alloc (.cells #[.int .i64 0, .int .i64 0] 26)) 26 #[.int .i64 1, .int .i64 1]
        rw [World.size_alloc] at hM
        refine ⟨0, rfl, by omega, hM, hN, ?_⟩
        show Below _ _ _; (repeat (first | with_reducible assumption | with_reducible exact Below.refl _ _ | ((with_reducible refine Below.setCell ?_ ?_ _); rotate_left; (· first | omega | (simp only [World.size_alloc, World.size_drew, World.size_setCell]; omega))) | ((with_reducible refine Below.alloc ?_ ?_ _); rotate_left; (· first | omega | (simp only [World.size_alloc, World.size_drew, World.size_setCell]; omega))) | ((with_reducible refine Below.drewN' ?_ _)) | ((with_reducible refine Below.drew ?_))))
      case round =>
        obtain ⟨j, rfl, hj1, hA, hF, hL⟩ := hrel
        have hl := loc_le src.data.toList j
        by_cases hlt : j < n
        · have hjs : j < src.size := by omega
          obtain ⟨c0, c1, g0, g1⟩ := hA.out.two
          go_wp2_with (first | ((with_reducible refine wpTxt_q ?_ ?_ ?_); rfl; rfl; intro _ _) | ((with_reducible refine wpTxt_w0 ?_ ?_ ?_); rfl; rfl; intro _ _) | ((with_reducible refine wpTxt_s ?_ ?_); rfl; intro _ _; go_simp) | ((with_reducible refine wpTxt_sw ?_ ?_); rfl; intro _ _; go_simp) | (with_reducible refine wpTxt_nil ?_) | ((with_reducible refine wp_region_t mixed ?_ ?_); decide +kernel; intro _ _) | (go_at_call 50; ((with_reducible refine (after_any (loc src.data.toList j).1 (loc src.data.toList j).2 src[j] _ ?_ ?_).mono ?_); (· omega); (· omega); rintro e w1 ⟨rfl, hb1⟩; have hA1 : Blk w1 _ _ _ := Blk.low (Blk.drew hA.out) hb1; have hF1 : Blk w1 _ _ _ := Blk.low (Blk.drew hF.out) hb1; obtain ⟨a0, a1, f0, f1⟩ := hA1.two)))
          go_roundw
          case rel =>
            have e1 : loc src.data.toList (j + 1) = aft (loc src.data.toList j) src[j] := by rw [loc_succ _ j (by rw [sz]; exact hjs), at_ src j hjs]
            refine ⟨j + 1, by go_num, by omega, ?_, ?_, ?_⟩
            · have := (hA1.set 0 (.int .i64 (aft (loc src.data.toList j) src[j]).1)).set 1 (.int .i64 (aft (loc src.data.toList j) src[j]).2)
              rw [e1]; exact this
            · exact (hF1.far (by simp only [ne_eq]; omega) _).far (by simp only [ne_eq]; omega) _
            · have hb := (hL.out.drew).trans (hb1.mono hL.out.size)
              show Below _ _ _; (repeat (first | with_reducible assumption | with_reducible exact Below.refl _ _ | ((with_reducible refine Below.setCell ?_ ?_ _); rotate_left; (· first | omega | (simp only [World.size_alloc, World.size_drew, World.size_setCell]; omega))) | ((with_reducible refine Below.alloc ?_ ?_ _); rotate_left; (· first | omega | (simp only [World.size_alloc, World.size_drew, World.size_setCell]; omega))) | ((with_reducible refine Below.drewN' ?_ _)) | ((with_reducible refine Below.drew ?_))))
          case measure => simp [intOf]; omega
        · have e1 : j = n := by omega
          subst e1
          obtain ⟨c0, c1, g0, g1⟩ := hA.out.two
          obtain ⟨b0, b1, f0, f1⟩ := hF.out.two
          have hz := hF.out.lt
          go_wp2_with (first | ((with_reducible refine wpTxt_q ?_ ?_ ?_); rfl; rfl; intro _ _) | ((with_reducible refine wpTxt_w0 ?_ ?_ ?_); rfl; rfl; intro _ _) | ((with_reducible refine wpTxt_s ?_ ?_); rfl; intro _ _; go_simp) | ((with_reducible refine wpTxt_sw ?_ ?_); rfl; intro _ _; go_simp) | (with_reducible refine wpTxt_nil ?_) | ((with_reducible refine wp_region_t mixed ?_ ?_); decide +kernel; intro _ _))
          refine bodyPost_ret (v := .agg #[.int .i64 (loc src.data.toList j).1, .int .i64 (loc src.data.toList j).2]) (by simp [results, Try.f26, go_sem, b0, b1]) rfl ?_
          unfold LocPost
          rw [e0.out]
          have hb := hL.out
          refine ⟨rfl, ?_⟩
          (repeat (first | with_reducible assumption | with_reducible exact Below.refl _ _ | ((with_reducible refine Below.setCell ?_ ?_ _); rotate_left; (· first | omega | (simp only [World.size_alloc, World.size_drew, World.size_setCell]; omega))) | ((with_reducible refine Below.alloc ?_ ?_ _); rotate_left; (· first | omega | (simp only [World.size_alloc, World.size_drew, World.size_setCell]; omega))) | ((with_reducible refine Below.drewN' ?_ _)) | ((with_reducible refine Below.drew ?_))))

set_option maxHeartbeats 1000000 in
theorem rLocate_any (src : ByteArray) (i : Int) (w : World) (hs : src.size ≤ 65536) (h0 : -9223372036854775808 ≤ i) : Calls Try.prog 27 #[.string src, .int .i64 i] w (LocPost src i w) := by
  by_cases hi : i < 0
  · have e0 := Lib.hid (locI_out (src := src) (.inl hi))
    go_enter Try.func27, Try.ntmps27
    go_wp2_with (first | ((with_reducible refine wpTxt_q ?_ ?_ ?_); rfl; rfl; intro _ _) | ((with_reducible refine wpTxt_w0 ?_ ?_ ?_); rfl; rfl; intro _ _) | ((with_reducible refine wpTxt_s ?_ ?_); rfl; intro _ _; go_simp) | ((with_reducible refine wpTxt_sw ?_ ?_); rfl; intro _ _; go_simp) | (with_reducible refine wpTxt_nil ?_) | ((with_reducible refine wp_region_t mixed ?_ ?_); decide +kernel; intro _ _))
    refine bodyPost_ret (v := .agg #[.int .i64 0, .int .i64 0]) (by simp [results, Try.f27, go_sem]) rfl ?_
    unfold LocPost
    rw [e0.out]
    refine ⟨rfl, ?_⟩
    (repeat (first | with_reducible assumption | with_reducible exact Below.refl _ _ | ((with_reducible refine Below.setCell ?_ ?_ _); rotate_left; (· first | omega | (simp only [World.size_alloc, World.size_drew, World.size_setCell]; omega))) | ((with_reducible refine Below.alloc ?_ ?_ _); rotate_left; (· first | omega | (simp only [World.size_alloc, World.size_drew, World.size_setCell]; omega))) | ((with_reducible refine Below.drewN' ?_ _)) | ((with_reducible refine Below.drew ?_))))
  · by_cases hj : (src.size : Int) < i
    · have e0 := Lib.hid (locI_out (src := src) (.inr hj))
      go_enter Try.func27, Try.ntmps27
      go_wp2_with (first | ((with_reducible refine wpTxt_q ?_ ?_ ?_); rfl; rfl; intro _ _) | ((with_reducible refine wpTxt_w0 ?_ ?_ ?_); rfl; rfl; intro _ _) | ((with_reducible refine wpTxt_s ?_ ?_); rfl; intro _ _; go_simp) | ((with_reducible refine wpTxt_sw ?_ ?_); rfl; intro _ _; go_simp) | (with_reducible refine wpTxt_nil ?_) | ((with_reducible refine wp_region_t mixed ?_ ?_); decide +kernel; intro _ _))
      refine bodyPost_ret (v := .agg #[.int .i64 0, .int .i64 0]) (by simp [results, Try.f27, go_sem]) rfl ?_
      unfold LocPost
      rw [e0.out]
      refine ⟨rfl, ?_⟩
      (repeat (first | with_reducible assumption | with_reducible exact Below.refl _ _ | ((with_reducible refine Below.setCell ?_ ?_ _); rotate_left; (· first | omega | (simp only [World.size_alloc, World.size_drew, World.size_setCell]; omega))) | ((with_reducible refine Below.alloc ?_ ?_ _); rotate_left; (· first | omega | (simp only [World.size_alloc, World.size_drew, World.size_setCell]; omega))) | ((with_reducible refine Below.drewN' ?_ _)) | ((with_reducible refine Below.drew ?_))))
    · obtain ⟨n, rfl⟩ : ∃ n : Nat, i = n := ⟨i.toNat, by omega⟩
      have e0 := Lib.hid (locI_in (src := src) (n := n) (by omega))
      have hn : n ≤ src.size := by omega
      go_enter Try.func27, Try.ntmps27
      go_wp2_with (first | ((with_reducible refine wpTxt_q ?_ ?_ ?_); rfl; rfl; intro _ _) | ((with_reducible refine wpTxt_w0 ?_ ?_ ?_); rfl; rfl; intro _ _) | ((with_reducible refine wpTxt_s ?_ ?_); rfl; intro _ _; go_simp) | ((with_reducible refine wpTxt_sw ?_ ?_); rfl; intro _ _; go_simp) | (with_reducible refine wpTxt_nil ?_) | ((with_reducible refine wp_region_t mixed ?_ ?_); decide +kernel; intro _ _))
      go_loopw [6] (fun v wr => ∃ j : Nat, v = .int .i64 j ∧ j ≤ n ∧ Hid (Blk wr (w.heap.size + 1) 26 #[.int .i64 (loc src.data.toList j).1, .int .i64 (loc src.data.toList j).2]) ∧ Hid (Blk wr w.heap.size 26 #[.int .i64 0, .int .i64 0]) ∧ Hid (Below w.heap.size w wr)) (fun v _ => n - (intOf v).toNat)
      case atStart =>
        have hN := (Blk.fresh w 26 #[.int .i64 0, .int .i64 0]).alloc (.cells #[.int .i64 1, .int .i64 1] 26)
        have hM := Blk.fresh (w.alloc (.cells #[.int .i64 0, .int .i64 0] 26)) 26 #[.int .i64 1, .int .i64 1]
        rw [World.size_alloc] at hM
        refine ⟨0, rfl, by omega, hM, hN, ?_⟩
        show Below _ _ _; (repeat (first | with_reducible assumption | with_reducible exact Below.refl _ _ | ((with_reducible refine Below.setCell ?_ ?_ _); rotate_left; (· first | omega | (simp only [World.size_alloc, World.size_drew, World.size_setCell]; omega))) | ((with_reducible refine Below.alloc ?_ ?_ _); rotate_left; (· first | omega | (simp only [World.size_alloc, World.size_drew, World.size_setCell]; omega))) | ((with_reducible refine Below.drewN' ?_ _)) | ((with_reducible refine Below.drew ?_))))
      case round =>
        obtain ⟨j, rfl, hj1, hA, hF, hL⟩ := hrel
        have hl := loc_le src.data.toList j
        obtain ⟨c0, c1, g0, g1⟩ := hA.out.two
        by_cases hlt : j < n
        · have hjs : j < src.size := by omega
          have e1 : loc src.data.toList (j + 1) = aft (loc src.data.toList j) src[j] := by rw [loc_succ _ j (by rw [sz]; exact hjs), at_ src j hjs]
          by_cases hx : (src[j].toNat : Int) = 10
          · have ha : aft (loc src.data.toList j) src[j] = ((loc src.data.toList j).1 + 1, 1) := by simp [aft, bi, hx]
            rw [ha] at e1
            have E1 := Lib.hid e1
            have hb := beq_t hx
            clear ha e1 hx
            go_wp2_with (first | ((with_reducible refine wpTxt_q ?_ ?_ ?_); rfl; rfl; intro _ _) | ((with_reducible refine wpTxt_w0 ?_ ?_ ?_); rfl; rfl; intro _ _) | ((with_reducible refine wpTxt_s ?_ ?_); rfl; intro _ _; go_simp) | ((with_reducible refine wpTxt_sw ?_ ?_); rfl; intro _ _; go_simp) | (with_reducible refine wpTxt_nil ?_) | ((with_reducible refine wp_region_t mixed ?_ ?_); decide +kernel; intro _ _))
            go_roundw
            case rel =>
              refine ⟨j + 1, by go_num, by omega, ?_, ?_, ?_⟩
              · rw [E1.out]; exact ((hA.out.set 1 _).set 0 (.int .i64 ((loc src.data.toList j).1 + 1))).set 1 (.int .i64 1)
              · exact ((hF.out.far (by simp only [ne_eq]; omega) _).far (by simp only [ne_eq]; omega) _).far (by simp only [ne_eq]; omega) _
              · have hb := hL.out
                show Below _ _ _; (repeat (first | with_reducible assumption | with_reducible exact Below.refl _ _ | ((with_reducible refine Below.setCell ?_ ?_ _); rotate_left; (· first | omega | (simp only [World.size_alloc, World.size_drew, World.size_setCell]; omega))) | ((with_reducible refine Below.alloc ?_ ?_ _); rotate_left; (· first | omega | (simp only [World.size_alloc, World.size_drew, World.size_setCell]; omega))) | ((with_reducible refine Below.drewN' ?_ _)) | ((with_reducible refine Below.drew ?_))))
            case measure => simp [intOf]; omega
          · have ha : aft (loc src.data.toList j) src[j] = ((loc src.data.toList j).1, (loc src.data.toList j).2 + 1) := by simp [aft, bi, hx]
            rw [ha] at e1
            have E1 := Lib.hid e1
            have hb := beq_f hx
            clear ha e1 hx
            go_wp2_with (first | ((with_reducible refine wpTxt_q ?_ ?_ ?_); rfl; rfl; intro _ _) | ((with_reducible refine wpTxt_w0 ?_ ?_ ?_); rfl; rfl; intro _ _) | ((with_reducible refine wpTxt_s ?_ ?_); rfl; intro _ _; go_simp) | ((with_reducible refine wpTxt_sw ?_ ?_); rfl; intro _ _; go_simp) | (with_reducible refine wpTxt_nil ?_) | ((with_reducible refine wp_region_t mixed ?_ ?_); decide +kernel; intro _ _))
            go_roundw
            case rel =>
              refine ⟨j + 1, by go_num, by omega, ?_, ?_, ?_⟩
              · rw [E1.out]; exact hA.out.set 1 (.int .i64 ((loc src.data.toList j).2 + 1))
              · exact hF.out.far (by simp only [ne_eq]; omega) _
              · have hb := hL.out
                show Below _ _ _; (repeat (first | with_reducible assumption | with_reducible exact Below.refl _ _ | ((with_reducible refine Below.setCell ?_ ?_ _); rotate_left; (· first | omega | (simp only [World.size_alloc, World.size_drew, World.size_setCell]; omega))) | ((with_reducible refine Below.alloc ?_ ?_ _); rotate_left; (· first | omega | (simp only [World.size_alloc, World.size_drew, World.size_setCell]; omega))) | ((with_reducible refine Below.drewN' ?_ _)) | ((with_reducible refine Below.drew ?_))))
            case measure => simp [intOf]; omega
        · have e1 : j = n := by omega
          subst e1
          obtain ⟨b0, b1, f0, f1⟩ := hF.out.two
          have hz := hF.out.lt
          go_wp2_with (first | ((with_reducible refine wpTxt_q ?_ ?_ ?_); rfl; rfl; intro _ _) | ((with_reducible refine wpTxt_w0 ?_ ?_ ?_); rfl; rfl; intro _ _) | ((with_reducible refine wpTxt_s ?_ ?_); rfl; intro _ _; go_simp) | ((with_reducible refine wpTxt_sw ?_ ?_); rfl; intro _ _; go_simp) | (with_reducible refine wpTxt_nil ?_) | ((with_reducible refine wp_region_t mixed ?_ ?_); decide +kernel; intro _ _))
          refine bodyPost_ret (v := .agg #[.int .i64 (loc src.data.toList j).1, .int .i64 (loc src.data.toList j).2]) (by simp [results, Try.f27, go_sem, b0, b1]) rfl ?_
          unfold LocPost
          rw [e0.out]
          have hb := hL.out
          refine ⟨rfl, ?_⟩
          (repeat (first | with_reducible assumption | with_reducible exact Below.refl _ _ | ((with_reducible refine Below.setCell ?_ ?_ _); rotate_left; (· first | omega | (simp only [World.size_alloc, World.size_drew, World.size_setCell]; omega))) | ((with_reducible refine Below.alloc ?_ ?_ _); rotate_left; (· first | omega | (simp only [World.size_alloc, World.size_drew, World.size_setCell]; omega))) | ((with_reducible refine Below.drewN' ?_ _)) | ((with_reducible refine Below.drew ?_))))
end Go.Proofs.Ytffflmghfcgkfaa
