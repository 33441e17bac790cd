/- The walk of the law on full tables. -/
import Derived.Test.YtjpgnadfbejihaaSv
import Derived.Laws.BytesArg
set_option linter.unusedSimpArgs false
set_option linter.unusedVariables false
namespace Go.Proofs.Ytjpgnadfbejihaa
open Go.RowKit Tk
def dg (m : Nat) : UInt8 := UInt8.ofNat (48 + m % 10)
def txtL (n : Nat) : List UInt8 := [110, dg (n / 1000), dg (n / 100), dg (n / 10), dg n]
def txt (n : Nat) : ByteArray := ⟨(txtL n).toArray⟩
theorem dg_nat (m : Nat) : (dg m).toNat = 48 + m % 10 := by
  unfold dg; rw [UInt8.toNat_ofNat']; omega
theorem dg_inj {a b : Nat} (h : dg a = dg b) : a % 10 = b % 10 := by
  have := congrArg UInt8.toNat h
  rw [dg_nat, dg_nat] at this; omega
theorem txt_inj' {a b : Nat} (ha : a < 10000) (hb : b < 10000) (h : txt a = txt b) : a = b := by
  have h1 : txtL a = txtL b := by
    have := congrArg (fun s : ByteArray => s.data.toList) h
    simpa [txt] using this
  simp only [txtL, List.cons.injEq, true_and, and_true] at h1
  obtain ⟨h1, h2, h3, h4⟩ := h1
  have e1 := dg_inj h1
  have e2 := dg_inj h2
  have e3 := dg_inj h3
  have e4 := dg_inj h4
  omega
theorem dg_digit (m : Nat) : digB (bi (dg m)) = true := by
  unfold digB bi; rw [dg_nat]; simp; omega
theorem kw_txt (n : Nat) : kwB (txtL n) = false := by
  cases h : kwB (txtL n) with
  | false => rfl
  | true =>
    exfalso
    have hm : txtL n ∈ kwList := by simpa [kwB] using h
    have hall : ∀ l ∈ kwList, l.getD 0 0 = 110 → ¬ (48 ≤ (l.getD 1 0).toNat ∧ (l.getD 1 0).toNat ≤ 57) := by decide +kernel
    refine hall _ hm rfl ?_
    have := dg_nat (n / 1000)
    simp only [txtL, List.getD_cons_succ, List.getD_cons_zero]
    omega
theorem name_txt (n : Nat) : nameB (txtL n) = true := by
  have h0 : nmB 110 = true := by decide
  have hd : ∀ m, nmB (dg m) = true := fun m => by unfold nmB; rw [dg_digit]; simp
  have hf : dgB 110 = false := by decide
  simp [nameB, txtL, h0, hd, hf]
theorem id_txt (n : Nat) : idB (txt n) = true := by
  unfold idB
  have : (txt n).data.toList = txtL n := by simp [txt]
  simp [this, name_txt, kw_txt]
theorem size_txt (n : Nat) : (txt n).size ≤ maxLen := by
  show (txtL n).toArray.size ≤ maxLen
  simp [txtL, maxLen]
theorem nums_txt (n : Nat) : (⟨#[110]⟩ : ByteArray) ++ strOfNums [48 + (n : Int) / 1000 % 10, 48 + (n : Int) / 100 % 10, 48 + (n : Int) / 10 % 10, 48 + (n : Int) % 10] = txt n := by
  have e : ∀ m : Nat, UInt8.ofNat (48 + (m : Int) % 10).toNat = dg m := fun m => by
    unfold dg; congr 1
  have e1 := e (n / 1000)
  have e2 := e (n / 100)
  have e3 := e (n / 10)
  have e4 := e n
  simp only [Int.natCast_ediv, Int.cast_ofNat_Int] at e1 e2 e3
  apply ByteArray.ext
  simp only [strOfNums, List.map_cons, List.map_nil, ByteArray.data_append, txt, txtL]
  rw [e1, e2, e3, e4]
  rfl
theorem u8_small (x : Int) (h0 : 0 ≤ x) (h1 : x < 256) : IntKind.u8.wrap x = x := by
  simp only [IntKind.wrap, IntKind.signed, IntKind.bits]
  simp
  omega
theorem und_u8s : Try.prog.underlying 69 = some (.slice 5) := by kernel_rfl
theorem und_u8 : Try.prog.underlying 5 = some (.int .u8) := by kernel_rfl
set_option maxHeartbeats 1000000 in
set_option maxRecDepth 100000 in
theorem text_any (n : Nat) (hn : n < 10000) (w : World) : Calls Try.prog 18 #[.int .i64 n] w fun e w' => e = .returned (.string (txt n)) ∧ Below w.heap.size w w' := by
  have a0 : (0 : Int) ≤ (n : Int) / 1000 % 10 := by omega
  have b1 := u8_small (48 + (n : Int) / 1000 % 10) (by omega) (by omega)
  have b2 := u8_small (48 + (n : Int) / 100 % 10) (by omega) (by omega)
  have b3 := u8_small (48 + (n : Int) / 10 % 10) (by omega) (by omega)
  have b4 := u8_small (48 + (n : Int) % 10) (by omega) (by omega)
  have hX := (Blk.fresh w 5 #[.int .u8 (48 + (n : Int) / 1000 % 10), .int .u8 (48 + (n : Int) / 100 % 10), .int .u8 (48 + (n : Int) / 10 % 10), .int .u8 (48 + (n : Int) % 10)])
  have hc := run_convert_bytes_arg (P := Try.prog) (w.alloc (.cells #[.int .u8 (48 + (n : Int) / 1000 % 10), .int .u8 (48 + (n : Int) / 100 % 10), .int .u8 (48 + (n : Int) / 10 % 10), .int .u8 (48 + (n : Int) % 10)] 5)) 69 5 und_u8s und_u8 w.heap.size 0 4 4 [48 + (n : Int) / 1000 % 10, 48 + (n : Int) / 100 % 10, 48 + (n : Int) / 10 % 10, 48 + (n : Int) % 10] rfl
    (fun i hi => by
      rw [Nat.zero_add, hX.cell]
      match i, hi with
      | 0, _ => rfl
      | 1, _ => rfl
      | 2, _ => rfl
      | 3, _ => rfl) 9 und_str
  have hN := Lib.hid (nums_txt n)
  clear hX
  have hn' : (n : Int) < 10000 := by omega
  go_enter Try.func18, Try.ntmps18
  go_wp2_with (first | ((with_reducible refine wpTxt_q ?_ ?_ ?_); rfl; rfl; intro _ _) | ((with_reducible refine wpTxt_w0 ?_ ?_ ?_); rfl; rfl; intro _ _) | ((with_reducible refine wpTxt_s ?_ ?_); rfl; intro _ _; go_simp) | ((with_reducible refine wpTxt_sw ?_ ?_); rfl; intro _ _; go_simp) | (with_reducible refine wpTxt_nil ?_) | ((with_reducible refine wp_region_t mixed ?_ ?_); decide +kernel; intro _ _))
  rw [hN.out]
  go_ret
  exact ⟨rfl, by (repeat (first | with_reducible assumption | with_reducible exact Below.refl _ _ | ((with_reducible refine Below.setCell ?_ ?_ _); rotate_left; (· first | omega | (simp only [World.size_alloc, World.size_drew, World.size_setCell]; omega) | (dsimp only; omega))) | ((with_reducible refine Below.alloc ?_ ?_ _); rotate_left; (· first | omega | (simp only [World.size_alloc, World.size_drew, World.size_setCell]; omega))) | ((with_reducible refine Below.drewN' ?_ _)) | ((with_reducible refine Below.drew ?_))))⟩
def Fn (N k : Nat) : TS := ⟨(N : Int), (List.range k).map fun i => txt (5000 + i), []⟩
def Fa (N k : Nat) (n : Int) : TS := ⟨(N : Int), (List.range N).map fun i => txt (5000 + i), (List.range k).map fun i => (txt i, n)⟩
theorem fn_find {N k j : Nat} (h : k ≤ j) (hj : j < 4000) : (Fn N k).find (txt (5000 + j)) = none := by
  refine find_not (fun i hi _ e => ?_) (fun i hi => by simp [Fn] at hi)
  have hi' : i < k := by simpa [Fn] using hi
  simp only [Fn, List.getElem_map, List.getElem_range] at e
  have := txt_inj' (by omega) (by omega) e
  omega
theorem fn_add {N k : Nat} (h : k < N) (hN : N < 4000) : (Fn N k).add (txt (5000 + k)) = (Fn N (k + 1), (k : Int), 0) := by
  unfold TS.add
  rw [if_neg (by simp [id_txt]), fn_find (Nat.le_refl k) (by omega), if_neg (by simp), if_neg (by simp [Fn]; omega)]
  simp [Fn, List.range_succ]
theorem fn_full {N : Nat} (hN : N < 4000) : (Fn N N).add (txt (5000 + N)) = (Fn N N, 0, 25) := by
  unfold TS.add
  rw [if_neg (by simp [id_txt]), fn_find (Nat.le_refl N) (by omega), if_neg (by simp), if_pos (by simp [Fn])]
theorem fa_zero (N : Nat) (n : Int) : Fa N 0 n = Fn N N := rfl
theorem fa_find {N k j : Nat} {n : Int} (h : k ≤ j) (hj : j < 5000) (hN : N < 4000) : (Fa N k n).find (txt j) = none := by
  refine find_not (fun i hi _ e => ?_) (fun i hi _ e => ?_)
  · have hi' : i < N := by simpa [Fa] using hi
    simp only [Fa, List.getElem_map, List.getElem_range] at e
    have := txt_inj' (by omega) (by omega) e
    omega
  · have hi' : i < k := by simpa [Fa] using hi
    simp only [Fa, List.getElem_map, List.getElem_range] at e
    have := txt_inj' (by omega) (by omega) e
    omega
theorem fa_also {N k : Nat} {n : Int} (h : k < 4096) (hN : N < 4000) (h0 : 0 ≤ n) (h1 : n < N) : (Fa N k n).also (txt k) n = (Fa N (k + 1) n, 0) := by
  unfold TS.also
  rw [if_neg (by simp [id_txt]), if_neg (by simp [Fa]; omega), fa_find (Nat.le_refl k) (by omega) hN, if_neg (by simp), if_neg (by simp [Fa]; omega)]
  simp [Fa, List.range_succ]
theorem fa_full {N : Nat} {n : Int} (hN : N < 4000) (h0 : 0 ≤ n) (h1 : n < N) : (Fa N 4096 n).also (txt 4096) n = (Fa N 4096 n, 25) := by
  unfold TS.also
  rw [if_neg (by simp [id_txt]), if_neg (by simp [Fa]; omega), fa_find (Nat.le_refl _) (by omega) hN, if_neg (by simp), if_pos (by simp [Fa])]
theorem fa_last {N : Nat} {n : Int} (hN : N < 4000) : (Fa N 4096 n).find (txt 4095) = some n := by
  have hl : (Fa N 4096 n).als.length = 4096 := by simp [Fa]
  have := find_alias (T := Fa N 4096 n) (s := txt 4095) (k := 4095) (fun i hi _ e => ?_) (by rw [hl]; omega) (by simp [Fa]) (fun i hi hi2 e => ?_)
  · rw [this]; simp [Fa]
  · have hi' : i < N := by simpa [Fa] using hi
    simp only [Fa, List.getElem_map, List.getElem_range] at e
    have := txt_inj' (by omega) (by omega) e
    omega
  · simp only [Fa, List.getElem_map, List.getElem_range] at e
    have := txt_inj' (by omega) (by omega) e
    omega
theorem fn_x {N : Nat} {n : Int} (h : n < 0 ∨ (N : Int) ≤ n) : (Fn N N).also ⟨#[120]⟩ n = (Fn N N, 3) := by
  unfold TS.also
  rw [if_neg (by decide +kernel), if_pos (by simpa [Fn] using h)]
theorem u16_wf {m : Int} (h : (Lit.int .u16 m).wf = true) : 0 ≤ m ∧ m ≤ 65535 := by
  simp only [Lit.wf, Bool.and_eq_true, decide_eq_true_eq] at h
  exact h
theorem Fn_len (N k : Nat) : (Fn N k).names.length = k := by simp [Fn]
theorem text_at {n : Nat} {x : Int} (hx : x = (n : Int)) (hn : n < 10000) (w : World) : Calls Try.prog 18 #[.int .i64 x] w fun e w' => e = .returned (.string (txt n)) ∧ Below w.heap.size w w' := by
  subst hx; exact text_any n hn w
theorem len_fa {w : World} {b : Nat} {F : List Nat} {N k : Nat} {n : Int} (h : Tab w b F (Fa N k n)) : Calls Try.prog 20 #[.pointer (some ⟨b, 0, none⟩)] w fun e w' => e = .returned (.int .i64 N) ∧ w = w' := by
  have := len_any h
  rwa [show (Fa N k n).names.length = N from by simp [Fa]] at this
set_option maxHeartbeats 4000000 in
set_option maxRecDepth 100000 in
theorem lawFull (m n : Int) (hm : (Lit.int .u16 m).wf = true) (w : World) : Calls Try.prog 4 #[.int .u16 m, .int .i64 n] w (BPost true w) := by
  obtain ⟨m0, m1⟩ := u16_wf hm
  obtain ⟨M, rfl⟩ := Int.eq_ofNat_of_zero_le m0
  obtain ⟨N, hN⟩ : ∃ N : Nat, N = 1 + M % 60 := ⟨_, rfl⟩
  have hN0 : 1 ≤ N := by omega
  have hN1 : N ≤ 60 := by omega
  have hN4 : N < 4000 := by omega
  have hNI : 1 + (M : Int) % 60 = (N : Int) := by omega
  clear hN
  have hNI2 := Lib.hid hNI
  go_enter Try.func4, Try.ntmps4
  go_wp2_with (first | ((with_reducible refine wpTxt_q ?_ ?_ ?_); rfl; rfl; intro _ _) | ((with_reducible refine wpTxt_w0 ?_ ?_ ?_); rfl; rfl; intro _ _) | ((with_reducible refine wpTxt_s ?_ ?_); rfl; intro _ _; go_simp) | ((with_reducible refine wpTxt_sw ?_ ?_); rfl; intro _ _; go_simp) | (with_reducible refine wpTxt_nil ?_) | ((with_reducible refine wp_region_t mixed ?_ ?_); decide +kernel; intro _ _) | (go_at_call 9; ((with_reducible refine (new_yes _ _ ?_ ?_).mono ?_); (· omega); (· omega); rintro e w1 ⟨b, F, rfl, hT1, hB1, hF1⟩)))
  clear hNI
  go_loopw [7] (fun i wr => ∃ k : Nat, i = .int .i64 k ∧ k ≤ N + 1 ∧ ∃ F', Tab wr b F' (Fn N (min k N)) ∧ Below w.heap.size w wr ∧ ∀ x ∈ F', w.heap.size ≤ x) (fun i _ => N + 1 - (intOf i).toNat)
  case atStart => exact ⟨0, rfl, Nat.zero_le _, F, by rw [Nat.zero_min]; exact hT1, hB1, hF1⟩
  case round =>
    obtain ⟨k, rfl, hk, F', hTr, hBr, hFr⟩ := hrel
    obtain ⟨wo, hwo⟩ : ∃ wo, wo = wr := ⟨_, rfl⟩
    subst hwo
    by_cases hlt : k < N
    · rw [Nat.min_eq_left (by omega)] at hTr
      have HE := Lib.hid (fn_add hlt hN4)
      obtain ⟨g1, g2⟩ := len_f (show ¬ k = N by omega)
      have g3 : (k : Int) < N := by omega
      have g4 : (k : Int) ≤ N := by omega
      go_wp2_with (first | ((with_reducible refine wpTxt_q ?_ ?_ ?_); rfl; rfl; intro _ _) | ((with_reducible refine wpTxt_w0 ?_ ?_ ?_); rfl; rfl; intro _ _) | ((with_reducible refine wpTxt_s ?_ ?_); rfl; intro _ _; go_simp) | ((with_reducible refine wpTxt_sw ?_ ?_); rfl; intro _ _; go_simp) | (with_reducible refine wpTxt_nil ?_) | ((with_reducible refine wp_region_t mixed ?_ ?_); decide +kernel; intro _ _) | (go_at_call 18; ((with_reducible refine (text_at (n := 5000 + k) ?_ ?_ _).mono ?_); (· omega); (· omega); rintro e wt ⟨rfl, hbt⟩)) | (go_at_call 17; ((with_reducible refine (add_lit (hTr.low hbt) (size_txt _) HE.out).mono ?_); rintro e w6 ⟨F6, rfl, hT6, hO6, hG6⟩; obtain ⟨hB6, hF6⟩ := grow_on (hBr.trans (hbt.mono hBr.size)) hFr hO6 hG6)))
      go_roundw
      case rel => exact ⟨k + 1, by go_num, by omega, F6, by rw [Nat.min_eq_left (by omega)]; exact hT6, hB6, hF6⟩
      case measure => simp [intOf]; omega
    · by_cases hle : k = N
      · subst hle
        rw [Nat.min_self] at hTr
        have HE := Lib.hid (fn_full hN4)
        go_wp2_with (first | ((with_reducible refine wpTxt_q ?_ ?_ ?_); rfl; rfl; intro _ _) | ((with_reducible refine wpTxt_w0 ?_ ?_ ?_); rfl; rfl; intro _ _) | ((with_reducible refine wpTxt_s ?_ ?_); rfl; intro _ _; go_simp) | ((with_reducible refine wpTxt_sw ?_ ?_); rfl; intro _ _; go_simp) | (with_reducible refine wpTxt_nil ?_) | ((with_reducible refine wp_region_t mixed ?_ ?_); decide +kernel; intro _ _) | (go_at_call 18; ((with_reducible refine (text_at (n := 5000 + k) ?_ ?_ _).mono ?_); (· omega); (· omega); rintro e wt ⟨rfl, hbt⟩)) | (go_at_call 17; ((with_reducible refine (add_lit (hTr.low hbt) (size_txt _) HE.out).mono ?_); rintro e w6 ⟨F6, rfl, hT6, hO6, hG6⟩; obtain ⟨hB6, hF6⟩ := grow_on (hBr.trans (hbt.mono hBr.size)) hFr hO6 hG6)))
        go_roundw
        case rel => exact ⟨k + 1, by go_num, by omega, F6, by rw [Nat.min_eq_right (by omega)]; exact hT6, hB6, hF6⟩
        case measure => simp [intOf]
      · have g3 : (N : Int) < k := by omega
        rw [Nat.min_eq_right (by omega)] at hTr
        by_cases hin : 0 ≤ n ∧ n < N
        · obtain ⟨i1, i2⟩ := hin
          go_wp2_with (first | ((with_reducible refine wpTxt_q ?_ ?_ ?_); rfl; rfl; intro _ _) | ((with_reducible refine wpTxt_w0 ?_ ?_ ?_); rfl; rfl; intro _ _) | ((with_reducible refine wpTxt_s ?_ ?_); rfl; intro _ _; go_simp) | ((with_reducible refine wpTxt_sw ?_ ?_); rfl; intro _ _; go_simp) | (with_reducible refine wpTxt_nil ?_) | ((with_reducible refine wp_region_t mixed ?_ ?_); decide +kernel; intro _ _))
          go_loopw [10] (fun i wr => ∃ k : Nat, i = .int .i64 k ∧ k ≤ 4097 ∧ ∃ F', Tab wr b F' (Fa N (min k 4096) n) ∧ Below w.heap.size w wr ∧ ∀ x ∈ F', w.heap.size ≤ x) (fun i _ => 4097 - (intOf i).toNat)
          case atStart => exact ⟨0, rfl, Nat.zero_le _, F', by rw [Nat.zero_min, fa_zero]; exact hTr, hBr, hFr⟩
          case round =>
            clear hTr hBr hFr hk hlt hle g3
            obtain ⟨k, rfl, hk, F', hTr, hBr, hFr⟩ := hrel
            obtain ⟨wp, hwp⟩ : ∃ wp, wp = wr := ⟨_, rfl⟩
            subst hwp
            by_cases hlt : k < 4096
            · rw [Nat.min_eq_left (by omega)] at hTr
              have HE := Lib.hid (fa_also hlt hN4 i1 i2)
              obtain ⟨g1, g2⟩ := kd_f (show ¬ (k : Int) = 4096 by omega)
              have g3 : (k : Int) < 4096 := by omega
              have g4 : (k : Int) ≤ 4096 := by omega
              go_wp2_with (first | ((with_reducible refine wpTxt_q ?_ ?_ ?_); rfl; rfl; intro _ _) | ((with_reducible refine wpTxt_w0 ?_ ?_ ?_); rfl; rfl; intro _ _) | ((with_reducible refine wpTxt_s ?_ ?_); rfl; intro _ _; go_simp) | ((with_reducible refine wpTxt_sw ?_ ?_); rfl; intro _ _; go_simp) | (with_reducible refine wpTxt_nil ?_) | ((with_reducible refine wp_region_t mixed ?_ ?_); decide +kernel; intro _ _) | (go_at_call 18; ((with_reducible refine (text_any k ?_ _).mono ?_); (· omega); rintro e wt ⟨rfl, hbt⟩)) | (go_at_call 19; ((with_reducible refine (also_lit (hTr.low hbt) (size_txt _) HE.out).mono ?_); rintro e w6 ⟨F6, rfl, hT6, hO6, hG6⟩; obtain ⟨hB6, hF6⟩ := grow_on (hBr.trans (hbt.mono hBr.size)) hFr hO6 hG6)))
              go_roundw
              case rel => exact ⟨k + 1, by go_num, by omega, F6, by rw [Nat.min_eq_left (by omega)]; exact hT6, hB6, hF6⟩
              case measure => simp [intOf]; omega
            · by_cases hle : k = 4096
              · subst hle
                rw [Nat.min_self] at hTr
                have HE := Lib.hid (fa_full hN4 i1 i2)
                rw [show ((4096 : Nat) : Int) = 4096 from rfl]
                go_wp2_with (first | ((with_reducible refine wpTxt_q ?_ ?_ ?_); rfl; rfl; intro _ _) | ((with_reducible refine wpTxt_w0 ?_ ?_ ?_); rfl; rfl; intro _ _) | ((with_reducible refine wpTxt_s ?_ ?_); rfl; intro _ _; go_simp) | ((with_reducible refine wpTxt_sw ?_ ?_); rfl; intro _ _; go_simp) | (with_reducible refine wpTxt_nil ?_) | ((with_reducible refine wp_region_t mixed ?_ ?_); decide +kernel; intro _ _) | (go_at_call 18; ((with_reducible refine (text_at (n := 4096) ?_ ?_ _).mono ?_); (· omega); (· omega); rintro e wt ⟨rfl, hbt⟩)) | (go_at_call 19; ((with_reducible refine (also_lit (hTr.low hbt) (size_txt _) HE.out).mono ?_); rintro e w6 ⟨F6, rfl, hT6, hO6, hG6⟩; obtain ⟨hB6, hF6⟩ := grow_on (hBr.trans (hbt.mono hBr.size)) hFr hO6 hG6)))
                go_roundw
                case rel => exact ⟨4097, rfl, by omega, F6, by rw [Nat.min_eq_right (by omega)]; exact hT6, hB6, hF6⟩
                case measure => simp [intOf]
              · have g3 : (4096 : Int) < k := by omega
                rw [Nat.min_eq_right (by omega)] at hTr
                go_wp2_with (first | ((with_reducible refine wpTxt_q ?_ ?_ ?_); rfl; rfl; intro _ _) | ((with_reducible refine wpTxt_w0 ?_ ?_ ?_); rfl; rfl; intro _ _) | ((with_reducible refine wpTxt_s ?_ ?_); rfl; intro _ _; go_simp) | ((with_reducible refine wpTxt_sw ?_ ?_); rfl; intro _ _; go_simp) | (with_reducible refine wpTxt_nil ?_) | ((with_reducible refine wp_region_t mixed ?_ ?_); decide +kernel; intro _ _) | (go_at_call 18; ((with_reducible refine (text_at (n := 4095) ?_ ?_ _).mono ?_); (· omega); (· omega); rintro e wt ⟨rfl, hbt⟩)) | (go_at_call 13; ((with_reducible refine (find_lit (hTr.low hbt) (fa_last hN4)).mono ?_); rintro e w' ⟨rfl, rfl⟩)) | (go_at_call 20; ((with_reducible refine (len_fa (hTr.low hbt)).mono ?_); rintro e w' ⟨rfl, rfl⟩)) | (go_at_call 11; ((with_reducible refine (alive_any _).mono ?_); rintro e w9 ⟨rfl, hb9⟩)))
                go_ret
                have hB7 := hBr.trans (hbt.mono hBr.size)
                exact ⟨rfl, hB7.trans (hb9.mono hB7.size)⟩
        · have hout : n < 0 ∨ (N : Int) ≤ n := by omega
          have H3 := Lib.hid hout
          rcases hout with hout | hout
          all_goals
            go_wp2_with (first | ((with_reducible refine wpTxt_q ?_ ?_ ?_); rfl; rfl; intro _ _) | ((with_reducible refine wpTxt_w0 ?_ ?_ ?_); rfl; rfl; intro _ _) | ((with_reducible refine wpTxt_s ?_ ?_); rfl; intro _ _; go_simp) | ((with_reducible refine wpTxt_sw ?_ ?_); rfl; intro _ _; go_simp) | (with_reducible refine wpTxt_nil ?_) | ((with_reducible refine wp_region_t mixed ?_ ?_); decide +kernel; intro _ _) | (go_at_call 19; ((with_reducible refine (also_lit hTr ?_ (fn_x H3.out)).mono ?_); (· decide +kernel); rintro e w6 ⟨F6, rfl, hT6, hO6, hG6⟩; obtain ⟨hB6, hF6⟩ := grow_on hBr hFr hO6 hG6)) | (go_at_call 11; ((with_reducible refine (alive_any _).mono ?_); rintro e w9 ⟨rfl, hb9⟩)))
            go_ret
            exact ⟨rfl, hB6.trans (hb9.mono hB6.size)⟩
end Go.Proofs.Ytjpgnadfbejihaa
