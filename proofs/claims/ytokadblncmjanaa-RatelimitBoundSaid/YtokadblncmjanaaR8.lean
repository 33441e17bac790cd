/- The reference's state by value; the walks of its small functions. -/
import Derived.Test.YtokadblncmjanaaR7
set_option linter.unusedSimpArgs false
set_option linter.unusedVariables false
namespace Go.Proofs.Ytokadblncmjanaa
open Go.RowKit Tk
def bkC (p : ByteArray × Bk) : List Value := [.string p.1, .int .i64 p.2.left, .int .i64 p.2.clock, .int .i64 p.2.drop]
theorem bkC_len (p : ByteArray × Bk) : (bkC p).length = 4 := rfl
theorem bkC_one (p : ByteArray × Bk) : ∀ c ∈ bkC p, Value.oneCell' c = true := by intro c hc; simp [bkC] at hc; rcases hc with rfl | rfl | rfl | rfl <;> rfl
theorem info_bk : (Try.prog.info? 70).map (fun i => (i.zero, i.size, i.bytes)) = some (some (.agg #[.string ⟨#[]⟩, .int .i64 0, .int .i64 0, .int .i64 0]), 4, 40) := by kernel_rfl
theorem und_bks : Try.prog.underlying 31 = some (.slice 70) := by kernel_rfl
def BRow (w : World) (v : Value) (l : List (ByteArray × Bk)) : Prop := ORow w 70 4 bkC v l
def sv (R : RL) (v : Value) : Value := .agg #[.int .i64 R.burst, .int .i64 R.itv, .int .i64 R.keys, .int .i64 R.time, v, .int .i64 R.alw, .int .i64 R.den]
set_option maxHeartbeats 1000000 in
theorem q31First_yes {bu it ks : Int} (h : NewOk bu it ks) (w : World) : Calls Try.prog 11 #[.int .i64 bu, .int .i64 it, .int .i64 ks] w fun e w' => e = .returned (.tuple #[.agg #[.int .i64 bu, .int .i64 it, .int .i64 ks, .int .i64 0, .slice none 0 0, .int .i64 0, .int .i64 0], .bool true]) ∧ Below w.heap.size w w' := by
  obtain ⟨⟨b0, b1, i0, i1⟩, k0, k1⟩ := h
  go_enter Try.func11, Try.ntmps11
  go_wp2_with (first | ((with_reducible refine wpTxt_q ?_ ?_ ?_); rfl; rfl; intro _ _) | ((with_reducible refine wpTxt_w0 ?_ ?_ ?_); rfl; rfl; intro _ _) | ((with_reducible refine wpTxt_s ?_ ?_); rfl; intro _ _; go_simp) | ((with_reducible refine wpTxt_sw ?_ ?_); rfl; intro _ _; go_simp) | (with_reducible refine wpTxt_nil ?_) | ((with_reducible refine wp_region_t mixed ?_ ?_); decide +kernel; intro _ _))
  exact bodyPost_ret (v := .tuple #[.agg #[.int .i64 bu, .int .i64 it, .int .i64 ks, .int .i64 0, .slice none 0 0, .int .i64 0, .int .i64 0], .bool true]) (by simp [results, Try.f11, go_sem]) rfl ⟨rfl, by (repeat (first | with_reducible assumption | with_reducible exact Below.refl _ _ | ((with_reducible refine Below.setCell ?_ ?_ _); rotate_left; (· first | omega | (simp only [World.size_alloc, World.size_drew, World.size_setCell]; omega) | (dsimp only; omega))) | ((with_reducible refine Below.alloc ?_ ?_ _); rotate_left; (· first | omega | (simp only [World.size_alloc, World.size_drew, World.size_setCell]; omega))) | ((with_reducible refine Below.drewN' ?_ _)) | ((with_reducible refine Below.drew ?_))))⟩
theorem not_new {bu it ks : Int} (h : ¬ NewOk bu it ks) : bu < 1 ∨ (1 ≤ bu ∧ 1000000 < bu) ∨ (1 ≤ bu ∧ bu ≤ 1000000 ∧ it < 1) ∨ (1 ≤ bu ∧ bu ≤ 1000000 ∧ 1 ≤ it ∧ 1000000 < it) ∨ (1 ≤ bu ∧ bu ≤ 1000000 ∧ 1 ≤ it ∧ it ≤ 1000000 ∧ ks < 1) ∨ (1 ≤ bu ∧ bu ≤ 1000000 ∧ 1 ≤ it ∧ it ≤ 1000000 ∧ 1 ≤ ks ∧ 1024 < ks) := by
  by_cases a1 : bu < 1
  · exact .inl a1
  by_cases a2 : 1000000 < bu
  · exact .inr (.inl ⟨by omega, a2⟩)
  by_cases a3 : it < 1
  · exact .inr (.inr (.inl ⟨by omega, by omega, a3⟩))
  by_cases a4 : 1000000 < it
  · exact .inr (.inr (.inr (.inl ⟨by omega, by omega, by omega, a4⟩)))
  by_cases a5 : ks < 1
  · exact .inr (.inr (.inr (.inr (.inl ⟨by omega, by omega, by omega, by omega, a5⟩))))
  by_cases a6 : 1024 < ks
  · exact .inr (.inr (.inr (.inr (.inr ⟨by omega, by omega, by omega, by omega, by omega, a6⟩))))
  exact absurd ⟨⟨by omega, by omega, by omega, by omega⟩, by omega, by omega⟩ h
set_option maxHeartbeats 2000000 in
theorem q31First_no {bu it ks : Int} (h : ¬ NewOk bu it ks) (w : World) : Calls Try.prog 11 #[.int .i64 bu, .int .i64 it, .int .i64 ks] w fun e w' => e = .returned (.tuple #[.agg #[.int .i64 0, .int .i64 0, .int .i64 0, .int .i64 0, .slice none 0 0, .int .i64 0, .int .i64 0], .bool false]) ∧ Below w.heap.size w w' := by
  have h2 := not_new h
  clear h
  rcases h2 with h | ⟨h, h1⟩ | ⟨h, h1, h2⟩ | ⟨h, h1, h2, h3⟩ | ⟨h, h1, h2, h3, h4⟩ | ⟨h, h1, h2, h3, h4, h5⟩
  all_goals
    go_enter Try.func11, Try.ntmps11
    go_wp2_with (first | ((with_reducible refine wpTxt_q ?_ ?_ ?_); rfl; rfl; intro _ _) | ((with_reducible refine wpTxt_w0 ?_ ?_ ?_); rfl; rfl; intro _ _) | ((with_reducible refine wpTxt_s ?_ ?_); rfl; intro _ _; go_simp) | ((with_reducible refine wpTxt_sw ?_ ?_); rfl; intro _ _; go_simp) | (with_reducible refine wpTxt_nil ?_) | ((with_reducible refine wp_region_t mixed ?_ ?_); decide +kernel; intro _ _))
    exact bodyPost_ret (v := .tuple #[.agg #[.int .i64 0, .int .i64 0, .int .i64 0, .int .i64 0, .slice none 0 0, .int .i64 0, .int .i64 0], .bool false]) (by simp [results, Try.f11, go_sem]) rfl ⟨rfl, by (repeat (first | with_reducible assumption | with_reducible exact Below.refl _ _ | ((with_reducible refine Below.setCell ?_ ?_ _); rotate_left; (· first | omega | (simp only [World.size_alloc, World.size_drew, World.size_setCell]; omega) | (dsimp only; omega))) | ((with_reducible refine Below.alloc ?_ ?_ _); rotate_left; (· first | omega | (simp only [World.size_alloc, World.size_drew, World.size_setCell]; omega))) | ((with_reducible refine Below.drewN' ?_ _)) | ((with_reducible refine Below.drew ?_))))⟩
set_option maxHeartbeats 400000 in
theorem q31clock_any {bu it ks ti al de : Int} {so : Option Addr} {n c : Nat} (now : Int) (w : World) : Calls Try.prog 33 #[.agg #[.int .i64 bu, .int .i64 it, .int .i64 ks, .int .i64 ti, .slice so n c, .int .i64 al, .int .i64 de], .int .i64 now] w fun e w' => e = .returned (.int .i64 (max ti (min now big))) ∧ Below w.heap.size w w' := by
  go_enter Try.func33, Try.ntmps33
  go_wp2_with (first | ((with_reducible refine wpTxt_q ?_ ?_ ?_); rfl; rfl; intro _ _) | ((with_reducible refine wpTxt_w0 ?_ ?_ ?_); rfl; rfl; intro _ _) | ((with_reducible refine wpTxt_s ?_ ?_); rfl; intro _ _; go_simp) | ((with_reducible refine wpTxt_sw ?_ ?_); rfl; intro _ _; go_simp) | (with_reducible refine wpTxt_nil ?_) | ((with_reducible refine wp_region_t mixed ?_ ?_); decide +kernel; intro _ _))
  go_ret
  exact ⟨ret_int (by unfold big; rfl), by (repeat (first | with_reducible assumption | with_reducible exact Below.refl _ _ | ((with_reducible refine Below.setCell ?_ ?_ _); rotate_left; (· first | omega | (simp only [World.size_alloc, World.size_drew, World.size_setCell]; omega) | (dsimp only; omega))) | ((with_reducible refine Below.alloc ?_ ?_ _); rotate_left; (· first | omega | (simp only [World.size_alloc, World.size_drew, World.size_setCell]; omega))) | ((with_reducible refine Below.drewN' ?_ _)) | ((with_reducible refine Below.drew ?_))))⟩
def RFill (k : ByteArray) (f : Bk) (w : World) (e : Ending) (w' : World) : Prop := e = .returned (.agg #[.string k, .int .i64 f.left, .int .i64 f.clock, .int .i64 f.drop]) ∧ Below w.heap.size w w'
set_option maxHeartbeats 2000000 in
set_option maxRecDepth 100000 in
theorem q31filled_any {bu it ks ti al de t M lf ck dr : Int} {so : Option Addr} {n c : Nat} (k : ByteArray) (w : World) (hp : Par bu it) (hb : BkOk bu t M ⟨lf, ck, dr⟩) (ht : t ≤ big) :
    Calls Try.prog 36 #[.agg #[.int .i64 bu, .int .i64 it, .int .i64 ks, .int .i64 ti, .slice so n c, .int .i64 al, .int .i64 de], .agg #[.string k, .int .i64 lf, .int .i64 ck, .int .i64 dr], .int .i64 t] w (RFill k (fill bu it ⟨lf, ck, dr⟩ t) w) := by
  obtain ⟨p1, p2, p3, p4⟩ := hp
  obtain ⟨l0, l1, k0, k1, -, -⟩ := hb
  dsimp only at l0 l1 k0 k1
  have hq0 : 0 ≤ (t - ck) / it := Int.ediv_nonneg (by omega) (by omega)
  have hm : (t - ck) / it * it ≤ t - ck := Int.ediv_mul_le _ (by omega)
  have hm0 : 0 ≤ (t - ck) / it * it := Int.mul_nonneg hq0 (by omega)
  have hq1 : (t - ck) / it ≤ t - ck := Int.ediv_le_self _ (by omega)
  have ht2 : t ≤ 1125899906842624 := ht
  have h10 : 0 ≤ t - ck := by omega
  have h11 : 0 < it := by omega
  unfold RFill fill
  dsimp only
  obtain ⟨q, hq⟩ : ∃ q, (t - ck) / it = q := ⟨_, rfl⟩
  rw [hq] at hq0 hm hm0 hq1 ⊢
  obtain ⟨d, hd⟩ : ∃ d, q * it = d := ⟨_, rfl⟩
  rw [hd] at hm hm0 ⊢
  by_cases hlt : bu - lf < q
  · rw [if_pos hlt]
    obtain ⟨l2, hl2⟩ : ∃ l2, lf + q = l2 := ⟨_, rfl⟩
    have hl3 : bu ≤ l2 := by omega
    have hmin : min bu l2 = bu := by omega
    clear hlt
    go_enter Try.func36, Try.ntmps36
    go_wp2_with (first | ((with_reducible refine wpTxt_q ?_ ?_ ?_); rfl; rfl; intro _ _) | ((with_reducible refine wpTxt_w0 ?_ ?_ ?_); rfl; rfl; intro _ _) | ((with_reducible refine wpTxt_s ?_ ?_); rfl; intro _ _; go_simp) | ((with_reducible refine wpTxt_sw ?_ ?_); rfl; intro _ _; go_simp) | (with_reducible refine wpTxt_nil ?_) | ((with_reducible refine wp_region_t mixed ?_ ?_); decide +kernel; intro _ _))
    exact bodyPost_ret (v := .agg #[.string k, .int .i64 bu, .int .i64 t, .int .i64 dr]) (by simp [results, Try.f36, go_sem, *]) rfl ⟨rfl, by (repeat (first | with_reducible assumption | with_reducible exact Below.refl _ _ | ((with_reducible refine Below.setCell ?_ ?_ _); rotate_left; (· first | omega | (simp only [World.size_alloc, World.size_drew, World.size_setCell]; omega) | (dsimp only; omega))) | ((with_reducible refine Below.alloc ?_ ?_ _); rotate_left; (· first | omega | (simp only [World.size_alloc, World.size_drew, World.size_setCell]; omega))) | ((with_reducible refine Below.drewN' ?_ _)) | ((with_reducible refine Below.drew ?_))))⟩
  · rw [if_neg hlt]
    obtain ⟨l2, hl2⟩ : ∃ l2, lf + q = l2 := ⟨_, rfl⟩
    rw [hl2]
    have hl3 : 0 ≤ l2 := by omega
    have hl4 : l2 ≤ bu := by omega
    have hmin : min bu l2 = l2 := by omega
    clear hlt hq1
    by_cases hfull : l2 = bu
    · rw [if_pos hfull]
      obtain ⟨g1, g2⟩ := kd_t hfull
      have hfl := Lib.hid hfull
      clear hfull
      go_enter Try.func36, Try.ntmps36
      go_wp2_with (first | ((with_reducible refine wpTxt_q ?_ ?_ ?_); rfl; rfl; intro _ _) | ((with_reducible refine wpTxt_w0 ?_ ?_ ?_); rfl; rfl; intro _ _) | ((with_reducible refine wpTxt_s ?_ ?_); rfl; intro _ _; go_simp) | ((with_reducible refine wpTxt_sw ?_ ?_); rfl; intro _ _; go_simp) | (with_reducible refine wpTxt_nil ?_) | ((with_reducible refine wp_region_t mixed ?_ ?_); decide +kernel; intro _ _))
      exact bodyPost_ret (v := .agg #[.string k, .int .i64 l2, .int .i64 t, .int .i64 dr]) (by simp [results, Try.f36, go_sem, *]) rfl ⟨rfl, by (repeat (first | with_reducible assumption | with_reducible exact Below.refl _ _ | ((with_reducible refine Below.setCell ?_ ?_ _); rotate_left; (· first | omega | (simp only [World.size_alloc, World.size_drew, World.size_setCell]; omega) | (dsimp only; omega))) | ((with_reducible refine Below.alloc ?_ ?_ _); rotate_left; (· first | omega | (simp only [World.size_alloc, World.size_drew, World.size_setCell]; omega))) | ((with_reducible refine Below.drewN' ?_ _)) | ((with_reducible refine Below.drew ?_))))⟩
    · rw [if_neg hfull]
      obtain ⟨g1, g2⟩ := kd_f hfull
      clear hfull
      go_enter Try.func36, Try.ntmps36
      go_wp2_with (first | ((with_reducible refine wpTxt_q ?_ ?_ ?_); rfl; rfl; intro _ _) | ((with_reducible refine wpTxt_w0 ?_ ?_ ?_); rfl; rfl; intro _ _) | ((with_reducible refine wpTxt_s ?_ ?_); rfl; intro _ _; go_simp) | ((with_reducible refine wpTxt_sw ?_ ?_); rfl; intro _ _; go_simp) | (with_reducible refine wpTxt_nil ?_) | ((with_reducible refine wp_region_t mixed ?_ ?_); decide +kernel; intro _ _))
      exact bodyPost_ret (v := .agg #[.string k, .int .i64 l2, .int .i64 (ck + d), .int .i64 dr]) (by simp [results, Try.f36, go_sem, *]) rfl ⟨rfl, by (repeat (first | with_reducible assumption | with_reducible exact Below.refl _ _ | ((with_reducible refine Below.setCell ?_ ?_ _); rotate_left; (· first | omega | (simp only [World.size_alloc, World.size_drew, World.size_setCell]; omega) | (dsimp only; omega))) | ((with_reducible refine Below.alloc ?_ ?_ _); rotate_left; (· first | omega | (simp only [World.size_alloc, World.size_drew, World.size_setCell]; omega))) | ((with_reducible refine Below.drewN' ?_ _)) | ((with_reducible refine Below.drew ?_))))⟩
/-- where a key stands -/
def idxB (k : ByteArray) : List (ByteArray × Bk) → Nat → Int
  | [], _ => -1
  | p :: l, i => if k = p.1 then (i : Int) else idxB k l (i + 1)
theorem idx_some {k : ByteArray} : ∀ {l : List (ByteArray × Bk)} {i j : Nat} (hi : i < l.length), l[i].1 = k → (∀ x (_ : x < i) (h : x < l.length), ¬ l[x].1 = k) → idxB k l j = ((j + i : Nat) : Int)
  | p :: l, 0, j, _, e, _ => by simp at e; simp [idxB, e]
  | p :: l, i + 1, j, hi, e, h => by
    have h0 : ¬ k = p.1 := fun e => h 0 (by omega) (by simp) e.symm
    have := idx_some (j := j + 1) (by simpa using hi) (by simpa using e) (fun x hx h' => h (x + 1) (by omega) (by simpa using h'))
    simp only [idxB, if_neg h0, this]
    congr 1; omega
theorem idx_none {k : ByteArray} : ∀ {l : List (ByteArray × Bk)} {j : Nat}, (∀ x (_ : x < l.length) (h : x < l.length), ¬ l[x].1 = k) → idxB k l j = -1
  | [], _, _ => rfl
  | p :: l, j, h => by
    have h0 : ¬ k = p.1 := fun e => h 0 (by simp) (by simp) e.symm
    have := idx_none (j := j + 1) (fun x hx h' => h (x + 1) (by simpa using hx) (by simpa using h'))
    simp only [idxB, if_neg h0, this]
def IPost (n : Int) (w : World) (e : Ending) (w' : World) : Prop := e = .returned (.int .i64 n) ∧ Below w.heap.size w w'
theorem ipost {n m : Int} {w w' : World} (h : n = m) (hb : Below w.heap.size w w') : IPost m w (.returned (.int .i64 n)) w' := ⟨by rw [h], hb⟩
set_option maxHeartbeats 1000000 in
theorem q31find_any {bu it ks ti al de : Int} {v : Value} {l : List (ByteArray × Bk)} (k : ByteArray) (w : World) (h : BRow w v l) (hl : l.length ≤ 2000) :
    Calls Try.prog 35 #[.agg #[.int .i64 bu, .int .i64 it, .int .i64 ks, .int .i64 ti, v, .int .i64 al, .int .i64 de], .string k] w (IPost (idxB k l 0) w) := by
  obtain ⟨so, c, rfl, n1, n2⟩ := h.len
  unfold maxLen at n2
  go_enter Try.func35, Try.ntmps35
  go_wp2_with (first | ((with_reducible refine wpTxt_q ?_ ?_ ?_); rfl; rfl; intro _ _) | ((with_reducible refine wpTxt_w0 ?_ ?_ ?_); rfl; rfl; intro _ _) | ((with_reducible refine wpTxt_s ?_ ?_); rfl; intro _ _; go_simp) | ((with_reducible refine wpTxt_sw ?_ ?_); rfl; intro _ _; go_simp) | (with_reducible refine wpTxt_nil ?_) | ((with_reducible refine wp_region_t mixed ?_ ?_); decide +kernel; intro _ _))
  go_loop [5] (fun i => ∃ j : Nat, i = .int .i64 j ∧ j ≤ l.length ∧ Hid (∀ x (_ : x < j) (h : x < l.length), ¬ l[x].1 = k)) (fun i => l.length - (intOf i).toNat)
  case atStart => exact ⟨0, rfl, by omega, fun x h => absurd h (by omega)⟩
  case round =>
    obtain ⟨j, rfl, hj, hall⟩ := hrel
    by_cases hlt : j < l.length
    · obtain ⟨g, cap', e, -, -, hg, hc⟩ := h.at bkC_len (by omega)
      injection e with e1 e2 e3
      subst e1
      have hck := hc j hlt 0 (by omega)
      clear hc e3 e2
      simp only [bkC, List.getElem?_cons_zero, Nat.add_zero] at hck
      by_cases he : l[j].1 = k
      · have g3 := txt_t he
        have HL := Lib.hid (idx_some (j := 0) hlt he hall.out)
        clear he
        go_wp2_with (first | ((with_reducible refine wpTxt_q ?_ ?_ ?_); rfl; rfl; intro _ _) | ((with_reducible refine wpTxt_w0 ?_ ?_ ?_); rfl; rfl; intro _ _) | ((with_reducible refine wpTxt_s ?_ ?_); rfl; intro _ _; go_simp) | ((with_reducible refine wpTxt_sw ?_ ?_); rfl; intro _ _; go_simp) | (with_reducible refine wpTxt_nil ?_) | ((with_reducible refine wp_region_t mixed ?_ ?_); decide +kernel; intro _ _))
        go_ret
        exact ipost (by rw [HL.out, Nat.zero_add]) (by (repeat (first | with_reducible assumption | with_reducible exact Below.refl _ _ | ((with_reducible refine Below.setCell ?_ ?_ _); rotate_left; (· first | omega | (simp only [World.size_alloc, World.size_drew, World.size_setCell]; omega) | (dsimp only; omega))) | ((with_reducible refine Below.alloc ?_ ?_ _); rotate_left; (· first | omega | (simp only [World.size_alloc, World.size_drew, World.size_setCell]; omega))) | ((with_reducible refine Below.drewN' ?_ _)) | ((with_reducible refine Below.drew ?_)))))
      · have g3 := txt_f he
        have HL := Lib.hid (none_snoc (p := fun x : ByteArray × Bk => x.1 = k) hall.out hlt he)
        clear he
        go_wp2_with (first | ((with_reducible refine wpTxt_q ?_ ?_ ?_); rfl; rfl; intro _ _) | ((with_reducible refine wpTxt_w0 ?_ ?_ ?_); rfl; rfl; intro _ _) | ((with_reducible refine wpTxt_s ?_ ?_); rfl; intro _ _; go_simp) | ((with_reducible refine wpTxt_sw ?_ ?_); rfl; intro _ _; go_simp) | (with_reducible refine wpTxt_nil ?_) | ((with_reducible refine wp_region_t mixed ?_ ?_); decide +kernel; intro _ _))
        go_round
        case rel => exact ⟨j + 1, by go_num, by omega, HL.out⟩
        case measure => simp [intOf]; omega
    · have hjj : j = l.length := by omega
      subst hjj
      go_wp2_with (first | ((with_reducible refine wpTxt_q ?_ ?_ ?_); rfl; rfl; intro _ _) | ((with_reducible refine wpTxt_w0 ?_ ?_ ?_); rfl; rfl; intro _ _) | ((with_reducible refine wpTxt_s ?_ ?_); rfl; intro _ _; go_simp) | ((with_reducible refine wpTxt_sw ?_ ?_); rfl; intro _ _; go_simp) | (with_reducible refine wpTxt_nil ?_) | ((with_reducible refine wp_region_t mixed ?_ ?_); decide +kernel; intro _ _))
      go_ret
      exact ipost (idx_none hall.out).symm (by (repeat (first | with_reducible assumption | with_reducible exact Below.refl _ _ | ((with_reducible refine Below.setCell ?_ ?_ _); rotate_left; (· first | omega | (simp only [World.size_alloc, World.size_drew, World.size_setCell]; omega) | (dsimp only; omega))) | ((with_reducible refine Below.alloc ?_ ?_ _); rotate_left; (· first | omega | (simp only [World.size_alloc, World.size_drew, World.size_setCell]; omega))) | ((with_reducible refine Below.drewN' ?_ _)) | ((with_reducible refine Below.drew ?_)))))
set_option maxHeartbeats 400000 in
theorem q31Total_any {bu it ks ti al de : Int} {so : Option Addr} {n c : Nat} (w : World) : Calls Try.prog 26 #[.agg #[.int .i64 bu, .int .i64 it, .int .i64 ks, .int .i64 ti, .slice so n c, .int .i64 al, .int .i64 de]] w fun e w' => e = .returned (.tuple #[.int .i64 al, .int .i64 de]) ∧ Below w.heap.size w w' := by
  go_enter Try.func26, Try.ntmps26
  go_wp2_with (first | ((with_reducible refine wpTxt_q ?_ ?_ ?_); rfl; rfl; intro _ _) | ((with_reducible refine wpTxt_w0 ?_ ?_ ?_); rfl; rfl; intro _ _) | ((with_reducible refine wpTxt_s ?_ ?_); rfl; intro _ _; go_simp) | ((with_reducible refine wpTxt_sw ?_ ?_); rfl; intro _ _; go_simp) | (with_reducible refine wpTxt_nil ?_) | ((with_reducible refine wp_region_t mixed ?_ ?_); decide +kernel; intro _ _))
  exact bodyPost_ret (v := .tuple #[.int .i64 al, .int .i64 de]) (by simp [results, Try.f26, go_sem]) rfl ⟨rfl, by (repeat (first | with_reducible assumption | with_reducible exact Below.refl _ _ | ((with_reducible refine Below.setCell ?_ ?_ _); rotate_left; (· first | omega | (simp only [World.size_alloc, World.size_drew, World.size_setCell]; omega) | (dsimp only; omega))) | ((with_reducible refine Below.alloc ?_ ?_ _); rotate_left; (· first | omega | (simp only [World.size_alloc, World.size_drew, World.size_setCell]; omega))) | ((with_reducible refine Below.drewN' ?_ _)) | ((with_reducible refine Below.drew ?_))))⟩
end Go.Proofs.Ytokadblncmjanaa
