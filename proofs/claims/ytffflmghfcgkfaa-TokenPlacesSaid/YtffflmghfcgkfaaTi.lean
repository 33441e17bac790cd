/- The walk of the scanner's method token at marks, and all its cases by what the chapter finds. -/
import Derived.Test.YtffflmghfcgkfaaTh
set_option linter.unusedSimpArgs false
set_option linter.unusedVariables false
namespace Go.Proofs.Ytffflmghfcgkfaa
open Go.RowKit Tk

theorem markN_le (l : List UInt8) : markN l ≤ l.length := by
  cases l with
  | nil => decide
  | cons c l =>
    unfold markN
    split
    · rename_i h
      simp [marks2] at h
      simp only [List.length_cons]
      rcases h with h | h | h | h <;> (have := congrArg List.length h.2; simp at this; omega)
    · simp only [List.length_cons]; split <;> omega
theorem ext_all (s : ByteArray) (k : Nat) : (s.extract k s.size).data.toList = s.data.toList.drop k := by
  rw [← bl, ext_list, List.take_of_length_le]; rw [List.length_drop, sz]; exact Nat.le_refl _

theorem Four.laterL {w w1 w2 w3 : World} {kd l c : Int} (hb : Below w2.heap.size w2 w3) (h : Four w w1 kd l c) (he : w2.heap = w1.heap) : Four w w3 kd l c := (h.same he).low hb
set_option maxHeartbeats 1000000 in
theorem stoken_mark_ok (b : Nat) (src : ByteArray) (k : Nat) (w : World) (h : Scn w b src k) (hs : src.size ≤ 65536) (hlt : k < src.size) (hc : letB (src[k].toNat : Int) = false) (hd : digB (src[k].toNat : Int) = false) (hq0 : ((src[k].toNat : Int) == 34) = false)
    (hn : 0 < markN (src.data.toList.drop k)) : Calls Try.prog 35 #[.pointer (some ⟨b, 0, none⟩)] w (TOk b src (src.extract k (k + markN (src.data.toList.drop k))) 4 k (k + markN (src.data.toList.drop k)) w) := by
  have hl := Blk.lt h
  have a0 := h.c0
  have a1 := h.c1
  have a2 := h.c2
  have a3 := h.c3
  have A0 : ∀ o1 o2 o3 o4, ((((w.alloc o1).alloc o2).alloc o3).alloc o4).cell? ⟨b, 0, none⟩ = some (.string src) := fun o1 o2 o3 o4 => ((((h.alloc o1).alloc o2).alloc o3).alloc o4).c0
  have A1 : ∀ o1 o2 o3 o4, ((((w.alloc o1).alloc o2).alloc o3).alloc o4).cell? ⟨b, 1, none⟩ = some (.int .i64 k) := fun o1 o2 o3 o4 => ((((h.alloc o1).alloc o2).alloc o3).alloc o4).c1
  go_enter Try.func35, Try.ntmps35
  go_wp2_with (first | ((with_reducible refine wpTxt_q ?_ ?_ ?_); rfl; rfl; intro _ _) | ((with_reducible refine wpTxt_w0 ?_ ?_ ?_); rfl; rfl; intro _ _) | ((with_reducible refine wpTxt_s ?_ ?_); rfl; intro _ _; go_simp) | ((with_reducible refine wpTxt_sw ?_ ?_); rfl; intro _ _; go_simp) | (with_reducible refine wpTxt_nil ?_) | ((with_reducible refine wp_region_t mixed ?_ ?_); decide +kernel; intro _ _) | (go_at_call 51; ((with_reducible refine (snext_any b src k _ ?_ hlt).mono ?_); (· (repeat (first | with_reducible assumption | ((with_reducible refine Scn.alloc ?_ _)) | ((with_reducible refine Scn.drewN ?_ _)) | ((with_reducible refine Scn.drew ?_)) | ((with_reducible refine Scn.far ?_ ?_ _); rotate_left; (· simp only [ne_eq]; omega))))); rintro e w' ⟨rfl, rfl⟩)) | (go_at_call 53; ((with_reducible refine (letter_any _ _).mono ?_); rintro e w' ⟨rfl, rfl⟩)) | (go_at_call 55; ((with_reducible refine (digit_any _ _).mono ?_); rintro e w' ⟨rfl, rfl⟩)))
  refine (mark_any (src.extract k src.size) (by rw [ByteArray.size_extract]; unfold maxLen; omega) _).mono ?_
  rintro e w1 ⟨⟨m, rfl, hm1, hm2⟩, hb1⟩
  have F1 := Four.laterL hb1 (Four.made w 4 (loc src.data.toList k).1 (loc src.data.toList k).2) rfl
  have hB1 : But b w w1 := But.trans (by (repeat (first | with_reducible assumption | with_reducible exact But.refl _ _ | ((with_reducible refine But.set ?_ ?_ _); rotate_left; (· first | exact Or.inl rfl | exact Or.inr (by first | omega | (simp only [World.size_alloc, World.size_drew, World.size_setCell]; omega)))) | ((with_reducible refine But.alloc ?_ _)) | ((with_reducible refine But.drewN ?_ _)) | ((with_reducible refine But.drew ?_))))) (But.of_below hb1)
  have hS1 : Scn w1 b src k := Scn.low (by (repeat (first | with_reducible assumption | ((with_reducible refine Scn.alloc ?_ _)) | ((with_reducible refine Scn.drewN ?_ _)) | ((with_reducible refine Scn.drew ?_)) | ((with_reducible refine Scn.far ?_ ?_ _); rotate_left; (· simp only [ne_eq]; omega))))) hb1
  rw [ext_all] at hm1
  clear hm2
  have hm0 : 0 < m.size := by omega
  have hle : k + m.size ≤ src.size := by have := markN_le (src.data.toList.drop k); rw [List.length_drop, sz] at this; omega
  obtain ⟨g1, g2⟩ := some_of hm0
  have HM := Lib.hid hm1
  clear hm1 hn
  go_wp2_with (first | ((with_reducible refine wpTxt_q ?_ ?_ ?_); rfl; rfl; intro _ _) | ((with_reducible refine wpTxt_w0 ?_ ?_ ?_); rfl; rfl; intro _ _) | ((with_reducible refine wpTxt_s ?_ ?_); rfl; intro _ _; go_simp) | ((with_reducible refine wpTxt_sw ?_ ?_); rfl; intro _ _; go_simp) | (with_reducible refine wpTxt_nil ?_) | ((with_reducible refine wp_region_t mixed ?_ ?_); decide +kernel; intro _ _) | (go_at_call 59; ((with_reducible refine (sword_any b src k _ _ ?_ hs hle).mono ?_); (· (repeat (first | with_reducible assumption | ((with_reducible refine Scn.alloc ?_ _)) | ((with_reducible refine Scn.drewN ?_ _)) | ((with_reducible refine Scn.drew ?_)) | ((with_reducible refine Scn.far ?_ ?_ _); rotate_left; (· simp only [ne_eq]; omega))))); rintro e w2 ⟨rfl, hS2, hb2⟩; have F2 := F1.but hb2 hl; have hB2 : But b w w2 := But.trans (by (repeat (first | with_reducible assumption | with_reducible exact But.refl _ _ | ((with_reducible refine But.set ?_ ?_ _); rotate_left; (· first | exact Or.inl rfl | exact Or.inr (by first | omega | (simp only [World.size_alloc, World.size_drew, World.size_setCell]; omega)))) | ((with_reducible refine But.alloc ?_ _)) | ((with_reducible refine But.drewN ?_ _)) | ((with_reducible refine But.drew ?_))))) hb2; obtain ⟨⟨p0, p1, p2, p3⟩, ⟨q0, q1, q2, q3⟩, ⟨r0, r1, r2, r3⟩, ⟨t0, t1, t2, t3⟩, f2, f3, f4, f5⟩ := F2.cells; have hz1 := F2.b5.lt)))
  refine wp_region_g [w.heap.size + 3] [0, 2, 3, 0] mixed ?_ ?_
  · decide +kernel
  intro K hK
  go_wp2_with (first | ((with_reducible refine wpTag_q ?_ ?_ ?_); rfl; rfl; intro _ _) | ((with_reducible refine wpTag_w ?_ ?_ ?_); rfl; rfl; intro _ _) | ((with_reducible refine wpTag_s ?_ ?_); rfl; intro _ _; go_simp) | ((with_reducible refine wpTag_sw ?_ ?_); rfl; intro _ _; go_simp) | (with_reducible refine wpTag_nil ?_))
  refine wpTag_2 (.agg #[.int .i64 0, .int .i64 0, .int .i64 0, .string ⟨#[]⟩]) rfl rfl ?_ ?_
  · intro w' hk
    have e : ∀ i, w'.cell? ⟨w.heap.size + 3, i, none⟩ = _ := fun i => World.cell?_of_block (hk _ (by simp))
    go_simp
  refine wpTag_3 rfl rfl (fun K2 hK2 => ?_)
  go_wp2_with (first | ((with_reducible refine wpTag_q ?_ ?_ ?_); rfl; rfl; intro _ _) | ((with_reducible refine wpTag_w ?_ ?_ ?_); rfl; rfl; intro _ _) | ((with_reducible refine wpTag_s ?_ ?_); rfl; intro _ _; go_simp) | ((with_reducible refine wpTag_sw ?_ ?_); rfl; intro _ _; go_simp) | (with_reducible refine wpTag_nil ?_))
  refine ⟨?_, ?_⟩
  · (repeat (first | with_reducible assumption | with_reducible exact SameAt.refl _ _ | with_reducible exact SameAt.un _ _ | with_reducible exact SameAt.unN _ _ _ | ((with_reducible refine SameAt.set ?_ ?_ _); rotate_left; (· simp only [List.mem_cons, List.not_mem_nil, or_false, forall_eq_or_imp, forall_eq, ne_eq]; omega)) | ((with_reducible refine SameAt.drewN ?_ _)) | ((with_reducible refine SameAt.drew ?_))))
  go_wp2_with (first | ((with_reducible refine wpTag_q ?_ ?_ ?_); rfl; rfl; intro _ _) | ((with_reducible refine wpTag_w ?_ ?_ ?_); rfl; rfl; intro _ _) | ((with_reducible refine wpTag_s ?_ ?_); rfl; intro _ _; go_simp) | ((with_reducible refine wpTag_sw ?_ ?_); rfl; intro _ _; go_simp) | (with_reducible refine wpTag_nil ?_))
  refine bodyPost_ret (v := .tuple #[.agg #[.int .i64 4, .string (src.extract k (k + m.size)), .int .i64 (loc src.data.toList k).1, .int .i64 (loc src.data.toList k).2], .agg #[.int .i64 0, .int .i64 0, .int .i64 0, .string ⟨#[]⟩]]) (by simp [results, Try.f35, go_sem, p0, p1, p2, p3, q0, q1, q2, q3]) rfl ?_
  rw [← HM.out]
  refine ⟨rfl, ?_, ?_⟩
  · (repeat (first | with_reducible assumption | with_reducible exact But.refl _ _ | ((with_reducible refine But.set ?_ ?_ _); rotate_left; (· first | exact Or.inl rfl | exact Or.inr (by first | omega | (simp only [World.size_alloc, World.size_drew, World.size_setCell]; omega)))) | ((with_reducible refine But.alloc ?_ _)) | ((with_reducible refine But.drewN ?_ _)) | ((with_reducible refine But.drew ?_))))
  · (repeat (first | with_reducible assumption | ((with_reducible refine Scn.alloc ?_ _)) | ((with_reducible refine Scn.drewN ?_ _)) | ((with_reducible refine Scn.drew ?_)) | ((with_reducible refine Scn.far ?_ ?_ _); rotate_left; (· simp only [ne_eq]; omega))))

theorem stoken_mark_err (b : Nat) (src : ByteArray) (k : Nat) (w : World) (h : Scn w b src k) (hs : src.size ≤ 65536) (hlt : k < src.size) (hc : letB (src[k].toNat : Int) = false) (hd : digB (src[k].toNat : Int) = false) (hq0 : ((src[k].toNat : Int) == 34) = false)
    (hn : markN (src.data.toList.drop k) = 0) : Calls Try.prog 35 #[.pointer (some ⟨b, 0, none⟩)] w (TErr b src 9 k w) := by
  have hl := Blk.lt h
  have a0 := h.c0
  have a1 := h.c1
  have a2 := h.c2
  have a3 := h.c3
  have A0 : ∀ o1 o2 o3 o4, ((((w.alloc o1).alloc o2).alloc o3).alloc o4).cell? ⟨b, 0, none⟩ = some (.string src) := fun o1 o2 o3 o4 => ((((h.alloc o1).alloc o2).alloc o3).alloc o4).c0
  have A1 : ∀ o1 o2 o3 o4, ((((w.alloc o1).alloc o2).alloc o3).alloc o4).cell? ⟨b, 1, none⟩ = some (.int .i64 k) := fun o1 o2 o3 o4 => ((((h.alloc o1).alloc o2).alloc o3).alloc o4).c1
  go_enter Try.func35, Try.ntmps35
  go_wp2_with (first | ((with_reducible refine wpTxt_q ?_ ?_ ?_); rfl; rfl; intro _ _) | ((with_reducible refine wpTxt_w0 ?_ ?_ ?_); rfl; rfl; intro _ _) | ((with_reducible refine wpTxt_s ?_ ?_); rfl; intro _ _; go_simp) | ((with_reducible refine wpTxt_sw ?_ ?_); rfl; intro _ _; go_simp) | (with_reducible refine wpTxt_nil ?_) | ((with_reducible refine wp_region_t mixed ?_ ?_); decide +kernel; intro _ _) | (go_at_call 51; ((with_reducible refine (snext_any b src k _ ?_ hlt).mono ?_); (· (repeat (first | with_reducible assumption | ((with_reducible refine Scn.alloc ?_ _)) | ((with_reducible refine Scn.drewN ?_ _)) | ((with_reducible refine Scn.drew ?_)) | ((with_reducible refine Scn.far ?_ ?_ _); rotate_left; (· simp only [ne_eq]; omega))))); rintro e w' ⟨rfl, rfl⟩)) | (go_at_call 53; ((with_reducible refine (letter_any _ _).mono ?_); rintro e w' ⟨rfl, rfl⟩)) | (go_at_call 55; ((with_reducible refine (digit_any _ _).mono ?_); rintro e w' ⟨rfl, rfl⟩)))
  refine (mark_any (src.extract k src.size) (by rw [ByteArray.size_extract]; unfold maxLen; omega) _).mono ?_
  rintro e w1 ⟨⟨m, rfl, hm1, hm2⟩, hb1⟩
  have F1 := Four.laterL hb1 (Four.made w 4 (loc src.data.toList k).1 (loc src.data.toList k).2) rfl
  have hB1 : But b w w1 := But.trans (by (repeat (first | with_reducible assumption | with_reducible exact But.refl _ _ | ((with_reducible refine But.set ?_ ?_ _); rotate_left; (· first | exact Or.inl rfl | exact Or.inr (by first | omega | (simp only [World.size_alloc, World.size_drew, World.size_setCell]; omega)))) | ((with_reducible refine But.alloc ?_ _)) | ((with_reducible refine But.drewN ?_ _)) | ((with_reducible refine But.drew ?_))))) (But.of_below hb1)
  have hS1 : Scn w1 b src k := Scn.low (by (repeat (first | with_reducible assumption | ((with_reducible refine Scn.alloc ?_ _)) | ((with_reducible refine Scn.drewN ?_ _)) | ((with_reducible refine Scn.drew ?_)) | ((with_reducible refine Scn.far ?_ ?_ _); rotate_left; (· simp only [ne_eq]; omega))))) hb1
  rw [ext_all, hn] at hm1
  clear hm2
  have hm0 : ¬ 0 < m.size := by omega
  have hle : k + m.size ≤ src.size := by omega
  have g1 := none_of hm0
  have HM := Lib.hid hm1
  clear hm1
  go_wp2_with (first | ((with_reducible refine wpTxt_q ?_ ?_ ?_); rfl; rfl; intro _ _) | ((with_reducible refine wpTxt_w0 ?_ ?_ ?_); rfl; rfl; intro _ _) | ((with_reducible refine wpTxt_s ?_ ?_); rfl; intro _ _; go_simp) | ((with_reducible refine wpTxt_sw ?_ ?_); rfl; intro _ _; go_simp) | (with_reducible refine wpTxt_nil ?_) | ((with_reducible refine wp_region_t mixed ?_ ?_); decide +kernel; intro _ _) | (go_at_call 58; ((with_reducible refine (sfault_any b src k _ _ ?_).mono ?_); (· (repeat (first | with_reducible assumption | ((with_reducible refine Scn.alloc ?_ _)) | ((with_reducible refine Scn.drewN ?_ _)) | ((with_reducible refine Scn.drew ?_)) | ((with_reducible refine Scn.far ?_ ?_ _); rotate_left; (· simp only [ne_eq]; omega))))); rintro e w2 ⟨rfl, hb2⟩; have F2 := F1.low hb2; have hB2 : But b w w2 := But.trans (by (repeat (first | with_reducible assumption | with_reducible exact But.refl _ _ | ((with_reducible refine But.set ?_ ?_ _); rotate_left; (· first | exact Or.inl rfl | exact Or.inr (by first | omega | (simp only [World.size_alloc, World.size_drew, World.size_setCell]; omega)))) | ((with_reducible refine But.alloc ?_ _)) | ((with_reducible refine But.drewN ?_ _)) | ((with_reducible refine But.drew ?_))))) (But.of_below hb2); have hS2 : Scn w2 b src k := Scn.low (by (repeat (first | with_reducible assumption | ((with_reducible refine Scn.alloc ?_ _)) | ((with_reducible refine Scn.drewN ?_ _)) | ((with_reducible refine Scn.drew ?_)) | ((with_reducible refine Scn.far ?_ ?_ _); rotate_left; (· simp only [ne_eq]; omega))))) hb2; obtain ⟨⟨p0, p1, p2, p3⟩, ⟨q0, q1, q2, q3⟩, ⟨r0, r1, r2, r3⟩, ⟨t0, t1, t2, t3⟩, f2, f3, f4, f5⟩ := F2.cells; have hz1 := F2.b5.lt)))
  refine (sword_any b src k m.size _ ?_ hs hle).mono ?_
  · (repeat (first | with_reducible assumption | ((with_reducible refine Scn.alloc ?_ _)) | ((with_reducible refine Scn.drewN ?_ _)) | ((with_reducible refine Scn.drew ?_)) | ((with_reducible refine Scn.far ?_ ?_ _); rotate_left; (· simp only [ne_eq]; omega))))
  rintro e w3 ⟨rfl, hS3, hb3⟩
  have hB3 : But b w w3 := But.trans (by (repeat (first | with_reducible assumption | with_reducible exact But.refl _ _ | ((with_reducible refine But.set ?_ ?_ _); rotate_left; (· first | exact Or.inl rfl | exact Or.inr (by first | omega | (simp only [World.size_alloc, World.size_drew, World.size_setCell]; omega)))) | ((with_reducible refine But.alloc ?_ _)) | ((with_reducible refine But.drewN ?_ _)) | ((with_reducible refine But.drew ?_))))) hb3
  have G2 := Blk.but (show Blk _ w.heap.size _ _ from (((F2.b2.far (by simp only [ne_eq]; omega) _).far (by simp only [ne_eq]; omega) _).far (by simp only [ne_eq]; omega) _).far (by simp only [ne_eq]; omega) _) hb3 (by omega)
  have G3 := Blk.but (show Blk _ (w.heap.size + 1) _ _ from (((F2.b3.far (by simp only [ne_eq]; omega) _).far (by simp only [ne_eq]; omega) _).far (by simp only [ne_eq]; omega) _).far (by simp only [ne_eq]; omega) _) hb3 (by omega)
  have G4 := Blk.but (show Blk _ (w.heap.size + 2) _ _ from (((F2.b4.far (by simp only [ne_eq]; omega) _).far (by simp only [ne_eq]; omega) _).far (by simp only [ne_eq]; omega) _).far (by simp only [ne_eq]; omega) _) hb3 (by omega)
  have G5 := Blk.but (show Blk _ (w.heap.size + 3) _ #[.int .i64 9, .int .i64 (loc src.data.toList k).1, .int .i64 (loc src.data.toList k).2, .string ⟨#[]⟩] from (((F2.b5.set 0 (.int .i64 9)).set 1 (.int .i64 (loc src.data.toList k).1)).set 2 (.int .i64 (loc src.data.toList k).2)).set 3 (.string ⟨#[]⟩)) hb3 (by omega)
  clear p0 p1 p2 p3 q0 q1 q2 q3 r0 r1 r2 r3 t0 t1 t2 t3 f2 f3 f4 f5
  have p0 := G2.cell 0
  have p1 := G2.cell 1
  have p2 := G2.cell 2
  have p3 := G2.cell 3
  have q0 := G3.cell 0
  have q1 := G3.cell 1
  have q2 := G3.cell 2
  have q3 := G3.cell 3
  have r0 := G4.cell 0
  have r1 := G4.cell 1
  have r2 := G4.cell 2
  have r3 := G4.cell 3
  have t0 := G5.cell 0
  have t1 := G5.cell 1
  have t2 := G5.cell 2
  have t3 := G5.cell 3
  have f2 := G2.free
  have f3 := G3.free
  have f4 := G4.free
  have f5 := G5.free
  have hz3 := G5.lt
  go_wp2_with fail
  refine wp_region_g [w.heap.size + 3] [0, 2, 3, 0] mixed ?_ ?_
  · decide +kernel
  intro K hK
  go_wp2_with (first | ((with_reducible refine wpTag_q ?_ ?_ ?_); rfl; rfl; intro _ _) | ((with_reducible refine wpTag_w ?_ ?_ ?_); rfl; rfl; intro _ _) | ((with_reducible refine wpTag_s ?_ ?_); rfl; intro _ _; go_simp) | ((with_reducible refine wpTag_sw ?_ ?_); rfl; intro _ _; go_simp) | (with_reducible refine wpTag_nil ?_))
  refine wpTag_2 (.agg #[.int .i64 9, .int .i64 (loc src.data.toList k).1, .int .i64 (loc src.data.toList k).2, .string ⟨#[]⟩]) rfl rfl ?_ ?_
  · intro w' hk
    have e : ∀ i, w'.cell? ⟨w.heap.size + 3, i, none⟩ = _ := fun i => World.cell?_of_block (hk _ (by simp))
    go_simp
  refine wpTag_3 rfl rfl (fun K2 hK2 => ?_)
  go_wp2_with (first | ((with_reducible refine wpTag_q ?_ ?_ ?_); rfl; rfl; intro _ _) | ((with_reducible refine wpTag_w ?_ ?_ ?_); rfl; rfl; intro _ _) | ((with_reducible refine wpTag_s ?_ ?_); rfl; intro _ _; go_simp) | ((with_reducible refine wpTag_sw ?_ ?_); rfl; intro _ _; go_simp) | (with_reducible refine wpTag_nil ?_))
  refine ⟨?_, ?_⟩
  · (repeat (first | with_reducible assumption | with_reducible exact SameAt.refl _ _ | with_reducible exact SameAt.un _ _ | with_reducible exact SameAt.unN _ _ _ | ((with_reducible refine SameAt.set ?_ ?_ _); rotate_left; (· simp only [List.mem_cons, List.not_mem_nil, or_false, forall_eq_or_imp, forall_eq, ne_eq]; omega)) | ((with_reducible refine SameAt.drewN ?_ _)) | ((with_reducible refine SameAt.drew ?_))))
  go_wp2_with (first | ((with_reducible refine wpTag_q ?_ ?_ ?_); rfl; rfl; intro _ _) | ((with_reducible refine wpTag_w ?_ ?_ ?_); rfl; rfl; intro _ _) | ((with_reducible refine wpTag_s ?_ ?_); rfl; intro _ _; go_simp) | ((with_reducible refine wpTag_sw ?_ ?_); rfl; intro _ _; go_simp) | (with_reducible refine wpTag_nil ?_))
  refine bodyPost_ret (v := .tuple #[.agg #[.int .i64 4, .string (src.extract k (k + m.size)), .int .i64 (loc src.data.toList k).1, .int .i64 (loc src.data.toList k).2], .agg #[.int .i64 9, .int .i64 (loc src.data.toList k).1, .int .i64 (loc src.data.toList k).2, .string ⟨#[]⟩]]) (by simp [results, Try.f35, go_sem, p0, p1, p2, p3, q0, q1, q2, q3]) rfl ?_
  refine ⟨4, _, _, _, rfl, ?_, _, hle, ?_⟩
  · (repeat (first | with_reducible assumption | with_reducible exact But.refl _ _ | ((with_reducible refine But.set ?_ ?_ _); rotate_left; (· first | exact Or.inl rfl | exact Or.inr (by first | omega | (simp only [World.size_alloc, World.size_drew, World.size_setCell]; omega)))) | ((with_reducible refine But.alloc ?_ _)) | ((with_reducible refine But.drewN ?_ _)) | ((with_reducible refine But.drew ?_))))
  · (repeat (first | with_reducible assumption | ((with_reducible refine Scn.alloc ?_ _)) | ((with_reducible refine Scn.drewN ?_ _)) | ((with_reducible refine Scn.drew ?_)) | ((with_reducible refine Scn.far ?_ ?_ _); rotate_left; (· simp only [ne_eq]; omega))))

/-- the text of a token of so many bytes -/
def tokT (src : ByteArray) (k : Nat) (kd : Int) (n : Nat) : ByteArray := if kd = 3 then src.extract (k + 1) (k + n - 1) else src.extract k (k + n)
theorem at_drop (src : ByteArray) (k : Nat) (h : k < src.size) : (src.data.toList.drop k).getD 0 0 = src[k] := by
  rw [getD_drop _ k (by rw [sz]; exact h), at_ src k h]
theorem at_drop1 (src : ByteArray) (k j : Nat) (h : k + 1 + j < src.size) : (src.data.toList.drop (k + 1)).getD j 0 = src[k + 1 + j] := by
  rw [List.getD_eq_getElem?_getD, List.getElem?_drop, List.getElem?_eq_getElem (by rw [sz]; exact h)]
  rfl
theorem stoken_err (b : Nat) (src : ByteArray) (k : Nat) (w : World) (c : Int) (off : Nat) (h : Scn w b src k) (hs : src.size ≤ 65536) (hlt : k < src.size) (hr : oneR (src.data.toList.drop k) = .err c off) :
    Calls Try.prog 35 #[.pointer (some ⟨b, 0, none⟩)] w (TErr b src c (k + off) w) := by
  unfold oneR at hr
  rw [at_drop src k hlt] at hr
  cases hc : letB (bi src[k])
  · rw [hc] at hr
    cases hd : digB (bi src[k])
    · rw [hd] at hr
      by_cases hq : bi src[k] = 34
      · simp only [Bool.false_eq_true, if_false, if_pos hq, textR, drop1] at hr
        rw [List.length_drop, sz] at hr
        by_cases h1 : src.size - (k + 1) ≤ tw ptB (src.data.toList.drop (k + 1))
        · rw [if_pos h1] at hr
          injection hr with e1 e2
          subst e1; subst e2
          exact stoken_text_err5 b src k w h hs hlt hc hd (beq_t hq) (by omega)
        · rw [if_neg h1] at hr
          have h1' : k + 1 + tw ptB (src.data.toList.drop (k + 1)) < src.size := by omega
          rw [at_drop1 src k _ h1'] at hr
          by_cases h2 : ¬ bi src[k + 1 + tw ptB (src.data.toList.drop (k + 1))] = 34
          · rw [if_pos h2] at hr
            injection hr with e1 e2
            subst e1; subst e2
            have := stoken_text_err9 b src k w h hs hlt hc hd (beq_t hq) h1' h2
            rwa [show k + (1 + tw ptB (src.data.toList.drop (k + 1))) = k + 1 + tw ptB (src.data.toList.drop (k + 1)) by omega]
          · rw [if_neg h2] at hr
            by_cases h3 : 256 < tw ptB (src.data.toList.drop (k + 1))
            · rw [if_pos h3] at hr
              injection hr with e1 e2
              subst e1; subst e2
              exact stoken_text_err4 b src k w h hs hlt hc hd (beq_t hq) h1' (Decidable.not_not.1 h2) h3
            · rw [if_neg h3] at hr
              cases hr
      · simp only [Bool.false_eq_true, if_false, if_neg hq, markR] at hr
        by_cases h1 : markN (src.data.toList.drop k) = 0
        · rw [if_pos h1] at hr
          injection hr with e1 e2
          subst e1; subst e2
          exact stoken_mark_err b src k w h hs hlt hc hd (beq_f hq) h1
        · rw [if_neg h1] at hr
          cases hr
    · rw [hd] at hr
      simp only [Bool.false_eq_true, if_false, if_true, numR] at hr
      rw [at_drop src k hlt] at hr
      by_cases h1 : 9 < tw dgB (src.data.toList.drop k)
      · rw [if_pos h1] at hr
        injection hr with e1 e2
        subst e1; subst e2
        exact stoken_num_err3 b src k w h hs hlt hc hd h1
      · rw [if_neg h1] at hr
        by_cases h2 : 1 < tw dgB (src.data.toList.drop k) ∧ bi src[k] = 48
        · rw [if_pos h2] at hr
          injection hr with e1 e2
          subst e1; subst e2
          exact stoken_num_err9 b src k w h hs hlt hc hd h1 h2.1 h2.2
        · rw [if_neg h2] at hr
          cases hr
  · rw [hc] at hr
    simp only [if_true, nameR] at hr
    by_cases h1 : 32 < tw nmB (src.data.toList.drop k)
    · rw [if_pos h1] at hr
      injection hr with e1 e2
      subst e1; subst e2
      exact stoken_name_err b src k w h hs hlt hc h1
    · rw [if_neg h1] at hr
      cases hr
theorem stoken_ok (b : Nat) (src : ByteArray) (k : Nat) (w : World) (kd : Int) (n : Nat) (h : Scn w b src k) (hs : src.size ≤ 65536) (hlt : k < src.size) (hr : oneR (src.data.toList.drop k) = .ok kd n) :
    Calls Try.prog 35 #[.pointer (some ⟨b, 0, none⟩)] w (TOk b src (tokT src k kd n) kd k (k + n) w) := by
  unfold oneR at hr
  rw [at_drop src k hlt] at hr
  cases hc : letB (bi src[k])
  · rw [hc] at hr
    cases hd : digB (bi src[k])
    · rw [hd] at hr
      by_cases hq : bi src[k] = 34
      · simp only [Bool.false_eq_true, if_false, if_pos hq, textR, drop1] at hr
        rw [List.length_drop, sz] at hr
        by_cases h1 : src.size - (k + 1) ≤ tw ptB (src.data.toList.drop (k + 1))
        · rw [if_pos h1] at hr
          cases hr
        · rw [if_neg h1] at hr
          have h1' : k + 1 + tw ptB (src.data.toList.drop (k + 1)) < src.size := by omega
          rw [at_drop1 src k _ h1'] at hr
          by_cases h2 : ¬ bi src[k + 1 + tw ptB (src.data.toList.drop (k + 1))] = 34
          · rw [if_pos h2] at hr
            cases hr
          · rw [if_neg h2] at hr
            by_cases h3 : 256 < tw ptB (src.data.toList.drop (k + 1))
            · rw [if_pos h3] at hr
              cases hr
            · rw [if_neg h3] at hr
              injection hr with e1 e2
              subst e1; subst e2
              have := stoken_text_ok b src k w h hs hlt hc hd (beq_t hq) h1' (Decidable.not_not.1 h2) h3
              unfold tokT
              rw [if_pos rfl]
              rwa [show k + (tw ptB (src.data.toList.drop (k + 1)) + 2) - 1 = k + 1 + tw ptB (src.data.toList.drop (k + 1)) by omega, show k + (tw ptB (src.data.toList.drop (k + 1)) + 2) = k + 1 + tw ptB (src.data.toList.drop (k + 1)) + 1 by omega]
      · simp only [Bool.false_eq_true, if_false, if_neg hq, markR] at hr
        by_cases h1 : markN (src.data.toList.drop k) = 0
        · rw [if_pos h1] at hr
          cases hr
        · rw [if_neg h1] at hr
          injection hr with e1 e2
          subst e1; subst e2
          exact stoken_mark_ok b src k w h hs hlt hc hd (beq_f hq) (by omega)
    · rw [hd] at hr
      simp only [Bool.false_eq_true, if_false, if_true, numR] at hr
      rw [at_drop src k hlt] at hr
      by_cases h1 : 9 < tw dgB (src.data.toList.drop k)
      · rw [if_pos h1] at hr
        cases hr
      · rw [if_neg h1] at hr
        by_cases h2 : 1 < tw dgB (src.data.toList.drop k) ∧ bi src[k] = 48
        · rw [if_pos h2] at hr
          cases hr
        · rw [if_neg h2] at hr
          injection hr with e1 e2
          subst e1; subst e2
          exact stoken_num_ok b src k w h hs hlt hc hd h1 (by
            by_cases h3 : 1 < tw dgB (src.data.toList.drop k)
            · exact .inr fun h' => h2 ⟨h3, h'⟩
            · exact .inl h3)
  · rw [hc] at hr
    simp only [if_true, nameR] at hr
    by_cases h1 : 32 < tw nmB (src.data.toList.drop k)
    · rw [if_pos h1] at hr
      cases hr
    · rw [if_neg h1] at hr
      injection hr with e1 e2
      subst e1; subst e2
      exact stoken_name_ok b src k w h hs hlt hc h1
end Go.Proofs.Ytffflmghfcgkfaa
