/- Ti, Ts, Tj, Hl -/
import Derived.Test.YtbobbbhgdfapjaaZR1
import Derived.Test.YtbobbbhgdfapjaaZR2
import Derived.Test.YtbobbbhgdfapjaaZR4
import Derived.Test.YtbobbbhgdfapjaaZR5
import Derived.Test.YtbobbbhgdfapjaaZR10
import Derived.Test.YtbobbbhgdfapjaaZR11
import Derived.Test.YtbobbbhgdfapjaaZR12
import Derived.Test.YtbobbbhgdfapjaaZR13
import Derived.Test.YtbobbbhgdfapjaaZR14
import Derived.OwnWalk
import Derived.Test.YtbobbbhgdfapjaaZR3
import Derived.Test.YtbobbbhgdfapjaaZR6
import Derived.Test.YtbobbbhgdfapjaaZR7
import Derived.Test.YtbobbbhgdfapjaaZR9
set_option linter.unusedSimpArgs false
set_option linter.unusedVariables false
namespace Go.Proofs.Ytbobbbhgdfapjaa
set_option maxHeartbeats 8000000
set_option maxRecDepth 100000
open Go.RowKit Tk

theorem markN_le (l : List UInt8) : markN l ≤ l.length := by
 cases l with
 | nil => decide
 | cons c l =>
   unfold markN
   split
   · rename_i h
     simp [marks2] at h
     simp only [List.length_cons]
     rcases h with h | h | h | h <;> (have := congrArg List.length h.2; simp at this; omega)
   · simp only [List.length_cons]; split <;> omega
theorem ext_all (s : ByteArray) (k : Nat) : (s.extract k s.size).data.toList = s.data.toList.drop k := by
 rw [← bl, ext_list, List.take_of_length_le]; rw [List.length_drop, sz]; exact Nat.le_refl _

theorem Four.laterL {w w1 w2 w3 : World} {kd l c : Int} (hb : Below w2.heap.size w2 w3) (h : Four w w1 kd l c) (he : w2.heap = w1.heap) : Four w w3 kd l c := (h.same he).low hb
theorem stoken_mark_ok (b : Nat) (src : ByteArray) (k : Nat) (w : World) (h : Scn w b src k) (hs : src.size ≤ 65536) (hlt : k < src.size) (hc : letB (src[k].toNat : Int) = false) (hd : digB (src[k].toNat : Int) = false) (hq0 : ((src[k].toNat : Int) == 34) = false)
    (hn : 0 < markN (src.data.toList.drop k)) : Calls Try.prog 40 #[.pointer (some ⟨b, 0, none⟩)] w (TOk b src (src.extract k (k + markN (src.data.toList.drop k))) 4 k (k + markN (src.data.toList.drop k)) w) := by
 have hl := Blk.lt h
 have a0 := h.c0
 have a1 := h.c1
 have a2 := h.c2
 have a3 := h.c3
 have A0 : ∀ o1 o2 o3 o4, ((((w.alloc o1).alloc o2).alloc o3).alloc o4).cell? ⟨b, 0, none⟩ = some (.string src) := fun o1 o2 o3 o4 => ((((h.alloc o1).alloc o2).alloc o3).alloc o4).c0
 have A1 : ∀ o1 o2 o3 o4, ((((w.alloc o1).alloc o2).alloc o3).alloc o4).cell? ⟨b, 1, none⟩ = some (.int .i64 k) := fun o1 o2 o3 o4 => ((((h.alloc o1).alloc o2).alloc o3).alloc o4).c1
 go_enter Try.func40, Try.ntmps40
 go_wp2_with (first | ((with_reducible refine wpTxt_q ?_ ?_ ?_); rfl; rfl; intro _ _) | ((with_reducible refine wpTxt_w0 ?_ ?_ ?_); rfl; rfl; intro _ _) | ((with_reducible refine wpTxt_s ?_ ?_); rfl; intro _ _; go_simp) | ((with_reducible refine wpTxt_sw ?_ ?_); rfl; intro _ _; go_simp) | (with_reducible refine wpTxt_nil ?_) | ((with_reducible refine wp_region_t mixed ?_ ?_); decide +kernel; intro _ _) | (go_at_call 53; ((with_reducible refine (snext_any b src k _ ?_ hlt).mono ?_); (· (repeat (first | (with_reducible first | assumption | refine Scn.alloc ?_ _ | refine Scn.drewN ?_ _ | refine Scn.drew ?_) | ((with_reducible refine Scn.far ?_ ?_ _); rotate_left; (· simp only [ne_eq]; omega))))); rintro e w' ⟨rfl, rfl⟩)) | (go_at_call 55; ((with_reducible refine (letter_any _ _).mono ?_); rintro e w' ⟨rfl, rfl⟩)) | (go_at_call 57; ((with_reducible refine (digit_any _ _).mono ?_); rintro e w' ⟨rfl, rfl⟩)))
 refine (mark_any (src.extract k src.size) (by rw [ByteArray.size_extract]; unfold maxLen; omega) _).mono ?_
 rintro e w1 ⟨⟨m, rfl, hm1, hm2⟩, hb1⟩
 have F1 := Four.laterL hb1 (Four.made w 4 (loc src.data.toList k).1 (loc src.data.toList k).2) rfl
 have hB1 : But b w w1 := But.trans (by (repeat (first | (with_reducible first | assumption | exact But.refl _ _ | refine But.alloc ?_ _ | refine But.drewN ?_ _ | refine But.drew ?_) | ((with_reducible refine But.set ?_ ?_ _); rotate_left; (· first | exact Or.inl rfl | exact Or.inr (by first | omega | (simp only [szW]; omega))))))) (But.of_below hb1)
 have hS1 : Scn w1 b src k := Scn.low (by (repeat (first | (with_reducible first | assumption | refine Scn.alloc ?_ _ | refine Scn.drewN ?_ _ | refine Scn.drew ?_) | ((with_reducible refine Scn.far ?_ ?_ _); rotate_left; (· simp only [ne_eq]; omega))))) hb1
 rw [ext_all] at hm1
 clear hm2
 have hm0 : 0 < m.size := by omega
 have hle : k + m.size ≤ src.size := by have := markN_le (src.data.toList.drop k); rw [List.length_drop, sz] at this; omega
 obtain ⟨g1, g2⟩ := some_of hm0
 have HM := Lib.hid hm1
 clear hm1 hn
 go_wp2_with (first | ((with_reducible refine wpTxt_q ?_ ?_ ?_); rfl; rfl; intro _ _) | ((with_reducible refine wpTxt_w0 ?_ ?_ ?_); rfl; rfl; intro _ _) | ((with_reducible refine wpTxt_s ?_ ?_); rfl; intro _ _; go_simp) | ((with_reducible refine wpTxt_sw ?_ ?_); rfl; intro _ _; go_simp) | (with_reducible refine wpTxt_nil ?_) | ((with_reducible refine wp_region_t mixed ?_ ?_); decide +kernel; intro _ _) | (go_at_call 62; ((with_reducible refine (sword_any b src k _ _ ?_ hs hle).mono ?_); (· (repeat (first | (with_reducible first | assumption | refine Scn.alloc ?_ _ | refine Scn.drewN ?_ _ | refine Scn.drew ?_) | ((with_reducible refine Scn.far ?_ ?_ _); rotate_left; (· simp only [ne_eq]; omega))))); rintro e w2 ⟨rfl, hS2, hb2⟩; have F2 := F1.but hb2 hl; have hB2 : But b w w2 := But.trans (by (repeat (first | (with_reducible first | assumption | exact But.refl _ _ | refine But.alloc ?_ _ | refine But.drewN ?_ _ | refine But.drew ?_) | ((with_reducible refine But.set ?_ ?_ _); rotate_left; (· first | exact Or.inl rfl | exact Or.inr (by first | omega | (simp only [szW]; omega))))))) hb2; obtain ⟨⟨p0, p1, p2, p3⟩, ⟨q0, q1, q2, q3⟩, ⟨r0, r1, r2, r3⟩, ⟨t0, t1, t2, t3⟩, f2, f3, f4, f5⟩ := F2.cells; have hz1 := F2.b5.lt)))
 refine wp_region_g [w.heap.size + 3] [0, 2, 3, 0] mixed ?_ ?_
 · decide +kernel
 intro K hK
 go_wp2_with (first | ((with_reducible refine wpTag_q ?_ ?_ ?_); rfl; rfl; intro _ _) | ((with_reducible refine wpTag_w ?_ ?_ ?_); rfl; rfl; intro _ _) | ((with_reducible refine wpTag_s ?_ ?_); rfl; intro _ _; go_simp) | ((with_reducible refine wpTag_sw ?_ ?_); rfl; intro _ _; go_simp) | (with_reducible refine wpTag_nil ?_))
 refine wpTag_2 (.agg #[.int .i64 0, .int .i64 0, .int .i64 0, .string ⟨#[]⟩]) rfl rfl ?_ ?_
 · intro w' hk
   have e : ∀ i, w'.cell? ⟨w.heap.size + 3, i, none⟩ = _ := fun i => World.cell?_of_block (hk _ (by simp))
   go_simp
 refine wpTag_3 rfl rfl (fun K2 hK2 => ?_)
 go_wp2_with (first | ((with_reducible refine wpTag_q ?_ ?_ ?_); rfl; rfl; intro _ _) | ((with_reducible refine wpTag_w ?_ ?_ ?_); rfl; rfl; intro _ _) | ((with_reducible refine wpTag_s ?_ ?_); rfl; intro _ _; go_simp) | ((with_reducible refine wpTag_sw ?_ ?_); rfl; intro _ _; go_simp) | (with_reducible refine wpTag_nil ?_))
 refine ⟨?_, ?_⟩
 · (repeat (first | with_reducible assumption | with_reducible exact SameAt.refl _ _ | with_reducible exact SameAt.un _ _ | with_reducible exact SameAt.unN _ _ _ | ((with_reducible refine SameAt.set ?_ ?_ _); rotate_left; (· simp only [List.mem_cons, List.not_mem_nil, or_false, forall_eq_or_imp, forall_eq, ne_eq]; omega)) | ((with_reducible refine SameAt.drewN ?_ _)) | ((with_reducible refine SameAt.drew ?_))))
 go_wp2_with (first | ((with_reducible refine wpTag_q ?_ ?_ ?_); rfl; rfl; intro _ _) | ((with_reducible refine wpTag_w ?_ ?_ ?_); rfl; rfl; intro _ _) | ((with_reducible refine wpTag_s ?_ ?_); rfl; intro _ _; go_simp) | ((with_reducible refine wpTag_sw ?_ ?_); rfl; intro _ _; go_simp) | (with_reducible refine wpTag_nil ?_))
 refine bodyPost_ret (v := .tuple #[.agg #[.int .i64 4, .string (src.extract k (k + m.size)), .int .i64 (loc src.data.toList k).1, .int .i64 (loc src.data.toList k).2], .agg #[.int .i64 0, .int .i64 0, .int .i64 0, .string ⟨#[]⟩]]) (by simp [results, Try.f40, go_sem, p0, p1, p2, p3, q0, q1, q2, q3]) rfl ?_
 rw [← HM.out]
 refine ⟨rfl, ?_, ?_⟩
 · (repeat (first | (with_reducible first | assumption | exact But.refl _ _ | refine But.alloc ?_ _ | refine But.drewN ?_ _ | refine But.drew ?_) | ((with_reducible refine But.set ?_ ?_ _); rotate_left; (· first | exact Or.inl rfl | exact Or.inr (by first | omega | (simp only [szW]; omega))))))
 · (repeat (first | (with_reducible first | assumption | refine Scn.alloc ?_ _ | refine Scn.drewN ?_ _ | refine Scn.drew ?_) | ((with_reducible refine Scn.far ?_ ?_ _); rotate_left; (· simp only [ne_eq]; omega))))

theorem stoken_mark_err (b : Nat) (src : ByteArray) (k : Nat) (w : World) (h : Scn w b src k) (hs : src.size ≤ 65536) (hlt : k < src.size) (hc : letB (src[k].toNat : Int) = false) (hd : digB (src[k].toNat : Int) = false) (hq0 : ((src[k].toNat : Int) == 34) = false)
    (hn : markN (src.data.toList.drop k) = 0) : Calls Try.prog 40 #[.pointer (some ⟨b, 0, none⟩)] w (TErr b src 9 k w) := by
 have hl := Blk.lt h
 have a0 := h.c0
 have a1 := h.c1
 have a2 := h.c2
 have a3 := h.c3
 have A0 : ∀ o1 o2 o3 o4, ((((w.alloc o1).alloc o2).alloc o3).alloc o4).cell? ⟨b, 0, none⟩ = some (.string src) := fun o1 o2 o3 o4 => ((((h.alloc o1).alloc o2).alloc o3).alloc o4).c0
 have A1 : ∀ o1 o2 o3 o4, ((((w.alloc o1).alloc o2).alloc o3).alloc o4).cell? ⟨b, 1, none⟩ = some (.int .i64 k) := fun o1 o2 o3 o4 => ((((h.alloc o1).alloc o2).alloc o3).alloc o4).c1
 go_enter Try.func40, Try.ntmps40
 go_wp2_with (first | ((with_reducible refine wpTxt_q ?_ ?_ ?_); rfl; rfl; intro _ _) | ((with_reducible refine wpTxt_w0 ?_ ?_ ?_); rfl; rfl; intro _ _) | ((with_reducible refine wpTxt_s ?_ ?_); rfl; intro _ _; go_simp) | ((with_reducible refine wpTxt_sw ?_ ?_); rfl; intro _ _; go_simp) | (with_reducible refine wpTxt_nil ?_) | ((with_reducible refine wp_region_t mixed ?_ ?_); decide +kernel; intro _ _) | (go_at_call 53; ((with_reducible refine (snext_any b src k _ ?_ hlt).mono ?_); (· (repeat (first | (with_reducible first | assumption | refine Scn.alloc ?_ _ | refine Scn.drewN ?_ _ | refine Scn.drew ?_) | ((with_reducible refine Scn.far ?_ ?_ _); rotate_left; (· simp only [ne_eq]; omega))))); rintro e w' ⟨rfl, rfl⟩)) | (go_at_call 55; ((with_reducible refine (letter_any _ _).mono ?_); rintro e w' ⟨rfl, rfl⟩)) | (go_at_call 57; ((with_reducible refine (digit_any _ _).mono ?_); rintro e w' ⟨rfl, rfl⟩)))
 refine (mark_any (src.extract k src.size) (by rw [ByteArray.size_extract]; unfold maxLen; omega) _).mono ?_
 rintro e w1 ⟨⟨m, rfl, hm1, hm2⟩, hb1⟩
 have F1 := Four.laterL hb1 (Four.made w 4 (loc src.data.toList k).1 (loc src.data.toList k).2) rfl
 have hB1 : But b w w1 := But.trans (by (repeat (first | (with_reducible first | assumption | exact But.refl _ _ | refine But.alloc ?_ _ | refine But.drewN ?_ _ | refine But.drew ?_) | ((with_reducible refine But.set ?_ ?_ _); rotate_left; (· first | exact Or.inl rfl | exact Or.inr (by first | omega | (simp only [szW]; omega))))))) (But.of_below hb1)
 have hS1 : Scn w1 b src k := Scn.low (by (repeat (first | (with_reducible first | assumption | refine Scn.alloc ?_ _ | refine Scn.drewN ?_ _ | refine Scn.drew ?_) | ((with_reducible refine Scn.far ?_ ?_ _); rotate_left; (· simp only [ne_eq]; omega))))) hb1
 rw [ext_all, hn] at hm1
 clear hm2
 have hm0 : ¬ 0 < m.size := by omega
 have hle : k + m.size ≤ src.size := by omega
 have g1 := none_of hm0
 have HM := Lib.hid hm1
 clear hm1
 go_wp2_with (first | ((with_reducible refine wpTxt_q ?_ ?_ ?_); rfl; rfl; intro _ _) | ((with_reducible refine wpTxt_w0 ?_ ?_ ?_); rfl; rfl; intro _ _) | ((with_reducible refine wpTxt_s ?_ ?_); rfl; intro _ _; go_simp) | ((with_reducible refine wpTxt_sw ?_ ?_); rfl; intro _ _; go_simp) | (with_reducible refine wpTxt_nil ?_) | ((with_reducible refine wp_region_t mixed ?_ ?_); decide +kernel; intro _ _) | (go_at_call 61; ((with_reducible refine (sfault_any b src k _ _ ?_).mono ?_); (· (repeat (first | (with_reducible first | assumption | refine Scn.alloc ?_ _ | refine Scn.drewN ?_ _ | refine Scn.drew ?_) | ((with_reducible refine Scn.far ?_ ?_ _); rotate_left; (· simp only [ne_eq]; omega))))); rintro e w2 ⟨rfl, hb2⟩; have F2 := F1.low hb2; have hB2 : But b w w2 := But.trans (by (repeat (first | (with_reducible first | assumption | exact But.refl _ _ | refine But.alloc ?_ _ | refine But.drewN ?_ _ | refine But.drew ?_) | ((with_reducible refine But.set ?_ ?_ _); rotate_left; (· first | exact Or.inl rfl | exact Or.inr (by first | omega | (simp only [szW]; omega))))))) (But.of_below hb2); have hS2 : Scn w2 b src k := Scn.low (by (repeat (first | (with_reducible first | assumption | refine Scn.alloc ?_ _ | refine Scn.drewN ?_ _ | refine Scn.drew ?_) | ((with_reducible refine Scn.far ?_ ?_ _); rotate_left; (· simp only [ne_eq]; omega))))) hb2; obtain ⟨⟨p0, p1, p2, p3⟩, ⟨q0, q1, q2, q3⟩, ⟨r0, r1, r2, r3⟩, ⟨t0, t1, t2, t3⟩, f2, f3, f4, f5⟩ := F2.cells; have hz1 := F2.b5.lt)))
 refine (sword_any b src k m.size _ ?_ hs hle).mono ?_
 · (repeat (first | (with_reducible first | assumption | refine Scn.alloc ?_ _ | refine Scn.drewN ?_ _ | refine Scn.drew ?_) | ((with_reducible refine Scn.far ?_ ?_ _); rotate_left; (· simp only [ne_eq]; omega))))
 rintro e w3 ⟨rfl, hS3, hb3⟩
 have hB3 : But b w w3 := But.trans (by (repeat (first | (with_reducible first | assumption | exact But.refl _ _ | refine But.alloc ?_ _ | refine But.drewN ?_ _ | refine But.drew ?_) | ((with_reducible refine But.set ?_ ?_ _); rotate_left; (· first | exact Or.inl rfl | exact Or.inr (by first | omega | (simp only [szW]; omega))))))) hb3
 have G2 := Blk.but (show Blk _ w.heap.size _ _ from (((F2.b2.far (by simp only [ne_eq]; omega) _).far (by simp only [ne_eq]; omega) _).far (by simp only [ne_eq]; omega) _).far (by simp only [ne_eq]; omega) _) hb3 (by omega)
 have G3 := Blk.but (show Blk _ (w.heap.size + 1) _ _ from (((F2.b3.far (by simp only [ne_eq]; omega) _).far (by simp only [ne_eq]; omega) _).far (by simp only [ne_eq]; omega) _).far (by simp only [ne_eq]; omega) _) hb3 (by omega)
 have G4 := Blk.but (show Blk _ (w.heap.size + 2) _ _ from (((F2.b4.far (by simp only [ne_eq]; omega) _).far (by simp only [ne_eq]; omega) _).far (by simp only [ne_eq]; omega) _).far (by simp only [ne_eq]; omega) _) hb3 (by omega)
 have G5 := Blk.but (show Blk _ (w.heap.size + 3) _ #[.int .i64 9, .int .i64 (loc src.data.toList k).1, .int .i64 (loc src.data.toList k).2, .string ⟨#[]⟩] from (((F2.b5.set 0 (.int .i64 9)).set 1 (.int .i64 (loc src.data.toList k).1)).set 2 (.int .i64 (loc src.data.toList k).2)).set 3 (.string ⟨#[]⟩)) hb3 (by omega)
 clear p0 p1 p2 p3 q0 q1 q2 q3 r0 r1 r2 r3 t0 t1 t2 t3 f2 f3 f4 f5
 have p0 := G2.cell 0
 have p1 := G2.cell 1
 have p2 := G2.cell 2
 have p3 := G2.cell 3
 have q0 := G3.cell 0
 have q1 := G3.cell 1
 have q2 := G3.cell 2
 have q3 := G3.cell 3
 have r0 := G4.cell 0
 have r1 := G4.cell 1
 have r2 := G4.cell 2
 have r3 := G4.cell 3
 have t0 := G5.cell 0
 have t1 := G5.cell 1
 have t2 := G5.cell 2
 have t3 := G5.cell 3
 have f2 := G2.free
 have f3 := G3.free
 have f4 := G4.free
 have f5 := G5.free
 have hz3 := G5.lt
 go_wp2_with fail
 refine wp_region_g [w.heap.size + 3] [0, 2, 3, 0] mixed ?_ ?_
 · decide +kernel
 intro K hK
 go_wp2_with (first | ((with_reducible refine wpTag_q ?_ ?_ ?_); rfl; rfl; intro _ _) | ((with_reducible refine wpTag_w ?_ ?_ ?_); rfl; rfl; intro _ _) | ((with_reducible refine wpTag_s ?_ ?_); rfl; intro _ _; go_simp) | ((with_reducible refine wpTag_sw ?_ ?_); rfl; intro _ _; go_simp) | (with_reducible refine wpTag_nil ?_))
 refine wpTag_2 (.agg #[.int .i64 9, .int .i64 (loc src.data.toList k).1, .int .i64 (loc src.data.toList k).2, .string ⟨#[]⟩]) rfl rfl ?_ ?_
 · intro w' hk
   have e : ∀ i, w'.cell? ⟨w.heap.size + 3, i, none⟩ = _ := fun i => World.cell?_of_block (hk _ (by simp))
   go_simp
 refine wpTag_3 rfl rfl (fun K2 hK2 => ?_)
 go_wp2_with (first | ((with_reducible refine wpTag_q ?_ ?_ ?_); rfl; rfl; intro _ _) | ((with_reducible refine wpTag_w ?_ ?_ ?_); rfl; rfl; intro _ _) | ((with_reducible refine wpTag_s ?_ ?_); rfl; intro _ _; go_simp) | ((with_reducible refine wpTag_sw ?_ ?_); rfl; intro _ _; go_simp) | (with_reducible refine wpTag_nil ?_))
 refine ⟨?_, ?_⟩
 · (repeat (first | with_reducible assumption | with_reducible exact SameAt.refl _ _ | with_reducible exact SameAt.un _ _ | with_reducible exact SameAt.unN _ _ _ | ((with_reducible refine SameAt.set ?_ ?_ _); rotate_left; (· simp only [List.mem_cons, List.not_mem_nil, or_false, forall_eq_or_imp, forall_eq, ne_eq]; omega)) | ((with_reducible refine SameAt.drewN ?_ _)) | ((with_reducible refine SameAt.drew ?_))))
 go_wp2_with (first | ((with_reducible refine wpTag_q ?_ ?_ ?_); rfl; rfl; intro _ _) | ((with_reducible refine wpTag_w ?_ ?_ ?_); rfl; rfl; intro _ _) | ((with_reducible refine wpTag_s ?_ ?_); rfl; intro _ _; go_simp) | ((with_reducible refine wpTag_sw ?_ ?_); rfl; intro _ _; go_simp) | (with_reducible refine wpTag_nil ?_))
 refine bodyPost_ret (v := .tuple #[.agg #[.int .i64 4, .string (src.extract k (k + m.size)), .int .i64 (loc src.data.toList k).1, .int .i64 (loc src.data.toList k).2], .agg #[.int .i64 9, .int .i64 (loc src.data.toList k).1, .int .i64 (loc src.data.toList k).2, .string ⟨#[]⟩]]) (by simp [results, Try.f40, go_sem, p0, p1, p2, p3, q0, q1, q2, q3]) rfl ?_
 refine ⟨4, _, _, _, rfl, ?_, _, hle, ?_⟩
 · (repeat (first | (with_reducible first | assumption | exact But.refl _ _ | refine But.alloc ?_ _ | refine But.drewN ?_ _ | refine But.drew ?_) | ((with_reducible refine But.set ?_ ?_ _); rotate_left; (· first | exact Or.inl rfl | exact Or.inr (by first | omega | (simp only [szW]; omega))))))
 · (repeat (first | (with_reducible first | assumption | refine Scn.alloc ?_ _ | refine Scn.drewN ?_ _ | refine Scn.drew ?_) | ((with_reducible refine Scn.far ?_ ?_ _); rotate_left; (· simp only [ne_eq]; omega))))

/-- the text of a token of so many bytes -/
def tokT (src : ByteArray) (k : Nat) (kd : Int) (n : Nat) : ByteArray := if kd = 3 then src.extract (k + 1) (k + n - 1) else src.extract k (k + n)
theorem at_drop (src : ByteArray) (k : Nat) (h : k < src.size) : (src.data.toList.drop k).getD 0 0 = src[k] := by
 rw [getD_drop _ k (by rw [sz]; exact h), at_ src k h]
theorem at_drop1 (src : ByteArray) (k j : Nat) (h : k + 1 + j < src.size) : (src.data.toList.drop (k + 1)).getD j 0 = src[k + 1 + j] := by
 rw [List.getD_eq_getElem?_getD, List.getElem?_drop, List.getElem?_eq_getElem (by rw [sz]; exact h)]
 rfl
theorem stoken_err (b : Nat) (src : ByteArray) (k : Nat) (w : World) (c : Int) (off : Nat) (h : Scn w b src k) (hs : src.size ≤ 65536) (hlt : k < src.size) (hr : oneR (src.data.toList.drop k) = .err c off) :
    Calls Try.prog 40 #[.pointer (some ⟨b, 0, none⟩)] w (TErr b src c (k + off) w) := by
 unfold oneR at hr
 rw [at_drop src k hlt] at hr
 cases hc : letB (bi src[k])
 · rw [hc] at hr
   cases hd : digB (bi src[k])
   · rw [hd] at hr
     by_cases hq : bi src[k] = 34
     · simp only [Bool.false_eq_true, if_false, if_pos hq, textR, drop1] at hr
       rw [List.length_drop, sz] at hr
       by_cases h1 : src.size - (k + 1) ≤ tw ptB (src.data.toList.drop (k + 1))
       · rw [if_pos h1] at hr
         injection hr with e1 e2
         subst e1; subst e2
         exact stoken_text_err5 b src k w h hs hlt hc hd (beq_t hq) (by omega)
       · rw [if_neg h1] at hr
         have h1' : k + 1 + tw ptB (src.data.toList.drop (k + 1)) < src.size := by omega
         rw [at_drop1 src k _ h1'] at hr
         by_cases h2 : ¬ bi src[k + 1 + tw ptB (src.data.toList.drop (k + 1))] = 34
         · rw [if_pos h2] at hr
           injection hr with e1 e2
           subst e1; subst e2
           have := stoken_text_err9 b src k w h hs hlt hc hd (beq_t hq) h1' h2
           rwa [show k + (1 + tw ptB (src.data.toList.drop (k + 1))) = k + 1 + tw ptB (src.data.toList.drop (k + 1)) by omega]
         · rw [if_neg h2] at hr
           by_cases h3 : 256 < tw ptB (src.data.toList.drop (k + 1))
           · rw [if_pos h3] at hr
             injection hr with e1 e2
             subst e1; subst e2
             exact stoken_text_err4 b src k w h hs hlt hc hd (beq_t hq) h1' (Decidable.not_not.1 h2) h3
           · rw [if_neg h3] at hr
             cases hr
     · simp only [Bool.false_eq_true, if_false, if_neg hq, markR] at hr
       by_cases h1 : markN (src.data.toList.drop k) = 0
       · rw [if_pos h1] at hr
         injection hr with e1 e2
         subst e1; subst e2
         exact stoken_mark_err b src k w h hs hlt hc hd (beq_f hq) h1
       · rw [if_neg h1] at hr
         cases hr
   · rw [hd] at hr
     simp only [Bool.false_eq_true, if_false, if_true, numR] at hr
     rw [at_drop src k hlt] at hr
     by_cases h1 : 9 < tw dgB (src.data.toList.drop k)
     · rw [if_pos h1] at hr
       injection hr with e1 e2
       subst e1; subst e2
       exact stoken_num_err3 b src k w h hs hlt hc hd h1
     · rw [if_neg h1] at hr
       by_cases h2 : 1 < tw dgB (src.data.toList.drop k) ∧ bi src[k] = 48
       · rw [if_pos h2] at hr
         injection hr with e1 e2
         subst e1; subst e2
         exact stoken_num_err9 b src k w h hs hlt hc hd h1 h2.1 h2.2
       · rw [if_neg h2] at hr
         cases hr
 · rw [hc] at hr
   simp only [if_true, nameR] at hr
   by_cases h1 : 32 < tw nmB (src.data.toList.drop k)
   · rw [if_pos h1] at hr
     injection hr with e1 e2
     subst e1; subst e2
     exact stoken_name_err b src k w h hs hlt hc h1
   · rw [if_neg h1] at hr
     cases hr
theorem stoken_ok (b : Nat) (src : ByteArray) (k : Nat) (w : World) (kd : Int) (n : Nat) (h : Scn w b src k) (hs : src.size ≤ 65536) (hlt : k < src.size) (hr : oneR (src.data.toList.drop k) = .ok kd n) :
    Calls Try.prog 40 #[.pointer (some ⟨b, 0, none⟩)] w (TOk b src (tokT src k kd n) kd k (k + n) w) := by
 unfold oneR at hr
 rw [at_drop src k hlt] at hr
 cases hc : letB (bi src[k])
 · rw [hc] at hr
   cases hd : digB (bi src[k])
   · rw [hd] at hr
     by_cases hq : bi src[k] = 34
     · simp only [Bool.false_eq_true, if_false, if_pos hq, textR, drop1] at hr
       rw [List.length_drop, sz] at hr
       by_cases h1 : src.size - (k + 1) ≤ tw ptB (src.data.toList.drop (k + 1))
       · rw [if_pos h1] at hr
         cases hr
       · rw [if_neg h1] at hr
         have h1' : k + 1 + tw ptB (src.data.toList.drop (k + 1)) < src.size := by omega
         rw [at_drop1 src k _ h1'] at hr
         by_cases h2 : ¬ bi src[k + 1 + tw ptB (src.data.toList.drop (k + 1))] = 34
         · rw [if_pos h2] at hr
           cases hr
         · rw [if_neg h2] at hr
           by_cases h3 : 256 < tw ptB (src.data.toList.drop (k + 1))
           · rw [if_pos h3] at hr
             cases hr
           · rw [if_neg h3] at hr
             injection hr with e1 e2
             subst e1; subst e2
             have := stoken_text_ok b src k w h hs hlt hc hd (beq_t hq) h1' (Decidable.not_not.1 h2) h3
             unfold tokT
             rw [if_pos rfl]
             rwa [show k + (tw ptB (src.data.toList.drop (k + 1)) + 2) - 1 = k + 1 + tw ptB (src.data.toList.drop (k + 1)) by omega, show k + (tw ptB (src.data.toList.drop (k + 1)) + 2) = k + 1 + tw ptB (src.data.toList.drop (k + 1)) + 1 by omega]
     · simp only [Bool.false_eq_true, if_false, if_neg hq, markR] at hr
       by_cases h1 : markN (src.data.toList.drop k) = 0
       · rw [if_pos h1] at hr
         cases hr
       · rw [if_neg h1] at hr
         injection hr with e1 e2
         subst e1; subst e2
         exact stoken_mark_ok b src k w h hs hlt hc hd (beq_f hq) (by omega)
   · rw [hd] at hr
     simp only [Bool.false_eq_true, if_false, if_true, numR] at hr
     rw [at_drop src k hlt] at hr
     by_cases h1 : 9 < tw dgB (src.data.toList.drop k)
     · rw [if_pos h1] at hr
       cases hr
     · rw [if_neg h1] at hr
       by_cases h2 : 1 < tw dgB (src.data.toList.drop k) ∧ bi src[k] = 48
       · rw [if_pos h2] at hr
         cases hr
       · rw [if_neg h2] at hr
         injection hr with e1 e2
         subst e1; subst e2
         exact stoken_num_ok b src k w h hs hlt hc hd h1 (by
          by_cases h3 : 1 < tw dgB (src.data.toList.drop k)
          · exact .inr fun h' => h2 ⟨h3, h'⟩
          · exact .inl h3)
 · rw [hc] at hr
   simp only [if_true, nameR] at hr
   by_cases h1 : 32 < tw nmB (src.data.toList.drop k)
   · rw [if_pos h1] at hr
     cases hr
   · rw [if_neg h1] at hr
     injection hr with e1 e2
     subst e1; subst e2
     exact stoken_name_ok b src k w h hs hlt hc h1
open Go.RowKit Tk

structure Tok where
 kind : Int
 text : ByteArray
 pos : Int × Int
def Tok.cells (t : Tok) : List Value := [.int .i64 t.kind, .string t.text, .int .i64 t.pos.1, .int .i64 t.pos.2]
def cellsT (ts : List Tok) : List Value := ts.flatMap Tok.cells
theorem cellsT_snoc (ts : List Tok) (t : Tok) : cellsT (ts ++ [t]) = cellsT ts ++ t.cells := by simp [cellsT]
inductive SR where
 | err (c : Int) (p : Int × Int)
 | ok (ts : List Tok)
def SR.add (acc : List Tok) : SR → SR
 | .err c p => .err c p
 | .ok ts => .ok (acc ++ ts)
theorem SR.add_add (a b : List Tok) (r : SR) : SR.add a (SR.add b r) = SR.add (a ++ b) r := by cases r <;> simp [SR.add]
theorem SR.add_nil (r : SR) : SR.add [] r = r := by cases r <;> simp [SR.add]
/-- the tokens from index k on; f bounds the number of rounds -/
def scanF (src : ByteArray) : Nat → Nat → SR
 | 0, _ => .ok []
 | f + 1, k =>
   if src.size ≤ k + skipL false (src.data.toList.drop k) then .ok [⟨0, ⟨#[]⟩, loc src.data.toList src.size⟩]
   else match oneR (src.data.toList.drop (k + skipL false (src.data.toList.drop k))) with
    | .err c off => .err c (loc src.data.toList (k + skipL false (src.data.toList.drop k) + off))
    | .ok kd n => SR.add [⟨kd, tokT src (k + skipL false (src.data.toList.drop k)) kd n, loc src.data.toList (k + skipL false (src.data.toList.drop k))⟩] (scanF src f (k + skipL false (src.data.toList.drop k) + n))
def scanS (src : ByteArray) : SR := if 65536 < src.size then .err 4 (0, 0) else scanF src (src.size + 1) 0

theorem tw_pos (p : UInt8 → Bool) (l : List UInt8) (h : 0 < l.length) (hp : p (l.getD 0 0) = true) : 0 < tw p l := by
 cases l with
 | nil => simp at h
 | cons c l => rw [tw_cons]; simp at hp; rw [if_pos hp]; omega
theorem oneR_ok (l : List UInt8) (kd : Int) (n : Nat) (h : 0 < l.length) (hr : oneR l = .ok kd n) : 0 < n ∧ n ≤ l.length := by
 unfold oneR at hr
 cases hc : letB (bi (l.getD 0 0))
 · rw [hc] at hr
   cases hd : digB (bi (l.getD 0 0))
   · rw [hd] at hr
     simp only [Bool.false_eq_true, if_false] at hr
     by_cases hq : bi (l.getD 0 0) = 34
     · rw [if_pos hq] at hr
       unfold textR at hr
       split at hr
       · cases hr
       · split at hr
         · cases hr
         · split at hr
           · cases hr
           · injection hr with e1 e2
             subst e2
             rename_i h1 _ _
             rw [List.length_drop] at h1
             omega
     · rw [if_neg hq] at hr
       unfold markR at hr
       split at hr
       · cases hr
       · injection hr with e1 e2
         subst e2
         have := markN_le l
         omega
   · rw [hd] at hr
     simp only [Bool.false_eq_true, if_false, if_true, numR] at hr
     split at hr
     · cases hr
     · split at hr
       · cases hr
       · injection hr with e1 e2
         subst e2
         exact ⟨tw_pos dgB l h hd, tw_le _ _⟩
 · rw [hc] at hr
   simp only [if_true, nameR] at hr
   split at hr
   · cases hr
   · injection hr with e1 e2
     subst e2
     exact ⟨tw_pos nmB l h (by unfold nmB; rw [hc]; rfl), tw_le _ _⟩
open Go.RowKit Tk

theorem own_below {w w' : World} {base : Nat} {e : TypeId} {size : Nat} {v : Value} {n : Nat} {xs : List Value} (h : w.ownsRow base e size v n xs) (hb : Below w.heap.size w w') : w'.ownsRow base e size v n xs :=
 h.kept (row := none) ⟨hb.os, hb.tape, hb.output, hb.size, fun k hk _ => hb.block k hk⟩ (by cases hv : v.ownBlock <;> simp)
theorem own_but {w w' : World} {b base : Nat} {e : TypeId} {size : Nat} {v : Value} {n : Nat} {xs : List Value} (h : w.ownsRow base e size v n xs) (hb : But b w w') (hlt : b < base) : w'.ownsRow base e size v n xs :=
 h.kept (row := some b) ⟨hb.os, hb.tape, hb.output, hb.size, fun k hk hn => hb.block k hk (fun e => hn (by rw [e]))⟩ (by
  cases hv : v.ownBlock with
  | none => exact .inl rfl
  | some g => right; intro e'; injection e' with e'; have := (h.lt g hv).1; omega)
theorem own_base {w : World} {base base' : Nat} {e : TypeId} {size : Nat} {v : Value} {n : Nat} {xs : List Value} (h : w.ownsRow base e size v n xs) (hb : base' ≤ base) : w.ownsRow base' e size v n xs := by
 refine ⟨h.1, ?_⟩
 rcases h.2 with h2 | ⟨g, cap, cur, h1, h2, h3⟩
 · exact .inl h2
 · exact .inr ⟨g, cap, cur, h1, by omega, h3⟩
theorem own_ne {w : World} {base : Nat} {e : TypeId} {size : Nat} {v : Value} {n : Nat} {xs : List Value} (h : w.ownsRow base e size v n xs) {g : Nat} (hg : g < base) : some g ≠ v.ownBlock := fun e' => by
 have := (h.lt g e'.symm).1
 omega
theorem Blk.four {w : World} {g : Nat} {t : TypeId} {a b c d : Value} (h : Blk w g t #[a, b, c, d]) :
    w.cell? ⟨g, 0, none⟩ = some a ∧ w.cell? ⟨g, 1, none⟩ = some b ∧ w.cell? ⟨g, 2, none⟩ = some c ∧ w.cell? ⟨g, 3, none⟩ = some d ∧
    w.frozen? ⟨g, 0, none⟩ = false ∧ w.frozen? ⟨g, 1, none⟩ = false ∧ w.frozen? ⟨g, 2, none⟩ = false ∧ w.frozen? ⟨g, 3, none⟩ = false :=
 ⟨h.cell 0, h.cell 1, h.cell 2, h.cell 3, h.free 0, h.free 1, h.free 2, h.free 3⟩
theorem skipL_le (c : Bool) (l : List UInt8) : skipL c l ≤ l.length := by
 induction l generalizing c with
 | nil => simp [skipL]
 | cons x l ih =>
   unfold skipL
   have h1 := ih false
   have h2 := ih true
   have h3 := ih c
   simp only [List.length_cons]
   split
   · omega
   · split
     · omega
     · split <;> omega
theorem scanF_end {src : ByteArray} {f k k1 : Nat} (h : k1 = k + skipL false (src.data.toList.drop k)) (hl : src.size ≤ k1) : scanF src (f + 1) k = .ok [⟨0, ⟨#[]⟩, loc src.data.toList src.size⟩] := by
 rw [scanF, ← h, if_pos hl]
theorem scanF_err {src : ByteArray} {f k k1 off : Nat} {c : Int} (h : k1 = k + skipL false (src.data.toList.drop k)) (hl : ¬ src.size ≤ k1) (ho : oneR (src.data.toList.drop k1) = .err c off) : scanF src (f + 1) k = .err c (loc src.data.toList (k1 + off)) := by
 rw [scanF, ← h, if_neg hl, ho]
theorem scanF_ok {src : ByteArray} {f k k1 n : Nat} {kd : Int} (h : k1 = k + skipL false (src.data.toList.drop k)) (hl : ¬ src.size ≤ k1) (ho : oneR (src.data.toList.drop k1) = .ok kd n) : scanF src (f + 1) k = SR.add [⟨kd, tokT src k1 kd n, loc src.data.toList k1⟩] (scanF src f (k1 + n)) := by
 rw [scanF, ← h, if_neg hl, ho]
theorem oneR_err (l : List UInt8) (c : Int) (off : Nat) (h : oneR l = .err c off) : (c == 0) = false := by
 unfold oneR nameR numR textR markR at h
 split at h
 · split at h
   · injection h with h1 h2; subst h1; rfl
   · cases h
 · split at h
   · split at h
     · injection h with h1 h2; subst h1; rfl
     · split at h
       · injection h with h1 h2; subst h1; rfl
       · cases h
   · split at h
     · split at h
       · injection h with h1 h2; subst h1; rfl
       · split at h
         · injection h with h1 h2; subst h1; rfl
         · split at h
           · injection h with h1 h2; subst h1; rfl
           · cases h
     · split at h
       · injection h with h1 h2; subst h1; rfl
       · cases h

theorem info_tok : (Try.prog.info? 66).map (fun i => (i.zero, i.size, i.bytes)) = some (some (.agg #[.int .i64 0, .string ⟨#[]⟩, .int .i64 0, .int .i64 0]), 4, 40) := by kernel_rfl
theorem und_toks : Try.prog.underlying 60 = some (.slice 66) := by kernel_rfl

theorem fresh_cells (w : World) (cs : Array Value) (t : TypeId) (j : Nat) (u : Value) (h : cs.toList[j]? = some u) : (w.alloc (.cells cs t)).cell? ((⟨w.heap.size, 0, none⟩ : Addr).add j) = some u := by
 have e : (⟨w.heap.size, 0, none⟩ : Addr).add j = ⟨w.heap.size, j, none⟩ := by unfold Addr.add; split <;> simp_all
 rw [e, Blk.cell (Blk.fresh w t cs) j, ← Array.getElem?_toList]; exact h

theorem fresh_at (w : World) (cs : Array Value) (t : TypeId) (g : Nat) (hg : g = w.heap.size) (j : Nat) (u : Value) (h : cs.toList[j]? = some u) : (w.alloc (.cells cs t)).cell? ((⟨g, 0, none⟩ : Addr).add j) = some u := by
 subst hg; exact fresh_cells w cs t j u h

def ScanPost (src : ByteArray) (w : World) (e : Ending) (w' : World) : Prop :=
 match scanS src with
 | .ok ts => ∃ v, e = .returned (.tuple #[v, flt 0 0 0]) ∧ w'.ownsRow w.heap.size 66 4 v ts.length (cellsT ts) ∧ Below w.heap.size w w'
 | .err c p => e = .returned (.tuple #[.slice none 0 0, flt c p.1 p.2]) ∧ Below w.heap.size w w'

/-- what holds ahead of a round -/
def ScanRel (src : ByteArray) (w : World) (v : Value) (wr : World) : Prop :=
 ∃ (k f : Nat) (acc : List Tok), k ≤ src.size ∧ Hid (src.size < k + f) ∧ Hid (acc.length ≤ k) ∧ Hid (SR.add acc (scanF src f k) = scanF src (src.size + 1) 0) ∧
   Hid (wr.ownsRow (w.heap.size + 2) 66 4 v acc.length (cellsT acc)) ∧ Hid (Scn wr (w.heap.size + 1) src k) ∧
   Hid (Blk wr w.heap.size 37 #[.int .i64 0, .int .i64 0, .int .i64 0, .string ⟨#[]⟩]) ∧ Hid (Below w.heap.size w wr)

theorem tScan_any (src : ByteArray) (w : World) : Calls Try.prog 22 #[.string src] w (ScanPost src w) := by
 by_cases hs : 65536 < src.size
 · have e0 : scanS src = .err 4 (0, 0) := by unfold scanS; rw [if_pos hs]
   have E0 := Lib.hid e0
   clear e0
   go_enter Try.func22, Try.ntmps22
   go_wp2_with (first | ((with_reducible refine wpTxt_q ?_ ?_ ?_); rfl; rfl; intro _ _) | ((with_reducible refine wpTxt_w0 ?_ ?_ ?_); rfl; rfl; intro _ _) | ((with_reducible refine wpTxt_s ?_ ?_); rfl; intro _ _; go_simp) | ((with_reducible refine wpTxt_sw ?_ ?_); rfl; intro _ _; go_simp) | (with_reducible refine wpTxt_nil ?_) | ((with_reducible refine wp_region_t mixed ?_ ?_); decide +kernel; intro _ _))
   refine bodyPost_ret (v := .tuple #[.slice none 0 0, flt 4 0 0]) (by simp [results, Try.f22, go_sem]) rfl ?_
   unfold ScanPost
   rw [E0.out]
   refine ⟨rfl, ?_⟩
   (repeat (first | (with_reducible first | assumption | exact Below.refl _ _ | refine Below.drewN' ?_ _ | refine Below.drew ?_) | ((with_reducible first | refine Below.setCell ?_ ?_ _ | refine Below.alloc ?_ ?_ _); rotate_left; (· first | omega | (simp only [szW]; omega) | (dsimp only; omega)))))
 · have hs : src.size ≤ 65536 := by omega
   obtain ⟨i0, hi, iz0, iz1, iz2⟩ := info_parts info_tok
   go_enter Try.func22, Try.ntmps22
   go_wp2_with (first | ((with_reducible refine wpTxt_q ?_ ?_ ?_); rfl; rfl; intro _ _) | ((with_reducible refine wpTxt_w0 ?_ ?_ ?_); rfl; rfl; intro _ _) | ((with_reducible refine wpTxt_s ?_ ?_); rfl; intro _ _; go_simp) | ((with_reducible refine wpTxt_sw ?_ ?_); rfl; intro _ _; go_simp) | (with_reducible refine wpTxt_nil ?_) | ((with_reducible refine wp_region_t mixed ?_ ?_); decide +kernel; intro _ _))
   go_loopw [5] (fun i wr => ScanRel src w i wr) (fun _ wr => src.size - (match wr.cell? ⟨w.heap.size + 1, 1, none⟩ with | some v => (intOf v).toNat | none => 0))
   case atStart =>
    have hN := (Blk.fresh w 37 #[.int .i64 0, .int .i64 0, .int .i64 0, .string ⟨#[]⟩]).alloc (.cells #[.string src, .int .i64 0, .int .i64 1, .int .i64 1] 81)
    have hM := Blk.fresh (w.alloc (.cells #[.int .i64 0, .int .i64 0, .int .i64 0, .string ⟨#[]⟩] 37)) 81 #[.string src, .int .i64 0, .int .i64 1, .int .i64 1]
    rw [World.size_alloc] at hM
    refine ⟨0, src.size + 1, [], by omega, ?_, Nat.le_refl _, SR.add_nil _, World.ownsRow_nil _ _ _ _, hM, hN, ?_⟩
    · show src.size < 0 + (src.size + 1); omega
    · show Below _ _ _; (repeat (first | (with_reducible first | assumption | exact Below.refl _ _ | refine Below.drewN' ?_ _ | refine Below.drew ?_) | ((with_reducible first | refine Below.setCell ?_ ?_ _ | refine Below.alloc ?_ ?_ _); rotate_left; (· first | omega | (simp only [szW]; omega) | (dsimp only; omega)))))
   case round =>
    obtain ⟨k, f, acc, hk, hf, ha, hR, hO, hS, hF, hL⟩ := hrel
    obtain ⟨f, rfl⟩ : ∃ f', f = f' + 1 := ⟨f - 1, by have := hf.out; omega⟩
    obtain ⟨k1, HK⟩ : ∃ k1, Hid (k1 = k + skipL false (src.data.toList.drop k)) := ⟨_, rfl⟩
    by_cases hle : src.size ≤ k1
    · go_wp2_with (first | (at_builtin; refine wpList_append_own _ rfl _ _ 60 rfl (w.heap.size + 2) 66 i0 _ 4 40 und_toks hi iz0 iz1 iz2 rfl (by decide) u5 acc.length (cellsT acc) rfl ?c0 _ 1 1 [.int .i64 0, .string ⟨#[]⟩, .int .i64 (loc src.data.toList k1).1, .int .i64 (loc src.data.toList k1).2] rfl rfl ?c1 ?c2 ?c3 ?c4 ?c5 ?_) | ((with_reducible refine wpTxt_q ?_ ?_ ?_); rfl; rfl; intro _ _) | ((with_reducible refine wpTxt_w0 ?_ ?_ ?_); rfl; rfl; intro _ _) | ((with_reducible refine wpTxt_s ?_ ?_); rfl; intro _ _; go_simp) | ((with_reducible refine wpTxt_sw ?_ ?_); rfl; intro _ _; go_simp) | (with_reducible refine wpTxt_nil ?_) | ((with_reducible refine wp_region_t mixed ?_ ?_); decide +kernel; intro _ _) | (go_at_call 38; ((with_reducible refine (sblanks_any (w.heap.size + 1) src k _ hS.out hs hk).mono ?_); rintro e w1 ⟨rfl, hS1, hB1⟩; rw [← HK.out] at hS1; have g2 := hS1.c2; have g3 := hS1.c3)) | (go_at_call 39; ((with_reducible refine (sended_any (w.heap.size + 1) src k1 _ hS1).mono ?_); rintro e w' ⟨rfl, rfl⟩)))
      case c0 => exact own_below (own_but hO.out hB1 (by omega)) (by (repeat (first | (with_reducible first | assumption | exact Below.refl _ _ | refine Below.drewN' ?_ _ | refine Below.drew ?_) | ((with_reducible first | refine Below.setCell ?_ ?_ _ | refine Below.alloc ?_ ?_ _); rotate_left; (· first | omega | (simp only [szW]; omega) | (dsimp only; omega))))))
      case c1 => intro j u hj; exact fresh_cells _ _ _ j u hj
      case c2 => intro u hu; simp at hu; rcases hu with rfl | rfl | rfl | rfl <;> rfl
      case c3 => have := ha.out; unfold maxLen; omega
      case c4 => have := ha.out; omega
      case c5 => have := Blk.lt hS1; simp; omega
      · intro v' w3 hown hgrow _
        have hF3 : Blk w3 _ _ _ := Blk.grown (Blk.low (hF.out.but hB1 (by omega)) (by (repeat (first | (with_reducible first | assumption | exact Below.refl _ _ | refine Below.drewN' ?_ _ | refine Below.drew ?_) | ((with_reducible first | refine Below.setCell ?_ ?_ _ | refine Below.alloc ?_ ?_ _); rotate_left; (· first | omega | (simp only [szW]; omega) | (dsimp only; omega))))))) hgrow (own_ne hO.out (by omega))
        obtain ⟨c0, c1, c2, c3, f0, f1, f2, f3⟩ := hF3.four
        have hz := hF3.lt
        go_wp2_with (first | ((with_reducible refine wpTxt_q ?_ ?_ ?_); rfl; rfl; intro _ _) | ((with_reducible refine wpTxt_w0 ?_ ?_ ?_); rfl; rfl; intro _ _) | ((with_reducible refine wpTxt_s ?_ ?_); rfl; intro _ _; go_simp) | ((with_reducible refine wpTxt_sw ?_ ?_); rfl; intro _ _; go_simp) | (with_reducible refine wpTxt_nil ?_) | ((with_reducible refine wp_region_t mixed ?_ ?_); decide +kernel; intro _ _))
        refine bodyPost_ret (v := .tuple #[v', flt 0 0 0]) (by simp [results, Try.f22, go_sem, c0, c1, c2, c3]) rfl ?_
        have e1 : k1 = src.size := by
         have := skipL_le false (src.data.toList.drop k)
         rw [List.length_drop, sz] at this
         have := HK.out
         omega
        unfold ScanPost scanS
        rw [if_neg (by omega), ← hR.out, scanF_end HK.out hle]
        refine ⟨v', rfl, ?_, ?_⟩
        · rw [e1] at hown
          simp only [List.length_append, List.length_cons, List.length_nil, Nat.zero_add]
          rw [cellsT_snoc]
          exact own_base (own_but hown (b := w.heap.size) (by (repeat (first | (with_reducible first | assumption | exact But.refl _ _ | refine But.alloc ?_ _ | refine But.drewN ?_ _ | refine But.drew ?_) | ((with_reducible refine But.set ?_ ?_ _); rotate_left; (· first | exact Or.inl rfl | exact Or.inr (by first | omega | (simp only [szW]; omega))))))) (by omega)) (by omega)
        · have hb1 : Below w.heap.size w w1 := hL.out.trans (hB1.below (by omega) hL.out.size)
          have hsz := hb1.size
          have hb3 : Below w.heap.size w w3 := Below.grown (by (repeat (first | (with_reducible first | assumption | exact Below.refl _ _ | refine Below.drewN' ?_ _ | refine Below.drew ?_) | ((with_reducible first | refine Below.setCell ?_ ?_ _ | refine Below.alloc ?_ ?_ _); rotate_left; (· first | omega | (simp only [szW]; omega) | (dsimp only; omega)))))) hgrow (by have := Blk.lt hS1; simp; omega) (fun g hg => by have := (hO.out.lt g hg).1; omega)
          (repeat (first | (with_reducible first | assumption | exact Below.refl _ _ | refine Below.drewN' ?_ _ | refine Below.drew ?_) | ((with_reducible first | refine Below.setCell ?_ ?_ _ | refine Below.alloc ?_ ?_ _); rotate_left; (· first | omega | (simp only [szW]; omega) | (dsimp only; omega)))))
    · have hlt : k1 < src.size := by omega
      cases ho : oneR (src.data.toList.drop k1) with
      | err c off =>
        have hc := oneR_err _ _ _ ho
        have HO := Lib.hid ho
        clear ho
        go_wp2_with (first | ((with_reducible refine wpTxt_q ?_ ?_ ?_); rfl; rfl; intro _ _) | ((with_reducible refine wpTxt_w0 ?_ ?_ ?_); rfl; rfl; intro _ _) | ((with_reducible refine wpTxt_s ?_ ?_); rfl; intro _ _; go_simp) | ((with_reducible refine wpTxt_sw ?_ ?_); rfl; intro _ _; go_simp) | (with_reducible refine wpTxt_nil ?_) | ((with_reducible refine wp_region_t mixed ?_ ?_); decide +kernel; intro _ _) | (go_at_call 38; ((with_reducible refine (sblanks_any (w.heap.size + 1) src k _ hS.out hs hk).mono ?_); rintro e w1 ⟨rfl, hS1, hB1⟩; rw [← HK.out] at hS1; have g2 := hS1.c2; have g3 := hS1.c3)) | (go_at_call 39; ((with_reducible refine (sended_any (w.heap.size + 1) src k1 _ hS1).mono ?_); rintro e w' ⟨rfl, rfl⟩)) | (go_at_call 40; ((with_reducible refine (stoken_err (w.heap.size + 1) src k1 _ c off hS1.drew hs hlt HO.out).mono ?_); rintro e w2 ⟨kd, tx, l1, c1, rfl, hB2, j1, hj1, hS2⟩; have hF2 := (hF.out.but hB1 (by omega)).drew.but hB2 (by omega); obtain ⟨c0, c1, c2, c3, f0, f1, f2, f3⟩ := hF2.four; have hz2 := hF2.lt)))
        refine bodyPost_ret (v := .tuple #[.slice none 0 0, flt c (loc src.data.toList (k1 + off)).1 (loc src.data.toList (k1 + off)).2]) (by simp [results, Try.f22, go_sem, c0, c1, c2, c3, hz2, Nat.lt_succ_of_lt hz2]) rfl ?_
        unfold ScanPost scanS
        rw [if_neg (by omega), ← hR.out, scanF_err HK.out hle HO.out]
        refine ⟨rfl, ?_⟩
        have hb1 : Below w.heap.size w w1 := hL.out.trans (hB1.below (by omega) hL.out.size)
        have hsz := hb1.size
        have hb2 : Below w.heap.size w w2 := hb1.drew.trans (hB2.below (by omega) hsz)
        have hsz2 := hb2.size
        (repeat (first | (with_reducible first | assumption | exact Below.refl _ _ | refine Below.drewN' ?_ _ | refine Below.drew ?_) | ((with_reducible first | refine Below.setCell ?_ ?_ _ | refine Below.alloc ?_ ?_ _); rotate_left; (· first | omega | (simp only [szW]; omega) | (dsimp only; omega)))))
      | ok kd n =>
        obtain ⟨hn0, hn1⟩ := oneR_ok _ _ _ (by rw [List.length_drop, sz]; omega) ho
        rw [List.length_drop, sz] at hn1
        have HO := Lib.hid ho
        clear ho
        go_wp2_with (first | (at_builtin; refine wpList_append_own _ rfl _ _ 60 rfl (w.heap.size + 2) 66 i0 _ 4 40 und_toks hi iz0 iz1 iz2 rfl (by decide) u5 acc.length (cellsT acc) rfl ?c0 _ 1 1 [.int .i64 kd, .string (tokT src k1 kd n), .int .i64 (loc src.data.toList k1).1, .int .i64 (loc src.data.toList k1).2] rfl rfl ?c1 ?c2 ?c3 ?c4 ?c5 ?_) | ((with_reducible refine wpTxt_q ?_ ?_ ?_); rfl; rfl; intro _ _) | ((with_reducible refine wpTxt_w0 ?_ ?_ ?_); rfl; rfl; intro _ _) | ((with_reducible refine wpTxt_s ?_ ?_); rfl; intro _ _; go_simp) | ((with_reducible refine wpTxt_sw ?_ ?_); rfl; intro _ _; go_simp) | (with_reducible refine wpTxt_nil ?_) | ((with_reducible refine wp_region_t mixed ?_ ?_); decide +kernel; intro _ _) | (go_at_call 38; ((with_reducible refine (sblanks_any (w.heap.size + 1) src k _ hS.out hs hk).mono ?_); rintro e w1 ⟨rfl, hS1, hB1⟩; rw [← HK.out] at hS1; have g2 := hS1.c2; have g3 := hS1.c3)) | (go_at_call 39; ((with_reducible refine (sended_any (w.heap.size + 1) src k1 _ hS1).mono ?_); rintro e w' ⟨rfl, rfl⟩)) | (go_at_call 40; ((with_reducible refine (stoken_ok (w.heap.size + 1) src k1 _ kd n hS1.drew hs hlt HO.out).mono ?_); rintro e w2 ⟨rfl, hB2, hS2⟩; have hF2 := (hF.out.but hB1 (by omega)).drew.but hB2 (by omega); have hz2 := hF2.lt)))
        case c0 => exact own_below (own_but (own_but hO.out hB1.drew (by omega)) hB2 (by omega)) (by (repeat (first | (with_reducible first | assumption | exact Below.refl _ _ | refine Below.drewN' ?_ _ | refine Below.drew ?_) | ((with_reducible first | refine Below.setCell ?_ ?_ _ | refine Below.alloc ?_ ?_ _); rotate_left; (· first | omega | (simp only [szW]; omega) | (dsimp only; omega))))))
        case c1 => intro j u hj; exact fresh_at _ _ _ _ (by simp) j u hj
        case c2 => intro u hu; simp at hu; rcases hu with rfl | rfl | rfl | rfl <;> rfl
        case c3 => have := ha.out; unfold maxLen; omega
        case c4 => have := ha.out; omega
        case c5 => have := Blk.lt hS2; simp; omega
        · intro v' w3 hown hgrow _
          go_wp2_with (first | ((with_reducible refine wpTxt_q ?_ ?_ ?_); rfl; rfl; intro _ _) | ((with_reducible refine wpTxt_w0 ?_ ?_ ?_); rfl; rfl; intro _ _) | ((with_reducible refine wpTxt_s ?_ ?_); rfl; intro _ _; go_simp) | ((with_reducible refine wpTxt_sw ?_ ?_); rfl; intro _ _; go_simp) | (with_reducible refine wpTxt_nil ?_) | ((with_reducible refine wp_region_t mixed ?_ ?_); decide +kernel; intro _ _))
          go_roundw
          case rel =>
           refine ⟨k1 + n, f, acc ++ [⟨kd, tokT src k1 kd n, loc src.data.toList k1⟩], by omega, ?_, ?_, ?_, ?_, ?_, ?_, ?_⟩
           · have := hf.out; have := HK.out; show src.size < k1 + n + f; omega
           · have := ha.out; have := HK.out; show (acc ++ [_]).length ≤ k1 + n; rw [List.length_append]; simp only [List.length_cons, List.length_nil]; omega
           · show SR.add _ _ = _
             rw [← SR.add_add, ← scanF_ok HK.out hle HO.out]; exact hR.out
           · show w3.ownsRow _ _ _ _ _ _
             rw [List.length_append, cellsT_snoc]; exact hown
           · exact Blk.grown (show Scn _ (w.heap.size + 1) src (k1 + n) by (repeat (first | (with_reducible first | assumption | refine Scn.alloc ?_ _ | refine Scn.drewN ?_ _ | refine Scn.drew ?_) | ((with_reducible refine Scn.far ?_ ?_ _); rotate_left; (· simp only [ne_eq]; omega))))) hgrow (own_ne hO.out (by omega))
           · exact Blk.grown (Blk.low hF2 (by (repeat (first | (with_reducible first | assumption | exact Below.refl _ _ | refine Below.drewN' ?_ _ | refine Below.drew ?_) | ((with_reducible first | refine Below.setCell ?_ ?_ _ | refine Below.alloc ?_ ?_ _); rotate_left; (· first | omega | (simp only [szW]; omega) | (dsimp only; omega))))))) hgrow (own_ne hO.out (by omega))
           · have hb1 : Below w.heap.size w w1 := hL.out.trans (hB1.below (by omega) hL.out.size)
             have hsz := hb1.size
             have hb2 : Below w.heap.size w w2 := hb1.drew.trans (hB2.below (by omega) hsz)
             have hsz2 := hb2.size
             exact Below.grown (by (repeat (first | (with_reducible first | assumption | exact Below.refl _ _ | refine Below.drewN' ?_ _ | refine Below.drew ?_) | ((with_reducible first | refine Below.setCell ?_ ?_ _ | refine Below.alloc ?_ ?_ _); rotate_left; (· first | omega | (simp only [szW]; omega) | (dsimp only; omega)))))) hgrow (by simp; omega) (fun g hg => by have := (hO.out.lt g hg).1; omega)
          case measure =>
           have hS3 : Scn w3 (w.heap.size + 1) src (k1 + n) := Blk.grown (show Scn _ (w.heap.size + 1) src (k1 + n) by (repeat (first | (with_reducible first | assumption | refine Scn.alloc ?_ _ | refine Scn.drewN ?_ _ | refine Scn.drew ?_) | ((with_reducible refine Scn.far ?_ ?_ _); rotate_left; (· simp only [ne_eq]; omega))))) hgrow (own_ne hO.out (by omega))
           rw [hS3.c1, hS.out.c1]
           have := HK.out
           simp only [intOf]
           omega
open Go.RowKit Tk
/-! an expression without the heads of its slices -/
mutual
def Ex.bare : Ex → Ex
 | .mk h k => .mk { h with hn := ⟨none, 0⟩, hk := ⟨none, 0⟩ } (Ex.bares k)
def Ex.bares : List Ex → List Ex
 | [] => []
 | e :: l => e.bare :: Ex.bares l
end
theorem Ex.bares_map : ∀ l : List Ex, Ex.bares l = l.map Ex.bare
 | [] => rfl
 | e :: l => by rw [Ex.bares, Ex.bares_map l]; rfl
theorem Ex.bare_eq (x : Ex) : x.bare = .mk { x.h with hn := ⟨none, 0⟩, hk := ⟨none, 0⟩ } (x.kids.map Ex.bare) := by cases x; rw [Ex.bare, Ex.bares_map]; rfl
def nmX (s : ByteArray) : Ex := .mk { zH with op := 1, names := [s] } []
def opX (op : Int) (kids : List Ex) : Ex := .mk { zH with op := op } kids
def zX : Ex := .mk zH []
inductive PR where
 | none
 | err (c : Int) (at_ : Nat)
 | ok (x : Ex) (at_ : Nat)
def isM (ts : List Tok) (i : Nat) (m : ByteArray) : Bool := match ts[i]? with
 | some t => decide (t.kind = 4) && decide (t.text = m)
 | none => false
def nameAt (ts : List Tok) (i : Nat) : Option ByteArray := match ts[i]? with
 | some t => if t.kind = 1 ∧ identB t.text = true then some t.text else none
 | none => none
/-- the operator of a strength at an index, 0 if there is none -/
def opAt (ts : List Tok) (i : Nat) (n : Nat) : Int :=
 if n = 4 then (if isM ts i ⟨#[61, 61]⟩ = true then 6 else if isM ts i ⟨#[33, 61]⟩ = true then 7 else 0)
 else if n = 3 then (if isM ts i ⟨#[38, 38]⟩ = true then 3 else 0)
 else if n = 2 then (if isM ts i ⟨#[94]⟩ = true then 5 else 0)
 else if n = 1 then (if isM ts i ⟨#[124, 124]⟩ = true then 4 else 0)
 else 0
mutual
def prs (ts : List Tok) : Nat → Nat → Nat → Nat → PR
 | 0, _, _, _ => .none
 | f + 1, n, i, d =>
   if n = 5 then
    match nameAt ts i with
    | some s => .ok (nmX s) (i + 1)
    | none =>
      if isM ts i ⟨#[33]⟩ = true then
       if 12 ≤ d then .err 4 i else
       match prs ts f 5 (i + 1) (d + 1) with
       | .none => .none
       | .err c j => .err c j
       | .ok x j => .ok (opX 2 [x]) j
      else if isM ts i ⟨#[40]⟩ = true then
       if 12 ≤ d then .err 4 i else
       match prs ts f 1 (i + 1) (d + 1) with
       | .none => .none
       | .err c j => .err c j
       | .ok x j => if isM ts j ⟨#[41]⟩ = true then .ok x (j + 1) else .err 9 j
      else .err 9 i
   else
    match prs ts f (n + 1) i d with
    | .none => .none
    | .err c j => .err c j
    | .ok x j => plp ts f n x j d
def plp (ts : List Tok) : Nat → Nat → Ex → Nat → Nat → PR
 | 0, _, _, _, _ => .none
 | f + 1, n, x, j, d =>
   if opAt ts j n = 0 then .ok x j else
   match prs ts f (n + 1) (j + 1) d with
   | .none => .none
   | .err c k => .err c k
   | .ok y k => plp ts f n (opX (opAt ts j n) [x, y]) k d
end
theorem isM_lt {ts : List Tok} {i : Nat} {m : ByteArray} (h : isM ts i m = true) : i < ts.length := by
 unfold isM at h
 split at h
 · rename_i t ht; exact (List.getElem?_eq_some_iff.1 ht).1
 · cases h
theorem nameAt_lt {ts : List Tok} {i : Nat} {s : ByteArray} (h : nameAt ts i = some s) : i < ts.length := by
 unfold nameAt at h
 split at h
 · rename_i t ht; exact (List.getElem?_eq_some_iff.1 ht).1
 · cases h
theorem opAt_lt {ts : List Tok} {i n : Nat} (h : ¬ opAt ts i n = 0) : i < ts.length := by
 refine Classical.byContradiction fun hc => h ?_
 have hm : ∀ m, isM ts i m = false := fun m => by
  cases hb : isM ts i m with
  | false => rfl
  | true => exact absurd (isM_lt hb) hc
 unfold opAt
 simp [hm]
/-- the fuel suffices; what is read lies within the tokens -/
theorem prs_fuel (ts : List Tok) : ∀ f : Nat,
    (∀ n i d, 1 ≤ n → n ≤ 5 → 12 * (ts.length - i) + 2 * (6 - n) ≤ f → prs ts f n i d ≠ .none ∧ ∀ x j, prs ts f n i d = .ok x j → i < j ∧ j ≤ ts.length) ∧
    (∀ n x i d, 1 ≤ n → n ≤ 4 → i ≤ ts.length → 12 * (ts.length - i) + 2 * (6 - n) ≤ f + 1 → plp ts f n x i d ≠ .none ∧ ∀ y j, plp ts f n x i d = .ok y j → i ≤ j ∧ j ≤ ts.length)
 | 0 => ⟨fun n i d h1 h5 hf => by omega, fun n x i d h1 h4 hi hf => by omega⟩
 | f + 1 => by
   obtain ⟨ihp, ihl⟩ := prs_fuel ts f
   refine ⟨fun n i d h1 h5 hf => ?_, fun n x i d h1 h4 hi hf => ?_⟩
   · rw [prs]
     by_cases hn : n = 5
     · subst hn
       rw [if_pos rfl]
       cases hnm : nameAt ts i with
       | some s =>
         have := nameAt_lt hnm
         refine ⟨by simp, fun x j h => ?_⟩
         injection h with _ h; subst h; omega
       | none =>
         by_cases hb : isM ts i ⟨#[33]⟩ = true
         · have hl := isM_lt hb
           dsimp only
           rw [if_pos hb]
           by_cases hd : 12 ≤ d
           · rw [if_pos hd]; exact ⟨by simp, by intro x j h; cases h⟩
           · rw [if_neg hd]
             obtain ⟨a1, a2⟩ := ihp 5 (i + 1) (d + 1) (by omega) (by omega) (by omega)
             cases hr : prs ts f 5 (i + 1) (d + 1) with
             | none => exact absurd hr a1
             | err c j => exact ⟨by simp, by intro x j h; cases h⟩
             | ok x j =>
               have := a2 x j hr
               refine ⟨by simp, fun y k h => ?_⟩
               injection h with _ h; subst h; omega
         · dsimp only
           rw [if_neg hb]
           by_cases hp : isM ts i ⟨#[40]⟩ = true
           · have hl := isM_lt hp
             rw [if_pos hp]
             by_cases hd : 12 ≤ d
             · rw [if_pos hd]; exact ⟨by simp, by intro x j h; cases h⟩
             · rw [if_neg hd]
               obtain ⟨a1, a2⟩ := ihp 1 (i + 1) (d + 1) (by omega) (by omega) (by omega)
               cases hr : prs ts f 1 (i + 1) (d + 1) with
               | none => exact absurd hr a1
               | err c j => exact ⟨by simp, by intro x j h; cases h⟩
               | ok x j =>
                 have := a2 x j hr
                 dsimp only
                 by_cases hc : isM ts j ⟨#[41]⟩ = true
                 · have hl2 := isM_lt hc
                   rw [if_pos hc]
                   refine ⟨by simp, fun y k h => ?_⟩
                   injection h with _ h; subst h; omega
                 · rw [if_neg hc]; exact ⟨by simp, by intro x j h; cases h⟩
           · rw [if_neg hp]; exact ⟨by simp, by intro x j h; cases h⟩
     · rw [if_neg hn]
       obtain ⟨a1, a2⟩ := ihp (n + 1) i d (by omega) (by omega) (by omega)
       cases hr : prs ts f (n + 1) i d with
       | none => exact absurd hr a1
       | err c j => exact ⟨by simp, by intro x j h; cases h⟩
       | ok x j =>
         have := a2 x j hr
         dsimp only
         obtain ⟨b1, b2⟩ := ihl n x j d h1 (by omega) (by omega) (by omega)
         refine ⟨b1, fun y k h => ?_⟩
         have := b2 y k h
         omega
   · rw [plp]
     by_cases ho : opAt ts i n = 0
     · rw [if_pos ho]
       refine ⟨by simp, fun y k h => ?_⟩
       injection h with _ h; subst h; omega
     · have hl := opAt_lt ho
       rw [if_neg ho]
       obtain ⟨a1, a2⟩ := ihp (n + 1) (i + 1) d (by omega) (by omega) (by omega)
       cases hr : prs ts f (n + 1) (i + 1) d with
       | none => exact absurd hr a1
       | err c j => exact ⟨by simp, by intro x j h; cases h⟩
       | ok y j =>
         have := a2 y j hr
         dsimp only
         obtain ⟨b1, b2⟩ := ihl n (opX (opAt ts i n) [x, y]) j d h1 h4 (by omega) (by omega)
         refine ⟨b1, fun z k h => ?_⟩
         have := b2 z k h
         omega
def fuelP (ts : List Tok) : Nat := 12 * ts.length + 10
/-- what Tokens returns -/
inductive PT where
 | err (c : Int) (p : Int × Int)
 | ok (x : Ex) (n : Nat)
def posAt (ts : List Tok) (i : Nat) : Int × Int := match ts[i]? with
 | some t => t.pos
 | none => (0, 0)
def toksR (ts : List Tok) : PT := match prs ts (fuelP ts) 1 0 0 with
 | .none => .err 0 (0, 0)
 | .err c i => .err c (posAt ts i)
 | .ok x n => if 12 < levE x then .err 4 (posAt ts 0) else .ok x n
/-- what Parse returns -/
def parseR (s : ByteArray) : PT := match scanS s with
 | .err c p => .err c p
 | .ok ts => match toksR ts with
   | .err c p => .err c p
   | .ok x n => match ts[n]? with
     | some t => if t.kind = 0 then .ok x 0 else .err 9 t.pos
     | none => .ok x 0
end Go.Proofs.Ytbobbbhgdfapjaa
