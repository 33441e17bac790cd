/- Th -/
import Derived.Test.YtbobbbhgdfapjaaZR1
import Derived.Test.YtbobbbhgdfapjaaZR2
import Derived.Test.YtbobbbhgdfapjaaZR4
import Derived.Test.YtbobbbhgdfapjaaZR5
import Derived.Test.YtbobbbhgdfapjaaZR10
import Derived.Test.YtbobbbhgdfapjaaZR11
import Derived.Test.YtbobbbhgdfapjaaZR12
import Derived.Test.YtbobbbhgdfapjaaZR13
set_option linter.unusedSimpArgs false
set_option linter.unusedVariables false
namespace Go.Proofs.Ytbobbbhgdfapjaa
set_option maxHeartbeats 8000000
set_option maxRecDepth 100000
open Go.RowKit Tk

def TErr (b : Nat) (src : ByteArray) (c : Int) (j : Nat) (w : World) (e : Ending) (w' : World) : Prop :=
 ∃ (kd : Int) (tx : ByteArray) (l1 c1 : Int), e = .returned (.tuple #[.agg #[.int .i64 kd, .string tx, .int .i64 l1, .int .i64 c1], flt c (loc src.data.toList j).1 (loc src.data.toList j).2]) ∧ But b w w' ∧ ∃ j', j' ≤ src.size ∧ Scn w' b src j'
def TOk (b : Nat) (src t : ByteArray) (kd : Int) (k j : Nat) (w : World) (e : Ending) (w' : World) : Prop :=
 e = .returned (.tuple #[.agg #[.int .i64 kd, .string t, .int .i64 (loc src.data.toList k).1, .int .i64 (loc src.data.toList k).2], flt 0 0 0]) ∧ But b w w' ∧ Scn w' b src j

/-- the four blocks that token makes, as they lie behind a call -/
structure Four (w w1 : World) (kd l c : Int) : Prop where
 b2 : Blk w1 w.heap.size 66 #[.int .i64 0, .string ⟨#[]⟩, .int .i64 0, .int .i64 0]
 b3 : Blk w1 (w.heap.size + 1) 37 #[.int .i64 0, .int .i64 0, .int .i64 0, .string ⟨#[]⟩]
 b4 : Blk w1 (w.heap.size + 2) 66 #[.int .i64 kd, .string ⟨#[]⟩, .int .i64 l, .int .i64 c]
 b5 : Blk w1 (w.heap.size + 3) 37 #[.int .i64 0, .int .i64 0, .int .i64 0, .string ⟨#[]⟩]
theorem Four.but {w w1 w2 : World} {kd l c : Int} {b : Nat} (h : Four w w1 kd l c) (hb : But b w1 w2) (hl : b < w.heap.size) : Four w w2 kd l c :=
 ⟨h.b2.but hb (by omega), h.b3.but hb (by omega), h.b4.but hb (by omega), h.b5.but hb (by omega)⟩
theorem Four.low {w w1 w2 : World} {kd l c : Int} (h : Four w w1 kd l c) (hb : Below w1.heap.size w1 w2) : Four w w2 kd l c := ⟨h.b2.low hb, h.b3.low hb, h.b4.low hb, h.b5.low hb⟩
theorem Four.cells {w w1 : World} {kd l c : Int} (h : Four w w1 kd l c) :
    (w1.cell? ⟨w.heap.size, 0, none⟩ = some (.int .i64 0) ∧ w1.cell? ⟨w.heap.size, 1, none⟩ = some (.string ⟨#[]⟩) ∧ w1.cell? ⟨w.heap.size, 2, none⟩ = some (.int .i64 0) ∧ w1.cell? ⟨w.heap.size, 3, none⟩ = some (.int .i64 0)) ∧
    (w1.cell? ⟨w.heap.size + 1, 0, none⟩ = some (.int .i64 0) ∧ w1.cell? ⟨w.heap.size + 1, 1, none⟩ = some (.int .i64 0) ∧ w1.cell? ⟨w.heap.size + 1, 2, none⟩ = some (.int .i64 0) ∧ w1.cell? ⟨w.heap.size + 1, 3, none⟩ = some (.string ⟨#[]⟩)) ∧
    (w1.cell? ⟨w.heap.size + 2, 0, none⟩ = some (.int .i64 kd) ∧ w1.cell? ⟨w.heap.size + 2, 1, none⟩ = some (.string ⟨#[]⟩) ∧ w1.cell? ⟨w.heap.size + 2, 2, none⟩ = some (.int .i64 l) ∧ w1.cell? ⟨w.heap.size + 2, 3, none⟩ = some (.int .i64 c)) ∧
    (w1.cell? ⟨w.heap.size + 3, 0, none⟩ = some (.int .i64 0) ∧ w1.cell? ⟨w.heap.size + 3, 1, none⟩ = some (.int .i64 0) ∧ w1.cell? ⟨w.heap.size + 3, 2, none⟩ = some (.int .i64 0) ∧ w1.cell? ⟨w.heap.size + 3, 3, none⟩ = some (.string ⟨#[]⟩)) ∧
    (∀ i, w1.frozen? ⟨w.heap.size, i, none⟩ = false) ∧ (∀ i, w1.frozen? ⟨w.heap.size + 1, i, none⟩ = false) ∧ (∀ i, w1.frozen? ⟨w.heap.size + 2, i, none⟩ = false) ∧ (∀ i, w1.frozen? ⟨w.heap.size + 3, i, none⟩ = false) :=
 ⟨⟨h.b2.cell 0, h.b2.cell 1, h.b2.cell 2, h.b2.cell 3⟩, ⟨h.b3.cell 0, h.b3.cell 1, h.b3.cell 2, h.b3.cell 3⟩, ⟨h.b4.cell 0, h.b4.cell 1, h.b4.cell 2, h.b4.cell 3⟩, ⟨h.b5.cell 0, h.b5.cell 1, h.b5.cell 2, h.b5.cell 3⟩, h.b2.free, h.b3.free, h.b4.free, h.b5.free⟩
/-- as they are made -/
theorem Four.made (w : World) (kd l c : Int) :
    Four w ((((w.alloc (.cells #[.int .i64 0, .string ⟨#[]⟩, .int .i64 0, .int .i64 0] 66)).alloc (.cells #[.int .i64 0, .int .i64 0, .int .i64 0, .string ⟨#[]⟩] 37)).alloc (.cells #[.int .i64 kd, .string ⟨#[]⟩, .int .i64 l, .int .i64 c] 66)).alloc (.cells #[.int .i64 0, .int .i64 0, .int .i64 0, .string ⟨#[]⟩] 37)) kd l c := by
 have e1 := Blk.fresh w 66 #[.int .i64 0, .string ⟨#[]⟩, .int .i64 0, .int .i64 0]
 have e2 := Blk.fresh (w.alloc (.cells #[.int .i64 0, .string ⟨#[]⟩, .int .i64 0, .int .i64 0] 66)) 37 #[.int .i64 0, .int .i64 0, .int .i64 0, .string ⟨#[]⟩]
 have e3 := Blk.fresh ((w.alloc (.cells #[.int .i64 0, .string ⟨#[]⟩, .int .i64 0, .int .i64 0] 66)).alloc (.cells #[.int .i64 0, .int .i64 0, .int .i64 0, .string ⟨#[]⟩] 37)) 66 #[.int .i64 kd, .string ⟨#[]⟩, .int .i64 l, .int .i64 c]
 have e4 := Blk.fresh (((w.alloc (.cells #[.int .i64 0, .string ⟨#[]⟩, .int .i64 0, .int .i64 0] 66)).alloc (.cells #[.int .i64 0, .int .i64 0, .int .i64 0, .string ⟨#[]⟩] 37)).alloc (.cells #[.int .i64 kd, .string ⟨#[]⟩, .int .i64 l, .int .i64 c] 66)) 37 #[.int .i64 0, .int .i64 0, .int .i64 0, .string ⟨#[]⟩]
 refine ⟨((e1.alloc _).alloc _).alloc _, ?_, ?_, ?_⟩
 · simpa using (e2.alloc _).alloc _
 · simpa using e3.alloc _
 · simpa using e4

theorem Four.same {w w1 w2 : World} {kd l c : Int} (h : Four w w1 kd l c) (he : w2.heap = w1.heap) : Four w w2 kd l c :=
 ⟨Blk.of h.b2 (by rw [he]), Blk.of h.b3 (by rw [he]), Blk.of h.b4 (by rw [he]), Blk.of h.b5 (by rw [he])⟩

theorem Four.later {w w1 w2 w3 : World} {kd l c : Int} {b : Nat} (hb : But b w2 w3) (h : Four w w1 kd l c) (hl : b < w.heap.size) (he : w2.heap = w1.heap) : Four w w3 kd l c := (h.same he).but hb hl
theorem stoken_name_err (b : Nat) (src : ByteArray) (k : Nat) (w : World) (h : Scn w b src k) (hs : src.size ≤ 65536) (hlt : k < src.size) (hc : letB (src[k].toNat : Int) = true) (hn : 32 < tw nmB (src.data.toList.drop k)) :
    Calls Try.prog 40 #[.pointer (some ⟨b, 0, none⟩)] w (TErr b src 10 k w) := by
 have hl := Blk.lt h
 have a0 := h.c0
 have a1 := h.c1
 have a2 := h.c2
 have a3 := h.c3
 go_enter Try.func40, Try.ntmps40
 go_wp2_with (first | (go_at_call 53; ((with_reducible refine (snext_any b src k _ ?_ hlt).mono ?_); (· (repeat (first | (with_reducible first | assumption | refine Scn.alloc ?_ _ | refine Scn.drewN ?_ _ | refine Scn.drew ?_) | ((with_reducible refine Scn.far ?_ ?_ _); rotate_left; (· simp only [ne_eq]; omega))))); rintro e w' ⟨rfl, rfl⟩)) | (go_at_call 55; ((with_reducible refine (letter_any _ _).mono ?_); rintro e w' ⟨rfl, rfl⟩)) | (go_at_call 57; ((with_reducible refine (digit_any _ _).mono ?_); rintro e w' ⟨rfl, rfl⟩)) | (go_at_call 56; ((with_reducible refine (sname_err b src k _ ?_ hs ?_ hn).mono ?_); (· (repeat (first | (with_reducible first | assumption | refine Scn.alloc ?_ _ | refine Scn.drewN ?_ _ | refine Scn.drew ?_) | ((with_reducible refine Scn.far ?_ ?_ _); rotate_left; (· simp only [ne_eq]; omega))))); (· omega); rintro e w1 ⟨rfl, hb1, j1, hj1, hS1⟩; have F1 := Four.later hb1 (Four.made w 1 (loc src.data.toList k).1 (loc src.data.toList k).2) hl rfl; have hB1 : But b w w1 := But.trans (by (repeat (first | (with_reducible first | assumption | exact But.refl _ _ | refine But.alloc ?_ _ | refine But.drewN ?_ _ | refine But.drew ?_) | ((with_reducible refine But.set ?_ ?_ _); rotate_left; (· first | exact Or.inl rfl | exact Or.inr (by first | omega | (simp only [szW]; omega))))))) hb1; obtain ⟨⟨p0, p1, p2, p3⟩, ⟨q0, q1, q2, q3⟩, ⟨r0, r1, r2, r3⟩, ⟨t0, t1, t2, t3⟩, f2, f3, f4, f5⟩ := F1.cells; have hz1 := F1.b5.lt)))
 refine wp_region_g [w.heap.size + 3] [0, 2, 3, 0] mixed ?_ ?_
 · decide +kernel
 intro K hK
 go_wp2_with (first | ((with_reducible refine wpTag_q ?_ ?_ ?_); rfl; rfl; intro _ _) | ((with_reducible refine wpTag_w ?_ ?_ ?_); rfl; rfl; intro _ _) | ((with_reducible refine wpTag_s ?_ ?_); rfl; intro _ _; go_simp) | ((with_reducible refine wpTag_sw ?_ ?_); rfl; intro _ _; go_simp) | (with_reducible refine wpTag_nil ?_))
 refine wpTag_2 (.agg #[.int .i64 10, .int .i64 (loc src.data.toList k).1, .int .i64 (loc src.data.toList k).2, .string ⟨#[]⟩]) rfl rfl ?_ ?_
 · intro w' hk
   have e : ∀ i, w'.cell? ⟨w.heap.size + 3, i, none⟩ = _ := fun i => World.cell?_of_block (hk _ (by simp))
   go_simp
 refine wpTag_3 rfl rfl (fun K2 hK2 => ?_)
 go_wp2_with (first | ((with_reducible refine wpTag_q ?_ ?_ ?_); rfl; rfl; intro _ _) | ((with_reducible refine wpTag_w ?_ ?_ ?_); rfl; rfl; intro _ _) | ((with_reducible refine wpTag_s ?_ ?_); rfl; intro _ _; go_simp) | ((with_reducible refine wpTag_sw ?_ ?_); rfl; intro _ _; go_simp) | (with_reducible refine wpTag_nil ?_))
 refine ⟨?_, ?_⟩
 · (repeat (first | with_reducible assumption | with_reducible exact SameAt.refl _ _ | with_reducible exact SameAt.un _ _ | with_reducible exact SameAt.unN _ _ _ | ((with_reducible refine SameAt.set ?_ ?_ _); rotate_left; (· simp only [List.mem_cons, List.not_mem_nil, or_false, forall_eq_or_imp, forall_eq, ne_eq]; omega)) | ((with_reducible refine SameAt.drewN ?_ _)) | ((with_reducible refine SameAt.drew ?_))))
 go_wp2_with (first | ((with_reducible refine wpTag_q ?_ ?_ ?_); rfl; rfl; intro _ _) | ((with_reducible refine wpTag_w ?_ ?_ ?_); rfl; rfl; intro _ _) | ((with_reducible refine wpTag_s ?_ ?_); rfl; intro _ _; go_simp) | ((with_reducible refine wpTag_sw ?_ ?_); rfl; intro _ _; go_simp) | (with_reducible refine wpTag_nil ?_))
 refine bodyPost_ret (v := .tuple #[.agg #[.int .i64 1, .string ⟨#[]⟩, .int .i64 (loc src.data.toList k).1, .int .i64 (loc src.data.toList k).2], .agg #[.int .i64 10, .int .i64 (loc src.data.toList k).1, .int .i64 (loc src.data.toList k).2, .string ⟨#[]⟩]]) (by simp [results, Try.f40, go_sem, p0, p1, p2, p3, q0, q1, q2, q3]) rfl ?_
 refine ⟨1, _, _, _, rfl, ?_, j1, hj1, ?_⟩
 · (repeat (first | (with_reducible first | assumption | exact But.refl _ _ | refine But.alloc ?_ _ | refine But.drewN ?_ _ | refine But.drew ?_) | ((with_reducible refine But.set ?_ ?_ _); rotate_left; (· first | exact Or.inl rfl | exact Or.inr (by first | omega | (simp only [szW]; omega))))))
 · (repeat (first | (with_reducible first | assumption | refine Scn.alloc ?_ _ | refine Scn.drewN ?_ _ | refine Scn.drew ?_) | ((with_reducible refine Scn.far ?_ ?_ _); rotate_left; (· simp only [ne_eq]; omega))))
theorem stoken_name_ok (b : Nat) (src : ByteArray) (k : Nat) (w : World) (h : Scn w b src k) (hs : src.size ≤ 65536) (hlt : k < src.size) (hc : letB (src[k].toNat : Int) = true) (hn : ¬ 32 < tw nmB (src.data.toList.drop k)) :
    Calls Try.prog 40 #[.pointer (some ⟨b, 0, none⟩)] w (TOk b src (src.extract k (k + tw nmB (src.data.toList.drop k))) 1 k (k + tw nmB (src.data.toList.drop k)) w) := by
 have hl := Blk.lt h
 have a0 := h.c0
 have a1 := h.c1
 have a2 := h.c2
 have a3 := h.c3
 go_enter Try.func40, Try.ntmps40
 go_wp2_with (first | (go_at_call 53; ((with_reducible refine (snext_any b src k _ ?_ hlt).mono ?_); (· (repeat (first | (with_reducible first | assumption | refine Scn.alloc ?_ _ | refine Scn.drewN ?_ _ | refine Scn.drew ?_) | ((with_reducible refine Scn.far ?_ ?_ _); rotate_left; (· simp only [ne_eq]; omega))))); rintro e w' ⟨rfl, rfl⟩)) | (go_at_call 55; ((with_reducible refine (letter_any _ _).mono ?_); rintro e w' ⟨rfl, rfl⟩)) | (go_at_call 57; ((with_reducible refine (digit_any _ _).mono ?_); rintro e w' ⟨rfl, rfl⟩)) | (go_at_call 56; ((with_reducible refine (sname_ok b src k _ ?_ hs ?_ hn).mono ?_); (· (repeat (first | (with_reducible first | assumption | refine Scn.alloc ?_ _ | refine Scn.drewN ?_ _ | refine Scn.drew ?_) | ((with_reducible refine Scn.far ?_ ?_ _); rotate_left; (· simp only [ne_eq]; omega))))); (· omega); rintro e w1 ⟨rfl, hb1, hS1⟩; have F1 := Four.later hb1 (Four.made w 1 (loc src.data.toList k).1 (loc src.data.toList k).2) hl rfl; have hB1 : But b w w1 := But.trans (by (repeat (first | (with_reducible first | assumption | exact But.refl _ _ | refine But.alloc ?_ _ | refine But.drewN ?_ _ | refine But.drew ?_) | ((with_reducible refine But.set ?_ ?_ _); rotate_left; (· first | exact Or.inl rfl | exact Or.inr (by first | omega | (simp only [szW]; omega))))))) hb1; obtain ⟨⟨p0, p1, p2, p3⟩, ⟨q0, q1, q2, q3⟩, ⟨r0, r1, r2, r3⟩, ⟨t0, t1, t2, t3⟩, f2, f3, f4, f5⟩ := F1.cells; have hz1 := F1.b5.lt)))
 refine wp_region_g [w.heap.size + 3] [0, 2, 3, 0] mixed ?_ ?_
 · decide +kernel
 intro K hK
 go_wp2_with (first | ((with_reducible refine wpTag_q ?_ ?_ ?_); rfl; rfl; intro _ _) | ((with_reducible refine wpTag_w ?_ ?_ ?_); rfl; rfl; intro _ _) | ((with_reducible refine wpTag_s ?_ ?_); rfl; intro _ _; go_simp) | ((with_reducible refine wpTag_sw ?_ ?_); rfl; intro _ _; go_simp) | (with_reducible refine wpTag_nil ?_))
 refine wpTag_2 (.agg #[.int .i64 0, .int .i64 0, .int .i64 0, .string ⟨#[]⟩]) rfl rfl ?_ ?_
 · intro w' hk
   have e : ∀ i, w'.cell? ⟨w.heap.size + 3, i, none⟩ = _ := fun i => World.cell?_of_block (hk _ (by simp))
   go_simp
 refine wpTag_3 rfl rfl (fun K2 hK2 => ?_)
 go_wp2_with (first | ((with_reducible refine wpTag_q ?_ ?_ ?_); rfl; rfl; intro _ _) | ((with_reducible refine wpTag_w ?_ ?_ ?_); rfl; rfl; intro _ _) | ((with_reducible refine wpTag_s ?_ ?_); rfl; intro _ _; go_simp) | ((with_reducible refine wpTag_sw ?_ ?_); rfl; intro _ _; go_simp) | (with_reducible refine wpTag_nil ?_))
 refine ⟨?_, ?_⟩
 · (repeat (first | with_reducible assumption | with_reducible exact SameAt.refl _ _ | with_reducible exact SameAt.un _ _ | with_reducible exact SameAt.unN _ _ _ | ((with_reducible refine SameAt.set ?_ ?_ _); rotate_left; (· simp only [List.mem_cons, List.not_mem_nil, or_false, forall_eq_or_imp, forall_eq, ne_eq]; omega)) | ((with_reducible refine SameAt.drewN ?_ _)) | ((with_reducible refine SameAt.drew ?_))))
 go_wp2_with (first | ((with_reducible refine wpTag_q ?_ ?_ ?_); rfl; rfl; intro _ _) | ((with_reducible refine wpTag_w ?_ ?_ ?_); rfl; rfl; intro _ _) | ((with_reducible refine wpTag_s ?_ ?_); rfl; intro _ _; go_simp) | ((with_reducible refine wpTag_sw ?_ ?_); rfl; intro _ _; go_simp) | (with_reducible refine wpTag_nil ?_))
 refine bodyPost_ret (v := .tuple #[.agg #[.int .i64 1, .string (src.extract k (k + tw nmB (src.data.toList.drop k))), .int .i64 (loc src.data.toList k).1, .int .i64 (loc src.data.toList k).2], .agg #[.int .i64 0, .int .i64 0, .int .i64 0, .string ⟨#[]⟩]]) (by simp [results, Try.f40, go_sem, p0, p1, p2, p3, q0, q1, q2, q3]) rfl ?_
 refine ⟨rfl, ?_, ?_⟩
 · (repeat (first | (with_reducible first | assumption | exact But.refl _ _ | refine But.alloc ?_ _ | refine But.drewN ?_ _ | refine But.drew ?_) | ((with_reducible refine But.set ?_ ?_ _); rotate_left; (· first | exact Or.inl rfl | exact Or.inr (by first | omega | (simp only [szW]; omega))))))
 · (repeat (first | (with_reducible first | assumption | refine Scn.alloc ?_ _ | refine Scn.drewN ?_ _ | refine Scn.drew ?_) | ((with_reducible refine Scn.far ?_ ?_ _); rotate_left; (· simp only [ne_eq]; omega))))
theorem stoken_num_err3 (b : Nat) (src : ByteArray) (k : Nat) (w : World) (h : Scn w b src k) (hs : src.size ≤ 65536) (hlt : k < src.size) (hc : letB (src[k].toNat : Int) = false) (hd : digB (src[k].toNat : Int) = true) (hn : 9 < tw dgB (src.data.toList.drop k)) :
    Calls Try.prog 40 #[.pointer (some ⟨b, 0, none⟩)] w (TErr b src 3 k w) := by
 have hl := Blk.lt h
 have a0 := h.c0
 have a1 := h.c1
 have a2 := h.c2
 have a3 := h.c3
 go_enter Try.func40, Try.ntmps40
 go_wp2_with (first | (go_at_call 53; ((with_reducible refine (snext_any b src k _ ?_ hlt).mono ?_); (· (repeat (first | (with_reducible first | assumption | refine Scn.alloc ?_ _ | refine Scn.drewN ?_ _ | refine Scn.drew ?_) | ((with_reducible refine Scn.far ?_ ?_ _); rotate_left; (· simp only [ne_eq]; omega))))); rintro e w' ⟨rfl, rfl⟩)) | (go_at_call 55; ((with_reducible refine (letter_any _ _).mono ?_); rintro e w' ⟨rfl, rfl⟩)) | (go_at_call 57; ((with_reducible refine (digit_any _ _).mono ?_); rintro e w' ⟨rfl, rfl⟩)) | (go_at_call 58; ((with_reducible refine (snumber_err3 b src k _ ?_ hs ?_ hn).mono ?_); (· (repeat (first | (with_reducible first | assumption | refine Scn.alloc ?_ _ | refine Scn.drewN ?_ _ | refine Scn.drew ?_) | ((with_reducible refine Scn.far ?_ ?_ _); rotate_left; (· simp only [ne_eq]; omega))))); (· omega); rintro e w1 ⟨rfl, hb1, j1, hj1, hS1⟩; have F1 := Four.later hb1 (Four.made w 2 (loc src.data.toList k).1 (loc src.data.toList k).2) hl rfl; have hB1 : But b w w1 := But.trans (by (repeat (first | (with_reducible first | assumption | exact But.refl _ _ | refine But.alloc ?_ _ | refine But.drewN ?_ _ | refine But.drew ?_) | ((with_reducible refine But.set ?_ ?_ _); rotate_left; (· first | exact Or.inl rfl | exact Or.inr (by first | omega | (simp only [szW]; omega))))))) hb1; obtain ⟨⟨p0, p1, p2, p3⟩, ⟨q0, q1, q2, q3⟩, ⟨r0, r1, r2, r3⟩, ⟨t0, t1, t2, t3⟩, f2, f3, f4, f5⟩ := F1.cells; have hz1 := F1.b5.lt)))
 refine wp_region_g [w.heap.size + 3] [0, 2, 3, 0] mixed ?_ ?_
 · decide +kernel
 intro K hK
 go_wp2_with (first | ((with_reducible refine wpTag_q ?_ ?_ ?_); rfl; rfl; intro _ _) | ((with_reducible refine wpTag_w ?_ ?_ ?_); rfl; rfl; intro _ _) | ((with_reducible refine wpTag_s ?_ ?_); rfl; intro _ _; go_simp) | ((with_reducible refine wpTag_sw ?_ ?_); rfl; intro _ _; go_simp) | (with_reducible refine wpTag_nil ?_))
 refine wpTag_2 (.agg #[.int .i64 3, .int .i64 (loc src.data.toList k).1, .int .i64 (loc src.data.toList k).2, .string ⟨#[]⟩]) rfl rfl ?_ ?_
 · intro w' hk
   have e : ∀ i, w'.cell? ⟨w.heap.size + 3, i, none⟩ = _ := fun i => World.cell?_of_block (hk _ (by simp))
   go_simp
 refine wpTag_3 rfl rfl (fun K2 hK2 => ?_)
 go_wp2_with (first | ((with_reducible refine wpTag_q ?_ ?_ ?_); rfl; rfl; intro _ _) | ((with_reducible refine wpTag_w ?_ ?_ ?_); rfl; rfl; intro _ _) | ((with_reducible refine wpTag_s ?_ ?_); rfl; intro _ _; go_simp) | ((with_reducible refine wpTag_sw ?_ ?_); rfl; intro _ _; go_simp) | (with_reducible refine wpTag_nil ?_))
 refine ⟨?_, ?_⟩
 · (repeat (first | with_reducible assumption | with_reducible exact SameAt.refl _ _ | with_reducible exact SameAt.un _ _ | with_reducible exact SameAt.unN _ _ _ | ((with_reducible refine SameAt.set ?_ ?_ _); rotate_left; (· simp only [List.mem_cons, List.not_mem_nil, or_false, forall_eq_or_imp, forall_eq, ne_eq]; omega)) | ((with_reducible refine SameAt.drewN ?_ _)) | ((with_reducible refine SameAt.drew ?_))))
 go_wp2_with (first | ((with_reducible refine wpTag_q ?_ ?_ ?_); rfl; rfl; intro _ _) | ((with_reducible refine wpTag_w ?_ ?_ ?_); rfl; rfl; intro _ _) | ((with_reducible refine wpTag_s ?_ ?_); rfl; intro _ _; go_simp) | ((with_reducible refine wpTag_sw ?_ ?_); rfl; intro _ _; go_simp) | (with_reducible refine wpTag_nil ?_))
 refine bodyPost_ret (v := .tuple #[.agg #[.int .i64 2, .string ⟨#[]⟩, .int .i64 (loc src.data.toList k).1, .int .i64 (loc src.data.toList k).2], .agg #[.int .i64 3, .int .i64 (loc src.data.toList k).1, .int .i64 (loc src.data.toList k).2, .string ⟨#[]⟩]]) (by simp [results, Try.f40, go_sem, p0, p1, p2, p3, q0, q1, q2, q3]) rfl ?_
 refine ⟨2, _, _, _, rfl, ?_, j1, hj1, ?_⟩
 · (repeat (first | (with_reducible first | assumption | exact But.refl _ _ | refine But.alloc ?_ _ | refine But.drewN ?_ _ | refine But.drew ?_) | ((with_reducible refine But.set ?_ ?_ _); rotate_left; (· first | exact Or.inl rfl | exact Or.inr (by first | omega | (simp only [szW]; omega))))))
 · (repeat (first | (with_reducible first | assumption | refine Scn.alloc ?_ _ | refine Scn.drewN ?_ _ | refine Scn.drew ?_) | ((with_reducible refine Scn.far ?_ ?_ _); rotate_left; (· simp only [ne_eq]; omega))))
theorem stoken_num_err9 (b : Nat) (src : ByteArray) (k : Nat) (w : World) (h : Scn w b src k) (hs : src.size ≤ 65536) (hlt : k < src.size) (hc : letB (src[k].toNat : Int) = false) (hd : digB (src[k].toNat : Int) = true) (hn : ¬ 9 < tw dgB (src.data.toList.drop k)) (h1 : 1 < tw dgB (src.data.toList.drop k)) (hz : (src[k].toNat : Int) = 48) :
    Calls Try.prog 40 #[.pointer (some ⟨b, 0, none⟩)] w (TErr b src 9 k w) := by
 have hl := Blk.lt h
 have a0 := h.c0
 have a1 := h.c1
 have a2 := h.c2
 have a3 := h.c3
 have HZ := Lib.hid hz
 clear hz
 go_enter Try.func40, Try.ntmps40
 go_wp2_with (first | (go_at_call 53; ((with_reducible refine (snext_any b src k _ ?_ hlt).mono ?_); (· (repeat (first | (with_reducible first | assumption | refine Scn.alloc ?_ _ | refine Scn.drewN ?_ _ | refine Scn.drew ?_) | ((with_reducible refine Scn.far ?_ ?_ _); rotate_left; (· simp only [ne_eq]; omega))))); rintro e w' ⟨rfl, rfl⟩)) | (go_at_call 55; ((with_reducible refine (letter_any _ _).mono ?_); rintro e w' ⟨rfl, rfl⟩)) | (go_at_call 57; ((with_reducible refine (digit_any _ _).mono ?_); rintro e w' ⟨rfl, rfl⟩)) | (go_at_call 58; ((with_reducible refine (snumber_err9 b src k _ ?_ hs hlt hn h1 HZ.out).mono ?_); (· (repeat (first | (with_reducible first | assumption | refine Scn.alloc ?_ _ | refine Scn.drewN ?_ _ | refine Scn.drew ?_) | ((with_reducible refine Scn.far ?_ ?_ _); rotate_left; (· simp only [ne_eq]; omega))))); rintro e w1 ⟨rfl, hb1, j1, hj1, hS1⟩; have F1 := Four.later hb1 (Four.made w 2 (loc src.data.toList k).1 (loc src.data.toList k).2) hl rfl; have hB1 : But b w w1 := But.trans (by (repeat (first | (with_reducible first | assumption | exact But.refl _ _ | refine But.alloc ?_ _ | refine But.drewN ?_ _ | refine But.drew ?_) | ((with_reducible refine But.set ?_ ?_ _); rotate_left; (· first | exact Or.inl rfl | exact Or.inr (by first | omega | (simp only [szW]; omega))))))) hb1; obtain ⟨⟨p0, p1, p2, p3⟩, ⟨q0, q1, q2, q3⟩, ⟨r0, r1, r2, r3⟩, ⟨t0, t1, t2, t3⟩, f2, f3, f4, f5⟩ := F1.cells; have hz1 := F1.b5.lt)))
 refine wp_region_g [w.heap.size + 3] [0, 2, 3, 0] mixed ?_ ?_
 · decide +kernel
 intro K hK
 go_wp2_with (first | ((with_reducible refine wpTag_q ?_ ?_ ?_); rfl; rfl; intro _ _) | ((with_reducible refine wpTag_w ?_ ?_ ?_); rfl; rfl; intro _ _) | ((with_reducible refine wpTag_s ?_ ?_); rfl; intro _ _; go_simp) | ((with_reducible refine wpTag_sw ?_ ?_); rfl; intro _ _; go_simp) | (with_reducible refine wpTag_nil ?_))
 refine wpTag_2 (.agg #[.int .i64 9, .int .i64 (loc src.data.toList k).1, .int .i64 (loc src.data.toList k).2, .string ⟨#[]⟩]) rfl rfl ?_ ?_
 · intro w' hk
   have e : ∀ i, w'.cell? ⟨w.heap.size + 3, i, none⟩ = _ := fun i => World.cell?_of_block (hk _ (by simp))
   go_simp
 refine wpTag_3 rfl rfl (fun K2 hK2 => ?_)
 go_wp2_with (first | ((with_reducible refine wpTag_q ?_ ?_ ?_); rfl; rfl; intro _ _) | ((with_reducible refine wpTag_w ?_ ?_ ?_); rfl; rfl; intro _ _) | ((with_reducible refine wpTag_s ?_ ?_); rfl; intro _ _; go_simp) | ((with_reducible refine wpTag_sw ?_ ?_); rfl; intro _ _; go_simp) | (with_reducible refine wpTag_nil ?_))
 refine ⟨?_, ?_⟩
 · (repeat (first | with_reducible assumption | with_reducible exact SameAt.refl _ _ | with_reducible exact SameAt.un _ _ | with_reducible exact SameAt.unN _ _ _ | ((with_reducible refine SameAt.set ?_ ?_ _); rotate_left; (· simp only [List.mem_cons, List.not_mem_nil, or_false, forall_eq_or_imp, forall_eq, ne_eq]; omega)) | ((with_reducible refine SameAt.drewN ?_ _)) | ((with_reducible refine SameAt.drew ?_))))
 go_wp2_with (first | ((with_reducible refine wpTag_q ?_ ?_ ?_); rfl; rfl; intro _ _) | ((with_reducible refine wpTag_w ?_ ?_ ?_); rfl; rfl; intro _ _) | ((with_reducible refine wpTag_s ?_ ?_); rfl; intro _ _; go_simp) | ((with_reducible refine wpTag_sw ?_ ?_); rfl; intro _ _; go_simp) | (with_reducible refine wpTag_nil ?_))
 refine bodyPost_ret (v := .tuple #[.agg #[.int .i64 2, .string ⟨#[]⟩, .int .i64 (loc src.data.toList k).1, .int .i64 (loc src.data.toList k).2], .agg #[.int .i64 9, .int .i64 (loc src.data.toList k).1, .int .i64 (loc src.data.toList k).2, .string ⟨#[]⟩]]) (by simp [results, Try.f40, go_sem, p0, p1, p2, p3, q0, q1, q2, q3]) rfl ?_
 refine ⟨2, _, _, _, rfl, ?_, j1, hj1, ?_⟩
 · (repeat (first | (with_reducible first | assumption | exact But.refl _ _ | refine But.alloc ?_ _ | refine But.drewN ?_ _ | refine But.drew ?_) | ((with_reducible refine But.set ?_ ?_ _); rotate_left; (· first | exact Or.inl rfl | exact Or.inr (by first | omega | (simp only [szW]; omega))))))
 · (repeat (first | (with_reducible first | assumption | refine Scn.alloc ?_ _ | refine Scn.drewN ?_ _ | refine Scn.drew ?_) | ((with_reducible refine Scn.far ?_ ?_ _); rotate_left; (· simp only [ne_eq]; omega))))
theorem stoken_num_ok (b : Nat) (src : ByteArray) (k : Nat) (w : World) (h : Scn w b src k) (hs : src.size ≤ 65536) (hlt : k < src.size) (hc : letB (src[k].toNat : Int) = false) (hd : digB (src[k].toNat : Int) = true) (hn : ¬ 9 < tw dgB (src.data.toList.drop k)) (hz : ¬ 1 < tw dgB (src.data.toList.drop k) ∨ ¬ (src[k].toNat : Int) = 48) :
    Calls Try.prog 40 #[.pointer (some ⟨b, 0, none⟩)] w (TOk b src (src.extract k (k + tw dgB (src.data.toList.drop k))) 2 k (k + tw dgB (src.data.toList.drop k)) w) := by
 have hl := Blk.lt h
 have a0 := h.c0
 have a1 := h.c1
 have a2 := h.c2
 have a3 := h.c3
 have HZ := Lib.hid hz
 clear hz
 go_enter Try.func40, Try.ntmps40
 go_wp2_with (first | (go_at_call 53; ((with_reducible refine (snext_any b src k _ ?_ hlt).mono ?_); (· (repeat (first | (with_reducible first | assumption | refine Scn.alloc ?_ _ | refine Scn.drewN ?_ _ | refine Scn.drew ?_) | ((with_reducible refine Scn.far ?_ ?_ _); rotate_left; (· simp only [ne_eq]; omega))))); rintro e w' ⟨rfl, rfl⟩)) | (go_at_call 55; ((with_reducible refine (letter_any _ _).mono ?_); rintro e w' ⟨rfl, rfl⟩)) | (go_at_call 57; ((with_reducible refine (digit_any _ _).mono ?_); rintro e w' ⟨rfl, rfl⟩)) | (go_at_call 58; ((with_reducible refine (snumber_ok b src k _ ?_ hs hlt hn HZ.out).mono ?_); (· (repeat (first | (with_reducible first | assumption | refine Scn.alloc ?_ _ | refine Scn.drewN ?_ _ | refine Scn.drew ?_) | ((with_reducible refine Scn.far ?_ ?_ _); rotate_left; (· simp only [ne_eq]; omega))))); rintro e w1 ⟨rfl, hb1, hS1⟩; have F1 := Four.later hb1 (Four.made w 2 (loc src.data.toList k).1 (loc src.data.toList k).2) hl rfl; have hB1 : But b w w1 := But.trans (by (repeat (first | (with_reducible first | assumption | exact But.refl _ _ | refine But.alloc ?_ _ | refine But.drewN ?_ _ | refine But.drew ?_) | ((with_reducible refine But.set ?_ ?_ _); rotate_left; (· first | exact Or.inl rfl | exact Or.inr (by first | omega | (simp only [szW]; omega))))))) hb1; obtain ⟨⟨p0, p1, p2, p3⟩, ⟨q0, q1, q2, q3⟩, ⟨r0, r1, r2, r3⟩, ⟨t0, t1, t2, t3⟩, f2, f3, f4, f5⟩ := F1.cells; have hz1 := F1.b5.lt)))
 refine wp_region_g [w.heap.size + 3] [0, 2, 3, 0] mixed ?_ ?_
 · decide +kernel
 intro K hK
 go_wp2_with (first | ((with_reducible refine wpTag_q ?_ ?_ ?_); rfl; rfl; intro _ _) | ((with_reducible refine wpTag_w ?_ ?_ ?_); rfl; rfl; intro _ _) | ((with_reducible refine wpTag_s ?_ ?_); rfl; intro _ _; go_simp) | ((with_reducible refine wpTag_sw ?_ ?_); rfl; intro _ _; go_simp) | (with_reducible refine wpTag_nil ?_))
 refine wpTag_2 (.agg #[.int .i64 0, .int .i64 0, .int .i64 0, .string ⟨#[]⟩]) rfl rfl ?_ ?_
 · intro w' hk
   have e : ∀ i, w'.cell? ⟨w.heap.size + 3, i, none⟩ = _ := fun i => World.cell?_of_block (hk _ (by simp))
   go_simp
 refine wpTag_3 rfl rfl (fun K2 hK2 => ?_)
 go_wp2_with (first | ((with_reducible refine wpTag_q ?_ ?_ ?_); rfl; rfl; intro _ _) | ((with_reducible refine wpTag_w ?_ ?_ ?_); rfl; rfl; intro _ _) | ((with_reducible refine wpTag_s ?_ ?_); rfl; intro _ _; go_simp) | ((with_reducible refine wpTag_sw ?_ ?_); rfl; intro _ _; go_simp) | (with_reducible refine wpTag_nil ?_))
 refine ⟨?_, ?_⟩
 · (repeat (first | with_reducible assumption | with_reducible exact SameAt.refl _ _ | with_reducible exact SameAt.un _ _ | with_reducible exact SameAt.unN _ _ _ | ((with_reducible refine SameAt.set ?_ ?_ _); rotate_left; (· simp only [List.mem_cons, List.not_mem_nil, or_false, forall_eq_or_imp, forall_eq, ne_eq]; omega)) | ((with_reducible refine SameAt.drewN ?_ _)) | ((with_reducible refine SameAt.drew ?_))))
 go_wp2_with (first | ((with_reducible refine wpTag_q ?_ ?_ ?_); rfl; rfl; intro _ _) | ((with_reducible refine wpTag_w ?_ ?_ ?_); rfl; rfl; intro _ _) | ((with_reducible refine wpTag_s ?_ ?_); rfl; intro _ _; go_simp) | ((with_reducible refine wpTag_sw ?_ ?_); rfl; intro _ _; go_simp) | (with_reducible refine wpTag_nil ?_))
 refine bodyPost_ret (v := .tuple #[.agg #[.int .i64 2, .string (src.extract k (k + tw dgB (src.data.toList.drop k))), .int .i64 (loc src.data.toList k).1, .int .i64 (loc src.data.toList k).2], .agg #[.int .i64 0, .int .i64 0, .int .i64 0, .string ⟨#[]⟩]]) (by simp [results, Try.f40, go_sem, p0, p1, p2, p3, q0, q1, q2, q3]) rfl ?_
 refine ⟨rfl, ?_, ?_⟩
 · (repeat (first | (with_reducible first | assumption | exact But.refl _ _ | refine But.alloc ?_ _ | refine But.drewN ?_ _ | refine But.drew ?_) | ((with_reducible refine But.set ?_ ?_ _); rotate_left; (· first | exact Or.inl rfl | exact Or.inr (by first | omega | (simp only [szW]; omega))))))
 · (repeat (first | (with_reducible first | assumption | refine Scn.alloc ?_ _ | refine Scn.drewN ?_ _ | refine Scn.drew ?_) | ((with_reducible refine Scn.far ?_ ?_ _); rotate_left; (· simp only [ne_eq]; omega))))
theorem stoken_text_err5 (b : Nat) (src : ByteArray) (k : Nat) (w : World) (h : Scn w b src k) (hs : src.size ≤ 65536) (hlt : k < src.size) (hc : letB (src[k].toNat : Int) = false) (hd : digB (src[k].toNat : Int) = false) (hq0 : ((src[k].toNat : Int) == 34) = true) (hn : src.size ≤ k + 1 + tw ptB (src.data.toList.drop (k + 1))) :
    Calls Try.prog 40 #[.pointer (some ⟨b, 0, none⟩)] w (TErr b src 5 k w) := by
 have hl := Blk.lt h
 have a0 := h.c0
 have a1 := h.c1
 have a2 := h.c2
 have a3 := h.c3
 go_enter Try.func40, Try.ntmps40
 go_wp2_with (first | (go_at_call 53; ((with_reducible refine (snext_any b src k _ ?_ hlt).mono ?_); (· (repeat (first | (with_reducible first | assumption | refine Scn.alloc ?_ _ | refine Scn.drewN ?_ _ | refine Scn.drew ?_) | ((with_reducible refine Scn.far ?_ ?_ _); rotate_left; (· simp only [ne_eq]; omega))))); rintro e w' ⟨rfl, rfl⟩)) | (go_at_call 55; ((with_reducible refine (letter_any _ _).mono ?_); rintro e w' ⟨rfl, rfl⟩)) | (go_at_call 57; ((with_reducible refine (digit_any _ _).mono ?_); rintro e w' ⟨rfl, rfl⟩)) | (go_at_call 59; ((with_reducible refine (stext_err5 b src k _ ?_ hs hlt hn).mono ?_); (· (repeat (first | (with_reducible first | assumption | refine Scn.alloc ?_ _ | refine Scn.drewN ?_ _ | refine Scn.drew ?_) | ((with_reducible refine Scn.far ?_ ?_ _); rotate_left; (· simp only [ne_eq]; omega))))); rintro e w1 ⟨rfl, hb1, j1, hj1, hS1⟩; have F1 := Four.later hb1 (Four.made w 3 (loc src.data.toList k).1 (loc src.data.toList k).2) hl rfl; have hB1 : But b w w1 := But.trans (by (repeat (first | (with_reducible first | assumption | exact But.refl _ _ | refine But.alloc ?_ _ | refine But.drewN ?_ _ | refine But.drew ?_) | ((with_reducible refine But.set ?_ ?_ _); rotate_left; (· first | exact Or.inl rfl | exact Or.inr (by first | omega | (simp only [szW]; omega))))))) hb1; obtain ⟨⟨p0, p1, p2, p3⟩, ⟨q0, q1, q2, q3⟩, ⟨r0, r1, r2, r3⟩, ⟨t0, t1, t2, t3⟩, f2, f3, f4, f5⟩ := F1.cells; have hz1 := F1.b5.lt)))
 refine wp_region_g [w.heap.size + 3] [0, 2, 3, 0] mixed ?_ ?_
 · decide +kernel
 intro K hK
 go_wp2_with (first | ((with_reducible refine wpTag_q ?_ ?_ ?_); rfl; rfl; intro _ _) | ((with_reducible refine wpTag_w ?_ ?_ ?_); rfl; rfl; intro _ _) | ((with_reducible refine wpTag_s ?_ ?_); rfl; intro _ _; go_simp) | ((with_reducible refine wpTag_sw ?_ ?_); rfl; intro _ _; go_simp) | (with_reducible refine wpTag_nil ?_))
 refine wpTag_2 (.agg #[.int .i64 5, .int .i64 (loc src.data.toList k).1, .int .i64 (loc src.data.toList k).2, .string ⟨#[]⟩]) rfl rfl ?_ ?_
 · intro w' hk
   have e : ∀ i, w'.cell? ⟨w.heap.size + 3, i, none⟩ = _ := fun i => World.cell?_of_block (hk _ (by simp))
   go_simp
 refine wpTag_3 rfl rfl (fun K2 hK2 => ?_)
 go_wp2_with (first | ((with_reducible refine wpTag_q ?_ ?_ ?_); rfl; rfl; intro _ _) | ((with_reducible refine wpTag_w ?_ ?_ ?_); rfl; rfl; intro _ _) | ((with_reducible refine wpTag_s ?_ ?_); rfl; intro _ _; go_simp) | ((with_reducible refine wpTag_sw ?_ ?_); rfl; intro _ _; go_simp) | (with_reducible refine wpTag_nil ?_))
 refine ⟨?_, ?_⟩
 · (repeat (first | with_reducible assumption | with_reducible exact SameAt.refl _ _ | with_reducible exact SameAt.un _ _ | with_reducible exact SameAt.unN _ _ _ | ((with_reducible refine SameAt.set ?_ ?_ _); rotate_left; (· simp only [List.mem_cons, List.not_mem_nil, or_false, forall_eq_or_imp, forall_eq, ne_eq]; omega)) | ((with_reducible refine SameAt.drewN ?_ _)) | ((with_reducible refine SameAt.drew ?_))))
 go_wp2_with (first | ((with_reducible refine wpTag_q ?_ ?_ ?_); rfl; rfl; intro _ _) | ((with_reducible refine wpTag_w ?_ ?_ ?_); rfl; rfl; intro _ _) | ((with_reducible refine wpTag_s ?_ ?_); rfl; intro _ _; go_simp) | ((with_reducible refine wpTag_sw ?_ ?_); rfl; intro _ _; go_simp) | (with_reducible refine wpTag_nil ?_))
 refine bodyPost_ret (v := .tuple #[.agg #[.int .i64 3, .string ⟨#[]⟩, .int .i64 (loc src.data.toList k).1, .int .i64 (loc src.data.toList k).2], .agg #[.int .i64 5, .int .i64 (loc src.data.toList k).1, .int .i64 (loc src.data.toList k).2, .string ⟨#[]⟩]]) (by simp [results, Try.f40, go_sem, p0, p1, p2, p3, q0, q1, q2, q3]) rfl ?_
 refine ⟨3, _, _, _, rfl, ?_, j1, hj1, ?_⟩
 · (repeat (first | (with_reducible first | assumption | exact But.refl _ _ | refine But.alloc ?_ _ | refine But.drewN ?_ _ | refine But.drew ?_) | ((with_reducible refine But.set ?_ ?_ _); rotate_left; (· first | exact Or.inl rfl | exact Or.inr (by first | omega | (simp only [szW]; omega))))))
 · (repeat (first | (with_reducible first | assumption | refine Scn.alloc ?_ _ | refine Scn.drewN ?_ _ | refine Scn.drew ?_) | ((with_reducible refine Scn.far ?_ ?_ _); rotate_left; (· simp only [ne_eq]; omega))))
theorem stoken_text_err9 (b : Nat) (src : ByteArray) (k : Nat) (w : World) (h : Scn w b src k) (hs : src.size ≤ 65536) (hlt : k < src.size) (hc : letB (src[k].toNat : Int) = false) (hd : digB (src[k].toNat : Int) = false) (hq0 : ((src[k].toNat : Int) == 34) = true) (hn : k + 1 + tw ptB (src.data.toList.drop (k + 1)) < src.size) (hq : ¬ (src[k + 1 + tw ptB (src.data.toList.drop (k + 1))].toNat : Int) = 34) :
    Calls Try.prog 40 #[.pointer (some ⟨b, 0, none⟩)] w (TErr b src 9 (k + 1 + tw ptB (src.data.toList.drop (k + 1))) w) := by
 have hl := Blk.lt h
 have a0 := h.c0
 have a1 := h.c1
 have a2 := h.c2
 have a3 := h.c3
 have HQ := Lib.hid hq
 clear hq
 go_enter Try.func40, Try.ntmps40
 go_wp2_with (first | (go_at_call 53; ((with_reducible refine (snext_any b src k _ ?_ hlt).mono ?_); (· (repeat (first | (with_reducible first | assumption | refine Scn.alloc ?_ _ | refine Scn.drewN ?_ _ | refine Scn.drew ?_) | ((with_reducible refine Scn.far ?_ ?_ _); rotate_left; (· simp only [ne_eq]; omega))))); rintro e w' ⟨rfl, rfl⟩)) | (go_at_call 55; ((with_reducible refine (letter_any _ _).mono ?_); rintro e w' ⟨rfl, rfl⟩)) | (go_at_call 57; ((with_reducible refine (digit_any _ _).mono ?_); rintro e w' ⟨rfl, rfl⟩)) | (go_at_call 59; ((with_reducible refine (stext_err9 b src k _ ?_ hs hlt hn HQ.out).mono ?_); (· (repeat (first | (with_reducible first | assumption | refine Scn.alloc ?_ _ | refine Scn.drewN ?_ _ | refine Scn.drew ?_) | ((with_reducible refine Scn.far ?_ ?_ _); rotate_left; (· simp only [ne_eq]; omega))))); rintro e w1 ⟨rfl, hb1, j1, hj1, hS1⟩; have F1 := Four.later hb1 (Four.made w 3 (loc src.data.toList k).1 (loc src.data.toList k).2) hl rfl; have hB1 : But b w w1 := But.trans (by (repeat (first | (with_reducible first | assumption | exact But.refl _ _ | refine But.alloc ?_ _ | refine But.drewN ?_ _ | refine But.drew ?_) | ((with_reducible refine But.set ?_ ?_ _); rotate_left; (· first | exact Or.inl rfl | exact Or.inr (by first | omega | (simp only [szW]; omega))))))) hb1; obtain ⟨⟨p0, p1, p2, p3⟩, ⟨q0, q1, q2, q3⟩, ⟨r0, r1, r2, r3⟩, ⟨t0, t1, t2, t3⟩, f2, f3, f4, f5⟩ := F1.cells; have hz1 := F1.b5.lt)))
 refine wp_region_g [w.heap.size + 3] [0, 2, 3, 0] mixed ?_ ?_
 · decide +kernel
 intro K hK
 go_wp2_with (first | ((with_reducible refine wpTag_q ?_ ?_ ?_); rfl; rfl; intro _ _) | ((with_reducible refine wpTag_w ?_ ?_ ?_); rfl; rfl; intro _ _) | ((with_reducible refine wpTag_s ?_ ?_); rfl; intro _ _; go_simp) | ((with_reducible refine wpTag_sw ?_ ?_); rfl; intro _ _; go_simp) | (with_reducible refine wpTag_nil ?_))
 refine wpTag_2 (.agg #[.int .i64 9, .int .i64 (loc src.data.toList (k + 1 + tw ptB (src.data.toList.drop (k + 1)))).1, .int .i64 (loc src.data.toList (k + 1 + tw ptB (src.data.toList.drop (k + 1)))).2, .string ⟨#[]⟩]) rfl rfl ?_ ?_
 · intro w' hk
   have e : ∀ i, w'.cell? ⟨w.heap.size + 3, i, none⟩ = _ := fun i => World.cell?_of_block (hk _ (by simp))
   go_simp
 refine wpTag_3 rfl rfl (fun K2 hK2 => ?_)
 go_wp2_with (first | ((with_reducible refine wpTag_q ?_ ?_ ?_); rfl; rfl; intro _ _) | ((with_reducible refine wpTag_w ?_ ?_ ?_); rfl; rfl; intro _ _) | ((with_reducible refine wpTag_s ?_ ?_); rfl; intro _ _; go_simp) | ((with_reducible refine wpTag_sw ?_ ?_); rfl; intro _ _; go_simp) | (with_reducible refine wpTag_nil ?_))
 refine ⟨?_, ?_⟩
 · (repeat (first | with_reducible assumption | with_reducible exact SameAt.refl _ _ | with_reducible exact SameAt.un _ _ | with_reducible exact SameAt.unN _ _ _ | ((with_reducible refine SameAt.set ?_ ?_ _); rotate_left; (· simp only [List.mem_cons, List.not_mem_nil, or_false, forall_eq_or_imp, forall_eq, ne_eq]; omega)) | ((with_reducible refine SameAt.drewN ?_ _)) | ((with_reducible refine SameAt.drew ?_))))
 go_wp2_with (first | ((with_reducible refine wpTag_q ?_ ?_ ?_); rfl; rfl; intro _ _) | ((with_reducible refine wpTag_w ?_ ?_ ?_); rfl; rfl; intro _ _) | ((with_reducible refine wpTag_s ?_ ?_); rfl; intro _ _; go_simp) | ((with_reducible refine wpTag_sw ?_ ?_); rfl; intro _ _; go_simp) | (with_reducible refine wpTag_nil ?_))
 refine bodyPost_ret (v := .tuple #[.agg #[.int .i64 3, .string ⟨#[]⟩, .int .i64 (loc src.data.toList k).1, .int .i64 (loc src.data.toList k).2], .agg #[.int .i64 9, .int .i64 (loc src.data.toList (k + 1 + tw ptB (src.data.toList.drop (k + 1)))).1, .int .i64 (loc src.data.toList (k + 1 + tw ptB (src.data.toList.drop (k + 1)))).2, .string ⟨#[]⟩]]) (by simp [results, Try.f40, go_sem, p0, p1, p2, p3, q0, q1, q2, q3]) rfl ?_
 refine ⟨3, _, _, _, rfl, ?_, j1, hj1, ?_⟩
 · (repeat (first | (with_reducible first | assumption | exact But.refl _ _ | refine But.alloc ?_ _ | refine But.drewN ?_ _ | refine But.drew ?_) | ((with_reducible refine But.set ?_ ?_ _); rotate_left; (· first | exact Or.inl rfl | exact Or.inr (by first | omega | (simp only [szW]; omega))))))
 · (repeat (first | (with_reducible first | assumption | refine Scn.alloc ?_ _ | refine Scn.drewN ?_ _ | refine Scn.drew ?_) | ((with_reducible refine Scn.far ?_ ?_ _); rotate_left; (· simp only [ne_eq]; omega))))
theorem stoken_text_err4 (b : Nat) (src : ByteArray) (k : Nat) (w : World) (h : Scn w b src k) (hs : src.size ≤ 65536) (hlt : k < src.size) (hc : letB (src[k].toNat : Int) = false) (hd : digB (src[k].toNat : Int) = false) (hq0 : ((src[k].toNat : Int) == 34) = true) (hn : k + 1 + tw ptB (src.data.toList.drop (k + 1)) < src.size) (hq : (src[k + 1 + tw ptB (src.data.toList.drop (k + 1))].toNat : Int) = 34) (hm : 256 < tw ptB (src.data.toList.drop (k + 1))) :
    Calls Try.prog 40 #[.pointer (some ⟨b, 0, none⟩)] w (TErr b src 4 k w) := by
 have hl := Blk.lt h
 have a0 := h.c0
 have a1 := h.c1
 have a2 := h.c2
 have a3 := h.c3
 have HQ := Lib.hid hq
 clear hq
 go_enter Try.func40, Try.ntmps40
 go_wp2_with (first | (go_at_call 53; ((with_reducible refine (snext_any b src k _ ?_ hlt).mono ?_); (· (repeat (first | (with_reducible first | assumption | refine Scn.alloc ?_ _ | refine Scn.drewN ?_ _ | refine Scn.drew ?_) | ((with_reducible refine Scn.far ?_ ?_ _); rotate_left; (· simp only [ne_eq]; omega))))); rintro e w' ⟨rfl, rfl⟩)) | (go_at_call 55; ((with_reducible refine (letter_any _ _).mono ?_); rintro e w' ⟨rfl, rfl⟩)) | (go_at_call 57; ((with_reducible refine (digit_any _ _).mono ?_); rintro e w' ⟨rfl, rfl⟩)) | (go_at_call 59; ((with_reducible refine (stext_err4 b src k _ ?_ hs hlt hn HQ.out hm).mono ?_); (· (repeat (first | (with_reducible first | assumption | refine Scn.alloc ?_ _ | refine Scn.drewN ?_ _ | refine Scn.drew ?_) | ((with_reducible refine Scn.far ?_ ?_ _); rotate_left; (· simp only [ne_eq]; omega))))); rintro e w1 ⟨rfl, hb1, j1, hj1, hS1⟩; have F1 := Four.later hb1 (Four.made w 3 (loc src.data.toList k).1 (loc src.data.toList k).2) hl rfl; have hB1 : But b w w1 := But.trans (by (repeat (first | (with_reducible first | assumption | exact But.refl _ _ | refine But.alloc ?_ _ | refine But.drewN ?_ _ | refine But.drew ?_) | ((with_reducible refine But.set ?_ ?_ _); rotate_left; (· first | exact Or.inl rfl | exact Or.inr (by first | omega | (simp only [szW]; omega))))))) hb1; obtain ⟨⟨p0, p1, p2, p3⟩, ⟨q0, q1, q2, q3⟩, ⟨r0, r1, r2, r3⟩, ⟨t0, t1, t2, t3⟩, f2, f3, f4, f5⟩ := F1.cells; have hz1 := F1.b5.lt)))
 refine wp_region_g [w.heap.size + 3] [0, 2, 3, 0] mixed ?_ ?_
 · decide +kernel
 intro K hK
 go_wp2_with (first | ((with_reducible refine wpTag_q ?_ ?_ ?_); rfl; rfl; intro _ _) | ((with_reducible refine wpTag_w ?_ ?_ ?_); rfl; rfl; intro _ _) | ((with_reducible refine wpTag_s ?_ ?_); rfl; intro _ _; go_simp) | ((with_reducible refine wpTag_sw ?_ ?_); rfl; intro _ _; go_simp) | (with_reducible refine wpTag_nil ?_))
 refine wpTag_2 (.agg #[.int .i64 4, .int .i64 (loc src.data.toList k).1, .int .i64 (loc src.data.toList k).2, .string ⟨#[]⟩]) rfl rfl ?_ ?_
 · intro w' hk
   have e : ∀ i, w'.cell? ⟨w.heap.size + 3, i, none⟩ = _ := fun i => World.cell?_of_block (hk _ (by simp))
   go_simp
 refine wpTag_3 rfl rfl (fun K2 hK2 => ?_)
 go_wp2_with (first | ((with_reducible refine wpTag_q ?_ ?_ ?_); rfl; rfl; intro _ _) | ((with_reducible refine wpTag_w ?_ ?_ ?_); rfl; rfl; intro _ _) | ((with_reducible refine wpTag_s ?_ ?_); rfl; intro _ _; go_simp) | ((with_reducible refine wpTag_sw ?_ ?_); rfl; intro _ _; go_simp) | (with_reducible refine wpTag_nil ?_))
 refine ⟨?_, ?_⟩
 · (repeat (first | with_reducible assumption | with_reducible exact SameAt.refl _ _ | with_reducible exact SameAt.un _ _ | with_reducible exact SameAt.unN _ _ _ | ((with_reducible refine SameAt.set ?_ ?_ _); rotate_left; (· simp only [List.mem_cons, List.not_mem_nil, or_false, forall_eq_or_imp, forall_eq, ne_eq]; omega)) | ((with_reducible refine SameAt.drewN ?_ _)) | ((with_reducible refine SameAt.drew ?_))))
 go_wp2_with (first | ((with_reducible refine wpTag_q ?_ ?_ ?_); rfl; rfl; intro _ _) | ((with_reducible refine wpTag_w ?_ ?_ ?_); rfl; rfl; intro _ _) | ((with_reducible refine wpTag_s ?_ ?_); rfl; intro _ _; go_simp) | ((with_reducible refine wpTag_sw ?_ ?_); rfl; intro _ _; go_simp) | (with_reducible refine wpTag_nil ?_))
 refine bodyPost_ret (v := .tuple #[.agg #[.int .i64 3, .string ⟨#[]⟩, .int .i64 (loc src.data.toList k).1, .int .i64 (loc src.data.toList k).2], .agg #[.int .i64 4, .int .i64 (loc src.data.toList k).1, .int .i64 (loc src.data.toList k).2, .string ⟨#[]⟩]]) (by simp [results, Try.f40, go_sem, p0, p1, p2, p3, q0, q1, q2, q3]) rfl ?_
 refine ⟨3, _, _, _, rfl, ?_, j1, hj1, ?_⟩
 · (repeat (first | (with_reducible first | assumption | exact But.refl _ _ | refine But.alloc ?_ _ | refine But.drewN ?_ _ | refine But.drew ?_) | ((with_reducible refine But.set ?_ ?_ _); rotate_left; (· first | exact Or.inl rfl | exact Or.inr (by first | omega | (simp only [szW]; omega))))))
 · (repeat (first | (with_reducible first | assumption | refine Scn.alloc ?_ _ | refine Scn.drewN ?_ _ | refine Scn.drew ?_) | ((with_reducible refine Scn.far ?_ ?_ _); rotate_left; (· simp only [ne_eq]; omega))))
theorem stoken_text_ok (b : Nat) (src : ByteArray) (k : Nat) (w : World) (h : Scn w b src k) (hs : src.size ≤ 65536) (hlt : k < src.size) (hc : letB (src[k].toNat : Int) = false) (hd : digB (src[k].toNat : Int) = false) (hq0 : ((src[k].toNat : Int) == 34) = true) (hn : k + 1 + tw ptB (src.data.toList.drop (k + 1)) < src.size) (hq : (src[k + 1 + tw ptB (src.data.toList.drop (k + 1))].toNat : Int) = 34) (hm : ¬ 256 < tw ptB (src.data.toList.drop (k + 1))) :
    Calls Try.prog 40 #[.pointer (some ⟨b, 0, none⟩)] w (TOk b src (src.extract (k + 1) (k + 1 + tw ptB (src.data.toList.drop (k + 1)))) 3 k (k + 1 + tw ptB (src.data.toList.drop (k + 1)) + 1) w) := by
 have hl := Blk.lt h
 have a0 := h.c0
 have a1 := h.c1
 have a2 := h.c2
 have a3 := h.c3
 have HQ := Lib.hid hq
 clear hq
 go_enter Try.func40, Try.ntmps40
 go_wp2_with (first | (go_at_call 53; ((with_reducible refine (snext_any b src k _ ?_ hlt).mono ?_); (· (repeat (first | (with_reducible first | assumption | refine Scn.alloc ?_ _ | refine Scn.drewN ?_ _ | refine Scn.drew ?_) | ((with_reducible refine Scn.far ?_ ?_ _); rotate_left; (· simp only [ne_eq]; omega))))); rintro e w' ⟨rfl, rfl⟩)) | (go_at_call 55; ((with_reducible refine (letter_any _ _).mono ?_); rintro e w' ⟨rfl, rfl⟩)) | (go_at_call 57; ((with_reducible refine (digit_any _ _).mono ?_); rintro e w' ⟨rfl, rfl⟩)) | (go_at_call 59; ((with_reducible refine (stext_ok b src k _ ?_ hs hlt hn HQ.out hm).mono ?_); (· (repeat (first | (with_reducible first | assumption | refine Scn.alloc ?_ _ | refine Scn.drewN ?_ _ | refine Scn.drew ?_) | ((with_reducible refine Scn.far ?_ ?_ _); rotate_left; (· simp only [ne_eq]; omega))))); rintro e w1 ⟨rfl, hb1, hS1⟩; have F1 := Four.later hb1 (Four.made w 3 (loc src.data.toList k).1 (loc src.data.toList k).2) hl rfl; have hB1 : But b w w1 := But.trans (by (repeat (first | (with_reducible first | assumption | exact But.refl _ _ | refine But.alloc ?_ _ | refine But.drewN ?_ _ | refine But.drew ?_) | ((with_reducible refine But.set ?_ ?_ _); rotate_left; (· first | exact Or.inl rfl | exact Or.inr (by first | omega | (simp only [szW]; omega))))))) hb1; obtain ⟨⟨p0, p1, p2, p3⟩, ⟨q0, q1, q2, q3⟩, ⟨r0, r1, r2, r3⟩, ⟨t0, t1, t2, t3⟩, f2, f3, f4, f5⟩ := F1.cells; have hz1 := F1.b5.lt)))
 refine wp_region_g [w.heap.size + 3] [0, 2, 3, 0] mixed ?_ ?_
 · decide +kernel
 intro K hK
 go_wp2_with (first | ((with_reducible refine wpTag_q ?_ ?_ ?_); rfl; rfl; intro _ _) | ((with_reducible refine wpTag_w ?_ ?_ ?_); rfl; rfl; intro _ _) | ((with_reducible refine wpTag_s ?_ ?_); rfl; intro _ _; go_simp) | ((with_reducible refine wpTag_sw ?_ ?_); rfl; intro _ _; go_simp) | (with_reducible refine wpTag_nil ?_))
 refine wpTag_2 (.agg #[.int .i64 0, .int .i64 0, .int .i64 0, .string ⟨#[]⟩]) rfl rfl ?_ ?_
 · intro w' hk
   have e : ∀ i, w'.cell? ⟨w.heap.size + 3, i, none⟩ = _ := fun i => World.cell?_of_block (hk _ (by simp))
   go_simp
 refine wpTag_3 rfl rfl (fun K2 hK2 => ?_)
 go_wp2_with (first | ((with_reducible refine wpTag_q ?_ ?_ ?_); rfl; rfl; intro _ _) | ((with_reducible refine wpTag_w ?_ ?_ ?_); rfl; rfl; intro _ _) | ((with_reducible refine wpTag_s ?_ ?_); rfl; intro _ _; go_simp) | ((with_reducible refine wpTag_sw ?_ ?_); rfl; intro _ _; go_simp) | (with_reducible refine wpTag_nil ?_))
 refine ⟨?_, ?_⟩
 · (repeat (first | with_reducible assumption | with_reducible exact SameAt.refl _ _ | with_reducible exact SameAt.un _ _ | with_reducible exact SameAt.unN _ _ _ | ((with_reducible refine SameAt.set ?_ ?_ _); rotate_left; (· simp only [List.mem_cons, List.not_mem_nil, or_false, forall_eq_or_imp, forall_eq, ne_eq]; omega)) | ((with_reducible refine SameAt.drewN ?_ _)) | ((with_reducible refine SameAt.drew ?_))))
 go_wp2_with (first | ((with_reducible refine wpTag_q ?_ ?_ ?_); rfl; rfl; intro _ _) | ((with_reducible refine wpTag_w ?_ ?_ ?_); rfl; rfl; intro _ _) | ((with_reducible refine wpTag_s ?_ ?_); rfl; intro _ _; go_simp) | ((with_reducible refine wpTag_sw ?_ ?_); rfl; intro _ _; go_simp) | (with_reducible refine wpTag_nil ?_))
 refine bodyPost_ret (v := .tuple #[.agg #[.int .i64 3, .string (src.extract (k + 1) (k + 1 + tw ptB (src.data.toList.drop (k + 1)))), .int .i64 (loc src.data.toList k).1, .int .i64 (loc src.data.toList k).2], .agg #[.int .i64 0, .int .i64 0, .int .i64 0, .string ⟨#[]⟩]]) (by simp [results, Try.f40, go_sem, p0, p1, p2, p3, q0, q1, q2, q3]) rfl ?_
 refine ⟨rfl, ?_, ?_⟩
 · (repeat (first | (with_reducible first | assumption | exact But.refl _ _ | refine But.alloc ?_ _ | refine But.drewN ?_ _ | refine But.drew ?_) | ((with_reducible refine But.set ?_ ?_ _); rotate_left; (· first | exact Or.inl rfl | exact Or.inr (by first | omega | (simp only [szW]; omega))))))
 · (repeat (first | (with_reducible first | assumption | refine Scn.alloc ?_ _ | refine Scn.drewN ?_ _ | refine Scn.drew ?_) | ((with_reducible refine Scn.far ?_ ?_ _); rotate_left; (· simp only [ne_eq]; omega))))
end Go.Proofs.Ytbobbbhgdfapjaa
