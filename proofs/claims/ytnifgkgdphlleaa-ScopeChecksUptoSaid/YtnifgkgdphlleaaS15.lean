/- Qf, Qg, Qh -/
import Derived.Test.YtnifgkgdphlleaaS14
import Derived.Test.YtnifgkgdphlleaaS9
set_option linter.unusedSimpArgs false
set_option linter.unusedVariables false
namespace Go.Proofs.Ytnifgkgdphlleaa
open Go.RowKit Tk
def QUPostE (w0 : World) (b : Nat) (U : List PS) (w : World) (e : Ending) (w' : World) : Prop := e = .returned (.tuple #[]) ∧ ∃ p, QAt w0 w' b U p ∧ UFr b b w w'
theorem quposte {w0 w w' : World} {b : Nat} {U V : List PS} {p : Int × Int} (hu : QAt w0 w' b U p) (e : U = V) (hF : UFr b b w w') : QUPostE w0 b V w (.returned (.tuple #[])) w' := by subst e; exact ⟨rfl, p, hu, hF⟩
theorem quclasses0_any {w0 w : World} {b : Nat} {U : List PS} {p : Int × Int} (hu0 : QAt w0 w b U p) {n : NSet} (hn : n.ok w0) (hw : wtU U + wtE (evCls p n noS) ≤ 1900000000000) :
    Calls Try.prog 57 #[.pointer (some ⟨b, 0, none⟩), .agg (nsC n).toArray, .agg #[.bool false, .bool false, .bool false, .slice none 0 0, .slice none 0 0]] w (QUPost w0 b (adds U (evCls p n noS)) p w) :=
  quclasses_any hu0 hn (noS_ok w0) (by decide) hw
def evQR (h : StH) : List Ev :=
  if h.kind = 6 then evSet h.pos 4 h.source ++ evSet h.pos 4 h.target
  else if h.kind = 7 then evSet h.pos 4 h.source ++ (evSet h.pos 0 h.target ++ (evCls h.pos h.cls noS ++ evList h.pos 4 [h.result]))
  else if h.kind = 12 then evSet h.pos 0 h.source ++ (evSet h.pos 0 h.target ++ evCls h.pos h.cls h.perms)
  else if h.kind = 13 then evSet h.pos 0 h.source ++ (evSet h.pos 0 h.target ++ (evCls h.pos h.cls noS ++ evList h.pos 2 [h.result]))
  else if h.kind = 14 then evSet h.pos 0 h.source ++ (evSet h.pos 0 h.target ++ (evCls h.pos h.cls noS ++ evRng h.pos h.range))
  else if h.kind = 15 then evCls h.pos h.cls h.perms ++ evEx h.pos h.cond
  else if h.kind = 16 then evCls h.pos h.cls noS ++ evEx h.pos h.cond
  else []
set_option maxHeartbeats 8000000 in
set_option maxRecDepth 100000 in
theorem qurule_any {w0 w : World} {b : Nat} {U : List PS} {s : St} (hu : QAt w0 w b U s.h.pos) (hs : s.ok w0) (hfs : s.fewl) (hw : wtU U + wtE (evQR s.h) ≤ 1900000000000) :
    Calls Try.prog 53 #[.pointer (some ⟨b, 0, none⟩), .agg (stC s).toArray] w (QUPostE w0 b (adds U (evQR s.h)) w) := by
  obtain ⟨k, hk⟩ : ∃ k, s.h.kind = k := ⟨_, rfl⟩
  have hfp : s.h.perms.names.length + s.h.perms.except.length ≤ 4000000000000 := by have := hfs.hd.pn; have := hfs.hd.pe; omega
  obtain ⟨V, hV⟩ : ∃ V, evQR s.h = V := ⟨_, rfl⟩
  rw [hV] at hw ⊢
  unfold evQR at hV
  rw [hk] at hV
  rcases (show k = 6 ∨ k = 7 ∨ k = 12 ∨ k = 13 ∨ k = 14 ∨ k = 15 ∨ k = 16 ∨ (¬ k = 6 ∧ ¬ k = 7 ∧ ¬ k = 12 ∧ ¬ k = 13 ∧ ¬ k = 14 ∧ ¬ k = 15 ∧ ¬ k = 16) by omega) with rfl | rfl | rfl | rfl | rfl | rfl | rfl | ⟨n1, n2, n3, n4, n5, n6, n7⟩
  case inr.inr.inr.inr.inr.inr.inr =>
    rw [if_neg n1, if_neg n2, if_neg n3, if_neg n4, if_neg n5, if_neg n6, if_neg n7] at hV
    obtain ⟨g1, -⟩ := kd_f n1
    obtain ⟨g2, -⟩ := kd_f n2
    obtain ⟨g3, -⟩ := kd_f n3
    obtain ⟨g4, -⟩ := kd_f n4
    obtain ⟨g5, -⟩ := kd_f n5
    obtain ⟨g6, -⟩ := kd_f n6
    obtain ⟨g7, -⟩ := kd_f n7
    have HV := Lib.hid hV
    clear n1 n2 n3 n4 n5 n6 n7 hV hw
    go_enter Try.func53, Try.ntmps53
    have E := hu.only
    have FR : UFr b b w w := UFr.refl
    go_upto_region 9999 with (first | ((with_reducible refine at_dst 3 ?_); go_simp; (generalize hX3 : Array.size (World.heap _) = X3); refine new_block hX3 ?_; intro wn bb hx; (try (have z3 := Nat.le_trans E.size (Nat.le_of_eq hX3))); (try (have mhu_3 := hu.notin (Nat.le_of_eq hX3))); (try (have mFR_3 := FR.notin (Nat.le_of_eq hX3))); have b3 := Loc.new bb E hX3; clear bb hX3; (try replace E := E.ext hx); (try replace hu := hu.ext hx); (try replace FR := FR.ext hx); (try (clear hcE hfE)); (try (have hcf := bcell E.low; obtain ⟨hcE, hfE⟩ := hcf)); (try (clear c3 f3)); (try (have c3 := b3.cell; have f3 := b3.free))))
    refine bodyPost_ret (v := .tuple #[]) (by simp [results, Try.f53, go_sem]) rfl (quposte hu (by rw [← HV.out]; rfl) FR)
  all_goals
    simp only [if_neg (show ¬ (7 : Int) = 6 by decide), if_neg (show ¬ (12 : Int) = 6 by decide), if_neg (show ¬ (12 : Int) = 7 by decide), if_neg (show ¬ (13 : Int) = 6 by decide), if_neg (show ¬ (13 : Int) = 7 by decide), if_neg (show ¬ (13 : Int) = 12 by decide), if_neg (show ¬ (14 : Int) = 6 by decide), if_neg (show ¬ (14 : Int) = 7 by decide), if_neg (show ¬ (14 : Int) = 12 by decide), if_neg (show ¬ (14 : Int) = 13 by decide), if_neg (show ¬ (15 : Int) = 6 by decide), if_neg (show ¬ (15 : Int) = 7 by decide), if_neg (show ¬ (15 : Int) = 12 by decide), if_neg (show ¬ (15 : Int) = 13 by decide), if_neg (show ¬ (15 : Int) = 14 by decide), if_neg (show ¬ (16 : Int) = 6 by decide), if_neg (show ¬ (16 : Int) = 7 by decide), if_neg (show ¬ (16 : Int) = 12 by decide), if_neg (show ¬ (16 : Int) = 13 by decide), if_neg (show ¬ (16 : Int) = 14 by decide), if_neg (show ¬ (16 : Int) = 15 by decide), if_true] at hV
    rw [← hV] at hw
    have HW := Lib.hid hw
    have HV := Lib.hid hV
    clear hw hV
    go_enter Try.func53, Try.ntmps53
    have E := hu.only
    have FR : UFr b b w w := UFr.refl
    go_upto_region 9999 with (first | ((with_reducible refine at_dst 3 ?_); go_simp; (generalize hX3 : Array.size (World.heap _) = X3); refine new_block hX3 ?_; intro wn bb hx; (try (have z3 := Nat.le_trans E.size (Nat.le_of_eq hX3))); (try (have mhu_3 := hu.notin (Nat.le_of_eq hX3))); (try (have mFR_3 := FR.notin (Nat.le_of_eq hX3))); have b3 := Loc.new bb E hX3; clear bb hX3; (try replace E := E.ext hx); (try replace hu := hu.ext hx); (try replace FR := FR.ext hx); (try (clear hcE hfE)); (try (have hcf := bcell E.low; obtain ⟨hcE, hfE⟩ := hcf)); (try (clear c3 f3)); (try (have c3 := b3.cell; have f3 := b3.free))) | ((with_reducible refine at_dst 10 ?_); (refine wp_part (vs := (nsC (s).h.source).toArray) b3.blk rfl rfl ?_ ?_ ?_ ?_); (· kernel_rfl); (· kernel_rfl); (· kernel_rfl)) | ((with_reducible refine at_dst 11 ?_); go_simp; ((with_reducible refine (quset_any hu 4 hs.hd.source (wt_l HW.out)).mono ?_)); unfold QUPost; rintro e wn ⟨rfl, hu2, hF⟩; (try replace b3 := hu.loc b3 hF (of_decide_eq_true rfl)); replace FR := FR.trans hF; clear hu E hF; have hu := hu2; clear hu2; have E := hu.only; (try (clear hcE hfE)); (try (have hcf := bcell E.low; obtain ⟨hcE, hfE⟩ := hcf)); (try (clear c3 f3)); (try (have c3 := b3.cell; have f3 := b3.free))) | ((with_reducible refine at_dst 14 ?_); (refine wp_part (vs := (nsC (s).h.target).toArray) b3.blk rfl rfl ?_ ?_ ?_ ?_); (· kernel_rfl); (· kernel_rfl); (· kernel_rfl)) | ((with_reducible refine at_dst 15 ?_); go_simp; ((with_reducible refine (quset_any hu 4 hs.hd.target (wt_r HW.out)).mono ?_)); unfold QUPost; rintro e wn ⟨rfl, hu2, hF⟩; (try replace b3 := hu.loc b3 hF (of_decide_eq_true rfl)); replace FR := FR.trans hF; clear hu E hF; have hu := hu2; clear hu2; have E := hu.only; (try (clear hcE hfE)); (try (have hcf := bcell E.low; obtain ⟨hcE, hfE⟩ := hcf)); (try (clear c3 f3)); (try (have c3 := b3.cell; have f3 := b3.free))) | ((with_reducible refine at_dst 20 ?_); (refine wp_part (vs := (nsC (s).h.source).toArray) b3.blk rfl rfl ?_ ?_ ?_ ?_); (· kernel_rfl); (· kernel_rfl); (· kernel_rfl)) | ((with_reducible refine at_dst 21 ?_); go_simp; ((with_reducible refine (quset_any hu 4 hs.hd.source (wt_l HW.out)).mono ?_)); unfold QUPost; rintro e wn ⟨rfl, hu2, hF⟩; (try replace b3 := hu.loc b3 hF (of_decide_eq_true rfl)); replace FR := FR.trans hF; clear hu E hF; have hu := hu2; clear hu2; have E := hu.only; (try (clear hcE hfE)); (try (have hcf := bcell E.low; obtain ⟨hcE, hfE⟩ := hcf)); (try (clear c3 f3)); (try (have c3 := b3.cell; have f3 := b3.free))) | ((with_reducible refine at_dst 24 ?_); (refine wp_part (vs := (nsC (s).h.target).toArray) b3.blk rfl rfl ?_ ?_ ?_ ?_); (· kernel_rfl); (· kernel_rfl); (· kernel_rfl)) | ((with_reducible refine at_dst 25 ?_); go_simp; ((with_reducible refine (quset_any hu 0 hs.hd.target (wt_l (wt_r HW.out))).mono ?_)); unfold QUPost; rintro e wn ⟨rfl, hu2, hF⟩; (try replace b3 := hu.loc b3 hF (of_decide_eq_true rfl)); replace FR := FR.trans hF; clear hu E hF; have hu := hu2; clear hu2; have E := hu.only; (try (clear hcE hfE)); (try (have hcf := bcell E.low; obtain ⟨hcE, hfE⟩ := hcf)); (try (clear c3 f3)); (try (have c3 := b3.cell; have f3 := b3.free))) | ((with_reducible refine at_dst 28 ?_); (refine wp_part (vs := (nsC (s).h.cls).toArray) b3.blk rfl rfl ?_ ?_ ?_ ?_); (· kernel_rfl); (· kernel_rfl); (· kernel_rfl)) | ((with_reducible refine at_dst 30 ?_); go_simp; ((with_reducible refine (quclasses0_any hu hs.hd.cls (wt_l (wt_r (wt_r HW.out)))).mono ?_)); unfold QUPost; rintro e wn ⟨rfl, hu2, hF⟩; (try replace b3 := hu.loc b3 hF (of_decide_eq_true rfl)); replace FR := FR.trans hF; clear hu E hF; have hu := hu2; clear hu2; have E := hu.only; (try (clear hcE hfE)); (try (have hcf := bcell E.low; obtain ⟨hcE, hfE⟩ := hcf)); (try (clear c3 f3)); (try (have c3 := b3.cell; have f3 := b3.free))) | ((with_reducible refine at_dst 34 ?_); go_simp; (generalize hX34 : Array.size (World.heap _) = X34); refine new_block hX34 ?_; intro wn bb hx; (try (have n3_34 := (b3.ne hX34).1; have n34_3 := (b3.ne hX34).2)); (try (have z34 := Nat.le_trans E.size (Nat.le_of_eq hX34))); (try (have mhu_34 := hu.notin (Nat.le_of_eq hX34))); (try (have mFR_34 := FR.notin (Nat.le_of_eq hX34))); have b34 := bb; have g34 := Loc.new bb E hX34; clear bb hX34; (try replace E := E.ext hx); (try replace b3 := b3.ext hx); (try replace hu := hu.ext hx); (try replace FR := FR.ext hx); (try (clear hcE hfE)); (try (have hcf := bcell E.low; obtain ⟨hcE, hfE⟩ := hcf)); (try (clear c3 f3)); (try (have c3 := b3.cell; have f3 := b3.free))) | ((with_reducible refine at_dst 35 ?_); go_simp; ((with_reducible refine (quadd_any hu 4 (PR.blk1 b34) (wt_r (wt_r (wt_r HW.out)))).mono ?_)); unfold QUPost; rintro e wn ⟨rfl, hu2, hF⟩; (try replace b3 := hu.loc b3 hF (of_decide_eq_true rfl)); replace FR := FR.trans hF; clear hu E hF; have hu := hu2; clear hu2; have E := hu.only; (try (clear hcE hfE)); (try (have hcf := bcell E.low; obtain ⟨hcE, hfE⟩ := hcf)); (try (clear c3 f3)); (try (have c3 := b3.cell; have f3 := b3.free))) | ((with_reducible refine at_dst 40 ?_); (refine wp_part (vs := (nsC (s).h.source).toArray) b3.blk rfl rfl ?_ ?_ ?_ ?_); (· kernel_rfl); (· kernel_rfl); (· kernel_rfl)) | ((with_reducible refine at_dst 41 ?_); go_simp; ((with_reducible refine (quset_any hu 0 hs.hd.source (wt_l HW.out)).mono ?_)); unfold QUPost; rintro e wn ⟨rfl, hu2, hF⟩; (try replace b3 := hu.loc b3 hF (of_decide_eq_true rfl)); replace FR := FR.trans hF; clear hu E hF; have hu := hu2; clear hu2; have E := hu.only; (try (clear hcE hfE)); (try (have hcf := bcell E.low; obtain ⟨hcE, hfE⟩ := hcf)); (try (clear c3 f3)); (try (have c3 := b3.cell; have f3 := b3.free))) | ((with_reducible refine at_dst 44 ?_); (refine wp_part (vs := (nsC (s).h.target).toArray) b3.blk rfl rfl ?_ ?_ ?_ ?_); (· kernel_rfl); (· kernel_rfl); (· kernel_rfl)) | ((with_reducible refine at_dst 45 ?_); go_simp; ((with_reducible refine (quset_any hu 0 hs.hd.target (wt_l (wt_r HW.out))).mono ?_)); unfold QUPost; rintro e wn ⟨rfl, hu2, hF⟩; (try replace b3 := hu.loc b3 hF (of_decide_eq_true rfl)); replace FR := FR.trans hF; clear hu E hF; have hu := hu2; clear hu2; have E := hu.only; (try (clear hcE hfE)); (try (have hcf := bcell E.low; obtain ⟨hcE, hfE⟩ := hcf)); (try (clear c3 f3)); (try (have c3 := b3.cell; have f3 := b3.free))) | ((with_reducible refine at_dst 48 ?_); (refine wp_part (vs := (nsC (s).h.cls).toArray) b3.blk rfl rfl ?_ ?_ ?_ ?_); (· kernel_rfl); (· kernel_rfl); (· kernel_rfl)) | ((with_reducible refine at_dst 50 ?_); (refine wp_part (vs := (nsC (s).h.perms).toArray) b3.blk rfl rfl ?_ ?_ ?_ ?_); (· kernel_rfl); (· kernel_rfl); (· kernel_rfl)) | ((with_reducible refine at_dst 51 ?_); go_simp; ((with_reducible refine (quclasses_any hu hs.hd.cls hs.hd.perms hfp (wt_r (wt_r HW.out))).mono ?_)); unfold QUPost; rintro e wn ⟨rfl, hu2, hF⟩; (try replace b3 := hu.loc b3 hF (of_decide_eq_true rfl)); replace FR := FR.trans hF; clear hu E hF; have hu := hu2; clear hu2; have E := hu.only; (try (clear hcE hfE)); (try (have hcf := bcell E.low; obtain ⟨hcE, hfE⟩ := hcf)); (try (clear c3 f3)); (try (have c3 := b3.cell; have f3 := b3.free))) | ((with_reducible refine at_dst 56 ?_); (refine wp_part (vs := (nsC (s).h.source).toArray) b3.blk rfl rfl ?_ ?_ ?_ ?_); (· kernel_rfl); (· kernel_rfl); (· kernel_rfl)) | ((with_reducible refine at_dst 57 ?_); go_simp; ((with_reducible refine (quset_any hu 0 hs.hd.source (wt_l HW.out)).mono ?_)); unfold QUPost; rintro e wn ⟨rfl, hu2, hF⟩; (try replace b3 := hu.loc b3 hF (of_decide_eq_true rfl)); replace FR := FR.trans hF; clear hu E hF; have hu := hu2; clear hu2; have E := hu.only; (try (clear hcE hfE)); (try (have hcf := bcell E.low; obtain ⟨hcE, hfE⟩ := hcf)); (try (clear c3 f3)); (try (have c3 := b3.cell; have f3 := b3.free))) | ((with_reducible refine at_dst 60 ?_); (refine wp_part (vs := (nsC (s).h.target).toArray) b3.blk rfl rfl ?_ ?_ ?_ ?_); (· kernel_rfl); (· kernel_rfl); (· kernel_rfl)) | ((with_reducible refine at_dst 61 ?_); go_simp; ((with_reducible refine (quset_any hu 0 hs.hd.target (wt_l (wt_r HW.out))).mono ?_)); unfold QUPost; rintro e wn ⟨rfl, hu2, hF⟩; (try replace b3 := hu.loc b3 hF (of_decide_eq_true rfl)); replace FR := FR.trans hF; clear hu E hF; have hu := hu2; clear hu2; have E := hu.only; (try (clear hcE hfE)); (try (have hcf := bcell E.low; obtain ⟨hcE, hfE⟩ := hcf)); (try (clear c3 f3)); (try (have c3 := b3.cell; have f3 := b3.free))) | ((with_reducible refine at_dst 64 ?_); (refine wp_part (vs := (nsC (s).h.cls).toArray) b3.blk rfl rfl ?_ ?_ ?_ ?_); (· kernel_rfl); (· kernel_rfl); (· kernel_rfl)) | ((with_reducible refine at_dst 66 ?_); go_simp; ((with_reducible refine (quclasses0_any hu hs.hd.cls (wt_l (wt_r (wt_r HW.out)))).mono ?_)); unfold QUPost; rintro e wn ⟨rfl, hu2, hF⟩; (try replace b3 := hu.loc b3 hF (of_decide_eq_true rfl)); replace FR := FR.trans hF; clear hu E hF; have hu := hu2; clear hu2; have E := hu.only; (try (clear hcE hfE)); (try (have hcf := bcell E.low; obtain ⟨hcE, hfE⟩ := hcf)); (try (clear c3 f3)); (try (have c3 := b3.cell; have f3 := b3.free))) | ((with_reducible refine at_dst 70 ?_); go_simp; (generalize hX70 : Array.size (World.heap _) = X70); refine new_block hX70 ?_; intro wn bb hx; (try (have n3_70 := (b3.ne hX70).1; have n70_3 := (b3.ne hX70).2)); (try (have z70 := Nat.le_trans E.size (Nat.le_of_eq hX70))); (try (have mhu_70 := hu.notin (Nat.le_of_eq hX70))); (try (have mFR_70 := FR.notin (Nat.le_of_eq hX70))); have b70 := bb; have g70 := Loc.new bb E hX70; clear bb hX70; (try replace E := E.ext hx); (try replace b3 := b3.ext hx); (try replace hu := hu.ext hx); (try replace FR := FR.ext hx); (try (clear hcE hfE)); (try (have hcf := bcell E.low; obtain ⟨hcE, hfE⟩ := hcf)); (try (clear c3 f3)); (try (have c3 := b3.cell; have f3 := b3.free))) | ((with_reducible refine at_dst 71 ?_); go_simp; ((with_reducible refine (quadd_any hu 2 (PR.blk1 b70) (wt_r (wt_r (wt_r HW.out)))).mono ?_)); unfold QUPost; rintro e wn ⟨rfl, hu2, hF⟩; (try replace b3 := hu.loc b3 hF (of_decide_eq_true rfl)); replace FR := FR.trans hF; clear hu E hF; have hu := hu2; clear hu2; have E := hu.only; (try (clear hcE hfE)); (try (have hcf := bcell E.low; obtain ⟨hcE, hfE⟩ := hcf)); (try (clear c3 f3)); (try (have c3 := b3.cell; have f3 := b3.free))) | ((with_reducible refine at_dst 76 ?_); (refine wp_part (vs := (nsC (s).h.source).toArray) b3.blk rfl rfl ?_ ?_ ?_ ?_); (· kernel_rfl); (· kernel_rfl); (· kernel_rfl)) | ((with_reducible refine at_dst 77 ?_); go_simp; ((with_reducible refine (quset_any hu 0 hs.hd.source (wt_l HW.out)).mono ?_)); unfold QUPost; rintro e wn ⟨rfl, hu2, hF⟩; (try replace b3 := hu.loc b3 hF (of_decide_eq_true rfl)); replace FR := FR.trans hF; clear hu E hF; have hu := hu2; clear hu2; have E := hu.only; (try (clear hcE hfE)); (try (have hcf := bcell E.low; obtain ⟨hcE, hfE⟩ := hcf)); (try (clear c3 f3)); (try (have c3 := b3.cell; have f3 := b3.free))) | ((with_reducible refine at_dst 80 ?_); (refine wp_part (vs := (nsC (s).h.target).toArray) b3.blk rfl rfl ?_ ?_ ?_ ?_); (· kernel_rfl); (· kernel_rfl); (· kernel_rfl)) | ((with_reducible refine at_dst 81 ?_); go_simp; ((with_reducible refine (quset_any hu 0 hs.hd.target (wt_l (wt_r HW.out))).mono ?_)); unfold QUPost; rintro e wn ⟨rfl, hu2, hF⟩; (try replace b3 := hu.loc b3 hF (of_decide_eq_true rfl)); replace FR := FR.trans hF; clear hu E hF; have hu := hu2; clear hu2; have E := hu.only; (try (clear hcE hfE)); (try (have hcf := bcell E.low; obtain ⟨hcE, hfE⟩ := hcf)); (try (clear c3 f3)); (try (have c3 := b3.cell; have f3 := b3.free))) | ((with_reducible refine at_dst 84 ?_); (refine wp_part (vs := (nsC (s).h.cls).toArray) b3.blk rfl rfl ?_ ?_ ?_ ?_); (· kernel_rfl); (· kernel_rfl); (· kernel_rfl)) | ((with_reducible refine at_dst 86 ?_); go_simp; ((with_reducible refine (quclasses0_any hu hs.hd.cls (wt_l (wt_r (wt_r HW.out)))).mono ?_)); unfold QUPost; rintro e wn ⟨rfl, hu2, hF⟩; (try replace b3 := hu.loc b3 hF (of_decide_eq_true rfl)); replace FR := FR.trans hF; clear hu E hF; have hu := hu2; clear hu2; have E := hu.only; (try (clear hcE hfE)); (try (have hcf := bcell E.low; obtain ⟨hcE, hfE⟩ := hcf)); (try (clear c3 f3)); (try (have c3 := b3.cell; have f3 := b3.free))) | ((with_reducible refine at_dst 89 ?_); (refine wp_part (vs := (rgC (s).h.range).toArray) b3.blk rfl rfl ?_ ?_ ?_ ?_); (· kernel_rfl); (· kernel_rfl); (· kernel_rfl)) | ((with_reducible refine at_dst 90 ?_); go_simp; ((with_reducible refine (quspan_any hu hs.hd.range (wt_r (wt_r (wt_r HW.out)))).mono ?_)); unfold QUPost; rintro e wn ⟨rfl, hu2, hF⟩; (try replace b3 := hu.loc b3 hF (of_decide_eq_true rfl)); replace FR := FR.trans hF; clear hu E hF; have hu := hu2; clear hu2; have E := hu.only; (try (clear hcE hfE)); (try (have hcf := bcell E.low; obtain ⟨hcE, hfE⟩ := hcf)); (try (clear c3 f3)); (try (have c3 := b3.cell; have f3 := b3.free))) | ((with_reducible refine at_dst 95 ?_); (refine wp_part (vs := (nsC (s).h.cls).toArray) b3.blk rfl rfl ?_ ?_ ?_ ?_); (· kernel_rfl); (· kernel_rfl); (· kernel_rfl)) | ((with_reducible refine at_dst 97 ?_); (refine wp_part (vs := (nsC (s).h.perms).toArray) b3.blk rfl rfl ?_ ?_ ?_ ?_); (· kernel_rfl); (· kernel_rfl); (· kernel_rfl)) | ((with_reducible refine at_dst 98 ?_); go_simp; ((with_reducible refine (quclasses_any hu hs.hd.cls hs.hd.perms hfp (wt_l HW.out)).mono ?_)); unfold QUPost; rintro e wn ⟨rfl, hu2, hF⟩; (try replace b3 := hu.loc b3 hF (of_decide_eq_true rfl)); replace FR := FR.trans hF; clear hu E hF; have hu := hu2; clear hu2; have E := hu.only; (try (clear hcE hfE)); (try (have hcf := bcell E.low; obtain ⟨hcE, hfE⟩ := hcf)); (try (clear c3 f3)); (try (have c3 := b3.cell; have f3 := b3.free))) | ((with_reducible refine at_dst 101 ?_); (refine wp_part (vs := (exC (s).h.cond).toArray) b3.blk rfl rfl ?_ ?_ ?_ ?_); (· kernel_rfl); (· kernel_rfl); (· kernel_rfl)) | ((with_reducible refine at_dst 102 ?_); go_simp; ((with_reducible refine (quexpr_any _ _ hu hs.hd.cond (Nat.le_refl _) (wt_r HW.out)).mono ?_)); unfold QUPost; rintro e wn ⟨rfl, hu2, hF⟩; (try replace b3 := hu.loc b3 hF (of_decide_eq_true rfl)); replace FR := FR.trans hF; clear hu E hF; have hu := hu2; clear hu2; have E := hu.only; (try (clear hcE hfE)); (try (have hcf := bcell E.low; obtain ⟨hcE, hfE⟩ := hcf)); (try (clear c3 f3)); (try (have c3 := b3.cell; have f3 := b3.free))) | ((with_reducible refine at_dst 107 ?_); (refine wp_part (vs := (nsC (s).h.cls).toArray) b3.blk rfl rfl ?_ ?_ ?_ ?_); (· kernel_rfl); (· kernel_rfl); (· kernel_rfl)) | ((with_reducible refine at_dst 109 ?_); go_simp; ((with_reducible refine (quclasses0_any hu hs.hd.cls (wt_l HW.out)).mono ?_)); unfold QUPost; rintro e wn ⟨rfl, hu2, hF⟩; (try replace b3 := hu.loc b3 hF (of_decide_eq_true rfl)); replace FR := FR.trans hF; clear hu E hF; have hu := hu2; clear hu2; have E := hu.only; (try (clear hcE hfE)); (try (have hcf := bcell E.low; obtain ⟨hcE, hfE⟩ := hcf)); (try (clear c3 f3)); (try (have c3 := b3.cell; have f3 := b3.free))) | ((with_reducible refine at_dst 112 ?_); (refine wp_part (vs := (exC (s).h.cond).toArray) b3.blk rfl rfl ?_ ?_ ?_ ?_); (· kernel_rfl); (· kernel_rfl); (· kernel_rfl)) | ((with_reducible refine at_dst 113 ?_); go_simp; ((with_reducible refine (quexpr_any _ _ hu hs.hd.cond (Nat.le_refl _) (wt_r HW.out)).mono ?_)); unfold QUPost; rintro e wn ⟨rfl, hu2, hF⟩; (try replace b3 := hu.loc b3 hF (of_decide_eq_true rfl)); replace FR := FR.trans hF; clear hu E hF; have hu := hu2; clear hu2; have E := hu.only; (try (clear hcE hfE)); (try (have hcf := bcell E.low; obtain ⟨hcE, hfE⟩ := hcf)); (try (clear c3 f3)); (try (have c3 := b3.cell; have f3 := b3.free))))
    refine bodyPost_ret (v := .tuple #[]) (by simp [results, Try.f53, go_sem]) rfl (quposte hu (by rw [← HV.out]; simp only [adds_app]; try rfl) FR)
end Go.Proofs.Ytnifgkgdphlleaa
set_option linter.unusedSimpArgs false
set_option linter.unusedVariables false
namespace Go.Proofs.Ytnifgkgdphlleaa
open Go.RowKit Tk
theorem wp_posQ {w0 w : World} {b : Nat} {U : List PS} {p : Int × Int} {K : Act → World → Prop} {a : Act} {Q : Exit → Act → World → Prop} {o : Oper} {ty : TypeId} {x y : Operand} {l c : Int} (hu : QAt w0 w b U p)
    (ho : o.op = .store ty x y) (hx : a.eval x = .pointer (some ⟨b, 1, none⟩)) (hy : a.eval y = .agg #[.int .i64 l, .int .i64 c]) (hi : (Try.prog.info? ty).map (·.size) = some 2)
    (h : ∀ w', QAt w0 w' b U (l, c) → UFr b b w w' → K (a.put o.dst undef) w') : o.wp Try.prog a w K Q := by
  obtain ⟨h1, ⟨xs, sa, sc, e, h2, h3, h4⟩, h5⟩ := hu
  refine wp_put h2 ho hx (by rw [hy, hi]; rfl) (by rw [hy]; simp [Value.cells, Value.oneCell']) (by rw [hy]; simp [Value.cells]) fun w' hL hb => h w' ⟨h1.put h2 hb, ⟨xs, sa, sc, e, ?_, h3.but hb h2.blk (of_decide_eq_true rfl), h4.but hb h2.blk (of_decide_eq_true rfl)⟩, h5⟩ (UFr.refl.butb hb)
  rw [hy] at hL
  exact hL
theorem evS1_eq (s : St) : evS1 s = evSt s := by
  unfold evS1
  split
  · rename_i h
    rw [evSt_eq, h, if_neg (by decide)]
    unfold evStH evRuH
    rw [h]
    rfl
  · rfl
theorem evQR_eq {h : StH} (n : ¬ h.kind = 2 ∧ ¬ h.kind = 4 ∧ ¬ h.kind = 5 ∧ ¬ h.kind = 22 ∧ ¬ h.kind = 8 ∧ ¬ h.kind = 20 ∧ ¬ h.kind = 21 ∧ ¬ h.kind = 23) : evStH h = evQR h := by
  obtain ⟨n1, n2, n3, n4, n5, n6, n7, n8⟩ := n
  unfold evStH evRuH evQR
  simp only [n1, n2, n3, n4, n5, n6, n7, n8, if_false, or_self]
  unfold evTyp evList
  simp only [List.append_assoc, List.map_cons, List.map_nil]
theorem at_oks {w : World} {l : List St} {j : Nat} {y : St} (h : St.oks w l) (hy : l[j]? = some y) : y.ok w := by
  obtain ⟨h1, h2⟩ := List.getElem?_eq_some_iff.1 hy
  exact h2 ▸ h.at h1
theorem at_fews {l : List St} {j : Nat} {y : St} (h : St.fewls l) (hy : l[j]? = some y) : y.fewl := by
  obtain ⟨h1, h2⟩ := List.getElem?_eq_some_iff.1 hy
  exact h2 ▸ h.at h1
@[reducible] def QStOk (w0 : World) (b N : Nat) : Prop := ∀ (U : List PS) (s : St) {w : World} {p : Int × Int}, QAt w0 w b U p → s.ok w0 → s.fewl → s.sz < N → wtU U + wtE (evSt s) ≤ 1900000000000 →
    Calls Try.prog 42 #[.pointer (some ⟨b, 0, none⟩), .agg (stC s).toArray] w (QUPostE w0 b (adds U (evSt s)) w)
theorem sts_next {l : List St} {j : Nat} {y : St} {U : List PS} (h : l[j]? = some y) : adds U (evSts (l.take (j + 1))) = adds (adds U (evSts (l.take j))) (evSt y) := by rw [evSts_take h, evS1_eq]
theorem wt_next {U : List PS} {l : List St} {j : Nat} {y : St} {N : Nat} (h : l[j]? = some y) (hw : wtU U + wtE (evSts l) ≤ N) : wtU (adds U (evSts (l.take j))) + wtE (evSt y) ≤ N := by rw [← evS1_eq]; exact wt_sts h hw
set_option maxHeartbeats 8000000 in
set_option maxRecDepth 100000 in
theorem qustmt_step {w0 : World} {b N : Nat} (IH : Hid (QStOk w0 b N)) : QStOk w0 b (N + 1) := by
  intro U s w p0 hu hs hfs hz hw
  rw [St.sz_kids] at hz
  obtain ⟨k, hk⟩ : ∃ k, s.h.kind = k := ⟨_, rfl⟩
  obtain ⟨V, hV⟩ : ∃ V, evSt s = V := ⟨_, rfl⟩
  rw [hV] at hw ⊢
  rw [evSt_eq] at hV
  rcases (show k = 17 ∨ k = 2 ∨ k = 4 ∨ k = 5 ∨ k = 22 ∨ k = 8 ∨ k = 20 ∨ k = 21 ∨ k = 23 ∨ (¬ k = 17 ∧ ¬ k = 2 ∧ ¬ k = 4 ∧ ¬ k = 5 ∧ ¬ k = 22 ∧ ¬ k = 8 ∧ ¬ k = 20 ∧ ¬ k = 21 ∧ ¬ k = 23) by omega) with hc | hc | hc | hc | hc | hc | hc | hc | hc | ⟨n0, n1, n2, n3, n4, n5, n6, n7, n8⟩
  case inr.inr.inr.inr.inr.inr.inr.inr.inr =>
    rw [hk, if_neg n0, evQR_eq (by rw [hk]; exact ⟨n1, n2, n3, n4, n5, n6, n7, n8⟩)] at hV
    rw [← hV] at hw
    have HW := Lib.hid hw
    have HV := Lib.hid hV
    obtain ⟨g0, -⟩ := kd_f n0
    obtain ⟨g1, -⟩ := kd_f n1
    obtain ⟨g2, -⟩ := kd_f n2
    obtain ⟨g3, -⟩ := kd_f n3
    obtain ⟨g4, -⟩ := kd_f n4
    obtain ⟨g5, -⟩ := kd_f n5
    obtain ⟨g6, -⟩ := kd_f n6
    obtain ⟨g7, -⟩ := kd_f n7
    obtain ⟨g8, -⟩ := kd_f n8
    clear n0 n1 n2 n3 n4 n5 n6 n7 n8 hV hw
    go_enter Try.func42, Try.ntmps42
    have E := hu.only
    have FR : UFr b b w w := UFr.refl
    go_upto_region 9999 with (first | ((with_reducible refine at_dst 3 ?_); go_simp; (generalize hX3 : Array.size (World.heap _) = X3); refine new_block hX3 ?_; intro wn bb hx; (try (have z3 := Nat.le_trans E.size (Nat.le_of_eq hX3))); (try (have mhu_3 := hu.notin (Nat.le_of_eq hX3))); (try (have mFR_3 := FR.notin (Nat.le_of_eq hX3))); have b3 := Loc.new bb E hX3; clear bb hX3; (try replace E := E.ext hx); (try replace hu := hu.ext hx); (try replace FR := FR.ext hx); (try (clear hcE hfE)); (try (have hcf := bcell E.low; obtain ⟨hcE, hfE⟩ := hcf)); (try (clear c3 f3)); (try (have c3 := b3.cell; have f3 := b3.free))) | ((with_reducible refine at_dst 14 ?_); (refine wp_all b3.blk rfl rfl ?_ ?_ ?_); (· kernel_rfl); (· kernel_rfl)) | ((with_reducible refine at_dst 15 ?_); go_simp; ((with_reducible refine (qurule_any hu hs hfs HW.out).mono ?_)); unfold QUPostE; rintro e wn ⟨rfl, p2, hu2, hF⟩; (try replace b3 := hu.loc b3 hF (of_decide_eq_true rfl)); replace FR := FR.trans hF; clear hu E hF; have hu := hu2; clear hu2; have E := hu.only; (try (clear hcE hfE)); (try (have hcf := bcell E.low; obtain ⟨hcE, hfE⟩ := hcf)); (try (clear c3 f3)); (try (have c3 := b3.cell; have f3 := b3.free))) | ((with_reducible refine at_store 10 ?_); (refine wp_posQ (l := s.h.line) (c := s.h.col) hu rfl rfl rfl ?_ ?_); (· kernel_rfl); intro wn hu2 hF; replace b3 := hu.loc b3 hF (of_decide_eq_true rfl); replace FR := FR.trans hF; clear hu E hF; have hu := hu2; clear hu2; have E := hu.only; dsimp only [Act.put]; (try (clear hcE hfE)); (try (have hcf := bcell E.low; obtain ⟨hcE, hfE⟩ := hcf)); (try (clear c3 f3)); (try (have c3 := b3.cell; have f3 := b3.free))))
    refine bodyPost_ret (v := .tuple #[]) (by simp [results, Try.f42, go_sem]) rfl (quposte hu (by rw [← HV.out]) FR)
  case inl =>
    rw [hk, if_pos hc] at hV
    rw [← hV] at hw
    have HW := Lib.hid hw
    have HV := Lib.hid hV
    have n2 := (RRow.lens hs.thn).2
    have n3 := (RRow.lens hs.els).2
    subst hc
    clear hw hV
    go_enter Try.func42, Try.ntmps42
    have E := hu.only
    have FR : UFr b b w w := UFr.refl
    go_upto_region 19 with (first | ((with_reducible refine at_dst 3 ?_); go_simp; (generalize hX3 : Array.size (World.heap _) = X3); refine new_block hX3 ?_; intro wn bb hx; (try (have z3 := Nat.le_trans E.size (Nat.le_of_eq hX3))); (try (have mhu_3 := hu.notin (Nat.le_of_eq hX3))); (try (have mFR_3 := FR.notin (Nat.le_of_eq hX3))); have b3 := Loc.new bb E hX3; clear bb hX3; (try replace E := E.ext hx); (try replace hu := hu.ext hx); (try replace FR := FR.ext hx); (try (clear hcE hfE)); (try (have hcf := bcell E.low; obtain ⟨hcE, hfE⟩ := hcf)); (try (clear c3 f3)); (try (have c3 := b3.cell; have f3 := b3.free))) | ((with_reducible refine at_dst 58 ?_); (refine wp_part (vs := (exC (s).h.cond).toArray) b3.blk rfl rfl ?_ ?_ ?_ ?_); (· kernel_rfl); (· kernel_rfl); (· kernel_rfl)) | ((with_reducible refine at_dst 59 ?_); go_simp; ((with_reducible refine (quexpr_any _ _ hu hs.hd.cond (Nat.le_refl _) (wt_l HW.out)).mono ?_)); unfold QUPost; rintro e wn ⟨rfl, hu2, hF⟩; (try replace b3 := hu.loc b3 hF (of_decide_eq_true rfl)); replace FR := FR.trans hF; clear hu E hF; have hu := hu2; clear hu2; have E := hu.only; (try (clear hcE hfE)); (try (have hcf := bcell E.low; obtain ⟨hcE, hfE⟩ := hcf)); (try (clear c3 f3)); (try (have c3 := b3.cell; have f3 := b3.free))) | ((with_reducible refine at_store 10 ?_); (refine wp_posQ (l := s.h.line) (c := s.h.col) hu rfl rfl rfl ?_ ?_); (· kernel_rfl); intro wn hu2 hF; replace b3 := hu.loc b3 hF (of_decide_eq_true rfl); replace FR := FR.trans hF; clear hu E hF; have hu := hu2; clear hu2; have E := hu.only; dsimp only [Act.put]; (try (clear hcE hfE)); (try (have hcf := bcell E.low; obtain ⟨hcE, hfE⟩ := hcf)); (try (clear c3 f3)); (try (have c3 := b3.cell; have f3 := b3.free))))
    go_loopw [4] (fun i wr => ∃ (j : Nat) (p1 : Int × Int), i = .int .i64 j ∧ j ≤ s.thn.length ∧ QAt w0 wr b (adds (adds U (evEx s.h.pos s.h.cond)) (evSts (s.thn.take j))) p1 ∧ UFr b b w wr ∧ Loc [] w0 wr X3 51 (stC s).toArray) (fun i _ => s.thn.length - (intOf i).toNat)
    case atStart => exact ⟨0, _, rfl, Nat.zero_le _, hu, FR, b3⟩
    case round =>
      clear hu FR E b3 c3 f3
      obtain ⟨j, p1, rfl, hj, hu, FR, b3⟩ := hrel
      have E := hu.only
      have c3 := b3.cell
      have f3 := b3.free
      obtain ⟨hcE, hfE⟩ := bcell E.low
      by_cases hlt : j < s.thn.length
      · obtain ⟨y, hy⟩ := at_some hlt
        obtain ⟨g, o, hgo, hg, -⟩ := RRow.cells hs.thn hlt
        have hlc : RRow w0 55 stC (.slice (some ⟨g, o, none⟩) s.thn.length s.h.ht.c) s.thn := hgo ▸ hs.thn
        have HY := Lib.hid hy
        have hsn := sts_next (U := (adds U (evEx s.h.pos s.h.cond))) hy
        have HS := Lib.hid hsn
        have HW1 := Lib.hid (wt_next hy (wt_l (wt_r HW.out)))
        have hsz : y.sz < N := by have := St.sz_at hy; omega
        have hyo : y.ok w0 := at_oks hs.thns hy
        have hyf : y.fewl := at_fews hfs.thn hy
        clear hy hsn
        go_upto_region 9999 with (first | ((with_reducible refine at_dst 72 ?_); (refine wp_rec2 ((hlc.ext E.low)) (HY.out) stC_len rfl rfl ?_ ?_ ?_); (· kernel_rfl); (· kernel_rfl)) | ((with_reducible refine at_dst 73 ?_); go_simp; ((with_reducible refine (IH.out _ y hu hyo hyf hsz HW1.out).mono ?_)); unfold QUPostE; rintro e wn ⟨rfl, p2, hu2, hF⟩; (try replace b3 := hu.loc b3 hF (of_decide_eq_true rfl)); replace FR := FR.trans hF; clear hu E hF; have hu := hu2; clear hu2; have E := hu.only; (try (clear hcE hfE)); (try (have hcf := bcell E.low; obtain ⟨hcE, hfE⟩ := hcf)); (try (clear c3 f3)); (try (have c3 := b3.cell; have f3 := b3.free))))
        try simp only [← hgo]
        clear hgo
        go_roundw
        case rel => exact ⟨j + 1, _, by go_num, by omega, by rw [HS.out]; exact hu, FR, b3⟩
        case measure => simp [intOf]; omega
      · have hu2 : QAt w0 wr b (adds (adds (adds U (evEx s.h.pos s.h.cond)) (evSts s.thn)) (evSts (s.els.take 0))) p1 := by rw [List.take_of_length_le (by omega)] at hu; exact hu
        clear hu
        have hu := hu2
        clear hu2
        go_upto_region 23 with (first | fail)
        go_loopw [5] (fun i wr => ∃ (j : Nat) (p1 : Int × Int), i = .int .i64 j ∧ j ≤ s.els.length ∧ QAt w0 wr b (adds (adds (adds U (evEx s.h.pos s.h.cond)) (evSts s.thn)) (evSts (s.els.take j))) p1 ∧ UFr b b w wr ∧ Loc [] w0 wr X3 51 (stC s).toArray) (fun i _ => s.els.length - (intOf i).toNat)
        case atStart => exact ⟨0, _, rfl, Nat.zero_le _, hu, FR, b3⟩
        case round =>
          clear hu FR E b3 c3 f3
          obtain ⟨j, p1, rfl, hj, hu, FR, b3⟩ := hrel
          have E := hu.only
          have c3 := b3.cell
          have f3 := b3.free
          obtain ⟨hcE, hfE⟩ := bcell E.low
          by_cases hlt : j < s.els.length
          · obtain ⟨y, hy⟩ := at_some hlt
            obtain ⟨g, o, hgo, hg, -⟩ := RRow.cells hs.els hlt
            have hlc : RRow w0 55 stC (.slice (some ⟨g, o, none⟩) s.els.length s.h.he.c) s.els := hgo ▸ hs.els
            have HY := Lib.hid hy
            have hsn := sts_next (U := (adds (adds U (evEx s.h.pos s.h.cond)) (evSts s.thn))) hy
            have HS := Lib.hid hsn
            have HW1 := Lib.hid (wt_next hy (wt_r (wt_r HW.out)))
            have hsz : y.sz < N := by have := St.sz_at hy; omega
            have hyo : y.ok w0 := at_oks hs.elss hy
            have hyf : y.fewl := at_fews hfs.els hy
            clear hy hsn
            go_upto_region 9999 with (first | ((with_reducible refine at_dst 86 ?_); (refine wp_rec2 ((hlc.ext E.low)) (HY.out) stC_len rfl rfl ?_ ?_ ?_); (· kernel_rfl); (· kernel_rfl)) | ((with_reducible refine at_dst 87 ?_); go_simp; ((with_reducible refine (IH.out _ y hu hyo hyf hsz HW1.out).mono ?_)); unfold QUPostE; rintro e wn ⟨rfl, p2, hu2, hF⟩; (try replace b3 := hu.loc b3 hF (of_decide_eq_true rfl)); replace FR := FR.trans hF; clear hu E hF; have hu := hu2; clear hu2; have E := hu.only; (try (clear hcE hfE)); (try (have hcf := bcell E.low; obtain ⟨hcE, hfE⟩ := hcf)); (try (clear c3 f3)); (try (have c3 := b3.cell; have f3 := b3.free))))
            try simp only [← hgo]
            clear hgo
            go_roundw
            case rel => exact ⟨j + 1, _, by go_num, by omega, by rw [HS.out]; exact hu, FR, b3⟩
            case measure => simp [intOf]; omega
          · go_upto_region 9999 with (first | fail)
            refine bodyPost_ret (v := .tuple #[]) (by simp [results, Try.f42, go_sem]) rfl (quposte hu (by rw [List.take_of_length_le (by omega), ← HV.out, adds_app, adds_app]) FR)
  all_goals
    rw [hk, if_neg (show ¬ k = 17 by omega)] at hV
    unfold evStH at hV
    rw [hk] at hV
    subst hc
    simp only [show ¬ (2 : Int) = 17 by decide, show ¬ (2 : Int) = 4 by decide, show ¬ (2 : Int) = 5 by decide, show ¬ (2 : Int) = 22 by decide, show ¬ (2 : Int) = 6 by decide, show ¬ (2 : Int) = 7 by decide, show ¬ (2 : Int) = 8 by decide, show ¬ (2 : Int) = 20 by decide, show ¬ (2 : Int) = 21 by decide, show ¬ (2 : Int) = 23 by decide, show ¬ (4 : Int) = 17 by decide, show ¬ (4 : Int) = 2 by decide, show ¬ (4 : Int) = 5 by decide, show ¬ (4 : Int) = 22 by decide, show ¬ (4 : Int) = 6 by decide, show ¬ (4 : Int) = 7 by decide, show ¬ (4 : Int) = 8 by decide, show ¬ (4 : Int) = 20 by decide, show ¬ (4 : Int) = 21 by decide, show ¬ (4 : Int) = 23 by decide, show ¬ (5 : Int) = 17 by decide, show ¬ (5 : Int) = 2 by decide, show ¬ (5 : Int) = 4 by decide, show ¬ (5 : Int) = 22 by decide, show ¬ (5 : Int) = 6 by decide, show ¬ (5 : Int) = 7 by decide, show ¬ (5 : Int) = 8 by decide, show ¬ (5 : Int) = 20 by decide, show ¬ (5 : Int) = 21 by decide, show ¬ (5 : Int) = 23 by decide, show ¬ (22 : Int) = 17 by decide, show ¬ (22 : Int) = 2 by decide, show ¬ (22 : Int) = 4 by decide, show ¬ (22 : Int) = 5 by decide, show ¬ (22 : Int) = 6 by decide, show ¬ (22 : Int) = 7 by decide, show ¬ (22 : Int) = 8 by decide, show ¬ (22 : Int) = 20 by decide, show ¬ (22 : Int) = 21 by decide, show ¬ (22 : Int) = 23 by decide, show ¬ (8 : Int) = 17 by decide, show ¬ (8 : Int) = 2 by decide, show ¬ (8 : Int) = 4 by decide, show ¬ (8 : Int) = 5 by decide, show ¬ (8 : Int) = 22 by decide, show ¬ (8 : Int) = 6 by decide, show ¬ (8 : Int) = 7 by decide, show ¬ (8 : Int) = 20 by decide, show ¬ (8 : Int) = 21 by decide, show ¬ (8 : Int) = 23 by decide, show ¬ (20 : Int) = 17 by decide, show ¬ (20 : Int) = 2 by decide, show ¬ (20 : Int) = 4 by decide, show ¬ (20 : Int) = 5 by decide, show ¬ (20 : Int) = 22 by decide, show ¬ (20 : Int) = 6 by decide, show ¬ (20 : Int) = 7 by decide, show ¬ (20 : Int) = 8 by decide, show ¬ (20 : Int) = 21 by decide, show ¬ (20 : Int) = 23 by decide, show ¬ (21 : Int) = 17 by decide, show ¬ (21 : Int) = 2 by decide, show ¬ (21 : Int) = 4 by decide, show ¬ (21 : Int) = 5 by decide, show ¬ (21 : Int) = 22 by decide, show ¬ (21 : Int) = 6 by decide, show ¬ (21 : Int) = 7 by decide, show ¬ (21 : Int) = 8 by decide, show ¬ (21 : Int) = 20 by decide, show ¬ (21 : Int) = 23 by decide, show ¬ (23 : Int) = 17 by decide, show ¬ (23 : Int) = 2 by decide, show ¬ (23 : Int) = 4 by decide, show ¬ (23 : Int) = 5 by decide, show ¬ (23 : Int) = 22 by decide, show ¬ (23 : Int) = 6 by decide, show ¬ (23 : Int) = 7 by decide, show ¬ (23 : Int) = 8 by decide, show ¬ (23 : Int) = 20 by decide, show ¬ (23 : Int) = 21 by decide, show ¬ (17 : Int) = 2 by decide, show ¬ (17 : Int) = 4 by decide, show ¬ (17 : Int) = 5 by decide, show ¬ (17 : Int) = 22 by decide, show ¬ (17 : Int) = 6 by decide, show ¬ (17 : Int) = 7 by decide, show ¬ (17 : Int) = 8 by decide, show ¬ (17 : Int) = 20 by decide, show ¬ (17 : Int) = 21 by decide, show ¬ (17 : Int) = 23 by decide, if_false, if_true, or_false, or_true, true_or, false_or] at hV
    first
      | (unfold evTyp at hV; skip)
      | skip
    rw [← hV] at hw
    have HW := Lib.hid hw
    have HV := Lib.hid hV
    clear hw hV
    go_enter Try.func42, Try.ntmps42
    have E := hu.only
    have FR : UFr b b w w := UFr.refl
    go_upto_region 9999 with (first | ((with_reducible refine at_dst 3 ?_); go_simp; (generalize hX3 : Array.size (World.heap _) = X3); refine new_block hX3 ?_; intro wn bb hx; (try (have z3 := Nat.le_trans E.size (Nat.le_of_eq hX3))); (try (have mhu_3 := hu.notin (Nat.le_of_eq hX3))); (try (have mFR_3 := FR.notin (Nat.le_of_eq hX3))); have b3 := Loc.new bb E hX3; clear bb hX3; (try replace E := E.ext hx); (try replace hu := hu.ext hx); (try replace FR := FR.ext hx); (try (clear hcE hfE)); (try (have hcf := bcell E.low; obtain ⟨hcE, hfE⟩ := hcf)); (try (clear c3 f3)); (try (have c3 := b3.cell; have f3 := b3.free))) | ((with_reducible refine at_dst 21 ?_); go_simp; ((with_reducible refine (quadd_any hu 3 (PR.in hs.hd.list) HW.out).mono ?_)); unfold QUPost; rintro e wn ⟨rfl, hu2, hF⟩; (try replace b3 := hu.loc b3 hF (of_decide_eq_true rfl)); replace FR := FR.trans hF; clear hu E hF; have hu := hu2; clear hu2; have E := hu.only; (try (clear hcE hfE)); (try (have hcf := bcell E.low; obtain ⟨hcE, hfE⟩ := hcf)); (try (clear c3 f3)); (try (have c3 := b3.cell; have f3 := b3.free))) | ((with_reducible refine at_dst 27 ?_); go_simp; (generalize hX27 : Array.size (World.heap _) = X27); refine new_block hX27 ?_; intro wn bb hx; (try (have n3_27 := (b3.ne hX27).1; have n27_3 := (b3.ne hX27).2)); (try (have z27 := Nat.le_trans E.size (Nat.le_of_eq hX27))); (try (have mhu_27 := hu.notin (Nat.le_of_eq hX27))); (try (have mFR_27 := FR.notin (Nat.le_of_eq hX27))); have b27 := bb; have g27 := Loc.new bb E hX27; clear bb hX27; (try replace E := E.ext hx); (try replace b3 := b3.ext hx); (try replace hu := hu.ext hx); (try replace FR := FR.ext hx); (try (clear hcE hfE)); (try (have hcf := bcell E.low; obtain ⟨hcE, hfE⟩ := hcf)); (try (clear c3 f3)); (try (have c3 := b3.cell; have f3 := b3.free))) | ((with_reducible refine at_dst 28 ?_); go_simp; ((with_reducible refine (quadd_any hu 2 (PR.blk1 b27) (wt_lone (by have := HW.out; rw [wtE_cons] at this; exact this))).mono ?_)); unfold QUPost; rintro e wn ⟨rfl, hu2, hF⟩; (try replace b3 := hu.loc b3 hF (of_decide_eq_true rfl)); replace FR := FR.trans hF; clear hu E hF; have hu := hu2; clear hu2; have E := hu.only; (try (clear hcE hfE)); (try (have hcf := bcell E.low; obtain ⟨hcE, hfE⟩ := hcf)); (try (clear c3 f3)); (try (have c3 := b3.cell; have f3 := b3.free))) | ((with_reducible refine at_dst 32 ?_); go_simp; ((with_reducible refine (quadd_any hu 3 (PR.in hs.hd.list) (wt_one (by have := HW.out; rw [wtE_cons] at this; exact this))).mono ?_)); unfold QUPost; rintro e wn ⟨rfl, hu2, hF⟩; (try replace b3 := hu.loc b3 hF (of_decide_eq_true rfl)); replace FR := FR.trans hF; clear hu E hF; have hu := hu2; clear hu2; have E := hu.only; (try (clear hcE hfE)); (try (have hcf := bcell E.low; obtain ⟨hcE, hfE⟩ := hcf)); (try (clear c3 f3)); (try (have c3 := b3.cell; have f3 := b3.free))) | ((with_reducible refine at_dst 38 ?_); (refine wp_part (vs := (nsC (s).h.source).toArray) b3.blk rfl rfl ?_ ?_ ?_ ?_); (· kernel_rfl); (· kernel_rfl); (· kernel_rfl)) | ((with_reducible refine at_dst 39 ?_); go_simp; ((with_reducible refine (quset_any hu 0 hs.hd.source HW.out).mono ?_)); unfold QUPost; rintro e wn ⟨rfl, hu2, hF⟩; (try replace b3 := hu.loc b3 hF (of_decide_eq_true rfl)); replace FR := FR.trans hF; clear hu E hF; have hu := hu2; clear hu2; have E := hu.only; (try (clear hcE hfE)); (try (have hcf := bcell E.low; obtain ⟨hcE, hfE⟩ := hcf)); (try (clear c3 f3)); (try (have c3 := b3.cell; have f3 := b3.free))) | ((with_reducible refine at_dst 45 ?_); go_simp; ((with_reducible refine (quadd_any hu 4 (PR.in hs.hd.list) (wt_l HW.out)).mono ?_)); unfold QUPost; rintro e wn ⟨rfl, hu2, hF⟩; (try replace b3 := hu.loc b3 hF (of_decide_eq_true rfl)); replace FR := FR.trans hF; clear hu E hF; have hu := hu2; clear hu2; have E := hu.only; (try (clear hcE hfE)); (try (have hcf := bcell E.low; obtain ⟨hcE, hfE⟩ := hcf)); (try (clear c3 f3)); (try (have c3 := b3.cell; have f3 := b3.free))) | ((with_reducible refine at_dst 48 ?_); (refine wp_part (vs := (lvC (s).h.level).toArray) b3.blk rfl rfl ?_ ?_ ?_ ?_); (· kernel_rfl); (· kernel_rfl); (· kernel_rfl)) | ((with_reducible refine at_dst 49 ?_); go_simp; ((with_reducible refine (qulevel_any hu hs.hd.level (wt_l (wt_r HW.out))).mono ?_)); unfold QUPost; rintro e wn ⟨rfl, hu2, hF⟩; (try replace b3 := hu.loc b3 hF (of_decide_eq_true rfl)); replace FR := FR.trans hF; clear hu E hF; have hu := hu2; clear hu2; have E := hu.only; (try (clear hcE hfE)); (try (have hcf := bcell E.low; obtain ⟨hcE, hfE⟩ := hcf)); (try (clear c3 f3)); (try (have c3 := b3.cell; have f3 := b3.free))) | ((with_reducible refine at_dst 52 ?_); (refine wp_part (vs := (rgC (s).h.range).toArray) b3.blk rfl rfl ?_ ?_ ?_ ?_); (· kernel_rfl); (· kernel_rfl); (· kernel_rfl)) | ((with_reducible refine at_dst 53 ?_); go_simp; ((with_reducible refine (quspan_any hu hs.hd.range (wt_r (wt_r HW.out))).mono ?_)); unfold QUPost; rintro e wn ⟨rfl, hu2, hF⟩; (try replace b3 := hu.loc b3 hF (of_decide_eq_true rfl)); replace FR := FR.trans hF; clear hu E hF; have hu := hu2; clear hu2; have E := hu.only; (try (clear hcE hfE)); (try (have hcf := bcell E.low; obtain ⟨hcE, hfE⟩ := hcf)); (try (clear c3 f3)); (try (have c3 := b3.cell; have f3 := b3.free))) | ((with_reducible refine at_dst 93 ?_); (refine wp_part (vs := (cxC (s).h.ctx).toArray) b3.blk rfl rfl ?_ ?_ ?_ ?_); (· kernel_rfl); (· kernel_rfl); (· kernel_rfl)) | ((with_reducible refine at_dst 94 ?_); go_simp; ((with_reducible refine (qucontext_any hu hs.hd.ctx HW.out).mono ?_)); unfold QUPost; rintro e wn ⟨rfl, hu2, hF⟩; (try replace b3 := hu.loc b3 hF (of_decide_eq_true rfl)); replace FR := FR.trans hF; clear hu E hF; have hu := hu2; clear hu2; have E := hu.only; (try (clear hcE hfE)); (try (have hcf := bcell E.low; obtain ⟨hcE, hfE⟩ := hcf)); (try (clear c3 f3)); (try (have c3 := b3.cell; have f3 := b3.free))) | ((with_reducible refine at_dst 99 ?_); (refine wp_part (vs := (nsC (s).h.source).toArray) b3.blk rfl rfl ?_ ?_ ?_ ?_); (· kernel_rfl); (· kernel_rfl); (· kernel_rfl)) | ((with_reducible refine at_dst 100 ?_); go_simp; ((with_reducible refine (quset_any hu 0 hs.hd.source (wt_l HW.out)).mono ?_)); unfold QUPost; rintro e wn ⟨rfl, hu2, hF⟩; (try replace b3 := hu.loc b3 hF (of_decide_eq_true rfl)); replace FR := FR.trans hF; clear hu E hF; have hu := hu2; clear hu2; have E := hu.only; (try (clear hcE hfE)); (try (have hcf := bcell E.low; obtain ⟨hcE, hfE⟩ := hcf)); (try (clear c3 f3)); (try (have c3 := b3.cell; have f3 := b3.free))) | ((with_reducible refine at_dst 103 ?_); (refine wp_part (vs := (nsC (s).h.target).toArray) b3.blk rfl rfl ?_ ?_ ?_ ?_); (· kernel_rfl); (· kernel_rfl); (· kernel_rfl)) | ((with_reducible refine at_dst 104 ?_); go_simp; ((with_reducible refine (quset_any hu 0 hs.hd.target (wt_r HW.out)).mono ?_)); unfold QUPost; rintro e wn ⟨rfl, hu2, hF⟩; (try replace b3 := hu.loc b3 hF (of_decide_eq_true rfl)); replace FR := FR.trans hF; clear hu E hF; have hu := hu2; clear hu2; have E := hu.only; (try (clear hcE hfE)); (try (have hcf := bcell E.low; obtain ⟨hcE, hfE⟩ := hcf)); (try (clear c3 f3)); (try (have c3 := b3.cell; have f3 := b3.free))) | ((with_reducible refine at_store 10 ?_); (refine wp_posQ (l := s.h.line) (c := s.h.col) hu rfl rfl rfl ?_ ?_); (· kernel_rfl); intro wn hu2 hF; replace b3 := hu.loc b3 hF (of_decide_eq_true rfl); replace FR := FR.trans hF; clear hu E hF; have hu := hu2; clear hu2; have E := hu.only; dsimp only [Act.put]; (try (clear hcE hfE)); (try (have hcf := bcell E.low; obtain ⟨hcE, hfE⟩ := hcf)); (try (clear c3 f3)); (try (have c3 := b3.cell; have f3 := b3.free))))
    refine bodyPost_ret (v := .tuple #[]) (by simp [results, Try.f42, go_sem]) rfl (quposte hu (by first | exact congrArg (adds U) HV.out | (rw [← HV.out]; simp only [adds_app]; rfl) | (rw [← HV.out]; simp only [adds_app]; done)) FR)
theorem qustmt_any {w0 : World} {b : Nat} : ∀ N : Nat, QStOk w0 b N
  | 0 => fun _ _ _ _ _ _ _ hz _ => absurd hz (Nat.not_lt_zero _)
  | N + 1 => qustmt_step (Lib.hid (qustmt_any N))
end Go.Proofs.Ytnifgkgdphlleaa
set_option linter.unusedSimpArgs false
set_option linter.unusedVariables false
namespace Go.Proofs.Ytnifgkgdphlleaa
open Go.RowKit Tk
set_option maxHeartbeats 2000000 in
set_option maxRecDepth 100000 in
theorem quses_any {w : World} {a : Option Addr} {n c : Nat} {l : List St} (hl : RRow w 55 stC (.slice a n c) l) (hok : St.oks w l) (hfl : St.fewls l) (hw : wtU [] + wtE (evSts l) ≤ 1900000000000) :
    Calls Try.prog 29 #[.slice a n c] w (YPost w (adds [] (evSts l))) := by
  obtain ⟨rfl, n2⟩ := RRow.lens hl
  go_enter Try.func29, Try.ntmps29
  have E := Only.refl [] w
  go_upto_region 3 with (first | ((with_reducible refine at_dst 6 ?_); go_simp; (generalize hX6 : Array.size (World.heap _) = X6); refine new_block hX6 ?_; intro wn bb hx; (try (have z6 := Nat.le_trans E.size (Nat.le_of_eq hX6))); (try (have mhu_6 := hu.notin (Nat.le_of_eq hX6))); (try (have mFR_6 := FR.notin (Nat.le_of_eq hX6))); have b6 := Loc.new bb E hX6; clear bb hX6; (try replace E := E.ext hx); (try replace hu := hu.ext hx); (try replace FR := FR.ext hx); (try (clear hcE hfE)); (try (have hcf := bcell E.low; obtain ⟨hcE, hfE⟩ := hcf)); (try (clear c6 f6)); (try (have c6 := b6.cell; have f6 := b6.free))))
  have hu : QAt w wn X6 (adds [] (evSts (l.take 0))) (0, 0) := ⟨E, ⟨[], none, 0, rfl, b6, OwnR.nil w wn 57 6 syC, (fun x hx => by cases hx)⟩, (fun x hx => by cases hx)⟩
  clear b6 c6 f6
  go_loopw [4] (fun i wr => ∃ (j : Nat) (p1 : Int × Int), i = .int .i64 j ∧ j ≤ l.length ∧ QAt w wr X6 (adds [] (evSts (l.take j))) p1) (fun i _ => l.length - (intOf i).toNat)
  case atStart => exact ⟨0, _, rfl, Nat.zero_le _, hu⟩
  case round =>
    clear hu E hcE hfE
    obtain ⟨j, p1, rfl, hj, hu⟩ := hrel
    have E := hu.only
    obtain ⟨hcE, hfE⟩ := bcell E.low
    by_cases hlt : j < l.length
    · obtain ⟨y, hy⟩ := at_some hlt
      obtain ⟨g, o, rfl, hg, -⟩ := RRow.cells hl hlt
      have HY := Lib.hid hy
      have hsn := sts_next (U := []) hy
      have HS := Lib.hid hsn
      have HW1 := Lib.hid (wt_next hy hw)
      have hyo := at_oks hok hy
      have hyf := at_fews hfl hy
      have FR : UFr X6 X6 wr wr := UFr.refl
      clear hy hsn
      go_upto_region 9999 with (first | ((with_reducible refine at_dst 17 ?_); (refine wp_rec2 ((hl.ext E.low)) (HY.out) stC_len rfl rfl ?_ ?_ ?_); (· kernel_rfl); (· kernel_rfl)) | ((with_reducible refine at_dst 18 ?_); go_simp; ((with_reducible refine (qustmt_any _ _ y hu hyo hyf (Nat.lt_succ_self _) HW1.out).mono ?_)); unfold QUPostE; rintro e wn ⟨rfl, p2, hu2, hF⟩; (try replace b6 := hu.loc b6 hF (of_decide_eq_true rfl)); replace FR := FR.trans hF; clear hu E hF; have hu := hu2; clear hu2; have E := hu.only; (try (clear hcE hfE)); (try (have hcf := bcell E.low; obtain ⟨hcE, hfE⟩ := hcf)); (try (clear c6 f6)); (try (have c6 := b6.cell; have f6 := b6.free))))
      go_roundw
      case rel => exact ⟨j + 1, _, by go_num, by omega, by rw [HS.out]; exact hu⟩
      case measure => simp [intOf]; omega
    · rw [List.take_of_length_le (by omega)] at hu
      obtain ⟨-, ⟨xs, sa, sc, hU, hB, hr, hP⟩, -⟩ := hu
      have cB := hB.cell
      have HU := Lib.hid hU
      clear hU
      go_upto_region 9999 with (first | fail)
      refine bodyPost_ret (v := .slice sa xs.length sc) (by simp [results, Try.f29, go_sem]) rfl ⟨sa, sc, xs, rfl, HU.out, ⟨hr.rsy, fun x hx => (hP x hx).reads strC_l⟩, E.low⟩
end Go.Proofs.Ytnifgkgdphlleaa
