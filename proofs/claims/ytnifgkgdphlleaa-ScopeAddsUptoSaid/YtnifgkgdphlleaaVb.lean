/- The uses of the program: lists, sets, classes, levels, ranges, contexts. -/
import Derived.Test.YtnifgkgdphlleaaVa
set_option linter.unusedSimpArgs false
set_option linter.unusedVariables false
namespace Go.Proofs.Ytnifgkgdphlleaa
open Go.RowKit Tk
theorem UAt.loc {w0 w w' : World} {b m X : Nat} {U : List PS} {p : Int × Int} {t : TypeId} {cs : Array Value} (h : UAt w0 w b m U p) (k : Loc [] w0 w X t cs) (hF : UFr b m w w') (ht : t ≠ 96 ∧ t ≠ 57) : Loc [] w0 w' X t cs := by
  obtain ⟨h1, ⟨xs, a, c, e, h2, h3, h4⟩, h5, h6, h7⟩ := h
  exact ⟨k.blk.ufr hF (k.blk.ne_ h2.blk ht.1) (fun e => h5.neB k.blk e.symm) ht.2, k.may⟩
theorem PR.uf {w0 w w' : World} {b m : Nat} {U : List PS} {p : Int × Int} {v : Value} {xs : List ByteArray} (h : PR w0 w v xs) (hu : UAt w0 w b m U p) (hF : UFr b m w w') : PR w0 w' v xs := by
  rcases h with h | h
  · exact .inl h
  · obtain ⟨h1, ⟨ys, a, c, e, h2, h3, h4⟩, h5, h6, h7⟩ := hu
    refine PR.ufr (.inr h) hF fun x hx => ⟨fun e => h.ne h2.blk (of_decide_eq_true rfl) (e ▸ hx), fun e => h5.ownN h (e ▸ hx)⟩
theorem Reads.nil0 (w : World) : Reads w (.slice Option.none 0 0) [] := RRow.nil _ _ _
theorem PR.nil (w0 w : World) : PR w0 w (.slice Option.none 0 0) [] := .inl (Reads.nil0 w0)
theorem PR.in {w0 w : World} {v : Value} {xs : List ByteArray} (h : Reads w0 v xs) : PR w0 w v xs := .inl h
def evList (p : Int × Int) (k : Int) (l : List ByteArray) : List Ev := l.map fun n => ⟨p, k, n, []⟩
def evSet (p : Int × Int) (k : Int) (n : NSet) : List Ev := evList p k n.names ++ evList p k n.except
def evCls (p : Int × Int) (n q : NSet) : List Ev := (n.names.map fun x => ⟨p, 1, x, q.names ++ q.except⟩) ++ evList p 1 n.except
def evCat (p : Int × Int) (c : ByteArray × ByteArray) : List Ev := [⟨p, 8, c.1, []⟩, ⟨p, 8, c.2, []⟩]
def evLvl (p : Int × Int) (l : Lvl) : List Ev := ⟨p, 7, l.sens, []⟩ :: l.cats.flatMap (evCat p)
def evRng (p : Int × Int) (r : Rng) : List Ev := evLvl p r.lo ++ evLvl p r.hi
def evCtx (p : Int × Int) (c : Ctx) : List Ev := ⟨p, 5, c.user, []⟩ :: ⟨p, 4, c.role, []⟩ :: ⟨p, 2, c.type, []⟩ :: evRng p c.rng
theorem adds_cons (U : List PS) (v : Ev) (E : List Ev) : adds U (v :: E) = adds (addU U v) E := rfl
theorem wtE_cons (v : Ev) (E : List Ev) : wtE (v :: E) = (1 + v.perms.length) + wtE E := by simp [wtE]
theorem adds_at {U : List PS} {E : List Ev} {j : Nat} {v : Ev} (h : E[j]? = some v) : addU (adds U (E.take j)) v = adds U (E.take (j + 1)) := by
  rw [take_at h, adds_app]; rfl
theorem adds_all {U : List PS} {E : List Ev} {j : Nat} (h : E.length ≤ j) : adds U (E.take j) = adds U E := by rw [List.take_of_length_le h]
theorem wt_at {U : List PS} {E : List Ev} {j : Nat} {v : Ev} {N : Nat} (h : E[j]? = some v) (hw : wtU U + wtE E ≤ N) : wtU (adds U (E.take j)) + (1 + v.perms.length) ≤ N := by
  have h1 := adds_wt (E.take j) U
  have h2 : wtE (E.take j) + (1 + v.perms.length) ≤ wtE E := by
    have := List.take_append_drop j E
    rw [← congrArg wtE this, wtE_app, drop_at h, wtE_cons]; omega
  omega
theorem wt_adds {U : List PS} {A : List Ev} {n N : Nat} (hw : wtU U + (wtE A + n) ≤ N) : wtU (adds U A) + n ≤ N := by
  have := adds_wt A U; omega
theorem evList_at {p : Int × Int} {k : Int} {l : List ByteArray} {j : Nat} (h : j < l.length) : (evList p k l)[j]? = some ⟨p, k, l[j], []⟩ := by
  unfold evList; rw [List.getElem?_map, List.getElem?_eq_getElem h]; rfl
theorem evList_len (p : Int × Int) (k : Int) (l : List ByteArray) : (evList p k l).length = l.length := by simp [evList]
theorem upost {w0 w w' : World} {b m : Nat} {U V : List PS} {p : Int × Int} (hu : UAt w0 w' b m U p) (e : U = V) (hF : UFr b m w w') : UPost w0 b m V p w (.returned (.tuple #[])) w' := by subst e; exact ⟨rfl, hu, hF⟩
set_option maxHeartbeats 1000000 in
set_option maxRecDepth 100000 in
theorem sulist_any {w0 w : World} {b m : Nat} {U : List PS} {p : Int × Int} (hu : UAt w0 w b m U p) (kind : Int) {a : Option Addr} {n c : Nat} {names : List ByteArray} (hn : Reads w0 (.slice a n c) names) (hw : wtU U + wtE (evList p kind names) ≤ 1900000000000) :
    Calls Try.prog 58 #[.pointer (some ⟨b, 0, none⟩), .int .i64 kind, .slice a n c] w (UPost w0 b m (adds U (evList p kind names)) p w) := by
  obtain ⟨rfl, n2⟩ := hn.lens
  go_enter Try.func58, Try.ntmps58
  have E := hu.only
  have FR : UFr b m w w := UFr.refl
  go_upto_region 1 with (first | fail)
  go_loopw [10] (fun i wr => ∃ j : Nat, i = .int .i64 j ∧ j ≤ names.length ∧ UAt w0 wr b m (adds U ((evList p kind names).take j)) p ∧ UFr b m w wr) (fun i _ => names.length - (intOf i).toNat)
  case atStart => exact ⟨0, rfl, Nat.zero_le _, hu, FR⟩
  case round =>
    clear hu FR E
    obtain ⟨j, rfl, hj, hu, FR⟩ := hrel
    have E := hu.only
    obtain ⟨hcE, hfE⟩ := bcell E.low
    by_cases hlt : j < names.length
    · obtain ⟨g, o, rfl, hg, k0⟩ := hn.cells hlt
      go_upto_region 9999 with (first | ((with_reducible refine at_dst 17 ?_); go_simp; ((with_reducible refine (suadd_any hu kind names[j] (PR.nil w0 _) (wt_at (evList_at hlt) hw)).mono ?_)); unfold UPost; rintro e wn ⟨rfl, hu2, hF⟩; skip; replace FR := FR.trans hF; clear hu E hF; have hu := hu2; clear hu2; have E := hu.only; (try (clear hcE hfE)); (try (have hcf := bcell E.low; obtain ⟨hcE, hfE⟩ := hcf))))
      go_roundw
      case rel => exact ⟨j + 1, by go_num, by omega, adds_at (U := U) (evList_at hlt) ▸ hu, FR⟩
      case measure => simp [intOf]; omega
    · go_upto_region 9999 with (first | fail)
      refine bodyPost_ret (v := .tuple #[]) (by simp [results, Try.f58, go_sem]) rfl (upost hu (adds_all (by rw [evList_len]; omega)) FR)
set_option maxHeartbeats 1000000 in
set_option maxRecDepth 100000 in
theorem suset_any {w0 w : World} {b m : Nat} {U : List PS} {p : Int × Int} (hu : UAt w0 w b m U p) (kind : Int) {n : NSet} (hn : n.ok w0) (hw : wtU U + wtE (evSet p kind n) ≤ 1900000000000) :
    Calls Try.prog 60 #[.pointer (some ⟨b, 0, none⟩), .int .i64 kind, .agg (nsC n).toArray] w (UPost w0 b m (adds U (evSet p kind n)) p w) := by
  go_enter Try.func60, Try.ntmps60
  have E := hu.only
  have FR : UFr b m w w := UFr.refl
  go_upto_region 9999 with (first | ((with_reducible refine at_dst 5 ?_); go_simp; (generalize hX5 : Array.size (World.heap _) = X5); refine new_block hX5 ?_; intro wn bb hx; (try (have z5 := Nat.le_trans E.size (Nat.le_of_eq hX5))); (try (have mhu_5 := hu.notin (Nat.le_of_eq hX5))); (try (have mFR_5 := FR.notin (Nat.le_of_eq hX5))); have b5 := Loc.new bb E hX5; clear bb hX5; (try replace E := E.ext hx); (try replace hu := hu.ext hx); (try replace FR := FR.ext hx); (try (clear hcE hfE)); (try (have hcf := bcell E.low; obtain ⟨hcE, hfE⟩ := hcf)); (try (clear c5 f5)); (try (have c5 := b5.cell; have f5 := b5.free))) | ((with_reducible refine at_dst 10 ?_); go_simp; ((with_reducible refine (sulist_any hu kind hn.n (by unfold evSet at hw; rw [wtE_app] at hw; omega)).mono ?_)); unfold UPost; rintro e wn ⟨rfl, hu2, hF⟩; (try replace b5 := hu.loc b5 hF (of_decide_eq_true rfl)); replace FR := FR.trans hF; clear hu E hF; have hu := hu2; clear hu2; have E := hu.only; (try (clear hcE hfE)); (try (have hcf := bcell E.low; obtain ⟨hcE, hfE⟩ := hcf)); (try (clear c5 f5)); (try (have c5 := b5.cell; have f5 := b5.free))) | ((with_reducible refine at_dst 15 ?_); go_simp; ((with_reducible refine (sulist_any hu kind hn.e (wt_adds (by unfold evSet at hw; rw [wtE_app] at hw; exact hw))).mono ?_)); unfold UPost; rintro e wn ⟨rfl, hu2, hF⟩; (try replace b5 := hu.loc b5 hF (of_decide_eq_true rfl)); replace FR := FR.trans hF; clear hu E hF; have hu := hu2; clear hu2; have E := hu.only; (try (clear hcE hfE)); (try (have hcf := bcell E.low; obtain ⟨hcE, hfE⟩ := hcf)); (try (clear c5 f5)); (try (have c5 := b5.cell; have f5 := b5.free))))
  refine bodyPost_ret (v := .tuple #[]) (by simp [results, Try.f60, go_sem]) rfl (upost hu (adds_app _ _ _).symm FR)
theorem Ext.growS {α : Type} {w w1 w2 : World} {t : TypeId} {k : Nat} {f : α → List Value} {u v' : Value} {zs : List α} (h : Ext w w1) (hn : ∀ x ∈ ownB u, w.heap.size ≤ x) (hA : AppPost w1 w2 t k f u v' zs) : Ext w w2 :=
  ⟨hA.grown.os.trans h.os, hA.grown.tape.trans h.tape, hA.grown.output.trans h.output, Nat.le_trans h.size hA.grown.size, fun i hi =>
    (hA.grown.block i (Nat.lt_of_lt_of_le hi h.size) fun e2 => by
      have := hn i (mem_ownB.2 e2.symm); omega).trans (h.block i hi)⟩
theorem Ext.newer {α : Type} {wa w w' : World} {t : TypeId} {k : Nat} {f : α → List Value} {u : Value} {ys : List α} (h : Ext wa w) (r : OwnR w w' t k f u ys) : ∀ x ∈ ownB u, wa.heap.size ≤ x := fun x hx => Nat.le_trans h.size (r.new x hx)
theorem OwnR.pr {w0 w : World} {v : Value} {xs : List ByteArray} (h : OwnR w0 w 9 1 strC v xs) : PR w0 w v xs := .inr h.row
theorem evCls_at {p : Int × Int} {n : NSet} {L : List ByteArray} {j : Nat} (h : j < n.names.length) : (n.names.map fun x => (⟨p, 1, x, L⟩ : Ev))[j]? = some ⟨p, 1, n.names[j], L⟩ := by
  rw [List.getElem?_map, List.getElem?_eq_getElem h]; rfl
theorem wt_cls {U : List PS} {p : Int × Int} {n q : NSet} {N : Nat} (hw : wtU U + wtE (evCls p n q) ≤ N) : wtU U + wtE (n.names.map fun x => (⟨p, 1, x, q.names ++ q.except⟩ : Ev)) ≤ N := by unfold evCls at hw; rw [wtE_app] at hw; omega
theorem few_of {n : Nat} (h : n ≤ 4000000000000) : few n := h
set_option maxHeartbeats 2000000 in
set_option maxRecDepth 100000 in
theorem suclasses_any {w0 w : World} {b m : Nat} {U : List PS} {p : Int × Int} (hu0 : UAt w0 w b m U p) {n q : NSet} (hn : n.ok w0) (hq : q.ok w0) (hf : q.names.length + q.except.length ≤ 4000000000000) (hw : wtU U + wtE (evCls p n q) ≤ 1900000000000) :
    Calls Try.prog 61 #[.pointer (some ⟨b, 0, none⟩), .agg (nsC n).toArray, .agg (nsC q).toArray] w (UPost w0 b m (adds U (evCls p n q)) p w) := by
  have hf1 : q.names.length ≤ 4000000000000 := by omega
  have n2 := (Reads.lens hn.n).2
  go_enter Try.func61, Try.ntmps61
  have E := hu0.only
  have EX := Ext.refl w
  go_upto_region 2 with (first | ((with_reducible refine at_dst 4 ?_); go_simp; (generalize hX4 : Array.size (World.heap _) = X4); refine new_block hX4 ?_; intro wn bb hx; (try (have n5_4 := (b5.ne hX4).1; have n4_5 := (b5.ne hX4).2)); (try (have z4 := Nat.le_trans E.size (Nat.le_of_eq hX4))); (try (have mhu_4 := hu.notin (Nat.le_of_eq hX4))); (try (have mFR_4 := FR.notin (Nat.le_of_eq hX4))); (try (have mhall_4 := hall.notin (Nat.le_of_eq hX4))); (try (have mEX_4 := EX.notin (Nat.le_of_eq hX4))); have b4 := Loc.new bb E hX4; clear bb hX4; (try replace E := E.ext hx); (try replace b5 := b5.ext hx); (try replace hu := hu.ext hx); (try replace FR := FR.ext hx); (try replace hall := hall.ext hx); (try replace EX := EX.ext hx); (try (clear hcE hfE)); (try (have hcf := bcell E.low; obtain ⟨hcE, hfE⟩ := hcf)); (try (clear c4 f4)); (try (have c4 := b4.cell; have f4 := b4.free)); (try (clear c5 f5)); (try (have c5 := b5.cell; have f5 := b5.free))) | ((with_reducible refine at_dst 5 ?_); go_simp; (generalize hX5 : Array.size (World.heap _) = X5); refine new_block hX5 ?_; intro wn bb hx; (try (have n4_5 := (b4.ne hX5).1; have n5_4 := (b4.ne hX5).2)); (try (have z5 := Nat.le_trans E.size (Nat.le_of_eq hX5))); (try (have mhu_5 := hu.notin (Nat.le_of_eq hX5))); (try (have mFR_5 := FR.notin (Nat.le_of_eq hX5))); (try (have mhall_5 := hall.notin (Nat.le_of_eq hX5))); (try (have mEX_5 := EX.notin (Nat.le_of_eq hX5))); have b5 := Loc.new bb E hX5; clear bb hX5; (try replace E := E.ext hx); (try replace b4 := b4.ext hx); (try replace hu := hu.ext hx); (try replace FR := FR.ext hx); (try replace hall := hall.ext hx); (try replace EX := EX.ext hx); (try (clear hcE hfE)); (try (have hcf := bcell E.low; obtain ⟨hcE, hfE⟩ := hcf)); (try (clear c4 f4)); (try (have c4 := b4.cell; have f4 := b4.free)); (try (clear c5 f5)); (try (have c5 := b5.cell; have f5 := b5.free))) | ((with_reducible refine at_dst 11 ?_); go_simp; ((refine (clone_any (hq.n.ext E.low) (few_of hf1)).mono ?_)); unfold SPost; rintro e wn ⟨oa, oc, rfl, r11, hx⟩; have hn11 := EX.newer r11; replace r11 := r11.old E; (try replace E := E.ext hx); (try replace b4 := b4.ext hx); (try replace b5 := b5.ext hx); (try replace hu := hu.ext hx); (try replace FR := FR.ext hx); (try replace hall := hall.ext hx); (try replace EX := EX.ext hx); (try (clear hcE hfE)); (try (have hcf := bcell E.low; obtain ⟨hcE, hfE⟩ := hcf)); (try (clear c4 f4)); (try (have c4 := b4.cell; have f4 := b4.free)); (try (clear c5 f5)); (try (have c5 := b5.cell; have f5 := b5.free))) | ((with_reducible refine at_dst 14 ?_); refine wp_own (.tmp 11) (.tmp 13) rfl info_str und_strs rfl (by decide) strC_l strC_one r11 E (hq.e.ext E.low) rfl rfl ?_ ?_ ?_; (· ((try unfold maxLen); omega)); (· ((try unfold maxLen); omega)); intro L14 hL14 s14 v14 wn r14 E2 hA; replace hL14 := Lib.hid hL14; (try replace b4 := b4.grow r11 hA (of_decide_eq_true rfl)); (try replace b5 := b5.grow r11 hA (of_decide_eq_true rfl)); (try replace hu := hu.grow r11 hA (of_decide_eq_true rfl)); (try replace FR := FR.grow r11 hA (of_decide_eq_true rfl)); (try replace hall := hall.grow r11 hA (of_decide_eq_true rfl)); (try replace EX := EX.grow r11 hA (of_decide_eq_true rfl)); clear E; have E := E2; clear E2; replace EX := EX.growS hn11 hA; have hk := ORow.kta r11.row hA; obtain ⟨o14, k14, rfl, l14, m14⟩ := ORow.len r14.row; (try (clear hcE hfE)); (try (have hcf := bcell E.low; obtain ⟨hcE, hfE⟩ := hcf)); (try (clear c4 f4)); (try (have c4 := b4.cell; have f4 := b4.free)); (try (clear c5 f5)); (try (have c5 := b5.cell; have f5 := b5.free)); (try simp only [Act.put, List.setIfInBounds_toArray, List.set_cons_zero, List.set_cons_succ])) | ((with_reducible refine at_reg 1 ?_); (refine wp_region_kt (id := 1) [0, 0, 2, 2, 3, 0, 0] [0, 1, 3, 4, 2, 5, 6] mixed ?_ ?_); (· decide +kernel); intro K hK wn hx; (try replace E := E.ext hx); (try replace b4 := b4.ext hx); (try replace b5 := b5.ext hx); (try replace hu := hu.ext hx); (try replace FR := FR.ext hx); (try replace hall := hall.ext hx); (try replace EX := EX.ext hx); (try (clear hcE hfE)); (try (have hcf := bcell E.low; obtain ⟨hcE, hfE⟩ := hcf)); (try (clear c4 f4)); (try (have c4 := b4.cell; have f4 := b4.free)); (try (clear c5 f5)); (try (have c5 := b5.cell; have f5 := b5.free)); dsimp only [pickL, List.getElem?_cons_succ, List.getElem?_cons_zero]) | ((with_reducible refine at_tag 0 ?_); (first | ((with_reducible refine wpTag_q ?_ ?_ ?_); rfl; rfl; intro _ _) | ((with_reducible refine wpTag_w ?_ ?_ ?_); rfl; rfl; intro _ _) | ((with_reducible refine wpTag_no ?_ ?_); (· first | rfl | (go_simp; done))) | ((with_reducible refine wpTag_s ?_ ?_); rfl; intro _ _; go_simp))) | ((with_reducible refine at_tag 2 ?_); (first | ((with_reducible refine wpTag_no ?_ ?_); (· first | rfl | (go_simp; done))) | (apply wpTag_2; (· rfl); (· first | rfl | go_simp); (· intro wq hq; (try (clear c4 f4)); (try (have c4 := (b4.kt hq (of_decide_eq_true rfl)).cell; have f4 := (b4.kt hq (of_decide_eq_true rfl)).free)); (try (clear c5 f5)); (try (have c5 := (b5.kt hq (of_decide_eq_true rfl)).cell; have f5 := (b5.kt hq (of_decide_eq_true rfl)).free)); go_simp <;> rfl); (try simp only [Act.put, List.setIfInBounds_toArray, List.set_cons_zero, List.set_cons_succ])))) | ((with_reducible refine at_tag 3 ?_); (first | ((with_reducible refine wpTag_no ?_ ?_); (· first | rfl | (go_simp; done))) | ((refine wpTag_3 ?_ ?_ (fun K2 hK2 => ?_)); (· rfl); (· first | rfl | go_simp)))) | ((with_reducible refine at_andk ?_ ?_); (· first | exact hk | exact KT.of_ext hx | exact KT.refl _)) | ((with_reducible refine at_tagn ?_); (with_reducible refine wpTag_nil ?_)))
  have hu := hu0.ext EX
  have FR : UFr b m w wn := UFr.of_ext EX
  have hall := r14.pr
  have hw2 : wtU U + wtE (n.names.map fun x => (⟨p, 1, x, L14⟩ : Ev)) ≤ 1900000000000 := by rw [← hL14.out]; exact wt_cls hw
  clear EX hu0 r14
  go_upto_region 3 with (first | fail)
  go_loopw [18] (fun i wr => ∃ j : Nat, i = .int .i64 j ∧ j ≤ n.names.length ∧ UAt w0 wr b m (adds U ((n.names.map fun x => (⟨p, 1, x, L14⟩ : Ev)).take j)) p ∧ UFr b m w wr ∧ PR w0 wr (.slice o14 L14.length k14) L14 ∧ Loc [] w0 wr X4 36 (nsC n).toArray) (fun i _ => n.names.length - (intOf i).toNat)
  case atStart => exact ⟨0, rfl, Nat.zero_le _, hu, FR, hall, b4⟩
  case round =>
    clear hu FR E hall b4 c4 f4 b5 c5 f5
    obtain ⟨j, rfl, hj, hu, FR, hall, b4⟩ := hrel
    have E := hu.only
    have c4 := b4.cell
    have f4 := b4.free
    obtain ⟨hcE, hfE⟩ := bcell E.low
    by_cases hlt : j < n.names.length
    · obtain ⟨g, o, hgo, hg, k0⟩ := hn.n.cells hlt
      go_upto_region 9999 with (first | ((with_reducible refine at_dst 25 ?_); go_simp; ((with_reducible refine (suadd_any hu 1 n.names[j] hall (wt_at (evCls_at hlt) hw2)).mono ?_)); unfold UPost; rintro e wn ⟨rfl, hu2, hF⟩; (try replace b4 := hu.loc b4 hF (of_decide_eq_true rfl)); (try replace b5 := hu.loc b5 hF (of_decide_eq_true rfl)); (try replace hall := hall.uf hu hF); (try replace EX := EX.uf hu hF); replace FR := FR.trans hF; clear hu E hF; have hu := hu2; clear hu2; have E := hu.only; (try (clear hcE hfE)); (try (have hcf := bcell E.low; obtain ⟨hcE, hfE⟩ := hcf)); (try (clear c4 f4)); (try (have c4 := b4.cell; have f4 := b4.free)); (try (clear c5 f5)); (try (have c5 := b5.cell; have f5 := b5.free))))
      simp only [← hgo]
      clear hgo
      go_roundw
      case rel => exact ⟨j + 1, by go_num, by omega, adds_at (U := U) (evCls_at hlt) ▸ hu, FR, hall, b4⟩
      case measure => simp [intOf]; omega
    · rw [adds_all (by rw [List.length_map]; omega)] at hu
      go_upto_region 9999 with (first | ((with_reducible refine at_dst 30 ?_); go_simp; ((with_reducible refine (sulist_any hu 1 hn.e (wt_adds (by unfold evCls at hw; rw [wtE_app, hL14.out] at hw; exact hw))).mono ?_)); unfold UPost; rintro e wn ⟨rfl, hu2, hF⟩; (try replace b4 := hu.loc b4 hF (of_decide_eq_true rfl)); (try replace b5 := hu.loc b5 hF (of_decide_eq_true rfl)); (try replace hall := hall.uf hu hF); (try replace EX := EX.uf hu hF); replace FR := FR.trans hF; clear hu E hF; have hu := hu2; clear hu2; have E := hu.only; (try (clear hcE hfE)); (try (have hcf := bcell E.low; obtain ⟨hcE, hfE⟩ := hcf)); (try (clear c4 f4)); (try (have c4 := b4.cell; have f4 := b4.free)); (try (clear c5 f5)); (try (have c5 := b5.cell; have f5 := b5.free))))
      refine bodyPost_ret (v := .tuple #[]) (by simp [results, Try.f61, go_sem]) rfl (upost hu (by rw [evCls, hL14.out]; exact (adds_app _ _ _).symm) FR)
end Go.Proofs.Ytnifgkgdphlleaa
