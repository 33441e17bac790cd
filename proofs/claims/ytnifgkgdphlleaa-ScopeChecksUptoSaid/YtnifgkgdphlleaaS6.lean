/- Vb, Vc -/
import Derived.Test.YtnifgkgdphlleaaS5
set_option linter.unusedSimpArgs false
set_option linter.unusedVariables false
namespace Go.Proofs.Ytnifgkgdphlleaa
open Go.RowKit Tk
theorem UAt.loc {w0 w w' : World} {b m X : Nat} {U : List PS} {p : Int × Int} {t : TypeId} {cs : Array Value} (h : UAt w0 w b m U p) (k : Loc [] w0 w X t cs) (hF : UFr b m w w') (ht : t ≠ 96 ∧ t ≠ 57) : Loc [] w0 w' X t cs := by
  obtain ⟨h1, ⟨xs, a, c, e, h2, h3, h4⟩, h5, h6, h7⟩ := h
  exact ⟨k.blk.ufr hF (k.blk.ne_ h2.blk ht.1) (fun e => h5.neB k.blk e.symm) ht.2, k.may⟩
theorem PR.uf {w0 w w' : World} {b m : Nat} {U : List PS} {p : Int × Int} {v : Value} {xs : List ByteArray} (h : PR w0 w v xs) (hu : UAt w0 w b m U p) (hF : UFr b m w w') : PR w0 w' v xs := by
  rcases h with h | h
  · exact .inl h
  · obtain ⟨h1, ⟨ys, a, c, e, h2, h3, h4⟩, h5, h6, h7⟩ := hu
    refine PR.ufr (.inr h) hF fun x hx => ⟨fun e => h.ne h2.blk (of_decide_eq_true rfl) (e ▸ hx), fun e => h5.ownN h (e ▸ hx)⟩
theorem Reads.nil0 (w : World) : Reads w (.slice Option.none 0 0) [] := RRow.nil _ _ _
theorem PR.nil (w0 w : World) : PR w0 w (.slice Option.none 0 0) [] := .inl (Reads.nil0 w0)
theorem PR.in {w0 w : World} {v : Value} {xs : List ByteArray} (h : Reads w0 v xs) : PR w0 w v xs := .inl h
def evList (p : Int × Int) (k : Int) (l : List ByteArray) : List Ev := l.map fun n => ⟨p, k, n, []⟩
def evSet (p : Int × Int) (k : Int) (n : NSet) : List Ev := evList p k n.names ++ evList p k n.except
def evCls (p : Int × Int) (n q : NSet) : List Ev := (n.names.map fun x => ⟨p, 1, x, q.names ++ q.except⟩) ++ evList p 1 n.except
def evCat (p : Int × Int) (c : ByteArray × ByteArray) : List Ev := [⟨p, 8, c.1, []⟩, ⟨p, 8, c.2, []⟩]
def evLvl (p : Int × Int) (l : Lvl) : List Ev := ⟨p, 7, l.sens, []⟩ :: l.cats.flatMap (evCat p)
def evRng (p : Int × Int) (r : Rng) : List Ev := evLvl p r.lo ++ evLvl p r.hi
def evCtx (p : Int × Int) (c : Ctx) : List Ev := ⟨p, 5, c.user, []⟩ :: ⟨p, 4, c.role, []⟩ :: ⟨p, 2, c.type, []⟩ :: evRng p c.rng
theorem adds_cons (U : List PS) (v : Ev) (E : List Ev) : adds U (v :: E) = adds (addU U v) E := rfl
theorem wtE_cons (v : Ev) (E : List Ev) : wtE (v :: E) = (1 + v.perms.length) + wtE E := by simp [wtE]
theorem adds_at {U : List PS} {E : List Ev} {j : Nat} {v : Ev} (h : E[j]? = some v) : addU (adds U (E.take j)) v = adds U (E.take (j + 1)) := by
  rw [take_at h, adds_app]; rfl
theorem adds_all {U : List PS} {E : List Ev} {j : Nat} (h : E.length ≤ j) : adds U (E.take j) = adds U E := by rw [List.take_of_length_le h]
theorem wt_at {U : List PS} {E : List Ev} {j : Nat} {v : Ev} {N : Nat} (h : E[j]? = some v) (hw : wtU U + wtE E ≤ N) : wtU (adds U (E.take j)) + (1 + v.perms.length) ≤ N := by
  have h1 := adds_wt (E.take j) U
  have h2 : wtE (E.take j) + (1 + v.perms.length) ≤ wtE E := by
    have := List.take_append_drop j E
    rw [← congrArg wtE this, wtE_app, drop_at h, wtE_cons]; omega
  omega
theorem wt_adds {U : List PS} {A : List Ev} {n N : Nat} (hw : wtU U + (wtE A + n) ≤ N) : wtU (adds U A) + n ≤ N := by
  have := adds_wt A U; omega
theorem evList_at {p : Int × Int} {k : Int} {l : List ByteArray} {j : Nat} (h : j < l.length) : (evList p k l)[j]? = some ⟨p, k, l[j], []⟩ := by
  unfold evList; rw [List.getElem?_map, List.getElem?_eq_getElem h]; rfl
theorem evList_len (p : Int × Int) (k : Int) (l : List ByteArray) : (evList p k l).length = l.length := by simp [evList]
theorem upost {w0 w w' : World} {b m : Nat} {U V : List PS} {p : Int × Int} (hu : UAt w0 w' b m U p) (e : U = V) (hF : UFr b m w w') : UPost w0 b m V p w (.returned (.tuple #[])) w' := by subst e; exact ⟨rfl, hu, hF⟩
set_option maxHeartbeats 1000000 in
set_option maxRecDepth 100000 in
theorem sulist_any {w0 w : World} {b m : Nat} {U : List PS} {p : Int × Int} (hu : UAt w0 w b m U p) (kind : Int) {a : Option Addr} {n c : Nat} {names : List ByteArray} (hn : Reads w0 (.slice a n c) names) (hw : wtU U + wtE (evList p kind names) ≤ 1900000000000) :
    Calls Try.prog 58 #[.pointer (some ⟨b, 0, none⟩), .int .i64 kind, .slice a n c] w (UPost w0 b m (adds U (evList p kind names)) p w) := by
  obtain ⟨rfl, n2⟩ := hn.lens
  go_enter Try.func58, Try.ntmps58
  have E := hu.only
  have FR : UFr b m w w := UFr.refl
  go_upto_region 1 with (first | fail)
  go_loopw [10] (fun i wr => ∃ j : Nat, i = .int .i64 j ∧ j ≤ names.length ∧ UAt w0 wr b m (adds U ((evList p kind names).take j)) p ∧ UFr b m w wr) (fun i _ => names.length - (intOf i).toNat)
  case atStart => exact ⟨0, rfl, Nat.zero_le _, hu, FR⟩
  case round =>
    clear hu FR E
    obtain ⟨j, rfl, hj, hu, FR⟩ := hrel
    have E := hu.only
    obtain ⟨hcE, hfE⟩ := bcell E.low
    by_cases hlt : j < names.length
    · obtain ⟨g, o, rfl, hg, k0⟩ := hn.cells hlt
      go_upto_region 9999 with (first | ((with_reducible refine at_dst 17 ?_); go_simp; ((with_reducible refine (suadd_any hu kind names[j] (PR.nil w0 _) (wt_at (evList_at hlt) hw)).mono ?_)); unfold UPost; rintro e wn ⟨rfl, hu2, hF⟩; skip; replace FR := FR.trans hF; clear hu E hF; have hu := hu2; clear hu2; have E := hu.only; (try (clear hcE hfE)); (try (have hcf := bcell E.low; obtain ⟨hcE, hfE⟩ := hcf))))
      go_roundw
      case rel => exact ⟨j + 1, by go_num, by omega, adds_at (U := U) (evList_at hlt) ▸ hu, FR⟩
      case measure => simp [intOf]; omega
    · go_upto_region 9999 with (first | fail)
      refine bodyPost_ret (v := .tuple #[]) (by simp [results, Try.f58, go_sem]) rfl (upost hu (adds_all (by rw [evList_len]; omega)) FR)
set_option maxHeartbeats 1000000 in
set_option maxRecDepth 100000 in
theorem suset_any {w0 w : World} {b m : Nat} {U : List PS} {p : Int × Int} (hu : UAt w0 w b m U p) (kind : Int) {n : NSet} (hn : n.ok w0) (hw : wtU U + wtE (evSet p kind n) ≤ 1900000000000) :
    Calls Try.prog 60 #[.pointer (some ⟨b, 0, none⟩), .int .i64 kind, .agg (nsC n).toArray] w (UPost w0 b m (adds U (evSet p kind n)) p w) := by
  go_enter Try.func60, Try.ntmps60
  have E := hu.only
  have FR : UFr b m w w := UFr.refl
  go_upto_region 9999 with (first | ((with_reducible refine at_dst 5 ?_); go_simp; (generalize hX5 : Array.size (World.heap _) = X5); refine new_block hX5 ?_; intro wn bb hx; (try (have z5 := Nat.le_trans E.size (Nat.le_of_eq hX5))); (try (have mhu_5 := hu.notin (Nat.le_of_eq hX5))); (try (have mFR_5 := FR.notin (Nat.le_of_eq hX5))); have b5 := Loc.new bb E hX5; clear bb hX5; (try replace E := E.ext hx); (try replace hu := hu.ext hx); (try replace FR := FR.ext hx); (try (clear hcE hfE)); (try (have hcf := bcell E.low; obtain ⟨hcE, hfE⟩ := hcf)); (try (clear c5 f5)); (try (have c5 := b5.cell; have f5 := b5.free))) | ((with_reducible refine at_dst 10 ?_); go_simp; ((with_reducible refine (sulist_any hu kind hn.n (by unfold evSet at hw; rw [wtE_app] at hw; omega)).mono ?_)); unfold UPost; rintro e wn ⟨rfl, hu2, hF⟩; (try replace b5 := hu.loc b5 hF (of_decide_eq_true rfl)); replace FR := FR.trans hF; clear hu E hF; have hu := hu2; clear hu2; have E := hu.only; (try (clear hcE hfE)); (try (have hcf := bcell E.low; obtain ⟨hcE, hfE⟩ := hcf)); (try (clear c5 f5)); (try (have c5 := b5.cell; have f5 := b5.free))) | ((with_reducible refine at_dst 15 ?_); go_simp; ((with_reducible refine (sulist_any hu kind hn.e (wt_adds (by unfold evSet at hw; rw [wtE_app] at hw; exact hw))).mono ?_)); unfold UPost; rintro e wn ⟨rfl, hu2, hF⟩; (try replace b5 := hu.loc b5 hF (of_decide_eq_true rfl)); replace FR := FR.trans hF; clear hu E hF; have hu := hu2; clear hu2; have E := hu.only; (try (clear hcE hfE)); (try (have hcf := bcell E.low; obtain ⟨hcE, hfE⟩ := hcf)); (try (clear c5 f5)); (try (have c5 := b5.cell; have f5 := b5.free))))
  refine bodyPost_ret (v := .tuple #[]) (by simp [results, Try.f60, go_sem]) rfl (upost hu (adds_app _ _ _).symm FR)
theorem Ext.growS {α : Type} {w w1 w2 : World} {t : TypeId} {k : Nat} {f : α → List Value} {u v' : Value} {zs : List α} (h : Ext w w1) (hn : ∀ x ∈ ownB u, w.heap.size ≤ x) (hA : AppPost w1 w2 t k f u v' zs) : Ext w w2 :=
  ⟨hA.grown.os.trans h.os, hA.grown.tape.trans h.tape, hA.grown.output.trans h.output, Nat.le_trans h.size hA.grown.size, fun i hi =>
    (hA.grown.block i (Nat.lt_of_lt_of_le hi h.size) fun e2 => by
      have := hn i (mem_ownB.2 e2.symm); omega).trans (h.block i hi)⟩
theorem Ext.newer {α : Type} {wa w w' : World} {t : TypeId} {k : Nat} {f : α → List Value} {u : Value} {ys : List α} (h : Ext wa w) (r : OwnR w w' t k f u ys) : ∀ x ∈ ownB u, wa.heap.size ≤ x := fun x hx => Nat.le_trans h.size (r.new x hx)
theorem OwnR.pr {w0 w : World} {v : Value} {xs : List ByteArray} (h : OwnR w0 w 9 1 strC v xs) : PR w0 w v xs := .inr h.row
theorem evCls_at {p : Int × Int} {n : NSet} {L : List ByteArray} {j : Nat} (h : j < n.names.length) : (n.names.map fun x => (⟨p, 1, x, L⟩ : Ev))[j]? = some ⟨p, 1, n.names[j], L⟩ := by
  rw [List.getElem?_map, List.getElem?_eq_getElem h]; rfl
theorem wt_cls {U : List PS} {p : Int × Int} {n q : NSet} {N : Nat} (hw : wtU U + wtE (evCls p n q) ≤ N) : wtU U + wtE (n.names.map fun x => (⟨p, 1, x, q.names ++ q.except⟩ : Ev)) ≤ N := by unfold evCls at hw; rw [wtE_app] at hw; omega
theorem few_of {n : Nat} (h : n ≤ 4000000000000) : few n := h
set_option maxHeartbeats 2000000 in
set_option maxRecDepth 100000 in
theorem suclasses_any {w0 w : World} {b m : Nat} {U : List PS} {p : Int × Int} (hu0 : UAt w0 w b m U p) {n q : NSet} (hn : n.ok w0) (hq : q.ok w0) (hf : q.names.length + q.except.length ≤ 4000000000000) (hw : wtU U + wtE (evCls p n q) ≤ 1900000000000) :
    Calls Try.prog 61 #[.pointer (some ⟨b, 0, none⟩), .agg (nsC n).toArray, .agg (nsC q).toArray] w (UPost w0 b m (adds U (evCls p n q)) p w) := by
  have hf1 : q.names.length ≤ 4000000000000 := by omega
  have n2 := (Reads.lens hn.n).2
  go_enter Try.func61, Try.ntmps61
  have E := hu0.only
  have EX := Ext.refl w
  go_upto_region 2 with (first | ((with_reducible refine at_dst 4 ?_); go_simp; (generalize hX4 : Array.size (World.heap _) = X4); refine new_block hX4 ?_; intro wn bb hx; (try (have n5_4 := (b5.ne hX4).1; have n4_5 := (b5.ne hX4).2)); (try (have z4 := Nat.le_trans E.size (Nat.le_of_eq hX4))); (try (have mhu_4 := hu.notin (Nat.le_of_eq hX4))); (try (have mFR_4 := FR.notin (Nat.le_of_eq hX4))); (try (have mhall_4 := hall.notin (Nat.le_of_eq hX4))); (try (have mEX_4 := EX.notin (Nat.le_of_eq hX4))); have b4 := Loc.new bb E hX4; clear bb hX4; (try replace E := E.ext hx); (try replace b5 := b5.ext hx); (try replace hu := hu.ext hx); (try replace FR := FR.ext hx); (try replace hall := hall.ext hx); (try replace EX := EX.ext hx); (try (clear hcE hfE)); (try (have hcf := bcell E.low; obtain ⟨hcE, hfE⟩ := hcf)); (try (clear c4 f4)); (try (have c4 := b4.cell; have f4 := b4.free)); (try (clear c5 f5)); (try (have c5 := b5.cell; have f5 := b5.free))) | ((with_reducible refine at_dst 5 ?_); go_simp; (generalize hX5 : Array.size (World.heap _) = X5); refine new_block hX5 ?_; intro wn bb hx; (try (have n4_5 := (b4.ne hX5).1; have n5_4 := (b4.ne hX5).2)); (try (have z5 := Nat.le_trans E.size (Nat.le_of_eq hX5))); (try (have mhu_5 := hu.notin (Nat.le_of_eq hX5))); (try (have mFR_5 := FR.notin (Nat.le_of_eq hX5))); (try (have mhall_5 := hall.notin (Nat.le_of_eq hX5))); (try (have mEX_5 := EX.notin (Nat.le_of_eq hX5))); have b5 := Loc.new bb E hX5; clear bb hX5; (try replace E := E.ext hx); (try replace b4 := b4.ext hx); (try replace hu := hu.ext hx); (try replace FR := FR.ext hx); (try replace hall := hall.ext hx); (try replace EX := EX.ext hx); (try (clear hcE hfE)); (try (have hcf := bcell E.low; obtain ⟨hcE, hfE⟩ := hcf)); (try (clear c4 f4)); (try (have c4 := b4.cell; have f4 := b4.free)); (try (clear c5 f5)); (try (have c5 := b5.cell; have f5 := b5.free))) | ((with_reducible refine at_dst 11 ?_); go_simp; ((refine (clone_any (hq.n.ext E.low) (few_of hf1)).mono ?_)); unfold SPost; rintro e wn ⟨oa, oc, rfl, r11, hx⟩; have hn11 := EX.newer r11; replace r11 := r11.old E; (try replace E := E.ext hx); (try replace b4 := b4.ext hx); (try replace b5 := b5.ext hx); (try replace hu := hu.ext hx); (try replace FR := FR.ext hx); (try replace hall := hall.ext hx); (try replace EX := EX.ext hx); (try (clear hcE hfE)); (try (have hcf := bcell E.low; obtain ⟨hcE, hfE⟩ := hcf)); (try (clear c4 f4)); (try (have c4 := b4.cell; have f4 := b4.free)); (try (clear c5 f5)); (try (have c5 := b5.cell; have f5 := b5.free))) | ((with_reducible refine at_dst 14 ?_); refine wp_own (.tmp 11) (.tmp 13) rfl info_str und_strs rfl (by decide) strC_l strC_one r11 E (hq.e.ext E.low) rfl rfl ?_ ?_ ?_; (· ((try unfold maxLen); omega)); (· ((try unfold maxLen); omega)); intro L14 hL14 s14 v14 wn r14 E2 hA; replace hL14 := Lib.hid hL14; (try replace b4 := b4.grow r11 hA (of_decide_eq_true rfl)); (try replace b5 := b5.grow r11 hA (of_decide_eq_true rfl)); (try replace hu := hu.grow r11 hA (of_decide_eq_true rfl)); (try replace FR := FR.grow r11 hA (of_decide_eq_true rfl)); (try replace hall := hall.grow r11 hA (of_decide_eq_true rfl)); (try replace EX := EX.grow r11 hA (of_decide_eq_true rfl)); clear E; have E := E2; clear E2; replace EX := EX.growS hn11 hA; have hk := ORow.kta r11.row hA; obtain ⟨o14, k14, rfl, l14, m14⟩ := ORow.len r14.row; (try (clear hcE hfE)); (try (have hcf := bcell E.low; obtain ⟨hcE, hfE⟩ := hcf)); (try (clear c4 f4)); (try (have c4 := b4.cell; have f4 := b4.free)); (try (clear c5 f5)); (try (have c5 := b5.cell; have f5 := b5.free)); (try simp only [Act.put, actL])) | ((with_reducible refine at_reg 1 ?_); (refine wp_region_kt (id := 1) [0, 0, 2, 2, 3, 0, 0] [0, 1, 3, 4, 2, 5, 6] mixed ?_ ?_); (· decide +kernel); intro K hK wn hx; (try replace E := E.ext hx); (try replace b4 := b4.ext hx); (try replace b5 := b5.ext hx); (try replace hu := hu.ext hx); (try replace FR := FR.ext hx); (try replace hall := hall.ext hx); (try replace EX := EX.ext hx); (try (clear hcE hfE)); (try (have hcf := bcell E.low; obtain ⟨hcE, hfE⟩ := hcf)); (try (clear c4 f4)); (try (have c4 := b4.cell; have f4 := b4.free)); (try (clear c5 f5)); (try (have c5 := b5.cell; have f5 := b5.free)); dsimp only [pickL, List.getElem?_cons_succ, List.getElem?_cons_zero]) | ((with_reducible refine at_tag 0 ?_); (first | ((with_reducible refine wpTag_q ?_ ?_ ?_); rfl; rfl; intro _ _) | ((with_reducible refine wpTag_w ?_ ?_ ?_); rfl; rfl; intro _ _) | ((with_reducible refine wpTag_no ?_ ?_); (· first | rfl | (go_simp; done))) | ((with_reducible refine wpTag_s ?_ ?_); rfl; intro _ _; go_simp))) | ((with_reducible refine at_tag 2 ?_); (first | ((with_reducible refine wpTag_no ?_ ?_); (· first | rfl | (go_simp; done))) | (apply wpTag_2; (· rfl); (· first | rfl | go_simp); (· intro wq hq; (try (clear c4 f4)); (try (have c4 := (b4.kt hq (of_decide_eq_true rfl)).cell; have f4 := (b4.kt hq (of_decide_eq_true rfl)).free)); (try (clear c5 f5)); (try (have c5 := (b5.kt hq (of_decide_eq_true rfl)).cell; have f5 := (b5.kt hq (of_decide_eq_true rfl)).free)); go_simp <;> rfl); (try simp only [Act.put, actL])))) | ((with_reducible refine at_tag 3 ?_); (first | ((with_reducible refine wpTag_no ?_ ?_); (· first | rfl | (go_simp; done))) | ((refine wpTag_3 ?_ ?_ (fun K2 hK2 => ?_)); (· rfl); (· first | rfl | go_simp)))) | ((with_reducible refine at_andk ?_ ?_); (· first | exact hk | exact KT.of_ext hx | exact KT.refl _)) | ((with_reducible refine at_tagn ?_); (with_reducible refine wpTag_nil ?_)))
  have hu := hu0.ext EX
  have FR : UFr b m w wn := UFr.of_ext EX
  have hall := r14.pr
  have hw2 : wtU U + wtE (n.names.map fun x => (⟨p, 1, x, L14⟩ : Ev)) ≤ 1900000000000 := by rw [← hL14.out]; exact wt_cls hw
  clear EX hu0 r14
  go_upto_region 3 with (first | fail)
  go_loopw [18] (fun i wr => ∃ j : Nat, i = .int .i64 j ∧ j ≤ n.names.length ∧ UAt w0 wr b m (adds U ((n.names.map fun x => (⟨p, 1, x, L14⟩ : Ev)).take j)) p ∧ UFr b m w wr ∧ PR w0 wr (.slice o14 L14.length k14) L14 ∧ Loc [] w0 wr X4 36 (nsC n).toArray) (fun i _ => n.names.length - (intOf i).toNat)
  case atStart => exact ⟨0, rfl, Nat.zero_le _, hu, FR, hall, b4⟩
  case round =>
    clear hu FR E hall b4 c4 f4 b5 c5 f5
    obtain ⟨j, rfl, hj, hu, FR, hall, b4⟩ := hrel
    have E := hu.only
    have c4 := b4.cell
    have f4 := b4.free
    obtain ⟨hcE, hfE⟩ := bcell E.low
    by_cases hlt : j < n.names.length
    · obtain ⟨g, o, hgo, hg, k0⟩ := hn.n.cells hlt
      go_upto_region 9999 with (first | ((with_reducible refine at_dst 25 ?_); go_simp; ((with_reducible refine (suadd_any hu 1 n.names[j] hall (wt_at (evCls_at hlt) hw2)).mono ?_)); unfold UPost; rintro e wn ⟨rfl, hu2, hF⟩; (try replace b4 := hu.loc b4 hF (of_decide_eq_true rfl)); (try replace b5 := hu.loc b5 hF (of_decide_eq_true rfl)); (try replace hall := hall.uf hu hF); (try replace EX := EX.uf hu hF); replace FR := FR.trans hF; clear hu E hF; have hu := hu2; clear hu2; have E := hu.only; (try (clear hcE hfE)); (try (have hcf := bcell E.low; obtain ⟨hcE, hfE⟩ := hcf)); (try (clear c4 f4)); (try (have c4 := b4.cell; have f4 := b4.free)); (try (clear c5 f5)); (try (have c5 := b5.cell; have f5 := b5.free))))
      simp only [← hgo]
      clear hgo
      go_roundw
      case rel => exact ⟨j + 1, by go_num, by omega, adds_at (U := U) (evCls_at hlt) ▸ hu, FR, hall, b4⟩
      case measure => simp [intOf]; omega
    · rw [adds_all (by rw [List.length_map]; omega)] at hu
      go_upto_region 9999 with (first | ((with_reducible refine at_dst 30 ?_); go_simp; ((with_reducible refine (sulist_any hu 1 hn.e (wt_adds (by unfold evCls at hw; rw [wtE_app, hL14.out] at hw; exact hw))).mono ?_)); unfold UPost; rintro e wn ⟨rfl, hu2, hF⟩; (try replace b4 := hu.loc b4 hF (of_decide_eq_true rfl)); (try replace b5 := hu.loc b5 hF (of_decide_eq_true rfl)); (try replace hall := hall.uf hu hF); (try replace EX := EX.uf hu hF); replace FR := FR.trans hF; clear hu E hF; have hu := hu2; clear hu2; have E := hu.only; (try (clear hcE hfE)); (try (have hcf := bcell E.low; obtain ⟨hcE, hfE⟩ := hcf)); (try (clear c4 f4)); (try (have c4 := b4.cell; have f4 := b4.free)); (try (clear c5 f5)); (try (have c5 := b5.cell; have f5 := b5.free))))
      refine bodyPost_ret (v := .tuple #[]) (by simp [results, Try.f61, go_sem]) rfl (upost hu (by rw [evCls, hL14.out]; exact (adds_app _ _ _).symm) FR)
end Go.Proofs.Ytnifgkgdphlleaa
set_option linter.unusedSimpArgs false
set_option linter.unusedVariables false
namespace Go.Proofs.Ytnifgkgdphlleaa
open Go.RowKit Tk
theorem RRow.lens {α : Type} {k : Nat} {f : α → List Value} {w : World} {a : Option Addr} {n c : Nat} {xs : List α} (h : RRow w k f (.slice a n c) xs) : n = xs.length ∧ xs.length ≤ 9223372036854775807 := by
  obtain ⟨ao, cap, e, h1, h2⟩ := RRow.len h
  injection e with e1 e2 e3
  unfold maxLen at h2
  exact ⟨e2, by omega⟩
def catEv (p : Int × Int) (l : List (ByteArray × ByteArray)) : List Ev := l.flatMap (evCat p)
theorem cat_take {p : Int × Int} {l : List (ByteArray × ByteArray)} {j : Nat} {y : ByteArray × ByteArray} (h : l[j]? = some y) (U : List PS) : adds U (catEv p (l.take (j + 1))) = addU (addU (adds U (catEv p (l.take j))) ⟨p, 8, y.1, []⟩) ⟨p, 8, y.2, []⟩ := by
  rw [take_at h]; unfold catEv; rw [List.flatMap_append, adds_app]; rfl
theorem cat_wt (p : Int × Int) (l : List (ByteArray × ByteArray)) : wtE (catEv p l) = 2 * l.length := by
  induction l with
  | nil => rfl
  | cons x l ih =>
    have e : catEv p (x :: l) = evCat p x ++ catEv p l := rfl
    rw [e, wtE_app, ih, List.length_cons]
    have : wtE (evCat p x) = 2 := rfl
    omega
theorem wt_cat {U : List PS} {p : Int × Int} {l : List (ByteArray × ByteArray)} {j : Nat} {N : Nat} (h : j < l.length) (hw : wtU U + wtE (catEv p l) ≤ N) : wtU (adds U (catEv p (l.take j))) + 2 ≤ N := by
  have h1 := adds_wt (catEv p (l.take j)) U
  rw [cat_wt, List.length_take] at h1
  rw [cat_wt] at hw
  omega
set_option maxHeartbeats 2000000 in
set_option maxRecDepth 100000 in
theorem sulevel_any {w0 w : World} {b m : Nat} {U : List PS} {p : Int × Int} (hu : UAt w0 w b m U p) {l : Lvl} (hl : l.ok w0) (hw : wtU U + wtE (evLvl p l) ≤ 1900000000000) :
    Calls Try.prog 62 #[.pointer (some ⟨b, 0, none⟩), .agg (lvC l).toArray] w (UPost w0 b m (adds U (evLvl p l)) p w) := by
  have n2 := (RRow.lens hl.c).2
  have hw2 : wtU (addU U ⟨p, 7, l.sens, []⟩) + wtE (catEv p l.cats) ≤ 1900000000000 := by
    have := addU_wt U ⟨p, 7, l.sens, []⟩
    unfold evLvl at hw; rw [wtE_cons] at hw
    unfold catEv
    dsimp only [List.length_nil] at this hw
    omega
  go_enter Try.func62, Try.ntmps62
  have E := hu.only
  have FR : UFr b m w w := UFr.refl
  go_upto_region 3 with (first | ((with_reducible refine at_dst 3 ?_); go_simp; (generalize hX3 : Array.size (World.heap _) = X3); refine new_block hX3 ?_; intro wn bb hx; (try (have n5_3 := (b5.ne hX3).1; have n3_5 := (b5.ne hX3).2)); (try (have z3 := Nat.le_trans E.size (Nat.le_of_eq hX3))); (try (have mhu_3 := hu.notin (Nat.le_of_eq hX3))); (try (have mFR_3 := FR.notin (Nat.le_of_eq hX3))); have b3 := Loc.new bb E hX3; clear bb hX3; (try replace E := E.ext hx); (try replace b5 := b5.ext hx); (try replace hu := hu.ext hx); (try replace FR := FR.ext hx); (try (clear hcE hfE)); (try (have hcf := bcell E.low; obtain ⟨hcE, hfE⟩ := hcf)); (try (clear c3 f3)); (try (have c3 := b3.cell; have f3 := b3.free)); (try (clear c5 f5)); (try (have c5 := b5.cell; have f5 := b5.free))) | ((with_reducible refine at_dst 9 ?_); go_simp; ((with_reducible refine (suadd_any hu 7 l.sens (PR.nil w0 _) (by rw [List.length_nil]; unfold evLvl at hw; rw [wtE_cons] at hw; dsimp only [List.length_nil] at hw; omega)).mono ?_)); unfold UPost; rintro e wn ⟨rfl, hu2, hF⟩; (try replace b3 := hu.loc b3 hF (of_decide_eq_true rfl)); (try replace b5 := hu.loc b5 hF (of_decide_eq_true rfl)); replace FR := FR.trans hF; clear hu E hF; have hu := hu2; clear hu2; have E := hu.only; (try (clear hcE hfE)); (try (have hcf := bcell E.low; obtain ⟨hcE, hfE⟩ := hcf)); (try (clear c3 f3)); (try (have c3 := b3.cell; have f3 := b3.free)); (try (clear c5 f5)); (try (have c5 := b5.cell; have f5 := b5.free))))
  go_loopw [13] (fun i wr => ∃ j : Nat, i = .int .i64 j ∧ j ≤ l.cats.length ∧ UAt w0 wr b m (adds (addU U ⟨p, 7, l.sens, []⟩) (catEv p (l.cats.take j))) p ∧ UFr b m w wr ∧ Loc [] w0 wr X3 45 (lvC l).toArray) (fun i _ => l.cats.length - (intOf i).toNat)
  case atStart => exact ⟨0, rfl, Nat.zero_le _, hu, FR, b3⟩
  case round =>
    clear hu FR E b3 c3 f3
    obtain ⟨j, rfl, hj, hu, FR, b3⟩ := hrel
    have E := hu.only
    have c3 := b3.cell
    have f3 := b3.free
    obtain ⟨hcE, hfE⟩ := bcell E.low
    by_cases hlt : j < l.cats.length
    · obtain ⟨y, hy⟩ := at_some hlt
      obtain ⟨g, o, hgo, hg, -⟩ := RRow.cells hl.c hlt
      have hwc := wt_cat hlt hw2
      have HY := Lib.hid hy
      have hs := cat_take (p := p) hy (addU U ⟨p, 7, l.sens, []⟩)
      have HS := Lib.hid hs
      clear hy hs
      have hlc : RRow w0 2 spanC (.slice (some ⟨g, o, none⟩) l.cats.length l.hc.c) l.cats := hgo ▸ hl.c
      go_upto_region 9999 with (first | ((with_reducible refine at_dst 16 ?_); (refine wp_rec2 ((hlc.ext E.low)) (HY.out) spanC_len rfl rfl ?_ ?_ ?_); (· kernel_rfl); (· kernel_rfl)) | ((with_reducible refine at_dst 5 ?_); go_simp; (generalize hX5 : Array.size (World.heap _) = X5); refine new_block hX5 ?_; intro wn bb hx; (try (have n3_5 := (b3.ne hX5).1; have n5_3 := (b3.ne hX5).2)); (try (have z5 := Nat.le_trans E.size (Nat.le_of_eq hX5))); (try (have mhu_5 := hu.notin (Nat.le_of_eq hX5))); (try (have mFR_5 := FR.notin (Nat.le_of_eq hX5))); have b5 := Loc.new bb E hX5; clear bb hX5; (try replace E := E.ext hx); (try replace b3 := b3.ext hx); (try replace hu := hu.ext hx); (try replace FR := FR.ext hx); (try (clear hcE hfE)); (try (have hcf := bcell E.low; obtain ⟨hcE, hfE⟩ := hcf)); (try (clear c3 f3)); (try (have c3 := b3.cell; have f3 := b3.free)); (try (clear c5 f5)); (try (have c5 := b5.cell; have f5 := b5.free))) | ((with_reducible refine at_dst 20 ?_); go_simp; ((with_reducible refine (suadd_any hu 8 y.1 (PR.nil w0 _) (by rw [List.length_nil]; omega)).mono ?_)); unfold UPost; rintro e wn ⟨rfl, hu2, hF⟩; (try replace b3 := hu.loc b3 hF (of_decide_eq_true rfl)); (try replace b5 := hu.loc b5 hF (of_decide_eq_true rfl)); replace FR := FR.trans hF; clear hu E hF; have hu := hu2; clear hu2; have E := hu.only; (try (clear hcE hfE)); (try (have hcf := bcell E.low; obtain ⟨hcE, hfE⟩ := hcf)); (try (clear c3 f3)); (try (have c3 := b3.cell; have f3 := b3.free)); (try (clear c5 f5)); (try (have c5 := b5.cell; have f5 := b5.free))) | ((with_reducible refine at_dst 24 ?_); go_simp; ((with_reducible refine (suadd_any hu 8 y.2 (PR.nil w0 _) (by rw [List.length_nil]; have := addU_wt (adds (addU U ⟨p, 7, l.sens, []⟩) (catEv p (l.cats.take j))) ⟨p, 8, y.1, []⟩; dsimp only [List.length_nil] at this; omega)).mono ?_)); unfold UPost; rintro e wn ⟨rfl, hu2, hF⟩; (try replace b3 := hu.loc b3 hF (of_decide_eq_true rfl)); (try replace b5 := hu.loc b5 hF (of_decide_eq_true rfl)); replace FR := FR.trans hF; clear hu E hF; have hu := hu2; clear hu2; have E := hu.only; (try (clear hcE hfE)); (try (have hcf := bcell E.low; obtain ⟨hcE, hfE⟩ := hcf)); (try (clear c3 f3)); (try (have c3 := b3.cell; have f3 := b3.free)); (try (clear c5 f5)); (try (have c5 := b5.cell; have f5 := b5.free))) | ((with_reducible refine at_store 5 ?_); (refine wp_put b5 rfl rfl ?_ ?_ ?_ ?_; (· kernel_rfl); (· first | rfl | kernel_rfl); (· first | decide | exact Nat.le_refl _ | simp [Act.eval, Value.cells] | (simp [Act.eval, Act.put, Value.cells]; done)); intro wn bn hb; have E2 := E.put b5 hb; (try replace b3 := b3.but hb n3_5); (first | (replace hu := hu.but b5 hb (of_decide_eq_true rfl)) | (replace hu := hu.but0 hb mhu_5) | skip); (first | (replace FR := FR.but hb b5.blk (of_decide_eq_true rfl)) | (replace FR := FR.but0 hb mFR_5) | skip); clear E b5; have E := E2; clear E2; have b5 := bn; clear bn hb; dsimp only [Act.put]; simp only [putA, Act.eval, Value.cells, Nat.reduceAdd, putL, sizL] at b5; (try (clear hcE hfE)); (try (have hcf := bcell E.low; obtain ⟨hcE, hfE⟩ := hcf)); (try (clear c3 f3)); (try (have c3 := b3.cell; have f3 := b3.free)); (try (clear c5 f5)); (try (have c5 := b5.cell; have f5 := b5.free)))))
      simp only [← hgo]
      clear hgo
      go_roundw
      case rel => exact ⟨j + 1, by go_num, by omega, HS.out ▸ hu, FR, b3⟩
      case measure => simp [intOf]; omega
    · go_upto_region 9999 with (first | fail)
      refine bodyPost_ret (v := .tuple #[]) (by simp [results, Try.f62, go_sem]) rfl (upost hu (by rw [List.take_of_length_le (by omega)]; rfl) FR)
theorem wt_one {U : List PS} {v : Ev} {n N : Nat} (hw : wtU U + ((1 + v.perms.length) + n) ≤ N) : wtU (addU U v) + n ≤ N := by
  have := addU_wt U v; omega
set_option maxHeartbeats 2000000 in
set_option maxRecDepth 100000 in
theorem suspan_any {w0 w : World} {b m : Nat} {U : List PS} {p : Int × Int} (hu : UAt w0 w b m U p) {r : Rng} (hr : r.ok w0) (hw : wtU U + wtE (evRng p r) ≤ 1900000000000) :
    Calls Try.prog 63 #[.pointer (some ⟨b, 0, none⟩), .agg (rgC r).toArray] w (UPost w0 b m (adds U (evRng p r)) p w) := by
  go_enter Try.func63, Try.ntmps63
  have E := hu.only
  have FR : UFr b m w w := UFr.refl
  go_upto_region 9999 with (first | ((with_reducible refine at_dst 3 ?_); go_simp; (generalize hX3 : Array.size (World.heap _) = X3); refine new_block hX3 ?_; intro wn bb hx; (try (have z3 := Nat.le_trans E.size (Nat.le_of_eq hX3))); (try (have mhu_3 := hu.notin (Nat.le_of_eq hX3))); (try (have mFR_3 := FR.notin (Nat.le_of_eq hX3))); have b3 := Loc.new bb E hX3; clear bb hX3; (try replace E := E.ext hx); (try replace hu := hu.ext hx); (try replace FR := FR.ext hx); (try (clear hcE hfE)); (try (have hcf := bcell E.low; obtain ⟨hcE, hfE⟩ := hcf)); (try (clear c3 f3)); (try (have c3 := b3.cell; have f3 := b3.free))) | ((with_reducible refine at_dst 6 ?_); (refine wp_part (vs := (lvC (r).lo).toArray) b3.blk rfl rfl ?_ ?_ ?_ ?_); (· kernel_rfl); (· kernel_rfl); (· kernel_rfl)) | ((with_reducible refine at_dst 7 ?_); go_simp; ((with_reducible refine (sulevel_any hu hr.lo (by unfold evRng at hw; rw [wtE_app] at hw; omega)).mono ?_)); unfold UPost; rintro e wn ⟨rfl, hu2, hF⟩; (try replace b3 := hu.loc b3 hF (of_decide_eq_true rfl)); replace FR := FR.trans hF; clear hu E hF; have hu := hu2; clear hu2; have E := hu.only; (try (clear hcE hfE)); (try (have hcf := bcell E.low; obtain ⟨hcE, hfE⟩ := hcf)); (try (clear c3 f3)); (try (have c3 := b3.cell; have f3 := b3.free))) | ((with_reducible refine at_dst 10 ?_); (refine wp_part (vs := (lvC (r).hi).toArray) b3.blk rfl rfl ?_ ?_ ?_ ?_); (· kernel_rfl); (· kernel_rfl); (· kernel_rfl)) | ((with_reducible refine at_dst 11 ?_); go_simp; ((with_reducible refine (sulevel_any hu hr.hi (wt_adds (by unfold evRng at hw; rw [wtE_app] at hw; exact hw))).mono ?_)); unfold UPost; rintro e wn ⟨rfl, hu2, hF⟩; (try replace b3 := hu.loc b3 hF (of_decide_eq_true rfl)); replace FR := FR.trans hF; clear hu E hF; have hu := hu2; clear hu2; have E := hu.only; (try (clear hcE hfE)); (try (have hcf := bcell E.low; obtain ⟨hcE, hfE⟩ := hcf)); (try (clear c3 f3)); (try (have c3 := b3.cell; have f3 := b3.free))))
  refine bodyPost_ret (v := .tuple #[]) (by simp [results, Try.f63, go_sem]) rfl (upost hu (adds_app _ _ _).symm FR)
set_option maxHeartbeats 2000000 in
set_option maxRecDepth 100000 in
theorem sucontext_any {w0 w : World} {b m : Nat} {U : List PS} {p : Int × Int} (hu : UAt w0 w b m U p) {c : Ctx} (hc : c.rng.ok w0) (hw : wtU U + wtE (evCtx p c) ≤ 1900000000000) :
    Calls Try.prog 64 #[.pointer (some ⟨b, 0, none⟩), .agg (cxC c).toArray] w (UPost w0 b m (adds U (evCtx p c)) p w) := by
  go_enter Try.func64, Try.ntmps64
  have E := hu.only
  have FR : UFr b m w w := UFr.refl
  go_upto_region 9999 with (first | ((with_reducible refine at_dst 3 ?_); go_simp; (generalize hX3 : Array.size (World.heap _) = X3); refine new_block hX3 ?_; intro wn bb hx; (try (have z3 := Nat.le_trans E.size (Nat.le_of_eq hX3))); (try (have mhu_3 := hu.notin (Nat.le_of_eq hX3))); (try (have mFR_3 := FR.notin (Nat.le_of_eq hX3))); have b3 := Loc.new bb E hX3; clear bb hX3; (try replace E := E.ext hx); (try replace hu := hu.ext hx); (try replace FR := FR.ext hx); (try (clear hcE hfE)); (try (have hcf := bcell E.low; obtain ⟨hcE, hfE⟩ := hcf)); (try (clear c3 f3)); (try (have c3 := b3.cell; have f3 := b3.free))) | ((with_reducible refine at_dst 7 ?_); go_simp; ((with_reducible refine (suadd_any hu 5 c.user (PR.nil w0 _) (by unfold evCtx at hw; rw [wtE_cons] at hw; rw [List.length_nil] at hw ⊢; omega)).mono ?_)); unfold UPost; rintro e wn ⟨rfl, hu2, hF⟩; (try replace b3 := hu.loc b3 hF (of_decide_eq_true rfl)); replace FR := FR.trans hF; clear hu E hF; have hu := hu2; clear hu2; have E := hu.only; (try (clear hcE hfE)); (try (have hcf := bcell E.low; obtain ⟨hcE, hfE⟩ := hcf)); (try (clear c3 f3)); (try (have c3 := b3.cell; have f3 := b3.free))) | ((with_reducible refine at_dst 11 ?_); go_simp; ((with_reducible refine (suadd_any hu 4 c.role (PR.nil w0 _) (by unfold evCtx at hw; rw [wtE_cons, wtE_cons] at hw; have := wt_one hw; rw [List.length_nil] at this ⊢; omega)).mono ?_)); unfold UPost; rintro e wn ⟨rfl, hu2, hF⟩; (try replace b3 := hu.loc b3 hF (of_decide_eq_true rfl)); replace FR := FR.trans hF; clear hu E hF; have hu := hu2; clear hu2; have E := hu.only; (try (clear hcE hfE)); (try (have hcf := bcell E.low; obtain ⟨hcE, hfE⟩ := hcf)); (try (clear c3 f3)); (try (have c3 := b3.cell; have f3 := b3.free))) | ((with_reducible refine at_dst 15 ?_); go_simp; ((with_reducible refine (suadd_any hu 2 c.type (PR.nil w0 _) (by unfold evCtx at hw; rw [wtE_cons, wtE_cons, wtE_cons] at hw; have := wt_one (wt_one hw); rw [List.length_nil] at this ⊢; omega)).mono ?_)); unfold UPost; rintro e wn ⟨rfl, hu2, hF⟩; (try replace b3 := hu.loc b3 hF (of_decide_eq_true rfl)); replace FR := FR.trans hF; clear hu E hF; have hu := hu2; clear hu2; have E := hu.only; (try (clear hcE hfE)); (try (have hcf := bcell E.low; obtain ⟨hcE, hfE⟩ := hcf)); (try (clear c3 f3)); (try (have c3 := b3.cell; have f3 := b3.free))) | ((with_reducible refine at_dst 18 ?_); (refine wp_part (vs := (rgC (c).rng).toArray) b3.blk rfl rfl ?_ ?_ ?_ ?_); (· kernel_rfl); (· kernel_rfl); (· kernel_rfl)) | ((with_reducible refine at_dst 19 ?_); go_simp; ((with_reducible refine (suspan_any hu hc (by unfold evCtx at hw; rw [wtE_cons, wtE_cons, wtE_cons] at hw; exact wt_one (wt_one (wt_one hw)))).mono ?_)); unfold UPost; rintro e wn ⟨rfl, hu2, hF⟩; (try replace b3 := hu.loc b3 hF (of_decide_eq_true rfl)); replace FR := FR.trans hF; clear hu E hF; have hu := hu2; clear hu2; have E := hu.only; (try (clear hcE hfE)); (try (have hcf := bcell E.low; obtain ⟨hcE, hfE⟩ := hcf)); (try (clear c3 f3)); (try (have c3 := b3.cell; have f3 := b3.free))))
  refine bodyPost_ret (v := .tuple #[]) (by simp [results, Try.f64, go_sem]) rfl (upost hu rfl FR)
def evTyp (p : Int × Int) (h : StH) : List Ev := evSet p 0 h.source ++ evSet p 0 h.target
set_option maxHeartbeats 2000000 in
set_option maxRecDepth 100000 in
theorem sutypes_any {w0 w : World} {b m : Nat} {U : List PS} {p : Int × Int} (hu : UAt w0 w b m U p) {s : St} (hs : s.h.ok w0) (hw : wtU U + wtE (evTyp p s.h) ≤ 1900000000000) :
    Calls Try.prog 65 #[.pointer (some ⟨b, 0, none⟩), .agg (stC s).toArray] w (UPost w0 b m (adds U (evTyp p s.h)) p w) := by
  go_enter Try.func65, Try.ntmps65
  have E := hu.only
  have FR : UFr b m w w := UFr.refl
  go_upto_region 9999 with (first | ((with_reducible refine at_dst 3 ?_); go_simp; (generalize hX3 : Array.size (World.heap _) = X3); refine new_block hX3 ?_; intro wn bb hx; (try (have z3 := Nat.le_trans E.size (Nat.le_of_eq hX3))); (try (have mhu_3 := hu.notin (Nat.le_of_eq hX3))); (try (have mFR_3 := FR.notin (Nat.le_of_eq hX3))); have b3 := Loc.new bb E hX3; clear bb hX3; (try replace E := E.ext hx); (try replace hu := hu.ext hx); (try replace FR := FR.ext hx); (try (clear hcE hfE)); (try (have hcf := bcell E.low; obtain ⟨hcE, hfE⟩ := hcf)); (try (clear c3 f3)); (try (have c3 := b3.cell; have f3 := b3.free))) | ((with_reducible refine at_dst 6 ?_); (refine wp_part (vs := (nsC (s).h.source).toArray) b3.blk rfl rfl ?_ ?_ ?_ ?_); (· kernel_rfl); (· kernel_rfl); (· kernel_rfl)) | ((with_reducible refine at_dst 7 ?_); go_simp; ((with_reducible refine (suset_any hu 0 hs.source (by unfold evTyp at hw; rw [wtE_app] at hw; omega)).mono ?_)); unfold UPost; rintro e wn ⟨rfl, hu2, hF⟩; (try replace b3 := hu.loc b3 hF (of_decide_eq_true rfl)); replace FR := FR.trans hF; clear hu E hF; have hu := hu2; clear hu2; have E := hu.only; (try (clear hcE hfE)); (try (have hcf := bcell E.low; obtain ⟨hcE, hfE⟩ := hcf)); (try (clear c3 f3)); (try (have c3 := b3.cell; have f3 := b3.free))) | ((with_reducible refine at_dst 10 ?_); (refine wp_part (vs := (nsC (s).h.target).toArray) b3.blk rfl rfl ?_ ?_ ?_ ?_); (· kernel_rfl); (· kernel_rfl); (· kernel_rfl)) | ((with_reducible refine at_dst 11 ?_); go_simp; ((with_reducible refine (suset_any hu 0 hs.target (wt_adds (by unfold evTyp at hw; rw [wtE_app] at hw; exact hw))).mono ?_)); unfold UPost; rintro e wn ⟨rfl, hu2, hF⟩; (try replace b3 := hu.loc b3 hF (of_decide_eq_true rfl)); replace FR := FR.trans hF; clear hu E hF; have hu := hu2; clear hu2; have E := hu.only; (try (clear hcE hfE)); (try (have hcf := bcell E.low; obtain ⟨hcE, hfE⟩ := hcf)); (try (clear c3 f3)); (try (have c3 := b3.cell; have f3 := b3.free))))
  refine bodyPost_ret (v := .tuple #[]) (by simp [results, Try.f65, go_sem]) rfl (upost hu (adds_app _ _ _).symm FR)
def evExH (p : Int × Int) (h : ExH) : List Ev :=
  if h.op = 1 then evList p 6 h.names
  else if h.op = 9 ∧ 0 ≤ h.a then (if h.a.tmod 5 = 0 then evList p 5 h.names else if h.a.tmod 5 = 1 then evList p 4 h.names else if h.a.tmod 5 = 2 then evList p 0 h.names else [])
  else []
mutual
def evEx (p : Int × Int) : Ex → List Ev
  | .mk h kids => evExH p h ++ evExs p kids
def evExs (p : Int × Int) : List Ex → List Ev
  | [] => []
  | e :: l => evEx p e ++ evExs p l
end
mutual
def Ex.sz : Ex → Nat
  | .mk _ kids => 1 + Ex.szs kids
def Ex.szs : List Ex → Nat
  | [] => 0
  | e :: l => e.sz + Ex.szs l
end
theorem Ex.sz_kids (e : Ex) : e.sz = 1 + Ex.szs e.kids := by cases e; rw [Ex.sz]; rfl
theorem Ex.sz_at : ∀ {l : List Ex} {i : Nat} {y : Ex}, l[i]? = some y → y.sz ≤ Ex.szs l
  | e :: l, 0, y, h => by
    injection h with h; subst h
    rw [Ex.szs]; omega
  | e :: l, i + 1, y, h => by
    have := Ex.sz_at (l := l) (i := i) (y := y) (by simpa using h)
    rw [Ex.szs]; omega
theorem evExs_app (p : Int × Int) : ∀ a b : List Ex, evExs p (a ++ b) = evExs p a ++ evExs p b
  | [], b => by rw [List.nil_append, evExs]; rfl
  | e :: a, b => by rw [List.cons_append, evExs, evExs, evExs_app p a b, List.append_assoc]
theorem evEx_eq (p : Int × Int) (e : Ex) : evEx p e = evExH p e.h ++ evExs p e.kids := by cases e; rw [evEx]; rfl
theorem evExs_take {p : Int × Int} {l : List Ex} {j : Nat} {y : Ex} (h : l[j]? = some y) (U : List PS) : adds U (evExs p (l.take (j + 1))) = adds (adds U (evExs p (l.take j))) (evEx p y) := by
  rw [take_at h, evExs_app, adds_app, evExs, evExs, List.append_nil]
theorem wt_exs {U : List PS} {p : Int × Int} {l : List Ex} {j : Nat} {y : Ex} {N : Nat} (h : l[j]? = some y) (hw : wtU U + wtE (evExs p l) ≤ N) : wtU (adds U (evExs p (l.take j))) + wtE (evEx p y) ≤ N := by
  have h1 := adds_wt (evExs p (l.take j)) U
  have h2 : wtE (evExs p (l.take j)) + wtE (evEx p y) ≤ wtE (evExs p l) := by
    have := List.take_append_drop j l
    rw [← congrArg (fun l => wtE (evExs p l)) this, evExs_app, wtE_app, drop_at h, evExs, wtE_app]; omega
  omega
end Go.Proofs.Ytnifgkgdphlleaa
