/- Ve, Vf -/
import Derived.Test.YtnifgkgdphlleaaS7
set_option linter.unusedSimpArgs false
set_option linter.unusedVariables false
namespace Go.Proofs.Ytnifgkgdphlleaa
open Go.RowKit Tk
def noS : NSet := ⟨false, false, false, ⟨none, 0⟩, [], ⟨none, 0⟩, []⟩
theorem noS_ok (w : World) : noS.ok w := ⟨Reads.nil0 w, Reads.nil0 w⟩
@[reducible] def StH.pos (h : StH) : Int × Int := (h.line, h.col)
def evRuH (h : StH) : List Ev :=
  if h.kind = 12 then evTyp h.pos h ++ evCls h.pos h.cls h.perms
  else if h.kind = 13 then evTyp h.pos h ++ (evCls h.pos h.cls noS ++ [⟨h.pos, 2, h.result, []⟩])
  else if h.kind = 14 then evTyp h.pos h ++ (evCls h.pos h.cls noS ++ evRng h.pos h.range)
  else if h.kind = 15 then evCls h.pos h.cls h.perms ++ evEx h.pos h.cond
  else if h.kind = 16 then evCls h.pos h.cls noS ++ evEx h.pos h.cond
  else []
def evStH (h : StH) : List Ev :=
  if h.kind = 2 then evList h.pos 3 h.list
  else if h.kind = 4 then ⟨h.pos, 2, h.name, []⟩ :: evList h.pos 3 h.list
  else if h.kind = 5 ∨ h.kind = 22 then evSet h.pos 0 h.source
  else if h.kind = 6 then evSet h.pos 4 h.source ++ evSet h.pos 4 h.target
  else if h.kind = 7 then evSet h.pos 4 h.source ++ (evSet h.pos 0 h.target ++ (evCls h.pos h.cls noS ++ [⟨h.pos, 4, h.result, []⟩]))
  else if h.kind = 8 then evList h.pos 4 h.list ++ (evLvl h.pos h.level ++ evRng h.pos h.range)
  else if h.kind = 20 ∨ h.kind = 21 then evCtx h.pos h.ctx
  else if h.kind = 23 then evTyp h.pos h
  else evRuH h
mutual
def evSt : St → List Ev
  | .mk h t e => if h.kind = 17 then evEx h.pos h.cond ++ (evSts t ++ evSts e) else evStH h
def evSts : List St → List Ev
  | [] => []
  | s :: l => (if s.h.kind = 18 then [] else evSt s) ++ evSts l
end
def evRu (s : St) : List Ev := if s.h.kind = 17 then evEx s.h.pos s.h.cond ++ (evSts s.thn ++ evSts s.els) else evRuH s.h
theorem evSt_eq (s : St) : evSt s = if s.h.kind = 17 then evEx s.h.pos s.h.cond ++ (evSts s.thn ++ evSts s.els) else evStH s.h := by cases s; rw [evSt]; rfl
structure StH.fewl (h : StH) : Prop where
  list : h.list.length ≤ 1000000000000
  aliases : h.aliases.length ≤ 1000000000000
  pn : h.perms.names.length ≤ 1000000000000
  pe : h.perms.except.length ≤ 1000000000000
mutual
def St.fewl : St → Prop
  | .mk h t e => h.fewl ∧ St.fewls t ∧ St.fewls e
def St.fewls : List St → Prop
  | [] => True
  | s :: l => s.fewl ∧ St.fewls l
end
theorem St.fewl.hd {s : St} (h : s.fewl) : s.h.fewl := by cases s; unfold St.fewl at h; exact h.1
theorem St.fewl.thn {s : St} (h : s.fewl) : St.fewls s.thn := by cases s; unfold St.fewl at h; exact h.2.1
theorem St.fewl.els {s : St} (h : s.fewl) : St.fewls s.els := by cases s; unfold St.fewl at h; exact h.2.2
theorem St.fewls.at : ∀ {l : List St}, St.fewls l → ∀ {i : Nat} (h : i < l.length), (l[i]).fewl
  | e :: l, h, 0, _ => by unfold St.fewls at h; exact h.1
  | e :: l, h, i + 1, hi => by unfold St.fewls at h; exact St.fewls.at h.2 (by simpa using hi)
mutual
def St.sz : St → Nat
  | .mk _ t e => 1 + St.szs t + St.szs e
def St.szs : List St → Nat
  | [] => 0
  | s :: l => s.sz + St.szs l
end
theorem St.sz_kids (s : St) : s.sz = 1 + St.szs s.thn + St.szs s.els := by cases s; rw [St.sz]; rfl
theorem St.sz_at : ∀ {l : List St} {i : Nat} {y : St}, l[i]? = some y → y.sz ≤ St.szs l
  | e :: l, 0, y, h => by
    injection h with h; subst h
    rw [St.szs]; omega
  | e :: l, i + 1, y, h => by
    have := St.sz_at (l := l) (i := i) (y := y) (by simpa using h)
    rw [St.szs]; omega
/-- the same, at whatever position the call leaves -/
def UPostE (w0 : World) (b m : Nat) (U : List PS) (w : World) (e : Ending) (w' : World) : Prop := e = .returned (.tuple #[]) ∧ ∃ p, UAt w0 w' b m U p ∧ UFr b m w w'
theorem uposte {w0 w w' : World} {b m : Nat} {U V : List PS} {p : Int × Int} (hu : UAt w0 w' b m U p) (e : U = V) (hF : UFr b m w w') : UPostE w0 b m V w (.returned (.tuple #[])) w' := by subst e; exact ⟨rfl, p, hu, hF⟩
theorem suclasses0_any {w0 w : World} {b m : Nat} {U : List PS} {p : Int × Int} (hu0 : UAt w0 w b m U p) {n : NSet} (hn : n.ok w0) (hw : wtU U + wtE (evCls p n noS) ≤ 1900000000000) :
    Calls Try.prog 61 #[.pointer (some ⟨b, 0, none⟩), .agg (nsC n).toArray, .agg #[.bool false, .bool false, .bool false, .slice none 0 0, .slice none 0 0]] w (UPost w0 b m (adds U (evCls p n noS)) p w) :=
  suclasses_any hu0 hn (noS_ok w0) (by decide) hw
theorem wt_one1 {U : List PS} {v : Ev} {N : Nat} (hv : v.perms = []) (hw : wtU U + wtE [v] ≤ N) : wtU U + (1 + ([] : List ByteArray).length) ≤ N := by
  rw [wtE_cons, hv] at hw; simpa [wtE] using hw
theorem wt_l {U : List PS} {A B : List Ev} {N : Nat} (hw : wtU U + wtE (A ++ B) ≤ N) : wtU U + wtE A ≤ N := by rw [wtE_app] at hw; omega
theorem wt_r {U : List PS} {A B : List Ev} {N : Nat} (hw : wtU U + wtE (A ++ B) ≤ N) : wtU (adds U A) + wtE B ≤ N := by rw [wtE_app] at hw; exact wt_adds hw
@[reducible] def StsOk (w0 : World) (b m N : Nat) : Prop := ∀ (U : List PS) (l : List St) {w : World} {a : Option Addr} {n c : Nat} {p : Int × Int}, UAt w0 w b m U p → RRow w0 55 stC (.slice a n c) l → St.oks w0 l → St.fewls l → St.szs l < N → wtU U + wtE (evSts l) ≤ 1900000000000 →
    Calls Try.prog 45 #[.pointer (some ⟨b, 0, none⟩), .slice a n c] w (UPostE w0 b m (adds U (evSts l)) w)
set_option maxHeartbeats 8000000 in
set_option maxRecDepth 100000 in
theorem surule_any {w0 w : World} {b m N : Nat} {U : List PS} {s : St} (IH : Hid (StsOk w0 b m N)) (hu : UAt w0 w b m U s.h.pos) (hs : s.ok w0) (hfs : s.fewl) (hz : s.sz ≤ N) (hw : wtU U + wtE (evRu s) ≤ 1900000000000) :
    Calls Try.prog 66 #[.pointer (some ⟨b, 0, none⟩), .agg (stC s).toArray] w (UPostE w0 b m (adds U (evRu s)) w) := by
  obtain ⟨k, hk⟩ : ∃ k, s.h.kind = k := ⟨_, rfl⟩
  rw [St.sz_kids] at hz
  have hz1 : St.szs s.thn < N := by omega
  have hz2 : St.szs s.els < N := by omega
  clear hz
  have HH0 : evRu s = evRu s := rfl
  obtain ⟨V, hV⟩ : ∃ V, evRu s = V := ⟨_, rfl⟩
  rw [hV] at hw ⊢
  unfold evRu evRuH at hV
  rw [hk] at hV
  clear HH0
  rcases (show k = 12 ∨ k = 13 ∨ k = 14 ∨ k = 15 ∨ k = 16 ∨ k = 17 ∨ (¬ k = 12 ∧ ¬ k = 13 ∧ ¬ k = 14 ∧ ¬ k = 15 ∧ ¬ k = 16 ∧ ¬ k = 17) by omega) with rfl | rfl | rfl | rfl | rfl | rfl | ⟨n1, n2, n3, n4, n5, n6⟩
  case inr.inr.inr.inr.inr.inr =>
    rw [if_neg n6, if_neg n1, if_neg n2, if_neg n3, if_neg n4, if_neg n5] at hV
    obtain ⟨g1, -⟩ := kd_f n1
    obtain ⟨g2, -⟩ := kd_f n2
    obtain ⟨g3, -⟩ := kd_f n3
    obtain ⟨g4, -⟩ := kd_f n4
    obtain ⟨g5, -⟩ := kd_f n5
    obtain ⟨g6, -⟩ := kd_f n6
    have HV := Lib.hid hV
    clear n1 n2 n3 n4 n5 n6 hV hw
    go_enter Try.func66, Try.ntmps66
    have E := hu.only
    have FR : UFr b m w w := UFr.refl
    go_upto_region 9999 with (first | ((with_reducible refine at_dst 3 ?_); go_simp; (generalize hX3 : Array.size (World.heap _) = X3); refine new_block hX3 ?_; intro wn bb hx; (try (have z3 := Nat.le_trans E.size (Nat.le_of_eq hX3))); (try (have mhu_3 := hu.notin (Nat.le_of_eq hX3))); (try (have mFR_3 := FR.notin (Nat.le_of_eq hX3))); have b3 := Loc.new bb E hX3; clear bb hX3; (try replace E := E.ext hx); (try replace hu := hu.ext hx); (try replace FR := FR.ext hx); (try (clear hcE hfE)); (try (have hcf := bcell E.low; obtain ⟨hcE, hfE⟩ := hcf)); (try (clear c3 f3)); (try (have c3 := b3.cell; have f3 := b3.free))))
    refine bodyPost_ret (v := .tuple #[]) (by simp [results, Try.f66, go_sem]) rfl (uposte hu (by rw [← HV.out]; rfl) FR)
  all_goals
    simp only [if_neg (show ¬ (12 : Int) = 17 by decide), if_neg (show ¬ (13 : Int) = 17 by decide), if_neg (show ¬ (13 : Int) = 12 by decide), if_neg (show ¬ (14 : Int) = 17 by decide), if_neg (show ¬ (14 : Int) = 12 by decide), if_neg (show ¬ (14 : Int) = 13 by decide), if_neg (show ¬ (15 : Int) = 17 by decide), if_neg (show ¬ (15 : Int) = 12 by decide), if_neg (show ¬ (15 : Int) = 13 by decide), if_neg (show ¬ (15 : Int) = 14 by decide), if_neg (show ¬ (16 : Int) = 17 by decide), if_neg (show ¬ (16 : Int) = 12 by decide), if_neg (show ¬ (16 : Int) = 13 by decide), if_neg (show ¬ (16 : Int) = 14 by decide), if_neg (show ¬ (16 : Int) = 15 by decide), if_true] at hV
    rw [← hV] at hw
    have HW := Lib.hid hw
    have HV := Lib.hid hV
    clear hw hV
    go_enter Try.func66, Try.ntmps66
    have E := hu.only
    have FR : UFr b m w w := UFr.refl
    go_upto_region 9999 with (first | ((with_reducible refine at_dst 3 ?_); go_simp; (generalize hX3 : Array.size (World.heap _) = X3); refine new_block hX3 ?_; intro wn bb hx; (try (have z3 := Nat.le_trans E.size (Nat.le_of_eq hX3))); (try (have mhu_3 := hu.notin (Nat.le_of_eq hX3))); (try (have mFR_3 := FR.notin (Nat.le_of_eq hX3))); have b3 := Loc.new bb E hX3; clear bb hX3; (try replace E := E.ext hx); (try replace hu := hu.ext hx); (try replace FR := FR.ext hx); (try (clear hcE hfE)); (try (have hcf := bcell E.low; obtain ⟨hcE, hfE⟩ := hcf)); (try (clear c3 f3)); (try (have c3 := b3.cell; have f3 := b3.free))) | ((with_reducible refine at_dst 9 ?_); (refine wp_all b3.blk rfl rfl ?_ ?_ ?_); (· kernel_rfl); (· kernel_rfl)) | ((with_reducible refine at_dst 10 ?_); go_simp; ((with_reducible refine (sutypes_any hu hs.hd (wt_l HW.out)).mono ?_)); unfold UPost; rintro e wn ⟨rfl, hu2, hF⟩; (try replace b3 := hu.loc b3 hF (of_decide_eq_true rfl)); replace FR := FR.trans hF; clear hu E hF; have hu := hu2; clear hu2; have E := hu.only; (try (clear hcE hfE)); (try (have hcf := bcell E.low; obtain ⟨hcE, hfE⟩ := hcf)); (try (clear c3 f3)); (try (have c3 := b3.cell; have f3 := b3.free))) | ((with_reducible refine at_dst 13 ?_); (refine wp_part (vs := (nsC (s).h.cls).toArray) b3.blk rfl rfl ?_ ?_ ?_ ?_); (· kernel_rfl); (· kernel_rfl); (· kernel_rfl)) | ((with_reducible refine at_dst 15 ?_); (refine wp_part (vs := (nsC (s).h.perms).toArray) b3.blk rfl rfl ?_ ?_ ?_ ?_); (· kernel_rfl); (· kernel_rfl); (· kernel_rfl)) | ((with_reducible refine at_dst 16 ?_); go_simp; ((with_reducible refine (suclasses_any hu hs.hd.cls hs.hd.perms (by have := hfs.hd.pn; have := hfs.hd.pe; omega) (wt_r HW.out)).mono ?_)); unfold UPost; rintro e wn ⟨rfl, hu2, hF⟩; (try replace b3 := hu.loc b3 hF (of_decide_eq_true rfl)); replace FR := FR.trans hF; clear hu E hF; have hu := hu2; clear hu2; have E := hu.only; (try (clear hcE hfE)); (try (have hcf := bcell E.low; obtain ⟨hcE, hfE⟩ := hcf)); (try (clear c3 f3)); (try (have c3 := b3.cell; have f3 := b3.free))) | ((with_reducible refine at_dst 20 ?_); (refine wp_all b3.blk rfl rfl ?_ ?_ ?_); (· kernel_rfl); (· kernel_rfl)) | ((with_reducible refine at_dst 21 ?_); go_simp; ((with_reducible refine (sutypes_any hu hs.hd (wt_l HW.out)).mono ?_)); unfold UPost; rintro e wn ⟨rfl, hu2, hF⟩; (try replace b3 := hu.loc b3 hF (of_decide_eq_true rfl)); replace FR := FR.trans hF; clear hu E hF; have hu := hu2; clear hu2; have E := hu.only; (try (clear hcE hfE)); (try (have hcf := bcell E.low; obtain ⟨hcE, hfE⟩ := hcf)); (try (clear c3 f3)); (try (have c3 := b3.cell; have f3 := b3.free))) | ((with_reducible refine at_dst 24 ?_); (refine wp_part (vs := (nsC (s).h.cls).toArray) b3.blk rfl rfl ?_ ?_ ?_ ?_); (· kernel_rfl); (· kernel_rfl); (· kernel_rfl)) | ((with_reducible refine at_dst 26 ?_); go_simp; ((with_reducible refine (suclasses0_any hu hs.hd.cls (wt_l (wt_r HW.out))).mono ?_)); unfold UPost; rintro e wn ⟨rfl, hu2, hF⟩; (try replace b3 := hu.loc b3 hF (of_decide_eq_true rfl)); replace FR := FR.trans hF; clear hu E hF; have hu := hu2; clear hu2; have E := hu.only; (try (clear hcE hfE)); (try (have hcf := bcell E.low; obtain ⟨hcE, hfE⟩ := hcf)); (try (clear c3 f3)); (try (have c3 := b3.cell; have f3 := b3.free))) | ((with_reducible refine at_dst 30 ?_); go_simp; ((with_reducible refine (suadd_any hu 2 s.h.result (PR.nil w0 _) (wt_one1 rfl (wt_r (wt_r HW.out)))).mono ?_)); unfold UPost; rintro e wn ⟨rfl, hu2, hF⟩; (try replace b3 := hu.loc b3 hF (of_decide_eq_true rfl)); replace FR := FR.trans hF; clear hu E hF; have hu := hu2; clear hu2; have E := hu.only; (try (clear hcE hfE)); (try (have hcf := bcell E.low; obtain ⟨hcE, hfE⟩ := hcf)); (try (clear c3 f3)); (try (have c3 := b3.cell; have f3 := b3.free))) | ((with_reducible refine at_dst 34 ?_); (refine wp_all b3.blk rfl rfl ?_ ?_ ?_); (· kernel_rfl); (· kernel_rfl)) | ((with_reducible refine at_dst 35 ?_); go_simp; ((with_reducible refine (sutypes_any hu hs.hd (wt_l HW.out)).mono ?_)); unfold UPost; rintro e wn ⟨rfl, hu2, hF⟩; (try replace b3 := hu.loc b3 hF (of_decide_eq_true rfl)); replace FR := FR.trans hF; clear hu E hF; have hu := hu2; clear hu2; have E := hu.only; (try (clear hcE hfE)); (try (have hcf := bcell E.low; obtain ⟨hcE, hfE⟩ := hcf)); (try (clear c3 f3)); (try (have c3 := b3.cell; have f3 := b3.free))) | ((with_reducible refine at_dst 38 ?_); (refine wp_part (vs := (nsC (s).h.cls).toArray) b3.blk rfl rfl ?_ ?_ ?_ ?_); (· kernel_rfl); (· kernel_rfl); (· kernel_rfl)) | ((with_reducible refine at_dst 40 ?_); go_simp; ((with_reducible refine (suclasses0_any hu hs.hd.cls (wt_l (wt_r HW.out))).mono ?_)); unfold UPost; rintro e wn ⟨rfl, hu2, hF⟩; (try replace b3 := hu.loc b3 hF (of_decide_eq_true rfl)); replace FR := FR.trans hF; clear hu E hF; have hu := hu2; clear hu2; have E := hu.only; (try (clear hcE hfE)); (try (have hcf := bcell E.low; obtain ⟨hcE, hfE⟩ := hcf)); (try (clear c3 f3)); (try (have c3 := b3.cell; have f3 := b3.free))) | ((with_reducible refine at_dst 43 ?_); (refine wp_part (vs := (rgC (s).h.range).toArray) b3.blk rfl rfl ?_ ?_ ?_ ?_); (· kernel_rfl); (· kernel_rfl); (· kernel_rfl)) | ((with_reducible refine at_dst 44 ?_); go_simp; ((with_reducible refine (suspan_any hu hs.hd.range (wt_r (wt_r HW.out))).mono ?_)); unfold UPost; rintro e wn ⟨rfl, hu2, hF⟩; (try replace b3 := hu.loc b3 hF (of_decide_eq_true rfl)); replace FR := FR.trans hF; clear hu E hF; have hu := hu2; clear hu2; have E := hu.only; (try (clear hcE hfE)); (try (have hcf := bcell E.low; obtain ⟨hcE, hfE⟩ := hcf)); (try (clear c3 f3)); (try (have c3 := b3.cell; have f3 := b3.free))) | ((with_reducible refine at_dst 49 ?_); (refine wp_part (vs := (nsC (s).h.cls).toArray) b3.blk rfl rfl ?_ ?_ ?_ ?_); (· kernel_rfl); (· kernel_rfl); (· kernel_rfl)) | ((with_reducible refine at_dst 51 ?_); (refine wp_part (vs := (nsC (s).h.perms).toArray) b3.blk rfl rfl ?_ ?_ ?_ ?_); (· kernel_rfl); (· kernel_rfl); (· kernel_rfl)) | ((with_reducible refine at_dst 52 ?_); go_simp; ((with_reducible refine (suclasses_any hu hs.hd.cls hs.hd.perms (by have := hfs.hd.pn; have := hfs.hd.pe; omega) (wt_l HW.out)).mono ?_)); unfold UPost; rintro e wn ⟨rfl, hu2, hF⟩; (try replace b3 := hu.loc b3 hF (of_decide_eq_true rfl)); replace FR := FR.trans hF; clear hu E hF; have hu := hu2; clear hu2; have E := hu.only; (try (clear hcE hfE)); (try (have hcf := bcell E.low; obtain ⟨hcE, hfE⟩ := hcf)); (try (clear c3 f3)); (try (have c3 := b3.cell; have f3 := b3.free))) | ((with_reducible refine at_dst 55 ?_); (refine wp_part (vs := (exC (s).h.cond).toArray) b3.blk rfl rfl ?_ ?_ ?_ ?_); (· kernel_rfl); (· kernel_rfl); (· kernel_rfl)) | ((with_reducible refine at_dst 56 ?_); go_simp; ((with_reducible refine (suexpr_any _ _ hu hs.hd.cond (Nat.le_refl _) (wt_r HW.out)).mono ?_)); unfold UPost; rintro e wn ⟨rfl, hu2, hF⟩; (try replace b3 := hu.loc b3 hF (of_decide_eq_true rfl)); replace FR := FR.trans hF; clear hu E hF; have hu := hu2; clear hu2; have E := hu.only; (try (clear hcE hfE)); (try (have hcf := bcell E.low; obtain ⟨hcE, hfE⟩ := hcf)); (try (clear c3 f3)); (try (have c3 := b3.cell; have f3 := b3.free))) | ((with_reducible refine at_dst 61 ?_); (refine wp_part (vs := (nsC (s).h.cls).toArray) b3.blk rfl rfl ?_ ?_ ?_ ?_); (· kernel_rfl); (· kernel_rfl); (· kernel_rfl)) | ((with_reducible refine at_dst 63 ?_); go_simp; ((with_reducible refine (suclasses0_any hu hs.hd.cls (wt_l HW.out)).mono ?_)); unfold UPost; rintro e wn ⟨rfl, hu2, hF⟩; (try replace b3 := hu.loc b3 hF (of_decide_eq_true rfl)); replace FR := FR.trans hF; clear hu E hF; have hu := hu2; clear hu2; have E := hu.only; (try (clear hcE hfE)); (try (have hcf := bcell E.low; obtain ⟨hcE, hfE⟩ := hcf)); (try (clear c3 f3)); (try (have c3 := b3.cell; have f3 := b3.free))) | ((with_reducible refine at_dst 66 ?_); (refine wp_part (vs := (exC (s).h.cond).toArray) b3.blk rfl rfl ?_ ?_ ?_ ?_); (· kernel_rfl); (· kernel_rfl); (· kernel_rfl)) | ((with_reducible refine at_dst 67 ?_); go_simp; ((with_reducible refine (suexpr_any _ _ hu hs.hd.cond (Nat.le_refl _) (wt_r HW.out)).mono ?_)); unfold UPost; rintro e wn ⟨rfl, hu2, hF⟩; (try replace b3 := hu.loc b3 hF (of_decide_eq_true rfl)); replace FR := FR.trans hF; clear hu E hF; have hu := hu2; clear hu2; have E := hu.only; (try (clear hcE hfE)); (try (have hcf := bcell E.low; obtain ⟨hcE, hfE⟩ := hcf)); (try (clear c3 f3)); (try (have c3 := b3.cell; have f3 := b3.free))) | ((with_reducible refine at_dst 72 ?_); (refine wp_part (vs := (exC (s).h.cond).toArray) b3.blk rfl rfl ?_ ?_ ?_ ?_); (· kernel_rfl); (· kernel_rfl); (· kernel_rfl)) | ((with_reducible refine at_dst 73 ?_); go_simp; ((with_reducible refine (suexpr_any _ _ hu hs.hd.cond (Nat.le_refl _) (wt_l HW.out)).mono ?_)); unfold UPost; rintro e wn ⟨rfl, hu2, hF⟩; (try replace b3 := hu.loc b3 hF (of_decide_eq_true rfl)); replace FR := FR.trans hF; clear hu E hF; have hu := hu2; clear hu2; have E := hu.only; (try (clear hcE hfE)); (try (have hcf := bcell E.low; obtain ⟨hcE, hfE⟩ := hcf)); (try (clear c3 f3)); (try (have c3 := b3.cell; have f3 := b3.free))) | ((with_reducible refine at_dst 77 ?_); go_simp; ((with_reducible refine (IH.out _ s.thn hu hs.thn hs.thns hfs.thn hz1 (wt_l (wt_r HW.out))).mono ?_)); unfold UPostE; rintro e wn ⟨rfl, p1, hu2, hF⟩; (try replace b3 := hu.loc b3 hF (of_decide_eq_true rfl)); replace FR := FR.trans hF; clear hu E hF; have hu := hu2; clear hu2; have E := hu.only; (try (clear hcE hfE)); (try (have hcf := bcell E.low; obtain ⟨hcE, hfE⟩ := hcf)); (try (clear c3 f3)); (try (have c3 := b3.cell; have f3 := b3.free))) | ((with_reducible refine at_dst 81 ?_); go_simp; ((with_reducible refine (IH.out _ s.els hu hs.els hs.elss hfs.els hz2 (wt_r (wt_r HW.out))).mono ?_)); unfold UPostE; rintro e wn ⟨rfl, p2, hu2, hF⟩; (try replace b3 := hu.loc b3 hF (of_decide_eq_true rfl)); replace FR := FR.trans hF; clear hu E hF; have hu := hu2; clear hu2; have E := hu.only; (try (clear hcE hfE)); (try (have hcf := bcell E.low; obtain ⟨hcE, hfE⟩ := hcf)); (try (clear c3 f3)); (try (have c3 := b3.cell; have f3 := b3.free))))
    refine bodyPost_ret (v := .tuple #[]) (by simp [results, Try.f66, go_sem]) rfl (uposte hu (by rw [← HV.out]; simp only [adds_app]; try rfl) FR)
end Go.Proofs.Ytnifgkgdphlleaa
set_option linter.unusedSimpArgs false
set_option linter.unusedVariables false
namespace Go.Proofs.Ytnifgkgdphlleaa
open Go.RowKit Tk
theorem wp_pos {w0 w : World} {b m : Nat} {U : List PS} {p : Int × Int} {K : Act → World → Prop} {a : Act} {Q : Exit → Act → World → Prop} {o : Oper} {ty : TypeId} {x y : Operand} {l c : Int} (hu : UAt w0 w b m U p)
    (ho : o.op = .store ty x y) (hx : a.eval x = .pointer (some ⟨b, 2, none⟩)) (hy : a.eval y = .agg #[.int .i64 l, .int .i64 c]) (hi : (Try.prog.info? ty).map (·.size) = some 2)
    (h : ∀ w', UAt w0 w' b m U (l, c) → UFr b m w w' → K (a.put o.dst undef) w') : o.wp Try.prog a w K Q := by
  obtain ⟨h1, ⟨xs, sa, sc, e, h2, h3, h4⟩, h5, h6, h7⟩ := hu
  refine wp_put h2 ho hx (by rw [hy, hi]; rfl) (by rw [hy]; simp [Value.cells, Value.oneCell']) (by rw [hy]; simp [Value.cells]) fun w' hL hb => h w' ⟨h1.put h2 hb, ⟨xs, sa, sc, e, ?_, h3.but hb h2.blk (of_decide_eq_true rfl), h4.but hb h2.blk (of_decide_eq_true rfl)⟩, h5.butB hb h2.blk, h6, h7⟩ (UFr.refl.butb hb)
  rw [hy] at hL
  exact hL
set_option maxHeartbeats 8000000 in
set_option maxRecDepth 100000 in
theorem sustatement_any {w0 w : World} {b m N : Nat} {U : List PS} {s : St} {p0 : Int × Int} (IH : Hid (StsOk w0 b m N)) (hu : UAt w0 w b m U p0) (hs : s.ok w0) (hfs : s.fewl) (hz : s.sz ≤ N) (hw : wtU U + wtE (evSt s) ≤ 1900000000000) :
    Calls Try.prog 54 #[.pointer (some ⟨b, 0, none⟩), .agg (stC s).toArray] w (UPostE w0 b m (adds U (evSt s)) w) := by
  obtain ⟨k, hk⟩ : ∃ k, s.h.kind = k := ⟨_, rfl⟩
  obtain ⟨V, hV⟩ : ∃ V, evSt s = V := ⟨_, rfl⟩
  rw [hV] at hw ⊢
  rw [evSt_eq, hk] at hV
  rcases (show k = 2 ∨ k = 4 ∨ k = 5 ∨ k = 22 ∨ k = 6 ∨ k = 7 ∨ k = 8 ∨ k = 20 ∨ k = 21 ∨ k = 23 ∨ (¬ k = 2 ∧ ¬ k = 4 ∧ ¬ k = 5 ∧ ¬ k = 22 ∧ ¬ k = 6 ∧ ¬ k = 7 ∧ ¬ k = 8 ∧ ¬ k = 20 ∧ ¬ k = 21 ∧ ¬ k = 23) by omega) with hc | hc | hc | hc | hc | hc | hc | hc | hc | hc | ⟨n1, n2, n3, n4, n5, n6, n7, n8, n9, n10⟩
  case inr.inr.inr.inr.inr.inr.inr.inr.inr.inr =>
    have hV2 : evRu s = V := by
      rw [← hV]
      unfold evRu evStH
      rw [hk]
      by_cases h17 : k = 17
      · rw [if_pos h17, if_pos h17]
      · rw [if_neg h17, if_neg h17, if_neg n1, if_neg n2, if_neg (by omega), if_neg n5, if_neg n6, if_neg n7, if_neg (by omega), if_neg n10]
    rw [← hV2] at hw
    have HW := Lib.hid hw
    have HV := Lib.hid hV2
    obtain ⟨g1, -⟩ := kd_f n1
    obtain ⟨g2, -⟩ := kd_f n2
    obtain ⟨g3, -⟩ := kd_f n3
    obtain ⟨g4, -⟩ := kd_f n4
    obtain ⟨g5, -⟩ := kd_f n5
    obtain ⟨g6, -⟩ := kd_f n6
    obtain ⟨g7, -⟩ := kd_f n7
    obtain ⟨g8, -⟩ := kd_f n8
    obtain ⟨g9, -⟩ := kd_f n9
    obtain ⟨g10, -⟩ := kd_f n10
    clear n1 n2 n3 n4 n5 n6 n7 n8 n9 n10 hV hV2 hw
    go_enter Try.func54, Try.ntmps54
    have E := hu.only
    have FR : UFr b m w w := UFr.refl
    go_upto_region 9999 with (first | ((with_reducible refine at_dst 3 ?_); go_simp; (generalize hX3 : Array.size (World.heap _) = X3); refine new_block hX3 ?_; intro wn bb hx; (try (have z3 := Nat.le_trans E.size (Nat.le_of_eq hX3))); (try (have mhu_3 := hu.notin (Nat.le_of_eq hX3))); (try (have mFR_3 := FR.notin (Nat.le_of_eq hX3))); have b3 := Loc.new bb E hX3; clear bb hX3; (try replace E := E.ext hx); (try replace hu := hu.ext hx); (try replace FR := FR.ext hx); (try (clear hcE hfE)); (try (have hcf := bcell E.low; obtain ⟨hcE, hfE⟩ := hcf)); (try (clear c3 f3)); (try (have c3 := b3.cell; have f3 := b3.free))) | ((with_reducible refine at_dst 12 ?_); (refine wp_all b3.blk rfl rfl ?_ ?_ ?_); (· kernel_rfl); (· kernel_rfl)) | ((with_reducible refine at_dst 13 ?_); go_simp; ((with_reducible refine (surule_any IH hu hs hfs hz HW.out).mono ?_)); unfold UPostE; rintro e wn ⟨rfl, p1, hu2, hF⟩; (try replace b3 := hu.loc b3 hF (of_decide_eq_true rfl)); replace FR := FR.trans hF; clear hu E hF; have hu := hu2; clear hu2; have E := hu.only; (try (clear hcE hfE)); (try (have hcf := bcell E.low; obtain ⟨hcE, hfE⟩ := hcf)); (try (clear c3 f3)); (try (have c3 := b3.cell; have f3 := b3.free))) | ((with_reducible refine at_store 8 ?_); (refine wp_pos (l := s.h.line) (c := s.h.col) hu rfl rfl rfl ?_ ?_); (· kernel_rfl); intro wn hu2 hF; replace b3 := hu.loc b3 hF (of_decide_eq_true rfl); replace FR := FR.trans hF; clear hu E hF; have hu := hu2; clear hu2; have E := hu.only; dsimp only [Act.put]; (try (clear hcE hfE)); (try (have hcf := bcell E.low; obtain ⟨hcE, hfE⟩ := hcf)); (try (clear c3 f3)); (try (have c3 := b3.cell; have f3 := b3.free))))
    refine bodyPost_ret (v := .tuple #[]) (by simp [results, Try.f54, go_sem]) rfl (uposte hu (by rw [← HV.out]) FR)
  all_goals
    rw [if_neg (show ¬ k = 17 by omega)] at hV
    unfold evStH at hV
    rw [hk] at hV
    subst hc
    simp only [show ¬ (4 : Int) = 2 by decide, show ¬ (5 : Int) = 2 by decide, show ¬ (5 : Int) = 4 by decide, show ¬ (22 : Int) = 2 by decide, show ¬ (22 : Int) = 4 by decide, show ¬ (22 : Int) = 5 by decide, show ¬ (6 : Int) = 2 by decide, show ¬ (6 : Int) = 4 by decide, show ¬ (6 : Int) = 5 by decide, show ¬ (6 : Int) = 22 by decide, show ¬ (7 : Int) = 2 by decide, show ¬ (7 : Int) = 4 by decide, show ¬ (7 : Int) = 5 by decide, show ¬ (7 : Int) = 22 by decide, show ¬ (7 : Int) = 6 by decide, show ¬ (8 : Int) = 2 by decide, show ¬ (8 : Int) = 4 by decide, show ¬ (8 : Int) = 5 by decide, show ¬ (8 : Int) = 22 by decide, show ¬ (8 : Int) = 6 by decide, show ¬ (8 : Int) = 7 by decide, show ¬ (20 : Int) = 2 by decide, show ¬ (20 : Int) = 4 by decide, show ¬ (20 : Int) = 5 by decide, show ¬ (20 : Int) = 22 by decide, show ¬ (20 : Int) = 6 by decide, show ¬ (20 : Int) = 7 by decide, show ¬ (20 : Int) = 8 by decide, show ¬ (21 : Int) = 2 by decide, show ¬ (21 : Int) = 4 by decide, show ¬ (21 : Int) = 5 by decide, show ¬ (21 : Int) = 22 by decide, show ¬ (21 : Int) = 6 by decide, show ¬ (21 : Int) = 7 by decide, show ¬ (21 : Int) = 8 by decide, show ¬ (21 : Int) = 20 by decide, show ¬ (23 : Int) = 2 by decide, show ¬ (23 : Int) = 4 by decide, show ¬ (23 : Int) = 5 by decide, show ¬ (23 : Int) = 22 by decide, show ¬ (23 : Int) = 6 by decide, show ¬ (23 : Int) = 7 by decide, show ¬ (23 : Int) = 8 by decide, show ¬ (23 : Int) = 20 by decide, show ¬ (23 : Int) = 21 by decide, if_false, if_true, or_false, or_true, true_or, false_or] at hV
    rw [← hV] at hw
    have HW := Lib.hid hw
    have HV := Lib.hid hV
    clear hw hV
    go_enter Try.func54, Try.ntmps54
    have E := hu.only
    have FR : UFr b m w w := UFr.refl
    go_upto_region 9999 with (first | ((with_reducible refine at_dst 3 ?_); go_simp; (generalize hX3 : Array.size (World.heap _) = X3); refine new_block hX3 ?_; intro wn bb hx; (try (have z3 := Nat.le_trans E.size (Nat.le_of_eq hX3))); (try (have mhu_3 := hu.notin (Nat.le_of_eq hX3))); (try (have mFR_3 := FR.notin (Nat.le_of_eq hX3))); have b3 := Loc.new bb E hX3; clear bb hX3; (try replace E := E.ext hx); (try replace hu := hu.ext hx); (try replace FR := FR.ext hx); (try (clear hcE hfE)); (try (have hcf := bcell E.low; obtain ⟨hcE, hfE⟩ := hcf)); (try (clear c3 f3)); (try (have c3 := b3.cell; have f3 := b3.free))) | ((with_reducible refine at_dst 19 ?_); go_simp; ((with_reducible refine (sulist_any hu 3 hs.hd.list HW.out).mono ?_)); unfold UPost; rintro e wn ⟨rfl, hu2, hF⟩; (try replace b3 := hu.loc b3 hF (of_decide_eq_true rfl)); replace FR := FR.trans hF; clear hu E hF; have hu := hu2; clear hu2; have E := hu.only; (try (clear hcE hfE)); (try (have hcf := bcell E.low; obtain ⟨hcE, hfE⟩ := hcf)); (try (clear c3 f3)); (try (have c3 := b3.cell; have f3 := b3.free))) | ((with_reducible refine at_dst 25 ?_); go_simp; ((with_reducible refine (suadd_any hu 2 s.h.name (PR.nil w0 _) (by have := HW.out; rw [wtE_cons] at this; rw [List.length_nil] at this ⊢; omega)).mono ?_)); unfold UPost; rintro e wn ⟨rfl, hu2, hF⟩; (try replace b3 := hu.loc b3 hF (of_decide_eq_true rfl)); replace FR := FR.trans hF; clear hu E hF; have hu := hu2; clear hu2; have E := hu.only; (try (clear hcE hfE)); (try (have hcf := bcell E.low; obtain ⟨hcE, hfE⟩ := hcf)); (try (clear c3 f3)); (try (have c3 := b3.cell; have f3 := b3.free))) | ((with_reducible refine at_dst 29 ?_); go_simp; ((with_reducible refine (sulist_any hu 3 hs.hd.list (wt_one (by have := HW.out; rw [wtE_cons] at this; exact this))).mono ?_)); unfold UPost; rintro e wn ⟨rfl, hu2, hF⟩; (try replace b3 := hu.loc b3 hF (of_decide_eq_true rfl)); replace FR := FR.trans hF; clear hu E hF; have hu := hu2; clear hu2; have E := hu.only; (try (clear hcE hfE)); (try (have hcf := bcell E.low; obtain ⟨hcE, hfE⟩ := hcf)); (try (clear c3 f3)); (try (have c3 := b3.cell; have f3 := b3.free))) | ((with_reducible refine at_dst 35 ?_); (refine wp_part (vs := (nsC (s).h.source).toArray) b3.blk rfl rfl ?_ ?_ ?_ ?_); (· kernel_rfl); (· kernel_rfl); (· kernel_rfl)) | ((with_reducible refine at_dst 36 ?_); go_simp; ((with_reducible refine (suset_any hu 0 hs.hd.source HW.out).mono ?_)); unfold UPost; rintro e wn ⟨rfl, hu2, hF⟩; (try replace b3 := hu.loc b3 hF (of_decide_eq_true rfl)); replace FR := FR.trans hF; clear hu E hF; have hu := hu2; clear hu2; have E := hu.only; (try (clear hcE hfE)); (try (have hcf := bcell E.low; obtain ⟨hcE, hfE⟩ := hcf)); (try (clear c3 f3)); (try (have c3 := b3.cell; have f3 := b3.free))) | ((with_reducible refine at_dst 41 ?_); (refine wp_part (vs := (nsC (s).h.source).toArray) b3.blk rfl rfl ?_ ?_ ?_ ?_); (· kernel_rfl); (· kernel_rfl); (· kernel_rfl)) | ((with_reducible refine at_dst 42 ?_); go_simp; ((with_reducible refine (suset_any hu 4 hs.hd.source (wt_l HW.out)).mono ?_)); unfold UPost; rintro e wn ⟨rfl, hu2, hF⟩; (try replace b3 := hu.loc b3 hF (of_decide_eq_true rfl)); replace FR := FR.trans hF; clear hu E hF; have hu := hu2; clear hu2; have E := hu.only; (try (clear hcE hfE)); (try (have hcf := bcell E.low; obtain ⟨hcE, hfE⟩ := hcf)); (try (clear c3 f3)); (try (have c3 := b3.cell; have f3 := b3.free))) | ((with_reducible refine at_dst 45 ?_); (refine wp_part (vs := (nsC (s).h.target).toArray) b3.blk rfl rfl ?_ ?_ ?_ ?_); (· kernel_rfl); (· kernel_rfl); (· kernel_rfl)) | ((with_reducible refine at_dst 46 ?_); go_simp; ((with_reducible refine (suset_any hu 4 hs.hd.target (wt_r HW.out)).mono ?_)); unfold UPost; rintro e wn ⟨rfl, hu2, hF⟩; (try replace b3 := hu.loc b3 hF (of_decide_eq_true rfl)); replace FR := FR.trans hF; clear hu E hF; have hu := hu2; clear hu2; have E := hu.only; (try (clear hcE hfE)); (try (have hcf := bcell E.low; obtain ⟨hcE, hfE⟩ := hcf)); (try (clear c3 f3)); (try (have c3 := b3.cell; have f3 := b3.free))) | ((with_reducible refine at_dst 51 ?_); (refine wp_part (vs := (nsC (s).h.source).toArray) b3.blk rfl rfl ?_ ?_ ?_ ?_); (· kernel_rfl); (· kernel_rfl); (· kernel_rfl)) | ((with_reducible refine at_dst 52 ?_); go_simp; ((with_reducible refine (suset_any hu 4 hs.hd.source (wt_l HW.out)).mono ?_)); unfold UPost; rintro e wn ⟨rfl, hu2, hF⟩; (try replace b3 := hu.loc b3 hF (of_decide_eq_true rfl)); replace FR := FR.trans hF; clear hu E hF; have hu := hu2; clear hu2; have E := hu.only; (try (clear hcE hfE)); (try (have hcf := bcell E.low; obtain ⟨hcE, hfE⟩ := hcf)); (try (clear c3 f3)); (try (have c3 := b3.cell; have f3 := b3.free))) | ((with_reducible refine at_dst 55 ?_); (refine wp_part (vs := (nsC (s).h.target).toArray) b3.blk rfl rfl ?_ ?_ ?_ ?_); (· kernel_rfl); (· kernel_rfl); (· kernel_rfl)) | ((with_reducible refine at_dst 56 ?_); go_simp; ((with_reducible refine (suset_any hu 0 hs.hd.target (wt_l (wt_r HW.out))).mono ?_)); unfold UPost; rintro e wn ⟨rfl, hu2, hF⟩; (try replace b3 := hu.loc b3 hF (of_decide_eq_true rfl)); replace FR := FR.trans hF; clear hu E hF; have hu := hu2; clear hu2; have E := hu.only; (try (clear hcE hfE)); (try (have hcf := bcell E.low; obtain ⟨hcE, hfE⟩ := hcf)); (try (clear c3 f3)); (try (have c3 := b3.cell; have f3 := b3.free))) | ((with_reducible refine at_dst 59 ?_); (refine wp_part (vs := (nsC (s).h.cls).toArray) b3.blk rfl rfl ?_ ?_ ?_ ?_); (· kernel_rfl); (· kernel_rfl); (· kernel_rfl)) | ((with_reducible refine at_dst 61 ?_); go_simp; ((with_reducible refine (suclasses0_any hu hs.hd.cls (wt_l (wt_r (wt_r HW.out)))).mono ?_)); unfold UPost; rintro e wn ⟨rfl, hu2, hF⟩; (try replace b3 := hu.loc b3 hF (of_decide_eq_true rfl)); replace FR := FR.trans hF; clear hu E hF; have hu := hu2; clear hu2; have E := hu.only; (try (clear hcE hfE)); (try (have hcf := bcell E.low; obtain ⟨hcE, hfE⟩ := hcf)); (try (clear c3 f3)); (try (have c3 := b3.cell; have f3 := b3.free))) | ((with_reducible refine at_dst 65 ?_); go_simp; ((with_reducible refine (suadd_any hu 4 s.h.result (PR.nil w0 _) (wt_one1 rfl (wt_r (wt_r (wt_r HW.out))))).mono ?_)); unfold UPost; rintro e wn ⟨rfl, hu2, hF⟩; (try replace b3 := hu.loc b3 hF (of_decide_eq_true rfl)); replace FR := FR.trans hF; clear hu E hF; have hu := hu2; clear hu2; have E := hu.only; (try (clear hcE hfE)); (try (have hcf := bcell E.low; obtain ⟨hcE, hfE⟩ := hcf)); (try (clear c3 f3)); (try (have c3 := b3.cell; have f3 := b3.free))) | ((with_reducible refine at_dst 71 ?_); go_simp; ((with_reducible refine (sulist_any hu 4 hs.hd.list (wt_l HW.out)).mono ?_)); unfold UPost; rintro e wn ⟨rfl, hu2, hF⟩; (try replace b3 := hu.loc b3 hF (of_decide_eq_true rfl)); replace FR := FR.trans hF; clear hu E hF; have hu := hu2; clear hu2; have E := hu.only; (try (clear hcE hfE)); (try (have hcf := bcell E.low; obtain ⟨hcE, hfE⟩ := hcf)); (try (clear c3 f3)); (try (have c3 := b3.cell; have f3 := b3.free))) | ((with_reducible refine at_dst 74 ?_); (refine wp_part (vs := (lvC (s).h.level).toArray) b3.blk rfl rfl ?_ ?_ ?_ ?_); (· kernel_rfl); (· kernel_rfl); (· kernel_rfl)) | ((with_reducible refine at_dst 75 ?_); go_simp; ((with_reducible refine (sulevel_any hu hs.hd.level (wt_l (wt_r HW.out))).mono ?_)); unfold UPost; rintro e wn ⟨rfl, hu2, hF⟩; (try replace b3 := hu.loc b3 hF (of_decide_eq_true rfl)); replace FR := FR.trans hF; clear hu E hF; have hu := hu2; clear hu2; have E := hu.only; (try (clear hcE hfE)); (try (have hcf := bcell E.low; obtain ⟨hcE, hfE⟩ := hcf)); (try (clear c3 f3)); (try (have c3 := b3.cell; have f3 := b3.free))) | ((with_reducible refine at_dst 78 ?_); (refine wp_part (vs := (rgC (s).h.range).toArray) b3.blk rfl rfl ?_ ?_ ?_ ?_); (· kernel_rfl); (· kernel_rfl); (· kernel_rfl)) | ((with_reducible refine at_dst 79 ?_); go_simp; ((with_reducible refine (suspan_any hu hs.hd.range (wt_r (wt_r HW.out))).mono ?_)); unfold UPost; rintro e wn ⟨rfl, hu2, hF⟩; (try replace b3 := hu.loc b3 hF (of_decide_eq_true rfl)); replace FR := FR.trans hF; clear hu E hF; have hu := hu2; clear hu2; have E := hu.only; (try (clear hcE hfE)); (try (have hcf := bcell E.low; obtain ⟨hcE, hfE⟩ := hcf)); (try (clear c3 f3)); (try (have c3 := b3.cell; have f3 := b3.free))) | ((with_reducible refine at_dst 85 ?_); (refine wp_part (vs := (cxC (s).h.ctx).toArray) b3.blk rfl rfl ?_ ?_ ?_ ?_); (· kernel_rfl); (· kernel_rfl); (· kernel_rfl)) | ((with_reducible refine at_dst 86 ?_); go_simp; ((with_reducible refine (sucontext_any hu hs.hd.ctx HW.out).mono ?_)); unfold UPost; rintro e wn ⟨rfl, hu2, hF⟩; (try replace b3 := hu.loc b3 hF (of_decide_eq_true rfl)); replace FR := FR.trans hF; clear hu E hF; have hu := hu2; clear hu2; have E := hu.only; (try (clear hcE hfE)); (try (have hcf := bcell E.low; obtain ⟨hcE, hfE⟩ := hcf)); (try (clear c3 f3)); (try (have c3 := b3.cell; have f3 := b3.free))) | ((with_reducible refine at_dst 90 ?_); (refine wp_all b3.blk rfl rfl ?_ ?_ ?_); (· kernel_rfl); (· kernel_rfl)) | ((with_reducible refine at_dst 91 ?_); go_simp; ((with_reducible refine (sutypes_any hu hs.hd HW.out).mono ?_)); unfold UPost; rintro e wn ⟨rfl, hu2, hF⟩; (try replace b3 := hu.loc b3 hF (of_decide_eq_true rfl)); replace FR := FR.trans hF; clear hu E hF; have hu := hu2; clear hu2; have E := hu.only; (try (clear hcE hfE)); (try (have hcf := bcell E.low; obtain ⟨hcE, hfE⟩ := hcf)); (try (clear c3 f3)); (try (have c3 := b3.cell; have f3 := b3.free))) | ((with_reducible refine at_store 8 ?_); (refine wp_pos (l := s.h.line) (c := s.h.col) hu rfl rfl rfl ?_ ?_); (· kernel_rfl); intro wn hu2 hF; replace b3 := hu.loc b3 hF (of_decide_eq_true rfl); replace FR := FR.trans hF; clear hu E hF; have hu := hu2; clear hu2; have E := hu.only; dsimp only [Act.put]; (try (clear hcE hfE)); (try (have hcf := bcell E.low; obtain ⟨hcE, hfE⟩ := hcf)); (try (clear c3 f3)); (try (have c3 := b3.cell; have f3 := b3.free))))
    refine bodyPost_ret (v := .tuple #[]) (by simp [results, Try.f54, go_sem]) rfl (uposte hu (by first | exact congrArg (adds U) HV.out | (rw [← HV.out]; simp only [adds_app]; rfl) | (rw [← HV.out]; simp only [adds_app]; done)) FR)
theorem evSts_app : ∀ a b : List St, evSts (a ++ b) = evSts a ++ evSts b
  | [], b => by rw [List.nil_append, evSts]; rfl
  | e :: a, b => by rw [List.cons_append, evSts, evSts, evSts_app a b, List.append_assoc]
def evS1 (s : St) : List Ev := if s.h.kind = 18 then [] else evSt s
theorem evSts_take {l : List St} {j : Nat} {y : St} (h : l[j]? = some y) (U : List PS) : adds U (evSts (l.take (j + 1))) = adds (adds U (evSts (l.take j))) (evS1 y) := by
  rw [take_at h, evSts_app, adds_app, evSts, evSts, List.append_nil]; rfl
theorem wt_sts {U : List PS} {l : List St} {j : Nat} {y : St} {N : Nat} (h : l[j]? = some y) (hw : wtU U + wtE (evSts l) ≤ N) : wtU (adds U (evSts (l.take j))) + wtE (evS1 y) ≤ N := by
  have h1 := adds_wt (evSts (l.take j)) U
  have h2 : wtE (evSts (l.take j)) + wtE (evS1 y) ≤ wtE (evSts l) := by
    have := List.take_append_drop j l
    rw [← congrArg (fun l => wtE (evSts l)) this, evSts_app, wtE_app, drop_at h, evSts, wtE_app]; unfold evS1; omega
  omega
set_option maxHeartbeats 8000000 in
set_option maxRecDepth 100000 in
theorem sustatements_step {w0 : World} {b m N : Nat} (IH : Hid (StsOk w0 b m N)) : StsOk w0 b m (N + 1) := by
  intro U l w a n c p hu hl hok hfl hz hw
  obtain ⟨rfl, n2⟩ := RRow.lens hl
  go_enter Try.func45, Try.ntmps45
  have E := hu.only
  have FR : UFr b m w w := UFr.refl
  go_upto_region 1 with (first | fail)
  go_loopw [8] (fun i wr => ∃ (j : Nat) (p1 : Int × Int), i = .int .i64 j ∧ j ≤ l.length ∧ UAt w0 wr b m (adds U (evSts (l.take j))) p1 ∧ UFr b m w wr) (fun i _ => l.length - (intOf i).toNat)
  case atStart => exact ⟨0, p, rfl, Nat.zero_le _, hu, FR⟩
  case round =>
    clear hu FR E
    obtain ⟨j, p1, rfl, hj, hu, FR⟩ := hrel
    have E := hu.only
    obtain ⟨hcE, hfE⟩ := bcell E.low
    by_cases hlt : j < l.length
    · obtain ⟨y, hy⟩ := at_some hlt
      obtain ⟨g, o, rfl, hg, -⟩ := RRow.cells hl hlt
      have hlc := hl
      have HY := Lib.hid hy
      have hs := evSts_take hy U
      have HW0 := Lib.hid (wt_sts hy hw)
      have hsz : y.sz ≤ N := by have := St.sz_at hy; omega
      have hyo : y.ok w0 := by
        obtain ⟨h1, h2⟩ := List.getElem?_eq_some_iff.1 hy
        exact h2 ▸ hok.at h1
      have hyf : y.fewl := by
        obtain ⟨h1, h2⟩ := List.getElem?_eq_some_iff.1 hy
        exact h2 ▸ hfl.at h1
      clear hy
      by_cases h18 : y.h.kind = 18
      · have e1 : evS1 y = [] := if_pos h18
        rw [e1] at hs
        have HS := Lib.hid hs
        obtain ⟨g1, g2⟩ := kd_t h18
        clear h18 hs e1
        go_upto_region 9999 with (first | ((with_reducible refine at_dst 11 ?_); (refine wp_rec2 ((hlc.ext E.low)) (HY.out) stC_len rfl rfl ?_ ?_ ?_); (· kernel_rfl); (· kernel_rfl)) | ((with_reducible refine at_dst 5 ?_); go_simp; (generalize hX5 : Array.size (World.heap _) = X5); refine new_block hX5 ?_; intro wn bb hx; (try (have z5 := Nat.le_trans E.size (Nat.le_of_eq hX5))); (try (have mhu_5 := hu.notin (Nat.le_of_eq hX5))); (try (have mFR_5 := FR.notin (Nat.le_of_eq hX5))); have b5 := Loc.new bb E hX5; clear bb hX5; (try replace E := E.ext hx); (try replace hu := hu.ext hx); (try replace FR := FR.ext hx); (try (clear hcE hfE)); (try (have hcf := bcell E.low; obtain ⟨hcE, hfE⟩ := hcf)); (try (clear c5 f5)); (try (have c5 := b5.cell; have f5 := b5.free))) | ((with_reducible refine at_store 5 ?_); (refine wp_put b5 rfl rfl ?_ ?_ ?_ ?_; (· kernel_rfl); (· first | rfl | kernel_rfl); (· first | decide | exact Nat.le_refl _ | simp [Act.eval, Value.cells] | (simp [Act.eval, Act.put, Value.cells]; done)); intro wn bn hb; have E2 := E.put b5 hb; (first | (replace hu := hu.but b5 hb (of_decide_eq_true rfl)) | (replace hu := hu.but0 hb mhu_5) | skip); (first | (replace FR := FR.but hb b5.blk (of_decide_eq_true rfl)) | (replace FR := FR.but0 hb mFR_5) | skip); clear E b5; have E := E2; clear E2; have b5 := bn; clear bn hb; dsimp only [Act.put]; simp only [putA, Act.eval, Value.cells, Nat.reduceAdd, putL, sizL] at b5; (try (clear hcE hfE)); (try (have hcf := bcell E.low; obtain ⟨hcE, hfE⟩ := hcf)); (try (clear c5 f5)); (try (have c5 := b5.cell; have f5 := b5.free)))))
        go_roundw
        case rel => exact ⟨j + 1, p1, by go_num, by omega, by rw [HS.out]; exact hu, FR⟩
        case measure => simp [intOf]; omega
      · have e1 : evS1 y = evSt y := if_neg h18
        rw [e1] at hs HW0
        have HS := Lib.hid hs
        have HW := HW0
        obtain ⟨g1, g2⟩ := kd_f h18
        clear h18 hs HW0 e1
        go_upto_region 9999 with (first | ((with_reducible refine at_dst 11 ?_); (refine wp_rec2 ((hlc.ext E.low)) (HY.out) stC_len rfl rfl ?_ ?_ ?_); (· kernel_rfl); (· kernel_rfl)) | ((with_reducible refine at_dst 5 ?_); go_simp; (generalize hX5 : Array.size (World.heap _) = X5); refine new_block hX5 ?_; intro wn bb hx; (try (have z5 := Nat.le_trans E.size (Nat.le_of_eq hX5))); (try (have mhu_5 := hu.notin (Nat.le_of_eq hX5))); (try (have mFR_5 := FR.notin (Nat.le_of_eq hX5))); have b5 := Loc.new bb E hX5; clear bb hX5; (try replace E := E.ext hx); (try replace hu := hu.ext hx); (try replace FR := FR.ext hx); (try (clear hcE hfE)); (try (have hcf := bcell E.low; obtain ⟨hcE, hfE⟩ := hcf)); (try (clear c5 f5)); (try (have c5 := b5.cell; have f5 := b5.free))) | ((with_reducible refine at_dst 16 ?_); (refine wp_all b5.blk rfl rfl ?_ ?_ ?_); (· kernel_rfl); (· kernel_rfl)) | ((with_reducible refine at_dst 17 ?_); go_simp; ((with_reducible refine (sustatement_any IH hu hyo hyf hsz HW.out).mono ?_)); unfold UPostE; rintro e wn ⟨rfl, p1, hu2, hF⟩; (try replace b5 := hu.loc b5 hF (of_decide_eq_true rfl)); replace FR := FR.trans hF; clear hu E hF; have hu := hu2; clear hu2; have E := hu.only; (try (clear hcE hfE)); (try (have hcf := bcell E.low; obtain ⟨hcE, hfE⟩ := hcf)); (try (clear c5 f5)); (try (have c5 := b5.cell; have f5 := b5.free))) | ((with_reducible refine at_store 5 ?_); (refine wp_put b5 rfl rfl ?_ ?_ ?_ ?_; (· kernel_rfl); (· first | rfl | kernel_rfl); (· first | decide | exact Nat.le_refl _ | simp [Act.eval, Value.cells] | (simp [Act.eval, Act.put, Value.cells]; done)); intro wn bn hb; have E2 := E.put b5 hb; (first | (replace hu := hu.but b5 hb (of_decide_eq_true rfl)) | (replace hu := hu.but0 hb mhu_5) | skip); (first | (replace FR := FR.but hb b5.blk (of_decide_eq_true rfl)) | (replace FR := FR.but0 hb mFR_5) | skip); clear E b5; have E := E2; clear E2; have b5 := bn; clear bn hb; dsimp only [Act.put]; simp only [putA, Act.eval, Value.cells, Nat.reduceAdd, putL, sizL] at b5; (try (clear hcE hfE)); (try (have hcf := bcell E.low; obtain ⟨hcE, hfE⟩ := hcf)); (try (clear c5 f5)); (try (have c5 := b5.cell; have f5 := b5.free)))))
        go_roundw
        case rel => exact ⟨j + 1, _, by go_num, by omega, by rw [HS.out]; exact hu, FR⟩
        case measure => simp [intOf]; omega
    · go_upto_region 9999 with (first | fail)
      refine bodyPost_ret (v := .tuple #[]) (by simp [results, Try.f45, go_sem]) rfl (uposte hu (by rw [List.take_of_length_le (by omega)]) FR)
theorem sustatements_any {w0 : World} {b m : Nat} : ∀ N : Nat, StsOk w0 b m N
  | 0 => fun U l w a n c p hu hl hok hfl hz hw => absurd hz (Nat.not_lt_zero _)
  | N + 1 => sustatements_step (Lib.hid (sustatements_any N))
end Go.Proofs.Ytnifgkgdphlleaa
