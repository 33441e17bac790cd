/- Ou, Qo -/
import Derived.Test.YtnifgkgdphlleaaS30
import Derived.Test.YtnifgkgdphlleaaS23
import Derived.Test.YtnifgkgdphlleaaS24
import Derived.Test.YtnifgkgdphlleaaS25
import Derived.Test.YtnifgkgdphlleaaS28
set_option linter.unusedSimpArgs false
set_option linter.unusedVariables false
namespace Go.Proofs.Ytnifgkgdphlleaa
open Go.ChangeShapes Go.WideShapes Go.ChangeAt Go.RowKit Tk
theorem nB_len (l : List ByteArray) : l.length + 1 ≤ nB l := by
  unfold nB
  induction l with
  | nil => simp
  | cons x l ih => simp only [List.map_cons, List.sum_cons, List.length_cons, sB] at ih ⊢; omega
theorem sB_pos (s : ByteArray) : 1 ≤ sB s := by unfold sB; omega
theorem wtE_app' (a b : List Ev) : wtE (a ++ b) = wtE a + wtE b := by simp [wtE]
theorem wtE_list (p : Int × Int) (k : Int) (l : List ByteArray) : wtE (evList p k l) = l.length := by
  unfold wtE evList
  rw [List.map_map]
  induction l with
  | nil => rfl
  | cons x l ih => rw [List.map_cons, List.sum_cons, ih]; simp only [Function.comp, List.length_nil, List.length_cons]; omega
theorem wtE_set (p : Int × Int) (k : Int) (n : NSet) : wtE (evSet p k n) + 6 ≤ n.bk := by
  have h1 := nB_len n.names
  have h2 := nB_len n.except
  unfold evSet NSet.bk
  rw [wtE_app', wtE_list, wtE_list]; omega
theorem wtE_cls (p : Int × Int) (n q : NSet) : wtE (evCls p n q) + 5 ≤ n.bk * q.bk := by
  have h1 := nB_len n.names
  have h2 := nB_len n.except
  have h3 := nB_len q.names
  have h4 := nB_len q.except
  have e : wtE (n.names.map fun x => (⟨p, 1, x, q.names ++ q.except⟩ : Ev)) = n.names.length * (1 + (q.names.length + q.except.length)) := by
    unfold wtE
    rw [List.map_map]
    induction n.names with
    | nil => simp
    | cons x l ih => rw [List.map_cons, List.sum_cons, ih, List.length_cons, Nat.succ_mul]; simp only [Function.comp, List.length_append]; omega
  unfold evCls
  rw [wtE_app', e, wtE_list]
  have hq : 1 + (q.names.length + q.except.length) + 5 ≤ q.bk := by unfold NSet.bk; omega
  have hn : n.names.length + n.except.length + 6 ≤ n.bk := by unfold NSet.bk; omega
  have m1 : n.names.length * (1 + (q.names.length + q.except.length)) ≤ n.names.length * q.bk := Nat.mul_le_mul_left _ (by omega)
  have m2 : (n.names.length + (n.except.length + 6)) * q.bk ≤ n.bk * q.bk := Nat.mul_le_mul_right _ (by omega)
  have m3 : n.except.length + 6 ≤ (n.except.length + 6) * q.bk := Nat.le_mul_of_pos_right _ (by omega)
  rw [Nat.add_mul] at m2
  omega
theorem wtE_lvl (p : Int × Int) (l : Lvl) : wtE (evLvl p l) + 1 ≤ l.bk := by
  have h1 := sB_pos l.sens
  have e : wtE (l.cats.flatMap (evCat p)) ≤ (l.cats.map spanB).sum := by
    unfold wtE
    induction l.cats with
    | nil => simp
    | cons x l ih =>
      have a1 := sB_pos x.1
      have a2 := sB_pos x.2
      simp only [List.flatMap_cons, List.map_append, List.sum_append, List.map_cons, List.sum_cons, evCat, List.map_nil, List.sum_nil, List.length_nil, spanB] at ih ⊢
      omega
  unfold evLvl Lvl.bk
  rw [wtE_cons]
  simp only [List.length_nil]; omega
theorem wtE_rng (p : Int × Int) (r : Rng) : wtE (evRng p r) + 3 ≤ r.bk := by
  have h1 := wtE_lvl p r.lo
  have h2 := wtE_lvl p r.hi
  unfold evRng Rng.bk
  rw [wtE_app']; omega
theorem wtE_ctx (p : Int × Int) (c : Ctx) : wtE (evCtx p c) + 3 ≤ c.bk := by
  have h1 := wtE_rng p c.rng
  have a1 := sB_pos c.user
  have a2 := sB_pos c.role
  have a3 := sB_pos c.type
  unfold evCtx Ctx.bk
  rw [wtE_cons, wtE_cons, wtE_cons]
  simp only [List.length_nil]; omega
theorem wtE_exH (p : Int × Int) (h : ExH) : wtE (evExH p h) ≤ h.names.length := by
  unfold evExH
  repeat' split
  all_goals first
    | (rw [wtE_list]; exact Nat.le_refl _)
    | (simp [wtE])
mutual
theorem wtE_ex (p : Int × Int) : ∀ e : Ex, wtE (evEx p e) + 7 ≤ e.bk
  | .mk h kids => by
    have h1 := wtE_exs p kids
    have h2 := wtE_exH p h
    have h3 := nB_len h.names
    rw [evEx, wtE_app', Ex.bk]; omega
theorem wtE_exs (p : Int × Int) : ∀ l : List Ex, wtE (evExs p l) ≤ Ex.bks l
  | [] => by rw [evExs]; simp [wtE]
  | e :: l => by
    have h1 := wtE_ex p e
    have h2 := wtE_exs p l
    rw [evExs, wtE_app', Ex.bks]; omega
end
theorem sq_add (a b : Nat) : a * a + b * b ≤ (a + b) * (a + b) := by
  rw [Nat.add_mul]
  have h1 : a * a ≤ a * (a + b) := Nat.mul_le_mul_left _ (by omega)
  have h2 : b * b ≤ b * (a + b) := Nat.mul_le_mul_left _ (by omega)
  omega
theorem sq_self {a : Nat} (h : 1 ≤ a) : a ≤ a * a := Nat.le_mul_of_pos_right _ h
theorem sq_mono {a b : Nat} (h : a ≤ b) : a * a ≤ b * b := Nat.mul_le_mul h h
theorem NSet.bk_pos (n : NSet) : 6 ≤ n.bk := by
  have h1 := nB_len n.names
  have h2 := nB_len n.except
  unfold NSet.bk; omega
theorem noS_bk : noS.bk = 6 := rfl
/-- a product and a rest -/
theorem sq_mix {A C P b : Nat} (hA : 1 ≤ A) (h : A + C + P ≤ b) : A + C * P ≤ b * b := by
  have h1 : (A + C + P) * (A + C + P) ≤ b * b := sq_mono h
  have h2 : A ≤ A * (A + C + P) := Nat.le_mul_of_pos_right _ (by omega)
  have h3 : C * P ≤ C * (A + C + P) := Nat.mul_le_mul_left _ (by omega)
  rw [Nat.add_mul, Nat.add_mul] at h1
  omega
theorem ite_le {c : Prop} [Decidable c] {a b : List Ev} {n : Nat} (h1 : wtE a ≤ n) (h2 : wtE b ≤ n) : wtE (if c then a else b) ≤ n := by
  split
  · exact h1
  · exact h2
theorem wtE_stH (h : StH) : wtE (evStH h) ≤ h.bk * h.bk := by
  have a1 := wtE_set h.pos 0 h.source
  have a2 := wtE_set h.pos 0 h.target
  have a3 := wtE_set h.pos 4 h.source
  have a4 := wtE_set h.pos 4 h.target
  have b1 := wtE_cls h.pos h.cls h.perms
  have b2 := wtE_cls h.pos h.cls noS
  rw [noS_bk] at b2
  have c1 := wtE_lvl h.pos h.level
  have c2 := wtE_rng h.pos h.range
  have c3 := wtE_ctx h.pos h.ctx
  have c4 := wtE_ex h.pos h.cond
  have d1 := nB_len h.list
  have d2 := nB_len h.aliases
  have e1 := sB_pos h.name
  have e2 := sB_pos h.result
  have e3 := sB_pos h.text
  have f1 := h.cls.bk_pos
  have f2 := h.perms.bk_pos
  have f3 := h.source.bk_pos
  have f4 := h.target.bk_pos
  have hb : h.bk = sB h.name + sB h.result + sB h.text + nB h.list + nB h.aliases + h.source.bk + h.target.bk + h.cls.bk + h.perms.bk + h.cond.bk + h.level.bk + h.range.bk + h.ctx.bk := rfl
  have hs := sq_self (a := h.bk) (by omega)
  have m1 : h.source.bk + h.target.bk + h.cond.bk + h.range.bk + h.cls.bk * h.perms.bk ≤ h.bk * h.bk := sq_mix (by omega) (by omega)
  have m2 : h.source.bk + h.target.bk + h.cond.bk + h.range.bk + h.cls.bk * 6 ≤ h.bk * h.bk := sq_mix (by omega) (by omega)
  unfold evStH evRuH evTyp
  repeat' apply ite_le
  all_goals
    try simp only [wtE_app', wtE_cons, wtE_list, List.length_nil, show wtE ([] : List Ev) = 0 from rfl]
    omega
mutual
theorem wtE_st : ∀ s : St, wtE (evSt s) ≤ s.bk * s.bk
  | .mk h t e => by
    have h1 := wtE_sts t
    have h2 := wtE_sts e
    have h3 := wtE_stH h
    have h4 := wtE_ex h.pos h.cond
    have hb : h.bk = sB h.name + sB h.result + sB h.text + nB h.list + nB h.aliases + h.source.bk + h.target.bk + h.cls.bk + h.perms.bk + h.cond.bk + h.level.bk + h.range.bk + h.ctx.bk := rfl
    have k1 := sq_add (h.bk + St.bks t) (St.bks e)
    have k2 := sq_add h.bk (St.bks t)
    have k3 := sq_self (a := h.bk) (by omega)
    have k4 : (h.bk + St.bks t + St.bks e) * (h.bk + St.bks t + St.bks e) ≤ (5 + h.bk + (St.bks t + 1) + (St.bks e + 1)) * (5 + h.bk + (St.bks t + 1) + (St.bks e + 1)) := sq_mono (by omega)
    rw [evSt, St.bk]
    split
    · rw [wtE_app', wtE_app']; omega
    · omega
theorem wtE_sts : ∀ l : List St, wtE (evSts l) ≤ St.bks l * St.bks l
  | [] => by rw [evSts]; simp [wtE]
  | s :: l => by
    have h1 := wtE_st s
    have h2 := wtE_sts l
    have h3 := sq_add s.bk (St.bks l)
    rw [evSts, wtE_app', St.bks]
    split
    · rw [show wtE ([] : List Ev) = 0 from rfl]; omega
    · omega
end
theorem wtU_map (k : Int) (r : Bool) (li co : Int) (l : List ByteArray) : wtU (l.map fun a => (⟨k, a, r, [], li, co⟩ : PS)) = l.length := by
  unfold wtU
  rw [List.map_map]
  induction l with
  | nil => rfl
  | cons x l ih => rw [List.map_cons, List.sum_cons, ih]; simp only [Function.comp, List.length_nil, List.length_cons]; omega
theorem wtU_syms (h : StH) : wtU (symsP h) ≤ h.bk := by
  have d1 := nB_len h.list
  have d2 := nB_len h.aliases
  have d3 := joinN_len [] h.list
  have hb : h.bk = sB h.name + sB h.result + sB h.text + nB h.list + nB h.aliases + h.source.bk + h.target.bk + h.cls.bk + h.perms.bk + h.cond.bk + h.level.bk + h.range.bk + h.ctx.bk := rfl
  have cons : ∀ (x : PS) (l : List PS), wtU (x :: l) = (1 + x.perms.length) + wtU l := fun x l => by simp [wtU]
  unfold symsP
  repeat' split
  all_goals
    try simp only [cons, wtU_map, List.length_nil, show wtU ([] : List PS) = 0 from rfl, dedupN]
    try simp only [List.length_nil] at d3
    omega
mutual
theorem wt_bk : ∀ s : St, s.wt ≤ s.bk
  | .mk h t e => by
    have h1 := wts_bk t
    have h2 := wts_bk e
    have h3 := wtU_syms h
    rw [St.wt, St.bk]; omega
theorem wts_bk : ∀ l : List St, St.wts l ≤ St.bks l
  | [] => by rw [St.wts]; exact Nat.zero_le _
  | s :: l => by
    have h1 := wt_bk s
    have h2 := wts_bk l
    rw [St.wts, St.bks]; omega
end
mutual
theorem fewl_bk : ∀ s : St, s.bk ≤ 1000000000000 → s.fewl
  | .mk h t e, hs => by
    rw [St.bk] at hs
    have d1 := nB_len h.list
    have d2 := nB_len h.aliases
    have d3 := nB_len h.perms.names
    have d4 := nB_len h.perms.except
    have hb : h.bk = sB h.name + sB h.result + sB h.text + nB h.list + nB h.aliases + h.source.bk + h.target.bk + h.cls.bk + h.perms.bk + h.cond.bk + h.level.bk + h.range.bk + h.ctx.bk := rfl
    have hp : h.perms.bk = 4 + nB h.perms.names + nB h.perms.except := rfl
    unfold St.fewl
    exact ⟨⟨by omega, by omega, by omega, by omega⟩, fewls_bk t (by omega), fewls_bk e (by omega)⟩
theorem fewls_bk : ∀ l : List St, St.bks l ≤ 1000000000000 → St.fewls l
  | [], _ => by unfold St.fewls; trivial
  | s :: l, hs => by
    rw [St.bks] at hs
    unfold St.fewls
    exact ⟨fewl_bk s (by omega), fewls_bk l (by omega)⟩
end
mutual
theorem evf_bk : ∀ s : St, s.bk ≤ 1048576 → s.evf
  | .mk h t e, hs => by
    have h1 := wtE_st (.mk h t e)
    have h2 : (St.mk h t e).bk * (St.mk h t e).bk ≤ 1048576 * 1048576 := sq_mono hs
    rw [St.bk] at hs
    unfold St.evf
    exact ⟨by omega, evfs_bk t (by omega), evfs_bk e (by omega)⟩
theorem evfs_bk : ∀ l : List St, St.bks l ≤ 1048576 → St.evfs l
  | [], _ => by unfold St.evfs; trivial
  | s :: l, hs => by
    rw [St.bks] at hs
    unfold St.evfs
    exact ⟨evf_bk s (by omega), evfs_bk l (by omega)⟩
end
section
variable {H : Type} {enc : TypeId × Value → H} {W : World}
set_option maxRecDepth 100000 in
set_option linter.constructorNameAsVariable false in
theorem open_mod {sp : Nat → Bool} {held : Bool} {base : Nat} {r : Reach} {b0 : Nat} {v : Value} {d : DataW H} {ps : List MemPlace} (hval : Value.okWide Try.prog W r b0 24 v) (h : DataW.Trod enc Try.prog W base sp held 24 v d ps) :
    ∃ nm ver a n c l, v = .agg #[.string nm, .int .i64 ver, .slice a n c] ∧ RRow W 55 stC (.slice a n c) l ∧ St.oks W l ∧ St.bks l + 2 ≤ Rows.uptoBulk d := by
  obtain ⟨fs, hu, -⟩ := undf_mod
  obtain ⟨cs, rfl, _⟩ := okWide_struct hu hval
  obtain ⟨fuel, hf⟩ := h
  obtain ⟨⟨nm, ver, hs, l⟩, hc, ⟨hr, hk⟩, hb⟩ := mod_open hf
  obtain ⟨cs⟩ := cs
  simp only [Value.cells] at hc
  subst hc
  have h1 : 1 ≤ sB nm := by unfold sB; omega
  exact ⟨nm, ver, hs.a, l.length, hs.c, l, rfl, hr, St.oks_of fun s hs => (hk s hs).1, by rw [St.bks_sum]; dsimp only at hb; omega⟩
end
end Go.Proofs.Ytnifgkgdphlleaa
set_option linter.unusedSimpArgs false
set_option linter.unusedVariables false
namespace Go.Proofs.Ytnifgkgdphlleaa
open Go.RowKit Tk
set_option maxHeartbeats 2000000 in
set_option maxRecDepth 100000 in
theorem lawChecks {w : World} {nm : ByteArray} {ver : Int} {a : Option Addr} {n c : Nat} {l : List St} (hl : RRow w 55 stC (.slice a n c) l) (hok : St.oks w l) (hb : St.bks l ≤ 1048576) :
    Calls Try.prog 3 #[.agg #[.string nm, .int .i64 ver, .slice a n c]] w (BPost true w) := by
  obtain ⟨rfl, k1⟩ := RRow.lens hl
  have hfl := fewls_bk l (by omega)
  have hev := evfs_bk l hb
  have hwl := wts_bk l
  have hw : wtU (([] : List Sy).map Sy.ps) + St.wts l ≤ 1000000000000 := by
    have : wtU (([] : List Sy).map Sy.ps) = 0 := rfl
    omega
  obtain ⟨⟨q1, q2, q3, q4⟩, hF⟩ : ∃ F, exList l [] = F := ⟨_, rfl⟩
  have HF : Hid (exList l [] = ⟨q1, q2, q3, q4⟩) := hF
  have HG : Hid (exListR l [] = ⟨q1, q2, q3, q4⟩) := (exList_same l).trans hF
  clear hF
  go_enter Try.func3, Try.ntmps3
  have E := Only.refl [] w
  go_upto_region 9999 with (first | ((with_reducible refine at_dst 1 ?_); go_simp; (generalize hX1 : Array.size (World.heap _) = X1); refine new_block hX1 ?_; intro wn bb hx; (try (have z1 := Nat.le_trans E.size (Nat.le_of_eq hX1))); have b1 := Loc.new bb E hX1; clear bb hX1; (try replace E := E.ext hx); (try (clear hcE hfE)); (try (have hcf := bcell E.low; obtain ⟨hcE, hfE⟩ := hcf)); (try (clear c1 f1)); (try (have c1 := b1.cell; have f1 := b1.free))) | ((with_reducible refine at_dst 5 ?_); go_simp; (have hc := large_any (RRow.ext hl E.low) (hok.ext E.low)); ((with_reducible refine hc.mono ?_)); clear hc; unfold BSome; rintro e wn ⟨lb, rfl, hx⟩; (try replace E := E.ext hx); (try replace b1 := b1.ext hx); (try (clear hcE hfE)); (try (have hcf := bcell E.low; obtain ⟨hcE, hfE⟩ := hcf)); (try (clear c1 f1)); (try (have c1 := b1.cell; have f1 := b1.free))) | ((with_reducible refine at_dst 6 ?_); go_simp; ((with_reducible refine (alive10_true _).mono ?_)); unfold BPost; rintro e wn ⟨rfl, hx⟩; (try replace E := E.ext hx); (try replace b1 := b1.ext hx); (try (clear hcE hfE)); (try (have hcf := bcell E.low; obtain ⟨hcE, hfE⟩ := hcf)); (try (clear c1 f1)); (try (have c1 := b1.cell; have f1 := b1.free))) | ((with_reducible refine at_dst 7 ?_); (refine wp_all b1.blk rfl rfl ?_ ?_ ?_); (· kernel_rfl); (· kernel_rfl)) | ((with_reducible refine at_dst 8 ?_); go_simp; (have hc := check_any (nm := nm) (ver := ver) (RRow.ext hl E.low) (hok.ext E.low) hfl hev hw); ((with_reducible refine hc.mono ?_)); clear hc; unfold FPost FT.v; rw [HF.out]; dsimp only; rintro e wn ⟨rfl, hx⟩; (try replace E := E.ext hx); (try replace b1 := b1.ext hx); (try (clear hcE hfE)); (try (have hcf := bcell E.low; obtain ⟨hcE, hfE⟩ := hcf)); (try (clear c1 f1)); (try (have c1 := b1.cell; have f1 := b1.free))) | ((with_reducible refine at_dst 9 ?_); (refine wp_all b1.blk rfl rfl ?_ ?_ ?_); (· kernel_rfl); (· kernel_rfl)) | ((with_reducible refine at_dst 10 ?_); go_simp; (have hc := qCheck_any (nm := nm) (ver := ver) (RRow.ext hl E.low) (hok.ext E.low) hfl hev hw); ((with_reducible refine hc.mono ?_)); clear hc; unfold FPost FT.v; rw [HG.out]; dsimp only; rintro e wn ⟨rfl, hx⟩; (try replace E := E.ext hx); (try replace b1 := b1.ext hx); (try (clear hcE hfE)); (try (have hcf := bcell E.low; obtain ⟨hcE, hfE⟩ := hcf)); (try (clear c1 f1)); (try (have c1 := b1.cell; have f1 := b1.free))) | ((with_reducible refine at_dst 13 ?_); go_simp; ((with_reducible refine (alive10_true _).mono ?_)); unfold BPost; rintro e wn ⟨rfl, hx⟩; (try replace E := E.ext hx); (try replace b1 := b1.ext hx); (try (clear hcE hfE)); (try (have hcf := bcell E.low; obtain ⟨hcE, hfE⟩ := hcf)); (try (clear c1 f1)); (try (have c1 := b1.cell; have f1 := b1.free))) | ((with_reducible refine at_reg 3 ?_); (refine wp_region_s (id := 3) [2, 2, 3, 3, 2, 0, 3, 2, 0] [0, 2, 1, 3, 4, 5, 6, 7, 8] mixed ?_ ?_); (· decide +kernel); intro K hK wn hx; (try replace E := E.ext hx); (try replace b1 := b1.ext hx); (try (clear hcE hfE)); (try (have hcf := bcell E.low; obtain ⟨hcE, hfE⟩ := hcf)); (try (clear c1 f1)); (try (have c1 := b1.cell; have f1 := b1.free)); dsimp only [pickL, List.getElem?_cons_succ, List.getElem?_cons_zero]) | ((with_reducible refine at_tag 0 ?_); (first | ((with_reducible refine wpTag_q ?_ ?_ ?_); rfl; rfl; intro _ _) | ((with_reducible refine wpTag_w ?_ ?_ ?_); rfl; rfl; intro _ _) | ((with_reducible refine wpTag_no ?_ ?_); (· (go_simp; done))) | ((with_reducible refine wpTag_s ?_ ?_); rfl; intro _ _; go_simp))) | ((with_reducible refine at_tag 2 ?_); (first | ((with_reducible refine wpTag_no ?_ ?_); (· (go_simp; done))) | (apply wpTag_2; (· rfl); (· first | rfl | go_simp); (· intro wq hq; (try (clear hcE hfE)); (try (have hcf := bcell (E.ext hq).low; obtain ⟨hcE, hfE⟩ := hcf)); (try (clear c1 f1)); (try (have c1 := (b1.ext hq).cell; have f1 := (b1.ext hq).free)); go_simp <;> rfl); (try simp only [Act.put, actL])))) | ((with_reducible refine at_tag 3 ?_); (first | ((with_reducible refine wpTag_no ?_ ?_); (· (go_simp; done))) | ((refine wpTag_3 ?_ ?_ (fun K2 hK2 => ?_)); (· rfl); (· first | rfl | go_simp)))) | ((with_reducible refine at_and ?_ ?_); (· first | exact hx | exact Ext.refl _)) | ((with_reducible refine at_tagn ?_); (with_reducible refine wpTag_nil ?_)) | (go_at_call 7; ((refine (alive10_true _).mono ?_)); unfold BPost; rintro e wn ⟨rfl, hx⟩; (try replace E := E.ext hx); (try replace b1 := b1.ext hx); (try (clear hcE hfE)); (try (have hcf := bcell E.low; obtain ⟨hcE, hfE⟩ := hcf)); (try (clear c1 f1)); (try (have c1 := b1.cell; have f1 := b1.free))) | ((with_reducible refine wpTxt_q ?_ ?_ ?_); rfl; rfl; intro _ _) | ((with_reducible refine wpTxt_w0 ?_ ?_ ?_); rfl; rfl; intro _ _) | ((with_reducible refine wpTxt_s ?_ ?_); rfl; intro _ _; go_simp) | ((with_reducible refine wpTxt_sw ?_ ?_); rfl; intro _ _; go_simp) | (with_reducible refine wpTxt_nil ?_) | ((with_reducible refine wp_region_t mixed ?_ ?_); decide +kernel; intro _ _))
  all_goals
    refine bodyPost_ret (v := .bool true) (by simp [results, Try.f3, go_sem]) rfl ⟨rfl, E.low⟩
end Go.Proofs.Ytnifgkgdphlleaa
