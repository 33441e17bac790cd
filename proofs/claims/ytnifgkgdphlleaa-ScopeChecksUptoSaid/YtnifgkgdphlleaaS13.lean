/- Qb, Qc, Qd -/
import Derived.Test.YtnifgkgdphlleaaS12
import Derived.Test.YtnifgkgdphlleaaS8
set_option linter.unusedSimpArgs false
set_option linter.unusedVariables false
namespace Go.Proofs.Ytnifgkgdphlleaa
open Go.RowKit Tk
def noReq (U : List PS) : Prop := ∀ x ∈ U, x.req = false
theorem noReq.add {U : List PS} (h : noReq U) (v : Ev) : noReq (addU U v) := by
  unfold addU
  split
  · exact h
  · split
    · intro x hx
      obtain ⟨j, hj, e⟩ := List.getElem_of_mem hx
      rw [List.getElem_modify] at e
      subst e
      split
      · exact h (U[j]'(by simpa using hj)) (List.getElem_mem _)
      · exact h _ (List.getElem_mem _)
    · intro x hx
      rcases List.mem_append.1 hx with hx | hx
      · exact h x hx
      · rw [List.mem_singleton.1 hx]
theorem find_idx {k : Int} {n : ByteArray} : ∀ {U : List PS}, noReq U → findI k n false U = idxP (k, n) U
  | [], _ => rfl
  | x :: U, h => by
    have ih := find_idx (k := k) (n := n) (U := U) fun y hy => h y (by simp [hy])
    rw [findI, idxP, ih]
    have hx := h x (by simp)
    by_cases hk : x.key = (k, n)
    · rw [if_pos hk, if_pos ⟨congrArg Prod.fst hk, congrArg Prod.snd hk, hx⟩]
    · rw [if_neg hk, if_neg fun hc => hk (Prod.ext hc.1 hc.2.1)]
structure QAt (w0 w : World) (b : Nat) (U : List PS) (p : Int × Int) : Prop where
  only : Only [] w0 w
  ex : ∃ (xs : List Sy) (a : Option Addr) (c : Nat), xs.map Sy.ps = U ∧ Loc [] w0 w b 92 #[.slice a xs.length c, .int .i64 p.1, .int .i64 p.2] ∧ OwnR w0 w 57 6 syC (.slice a xs.length c) xs ∧ PermsOk w xs
  nr : noReq U
section
variable {w0 w w' : World} {b X : Nat} {U : List PS} {p : Int × Int} {t : TypeId} {cs : Array Value}
theorem QAt.ext (h : QAt w0 w b U p) (hx : Ext w w') : QAt w0 w' b U p := by
  obtain ⟨h1, ⟨xs, a, c, e, h2, h3, h4⟩, h5⟩ := h
  exact ⟨h1.ext hx, ⟨xs, a, c, e, h2.ext hx, h3.ext hx, h4.ext hx⟩, h5⟩
theorem QAt.but (h : QAt w0 w b U p) (k : Loc [] w0 w X t cs) (hb : But X w w') (ht : t ≠ 92 ∧ t ≠ 9 ∧ t ≠ 57) : QAt w0 w' b U p := by
  obtain ⟨h1, ⟨xs, a, c, e, h2, h3, h4⟩, h5⟩ := h
  exact ⟨h1.put k hb, ⟨xs, a, c, e, h2.but hb (h2.blk.ne_ k.blk ht.1.symm), h3.but hb k.blk ht.2.2.symm, h4.but hb k.blk ht.2.1.symm⟩, h5⟩
theorem QAt.loc (h : QAt w0 w b U p) (k : Loc [] w0 w X t cs) (hF : UFr b b w w') (ht : t ≠ 92 ∧ t ≠ 57) : Loc [] w0 w' X t cs := by
  obtain ⟨h1, ⟨xs, a, c, e, h2, h3, h4⟩, h5⟩ := h
  exact ⟨k.blk.ufr hF (k.blk.ne_ h2.blk ht.1) (k.blk.ne_ h2.blk ht.1) ht.2, k.may⟩
theorem PR.qf {v : Value} {xs : List ByteArray} (h : PR w0 w v xs) (hu : QAt w0 w b U p) (hF : UFr b b w w') : PR w0 w' v xs := by
  rcases h with h | h
  · exact .inl h
  · obtain ⟨h1, ⟨ys, a, c, e, h2, h3, h4⟩, h5⟩ := hu
    refine PR.ufr (.inr h) hF fun x hx => ⟨fun e => h.ne h2.blk (of_decide_eq_true rfl) (e ▸ hx), fun e => h.ne h2.blk (of_decide_eq_true rfl) (e ▸ hx)⟩
def QUPost (w0 : World) (b : Nat) (U : List PS) (p : Int × Int) (w : World) (e : Ending) (w' : World) : Prop := e = .returned (.tuple #[]) ∧ QAt w0 w' b U p ∧ UFr b b w w'
theorem qupost {V : List PS} (hu : QAt w0 w' b U p) (e : U = V) (hF : UFr b b w w') : QUPost w0 b V p w (.returned (.tuple #[])) w' := by subst e; exact ⟨rfl, hu, hF⟩
end
theorem OwnR.growQ {α β : Type} {w0 w1 w w' : World} {k k2 : Nat} {f : α → List Value} {f2 : β → List Value} {v v2 v' : Value} {xs : List α} {ys zs : List β} (h : OwnR w0 w 9 k f v xs) (r : OwnR w1 w 57 k2 f2 v2 ys) (hA : AppPost w w' 57 k2 f2 v2 v' zs) : OwnR w0 w' 9 k f v xs := ⟨h.row.grow r.row hA (of_decide_eq_true rfl), h.new⟩
set_option maxHeartbeats 4000000 in
set_option maxRecDepth 100000 in
theorem quclass_any {w0 w : World} {b : Nat} {U : List PS} {p : Int × Int} (hu : QAt w0 w b U p) (kind : Int) (name : ByteArray) {a' : Option Addr} {n' c' : Nat} {perms : List ByteArray} (hpe : PR w0 w (.slice a' n' c') perms) (hw : wtU U + (1 + perms.length) ≤ 1900000000000) :
    Calls Try.prog 56 #[.pointer (some ⟨b, 0, none⟩), .int .i64 kind, .string name, .slice a' n' c'] w (QUPost w0 b (addU U ⟨p, kind, name, perms⟩) p w) := by
  have hfp : few perms.length := by unfold few; omega
  by_cases hz : name = ⟨#[]⟩
  · have g1 := isz hz
    have HZ := Lib.hid hz
    have HA : addU U ⟨p, kind, name, perms⟩ = U := if_pos (.inl hz)
    rw [HA]
    clear hz HA
    have E := hu.only
    go_enter Try.func56, Try.ntmps56
    go_upto_region 9999 with (first | fail)
    refine bodyPost_ret (v := .tuple #[]) (by simp [results, Try.f56, go_sem]) rfl ⟨rfl, hu, UFr.refl⟩
  have g1 := isz_no hz
  by_cases ho : isObj kind name = true
  · have HA : addU U ⟨p, kind, name, perms⟩ = U := if_pos (.inr ho)
    rw [HA]
    have hok : kind = 4 ∧ (name.toList == objT) = true := by unfold isObj at ho; simpa using ho
    obtain ⟨hk4, g2⟩ := hok
    subst hk4
    unfold objT at g2
    clear hz HA ho
    have E := hu.only
    go_enter Try.func56, Try.ntmps56
    go_upto_region 9999 with (first | fail)
    refine bodyPost_ret (v := .tuple #[]) (by simp [results, Try.f56, go_sem]) rfl ⟨rfl, hu, UFr.refl⟩
  have ho' : isObj kind name = false := by simpa using ho
  have hA : addU U ⟨p, kind, name, perms⟩ = match idxP (kind, name) U with
    | some i => U.modify i (·.add perms)
    | none => U ++ [⟨kind, name, false, dedupN perms, p.1, p.2⟩] := if_neg (by rintro (h | h); exact hz h; exact ho h)
  have hk4 : (kind ≠ 4 ∧ (kind == 4) = false ∧ (kind != 4) = true) ∨ ((kind == 4) = true ∧ (kind != 4) = false ∧ (name.toList == [111, 98, 106, 101, 99, 116, 95, 114]) = false) := by
    by_cases h4 : kind = 4
    · right
      unfold isObj objT at ho'
      obtain ⟨g2, g3⟩ := kd_t h4
      exact ⟨g2, g3, by rw [g2, Bool.true_and] at ho'; exact ho'⟩
    · left
      obtain ⟨g2, g3⟩ := kd_f h4
      exact ⟨h4, g2, g3⟩
  have HNR := Lib.hid (hu.nr.add ⟨p, kind, name, perms⟩)
  have hfi := find_idx (k := kind) (n := name) hu.nr
  clear hz ho ho'
  obtain ⟨E, ⟨xs, sa, sc, hU, hB, hr, hP⟩, hnr⟩ := hu
  have FR : UFr b b w w := UFr.refl
  have HU := Lib.hid hU
  have hxl : xs.length ≤ 1900000000000 := by
    have h1 := wtU_len U
    have h2 : U.length = xs.length := by rw [← hU, List.length_map]
    omega
  clear hU hnr
  go_enter Try.func56, Try.ntmps56
  have cB := hB.cell
  have fB := hB.free
  rcases hi : idxP (kind, name) U with _ | i
  · rw [hi] at hA hfi
    have HA := Lib.hid hA
    have hF : fOut (findI kind name false (xs.map Sy.ps)) = -1 := by rw [HU.out, hfi]; rfl
    have HF := Lib.hid hF
    clear hA hi hfi hF
    rcases hk4 with ⟨-, g2, g3⟩ | ⟨g2, g3, g4⟩
    all_goals
      go_upto_region 9999 with (first | ((with_reducible refine at_dst 25 ?_); go_simp; (have hc := qfind_any hr.rsy kind name false); ((with_reducible refine hc.mono ?_)); clear hc; unfold IPost; rw [HF.out]; rintro e wn ⟨rfl, hx⟩; (try replace E := E.ext hx); (try replace hB := hB.ext hx); (try replace hr := hr.ext hx); (try replace hP := hP.ext hx); (try replace hpe := hpe.ext hx); (try replace FR := FR.ext hx); (try replace hr60 := hr60.ext hx); (try replace r53 := r53.ext hx); (try replace r42 := r42.ext hx); (try (clear hcE hfE)); (try (have hcf := bcell E.low; obtain ⟨hcE, hfE⟩ := hcf)); (try (clear cB fB)); (try (have cB := (hB).cell; have fB := (hB).free)); (try (clear k3)); (try (have k3 := (hr).at3 HY.out))) | ((with_reducible refine at_dst 53 ?_); go_simp; (have hc := qjoined_any (Reads.nil0 _) (hpe.reads E) (few_of (Nat.zero_le _)) hfp); ((refine hc.mono ?_)); clear hc; unfold SPost; rintro e wn ⟨da, dc, rfl, r53, hx⟩; replace r53 := r53.old E; (try replace E := E.ext hx); (try replace hB := hB.ext hx); (try replace hr := hr.ext hx); (try replace hP := hP.ext hx); (try replace hpe := hpe.ext hx); (try replace FR := FR.ext hx); (try replace hr60 := hr60.ext hx); (try replace r53 := r53.ext hx); (try replace r42 := r42.ext hx); (try (clear hcE hfE)); (try (have hcf := bcell E.low; obtain ⟨hcE, hfE⟩ := hcf)); (try (clear cB fB)); (try (have cB := (hB).cell; have fB := (hB).free)); (try (clear k3)); (try (have k3 := (hr).at3 HY.out))) | ((with_reducible refine at_dst 59 ?_); go_simp; (generalize hX59 : Array.size (World.heap _) = X59); refine new_block hX59 ?_; intro wn bb hx; (try (have z59 := Nat.le_trans E.size (Nat.le_of_eq hX59))); (try (have mhB_59 := hB.notin (Nat.le_of_eq hX59))); (try (have mhr_59 := hr.notin (Nat.le_of_eq hX59))); (try (have mhP_59 := hP.notin (Nat.le_of_eq hX59))); (try (have mhpe_59 := hpe.notin (Nat.le_of_eq hX59))); (try (have mFR_59 := FR.notin (Nat.le_of_eq hX59))); (try (have mhr60_59 := hr60.notin (Nat.le_of_eq hX59))); (try (have mr53_59 := r53.notin (Nat.le_of_eq hX59))); (try (have mr42_59 := r42.notin (Nat.le_of_eq hX59))); have b59 := bb; have g59 := Loc.new bb E hX59; clear bb hX59; (try replace E := E.ext hx); (try replace hB := hB.ext hx); (try replace hr := hr.ext hx); (try replace hP := hP.ext hx); (try replace hpe := hpe.ext hx); (try replace FR := FR.ext hx); (try replace hr60 := hr60.ext hx); (try replace r53 := r53.ext hx); (try replace r42 := r42.ext hx); (try (clear hcE hfE)); (try (have hcf := bcell E.low; obtain ⟨hcE, hfE⟩ := hcf)); (try (clear cB fB)); (try (have cB := (hB).cell; have fB := (hB).free)); (try (clear k3)); (try (have k3 := (hr).at3 HY.out))) | ((with_reducible refine at_dst 60 ?_); refine wp_own (.tmp 49) (.tmp 59) rfl info_sy und_sys rfl (by decide) syC_len syC_ones hr E (RRow.blk (xs := [(⟨kind, name, false, ⟨da, dc⟩, joinN [] perms, p.1, p.2⟩ : Sy)]) syC_len b59 rfl (show 1 ≤ maxLen by decide)) rfl rfl ?_ ?_ ?_; (· (simp only [List.length_cons, List.length_nil]; (try unfold maxLen); omega)); (· (simp only [List.length_cons, List.length_nil]; (try unfold maxLen); omega)); intro L60 hL60 s60 v60 wn hr60 E2 hA; replace hL60 := Lib.hid hL60; (try replace hB := hB.grow hr hA (of_decide_eq_true rfl)); (try replace hP := hP.grow hr hA (of_decide_eq_true rfl)); (try replace hpe := hpe.grow hr hA (of_decide_eq_true rfl)); (try replace FR := FR.grow hr hA (of_decide_eq_true rfl)); (try replace r53 := r53.grow hr hA (of_decide_eq_true rfl)); (try replace r42 := r42.grow hr hA (of_decide_eq_true rfl)); clear E; have E := E2; clear E2; replace hP := hP.grow hr hA; replace FR := FR.grow hr hA; replace r53 := OwnR.growQ r53 hr hA; obtain ⟨o60, k60, rfl, l60, m60⟩ := ORow.len hr60.row; (try (clear hcE hfE)); (try (have hcf := bcell E.low; obtain ⟨hcE, hfE⟩ := hcf)); (try (clear cB fB)); (try (have cB := (hB).cell; have fB := (hB).free)); (try (clear k3)); (try (have k3 := (hr).at3 HY.out)); (try simp only [Act.put, actL])) | ((with_reducible refine at_store 62 ?_); (refine wp_put hB rfl rfl ?_ ?_ ?_ ?_; (· kernel_rfl); (· first | rfl | kernel_rfl); (· first | decide | exact Nat.le_refl _ | simp [Act.eval, Value.cells] | (simp [Act.eval, Act.put, Value.cells]; done)); intro wn bn hb; have E2 := E.put hB hb; (first | (replace hr := hr.but hb hB.blk (of_decide_eq_true rfl)) | (replace hr := hr.butB hb hB.blk) | (replace hr := hr.butb hb) | skip); (first | (replace hP := hP.but hb hB.blk (of_decide_eq_true rfl)) | (replace hP := hP.butB hb hB.blk) | (replace hP := hP.butb hb) | skip); (first | (replace hpe := hpe.but hb hB.blk (of_decide_eq_true rfl)) | (replace hpe := hpe.butB hb hB.blk) | (replace hpe := hpe.butb hb) | skip); (first | (replace FR := FR.but hb hB.blk (of_decide_eq_true rfl)) | (replace FR := FR.butB hb hB.blk) | (replace FR := FR.butb hb) | skip); (first | (replace hr60 := hr60.but hb hB.blk (of_decide_eq_true rfl)) | (replace hr60 := hr60.butB hb hB.blk) | (replace hr60 := hr60.butb hb) | skip); (first | (replace r53 := r53.but hb hB.blk (of_decide_eq_true rfl)) | (replace r53 := r53.butB hb hB.blk) | (replace r53 := r53.butb hb) | skip); (first | (replace r42 := r42.but hb hB.blk (of_decide_eq_true rfl)) | (replace r42 := r42.butB hb hB.blk) | (replace r42 := r42.butb hb) | skip); clear E hB; have E := E2; clear E2; have hB := bn; clear bn hb; dsimp only [Act.put]; simp only [putA, Act.eval, Value.cells, Nat.reduceAdd, putL, sizL] at hB; (try (clear hcE hfE)); (try (have hcf := bcell E.low; obtain ⟨hcE, hfE⟩ := hcf)); (try (clear cB fB)); (try (have cB := (hB).cell; have fB := (hB).free)); (try (clear k3)); (try (have k3 := (hr).at3 HY.out)))) | ((with_reducible refine at_tag 0 ?_); (first | ((with_reducible refine wpTag_q ?_ ?_ ?_); rfl; rfl; intro _ _) | ((with_reducible refine wpTag_w ?_ ?_ ?_); rfl; rfl; intro _ _) | ((with_reducible refine wpTag_no ?_ ?_); (· first | rfl | (go_simp; done))) | ((with_reducible refine wpTag_s ?_ ?_); rfl; intro _ _; go_simp))) | ((with_reducible refine at_tag 2 ?_); (first | ((with_reducible refine wpTag_no ?_ ?_); (· first | rfl | (go_simp; done))) | (apply wpTag_2; (· rfl); (· first | rfl | go_simp); (· intro wq hq; (try (clear cB fB)); (try (have cB := ((hB.kt hq (of_decide_eq_true rfl))).cell; have fB := ((hB.kt hq (of_decide_eq_true rfl))).free)); (try (clear k3)); (try (have k3 := ((hr.kt hq (of_decide_eq_true rfl))).at3 HY.out)); go_simp <;> rfl); (try simp only [Act.put, actL])))) | ((with_reducible refine at_tag 3 ?_); (first | ((with_reducible refine wpTag_no ?_ ?_); (· first | rfl | (go_simp; done))) | ((refine wpTag_3 ?_ ?_ (fun K2 hK2 => ?_)); (· rfl); (· first | rfl | go_simp)))) | ((with_reducible refine at_andk ?_ ?_); (· first | exact hk | exact KT.of_ext hx | exact KT.refl _)) | ((with_reducible refine at_tagn ?_); (with_reducible refine wpTag_nil ?_)) | ((with_reducible refine at_reg 4 ?_); (refine wp_region_kt (id := 4) [0, 0, 0, 2, 2, 0, 0, 0, 0, 0, 2, 2, 3, 0, 3, 0, 0, 0, 0] [0, 1, 2, 3, 4, 5, 6, 7, 9, 10, 11, 12, 8, 13, 14, 15, 16, 17, 18] mixed ?_ ?_); (· decide +kernel); intro K hK wn hx; (try replace E := E.ext hx); (try replace hB := hB.ext hx); (try replace hr := hr.ext hx); (try replace hP := hP.ext hx); (try replace hpe := hpe.ext hx); (try replace FR := FR.ext hx); (try replace hr60 := hr60.ext hx); (try replace r53 := r53.ext hx); (try replace r42 := r42.ext hx); (try (clear hcE hfE)); (try (have hcf := bcell E.low; obtain ⟨hcE, hfE⟩ := hcf)); (try (clear cB fB)); (try (have cB := (hB).cell; have fB := (hB).free)); (try (clear k3)); (try (have k3 := (hr).at3 HY.out)); dsimp only [pickL, List.getElem?_cons_succ, List.getElem?_cons_zero]) | ((with_reducible refine at_tag 0 ?_); (first | ((with_reducible refine wpTag_q ?_ ?_ ?_); rfl; rfl; intro _ _) | ((with_reducible refine wpTag_w ?_ ?_ ?_); rfl; rfl; intro _ _) | ((with_reducible refine wpTag_no ?_ ?_); (· first | rfl | (go_simp; done))) | ((with_reducible refine wpTag_s ?_ ?_); rfl; intro _ _; go_simp))) | ((with_reducible refine at_tag 2 ?_); (first | ((with_reducible refine wpTag_no ?_ ?_); (· first | rfl | (go_simp; done))) | (apply wpTag_2; (· rfl); (· first | rfl | go_simp); (· intro wq hq; (try (clear cB fB)); (try (have cB := ((hB.kt hq (of_decide_eq_true rfl))).cell; have fB := ((hB.kt hq (of_decide_eq_true rfl))).free)); (try (clear k3)); (try (have k3 := ((hr.kt hq (of_decide_eq_true rfl))).at3 HY.out)); go_simp <;> rfl); (try simp only [Act.put, actL])))) | ((with_reducible refine at_tag 3 ?_); (first | ((with_reducible refine wpTag_no ?_ ?_); (· first | rfl | (go_simp; done))) | ((refine wpTag_3 ?_ ?_ (fun K2 hK2 => ?_)); (· rfl); (· first | rfl | go_simp)))) | ((with_reducible refine at_andk ?_ ?_); (· first | exact hk | exact KT.of_ext hx | exact KT.refl _)) | ((with_reducible refine at_tagn ?_); (with_reducible refine wpTag_nil ?_)))
      have hlen : L60.length = xs.length + 1 := by rw [← hL60.out]; simp
      refine bodyPost_ret (v := .tuple #[]) (by simp [results, Try.f56, go_sem]) rfl ⟨rfl, ⟨E, ⟨L60, _, _, ?_, hB, hr60, ?_⟩, HNR.out⟩, FR⟩
      · rw [← hL60.out, List.map_append, HU.out, HA.out]; rfl
      · rw [← hL60.out]
        intro x hx
        rcases List.mem_append.1 hx with hx | hx
        · exact hP x hx
        · rw [List.mem_singleton.1 hx]; exact r53.row
  · rw [hi] at hA hfi
    have HA := Lib.hid hA
    have HI := Lib.hid hi
    have hF : fOut (findI kind name false (xs.map Sy.ps)) = (i : Int) := by rw [HU.out, hfi]; rfl
    have HF := Lib.hid hF
    clear hA hi hfi hF
    obtain ⟨px, hpx, hkx⟩ := idx_some HI.out
    have hl : ∃ old, xs[i]? = some old ∧ old.ps = px := by
      rw [← HU.out, List.getElem?_map] at hpx
      cases h : xs[i]? with
      | none => rw [h] at hpx; cases hpx
      | some old => rw [h] at hpx; injection hpx with hpx; exact ⟨old, rfl, hpx⟩
    obtain ⟨old, hy, hps⟩ := hl
    have HY := Lib.hid hy
    have HPS := Lib.hid hps
    have HPX := Lib.hid hpx
    obtain ⟨g, rfl⟩ := hr.own_at hy
    have hfo : few old.perms.length := by
      have := wtU_mem (List.mem_of_getElem? hpx)
      rw [← hps] at this
      unfold few; dsimp only [Sy.ps] at this; omega
    have k3 := hr.at3 hy
    have hix : i < xs.length := (List.getElem?_eq_some_iff.1 hy).1
    clear hy hps hpx hkx
    rcases hk4 with ⟨-, g2, g3⟩ | ⟨g2, g3, g4⟩
    all_goals
      go_upto_region 9999 with (first | ((with_reducible refine at_dst 25 ?_); go_simp; (have hc := qfind_any hr.rsy kind name false); ((with_reducible refine hc.mono ?_)); clear hc; unfold IPost; rw [HF.out]; rintro e wn ⟨rfl, hx⟩; (try replace E := E.ext hx); (try replace hB := hB.ext hx); (try replace hr := hr.ext hx); (try replace hP := hP.ext hx); (try replace hpe := hpe.ext hx); (try replace FR := FR.ext hx); (try replace hr60 := hr60.ext hx); (try replace r53 := r53.ext hx); (try replace r42 := r42.ext hx); (try (clear hcE hfE)); (try (have hcf := bcell E.low; obtain ⟨hcE, hfE⟩ := hcf)); (try (clear cB fB)); (try (have cB := (hB).cell; have fB := (hB).free)); (try (clear k3)); (try (have k3 := (hr).at3 HY.out))) | ((with_reducible refine at_dst 42 ?_); go_simp; (have hc := qjoined_any (perm_reads hP HY.out) (hpe.reads E) hfo hfp); ((refine hc.mono ?_)); clear hc; unfold SPost; rintro e wn ⟨da, dc, rfl, r42, hx⟩; replace r42 := r42.old E; (try replace E := E.ext hx); (try replace hB := hB.ext hx); (try replace hr := hr.ext hx); (try replace hP := hP.ext hx); (try replace hpe := hpe.ext hx); (try replace FR := FR.ext hx); (try replace hr60 := hr60.ext hx); (try replace r53 := r53.ext hx); (try replace r42 := r42.ext hx); (try (clear hcE hfE)); (try (have hcf := bcell E.low; obtain ⟨hcE, hfE⟩ := hcf)); (try (clear cB fB)); (try (have cB := (hB).cell; have fB := (hB).free)); (try (clear k3)); (try (have k3 := (hr).at3 HY.out))) | ((with_reducible refine at_store 44 ?_); (refine wp_put_part (off := 3) (⟨old.kind, old.name, old.req, ⟨da, dc⟩, joinN old.perms perms, old.line, old.col⟩ : Sy) hr syC_len HY.out rfl rfl rfl ?_ ?_ ?_ ?_); (· kernel_rfl); (· first | rfl | kernel_rfl); (· first | decide | simp [Act.eval, Value.cells]); intro wn rn hb; have rp := r42.row.put hr hb; replace hP := hP.put hr hb; replace FR := FR.put hr hb; have hB2 := hB.but hb (hr.ne hB.blk (of_decide_eq_true rfl)); have E2 := hr.put E hb; clear E hB; have E := E2; have hB := hB2; clear E2 hB2 hr; dsimp only [Act.put]; (try (clear hcE hfE)); (try (have hcf := bcell E.low; obtain ⟨hcE, hfE⟩ := hcf)); (try (clear cB fB)); (try (have cB := (hB).cell; have fB := (hB).free)); (try (clear k3)); (try (have k3 := (hr).at3 HY.out))) | ((with_reducible refine at_reg 3 ?_); (refine wp_region_kt (id := 3) [0, 0, 2, 2, 0, 0, 0, 0, 0, 0, 0, 0, 0, 0, 3, 0, 0, 0] [0, 1, 2, 3, 4, 5, 6, 7, 8, 9, 10, 11, 12, 13, 14, 15, 16, 17] mixed ?_ ?_); (· decide +kernel); intro K hK wn hx; (try replace E := E.ext hx); (try replace hB := hB.ext hx); (try replace hr := hr.ext hx); (try replace hP := hP.ext hx); (try replace hpe := hpe.ext hx); (try replace FR := FR.ext hx); (try replace hr60 := hr60.ext hx); (try replace r53 := r53.ext hx); (try replace r42 := r42.ext hx); (try (clear hcE hfE)); (try (have hcf := bcell E.low; obtain ⟨hcE, hfE⟩ := hcf)); (try (clear cB fB)); (try (have cB := (hB).cell; have fB := (hB).free)); (try (clear k3)); (try (have k3 := (hr).at3 HY.out)); dsimp only [pickL, List.getElem?_cons_succ, List.getElem?_cons_zero]) | ((with_reducible refine at_tag 0 ?_); (first | ((with_reducible refine wpTag_q ?_ ?_ ?_); rfl; rfl; intro _ _) | ((with_reducible refine wpTag_w ?_ ?_ ?_); rfl; rfl; intro _ _) | ((with_reducible refine wpTag_no ?_ ?_); (· first | rfl | (go_simp; done))) | ((with_reducible refine wpTag_s ?_ ?_); rfl; intro _ _; go_simp))) | ((with_reducible refine at_tag 2 ?_); (first | ((with_reducible refine wpTag_no ?_ ?_); (· first | rfl | (go_simp; done))) | (apply wpTag_2; (· rfl); (· first | rfl | go_simp); (· intro wq hq; (try (clear cB fB)); (try (have cB := ((hB.kt hq (of_decide_eq_true rfl))).cell; have fB := ((hB.kt hq (of_decide_eq_true rfl))).free)); (try (clear k3)); (try (have k3 := ((hr.kt hq (of_decide_eq_true rfl))).at3 HY.out)); go_simp <;> rfl); (try simp only [Act.put, actL])))) | ((with_reducible refine at_tag 3 ?_); (first | ((with_reducible refine wpTag_no ?_ ?_); (· first | rfl | (go_simp; done))) | ((refine wpTag_3 ?_ ?_ (fun K2 hK2 => ?_)); (· rfl); (· first | rfl | go_simp)))) | ((with_reducible refine at_andk ?_ ?_); (· first | exact hk | exact KT.of_ext hx | exact KT.refl _)) | ((with_reducible refine at_tagn ?_); (with_reducible refine wpTag_nil ?_)) | ((with_reducible refine at_tag 0 ?_); (first | ((with_reducible refine wpTag_q ?_ ?_ ?_); rfl; rfl; intro _ _) | ((with_reducible refine wpTag_w ?_ ?_ ?_); rfl; rfl; intro _ _) | ((with_reducible refine wpTag_no ?_ ?_); (· first | rfl | (go_simp; done))) | ((with_reducible refine wpTag_s ?_ ?_); rfl; intro _ _; go_simp))) | ((with_reducible refine at_tag 2 ?_); (first | ((with_reducible refine wpTag_no ?_ ?_); (· first | rfl | (go_simp; done))) | (apply wpTag_2; (· rfl); (· first | rfl | go_simp); (· intro wq hq; (try (clear cB fB)); (try (have cB := ((hB.kt hq (of_decide_eq_true rfl))).cell; have fB := ((hB.kt hq (of_decide_eq_true rfl))).free)); (try (clear k3)); (try (have k3 := ((hr.kt hq (of_decide_eq_true rfl))).at3 HY.out)); go_simp <;> rfl); (try simp only [Act.put, actL])))) | ((with_reducible refine at_tag 3 ?_); (first | ((with_reducible refine wpTag_no ?_ ?_); (· first | rfl | (go_simp; done))) | ((refine wpTag_3 ?_ ?_ (fun K2 hK2 => ?_)); (· rfl); (· first | rfl | go_simp)))) | ((with_reducible refine at_andk ?_ ?_); (· first | exact hk | exact KT.of_ext hx | exact KT.refl _)) | ((with_reducible refine at_tagn ?_); (with_reducible refine wpTag_nil ?_)))
      refine bodyPost_ret (v := .tuple #[]) (by simp [results, Try.f56, go_sem]) rfl ⟨rfl, ⟨E, ⟨xs.set i ⟨old.kind, old.name, old.req, ⟨da, dc⟩, joinN old.perms perms, old.line, old.col⟩, some ⟨g, 0, none⟩, sc, ?_, ?_, ?_, ?_⟩, HNR.out⟩, FR⟩
      · rw [HA.out, mod_set _ HPX.out, List.map_set, HU.out, ← HPS.out]
        rfl
      · rw [List.length_set]; exact hB
      · rw [List.length_set]; exact rn
      · intro x hx
        rcases List.mem_or_eq_of_mem_set hx with hx | rfl
        · exact hP x hx
        · exact rp
end Go.Proofs.Ytnifgkgdphlleaa
set_option linter.unusedSimpArgs false
set_option linter.unusedVariables false
namespace Go.Proofs.Ytnifgkgdphlleaa
open Go.RowKit Tk
theorem PR.blk1 {w0 w : World} {X : Nat} {s : ByteArray} (b : Blk w X 9 #[.string s]) : PR w0 w (.slice (some ⟨X, 0, none⟩) 1 1) [s] := .inr (ORow.blk (xs := [s]) strC_l b rfl (show 1 ≤ maxLen by decide))
theorem PR.blk2 {w0 w : World} {X : Nat} {s t : ByteArray} (b : Blk w X 9 #[.string s, .string t]) : PR w0 w (.slice (some ⟨X, 0, none⟩) 2 2) [s, t] := .inr (ORow.blk (xs := [s, t]) strC_l b rfl (show 2 ≤ maxLen by decide))
set_option maxHeartbeats 1000000 in
set_option maxRecDepth 100000 in
theorem quadd_any {w0 w : World} {b : Nat} {U : List PS} {p : Int × Int} (hu : QAt w0 w b U p) (kind : Int) {a : Option Addr} {n c : Nat} {names : List ByteArray} (hn : PR w0 w (.slice a n c) names) (hw : wtU U + wtE (evList p kind names) ≤ 1900000000000) :
    Calls Try.prog 47 #[.pointer (some ⟨b, 0, none⟩), .int .i64 kind, .slice a n c] w (QUPost w0 b (adds U (evList p kind names)) p w) := by
  obtain ⟨rfl, n2⟩ := (hn.reads hu.only).lens
  go_enter Try.func47, Try.ntmps47
  have E := hu.only
  have FR : UFr b b w w := UFr.refl
  go_upto_region 1 with (first | fail)
  go_loopw [6] (fun i wr => ∃ j : Nat, i = .int .i64 j ∧ j ≤ names.length ∧ QAt w0 wr b (adds U ((evList p kind names).take j)) p ∧ UFr b b w wr ∧ PR w0 wr (.slice a names.length c) names) (fun i _ => names.length - (intOf i).toNat)
  case atStart => exact ⟨0, rfl, Nat.zero_le _, hu, FR, hn⟩
  case round =>
    clear hu FR E hn
    obtain ⟨j, rfl, hj, hu, FR, hn⟩ := hrel
    have E := hu.only
    obtain ⟨hcE, hfE⟩ := bcell E.low
    by_cases hlt : j < names.length
    · obtain ⟨g, o, rfl, hg, k0⟩ := (hn.reads E).cells hlt
      go_upto_region 9999 with (first | ((with_reducible refine at_dst 19 ?_); go_simp; ((with_reducible refine (quclass_any hu kind names[j] (PR.nil w0 _) (wt_at (evList_at hlt) hw)).mono ?_)); unfold QUPost; rintro e wn ⟨rfl, hu2, hF⟩; (try replace hn := hn.qf hu hF); replace FR := FR.trans hF; clear hu E hF; have hu := hu2; clear hu2; have E := hu.only; (try (clear hcE hfE)); (try (have hcf := bcell E.low; obtain ⟨hcE, hfE⟩ := hcf))))
      go_roundw
      case rel => exact ⟨j + 1, by go_num, by omega, adds_at (U := U) (evList_at hlt) ▸ hu, FR, hn⟩
      case measure => simp [intOf]; omega
    · go_upto_region 9999 with (first | fail)
      refine bodyPost_ret (v := .tuple #[]) (by simp [results, Try.f47, go_sem]) rfl (qupost hu (adds_all (by rw [evList_len]; omega)) FR)
set_option maxHeartbeats 1000000 in
set_option maxRecDepth 100000 in
theorem quset_any {w0 w : World} {b : Nat} {U : List PS} {p : Int × Int} (hu : QAt w0 w b U p) (kind : Int) {n : NSet} (hn : n.ok w0) (hw : wtU U + wtE (evSet p kind n) ≤ 1900000000000) :
    Calls Try.prog 48 #[.pointer (some ⟨b, 0, none⟩), .int .i64 kind, .agg (nsC n).toArray] w (QUPost w0 b (adds U (evSet p kind n)) p w) := by
  go_enter Try.func48, Try.ntmps48
  have E := hu.only
  have FR : UFr b b w w := UFr.refl
  go_upto_region 9999 with (first | ((with_reducible refine at_dst 5 ?_); go_simp; (generalize hX5 : Array.size (World.heap _) = X5); refine new_block hX5 ?_; intro wn bb hx; (try (have z5 := Nat.le_trans E.size (Nat.le_of_eq hX5))); (try (have mhu_5 := hu.notin (Nat.le_of_eq hX5))); (try (have mFR_5 := FR.notin (Nat.le_of_eq hX5))); have b5 := Loc.new bb E hX5; clear bb hX5; (try replace E := E.ext hx); (try replace hu := hu.ext hx); (try replace FR := FR.ext hx); (try (clear hcE hfE)); (try (have hcf := bcell E.low; obtain ⟨hcE, hfE⟩ := hcf)); (try (clear c5 f5)); (try (have c5 := b5.cell; have f5 := b5.free))) | ((with_reducible refine at_dst 10 ?_); go_simp; ((with_reducible refine (quadd_any hu kind (PR.in hn.n) (by unfold evSet at hw; rw [wtE_app] at hw; omega)).mono ?_)); unfold QUPost; rintro e wn ⟨rfl, hu2, hF⟩; (try replace b5 := hu.loc b5 hF (of_decide_eq_true rfl)); replace FR := FR.trans hF; clear hu E hF; have hu := hu2; clear hu2; have E := hu.only; (try (clear hcE hfE)); (try (have hcf := bcell E.low; obtain ⟨hcE, hfE⟩ := hcf)); (try (clear c5 f5)); (try (have c5 := b5.cell; have f5 := b5.free))) | ((with_reducible refine at_dst 15 ?_); go_simp; ((with_reducible refine (quadd_any hu kind (PR.in hn.e) (wt_adds (by unfold evSet at hw; rw [wtE_app] at hw; exact hw))).mono ?_)); unfold QUPost; rintro e wn ⟨rfl, hu2, hF⟩; (try replace b5 := hu.loc b5 hF (of_decide_eq_true rfl)); replace FR := FR.trans hF; clear hu E hF; have hu := hu2; clear hu2; have E := hu.only; (try (clear hcE hfE)); (try (have hcf := bcell E.low; obtain ⟨hcE, hfE⟩ := hcf)); (try (clear c5 f5)); (try (have c5 := b5.cell; have f5 := b5.free))))
  refine bodyPost_ret (v := .tuple #[]) (by simp [results, Try.f48, go_sem]) rfl (qupost hu (adds_app _ _ _).symm FR)
theorem addU_join (U : List PS) (p : Int × Int) (k : Int) (x : ByteArray) (a b : List ByteArray) : addU U ⟨p, k, x, joinN a b⟩ = addU U ⟨p, k, x, a ++ b⟩ := by
  have e : ∀ y : PS, y.add (joinN a b) = y.add (a ++ b) := fun y => by unfold PS.add; rw [join_join]
  have e2 : dedupN (joinN a b) = dedupN (a ++ b) := join_join [] a b
  unfold addU
  simp only [e, e2]
theorem adds_join (p : Int × Int) (a b : List ByteArray) : ∀ (l : List ByteArray) (U : List PS), adds U (l.map fun x => (⟨p, 1, x, joinN a b⟩ : Ev)) = adds U (l.map fun x => (⟨p, 1, x, a ++ b⟩ : Ev))
  | [], _ => rfl
  | x :: l, U => by
    rw [List.map_cons, List.map_cons, adds_cons, adds_cons, addU_join, adds_join p a b l]
theorem wtE_join (p : Int × Int) (a b : List ByteArray) (l : List ByteArray) : wtE (l.map fun x => (⟨p, 1, x, joinN a b⟩ : Ev)) ≤ wtE (l.map fun x => (⟨p, 1, x, a ++ b⟩ : Ev)) := by
  have h := joinN_len a b
  induction l with
  | nil => exact Nat.le_refl _
  | cons x l ih =>
    rw [List.map_cons, List.map_cons, wtE_cons, wtE_cons, List.length_append]
    dsimp only; omega
set_option maxHeartbeats 2000000 in
set_option maxRecDepth 100000 in
theorem quclasses_any {w0 w : World} {b : Nat} {U : List PS} {p : Int × Int} (hu : QAt w0 w b U p) {n q : NSet} (hn : n.ok w0) (hq : q.ok w0) (hf : q.names.length + q.except.length ≤ 4000000000000) (hw : wtU U + wtE (evCls p n q) ≤ 1900000000000) :
    Calls Try.prog 57 #[.pointer (some ⟨b, 0, none⟩), .agg (nsC n).toArray, .agg (nsC q).toArray] w (QUPost w0 b (adds U (evCls p n q)) p w) := by
  have hf1 : q.names.length ≤ 4000000000000 := by omega
  have hf2 : q.except.length ≤ 4000000000000 := by omega
  have n2 := (Reads.lens hn.n).2
  obtain ⟨J, hJ⟩ : ∃ J, joinN q.names q.except = J := ⟨_, rfl⟩
  have hw2 : wtU U + wtE (n.names.map fun x => (⟨p, 1, x, J⟩ : Ev)) ≤ 1900000000000 := by
    have := wtE_join p q.names q.except n.names
    have := wt_cls hw
    rw [← hJ]; omega
  have hw3 : wtU U + (wtE (n.names.map fun x => (⟨p, 1, x, J⟩ : Ev)) + wtE (evList p 1 n.except)) ≤ 1900000000000 := by
    have := wtE_join p q.names q.except n.names
    unfold evCls at hw
    rw [wtE_app] at hw
    rw [← hJ]; omega
  have HJ := Lib.hid hJ
  clear hJ
  go_enter Try.func57, Try.ntmps57
  have E := hu.only
  have FR : UFr b b w w := UFr.refl
  go_upto_region 2 with (first | ((with_reducible refine at_dst 4 ?_); go_simp; (generalize hX4 : Array.size (World.heap _) = X4); refine new_block hX4 ?_; intro wn bb hx; (try (have n5_4 := (b5.ne hX4).1; have n4_5 := (b5.ne hX4).2)); (try (have z4 := Nat.le_trans E.size (Nat.le_of_eq hX4))); (try (have mhu_4 := hu.notin (Nat.le_of_eq hX4))); (try (have mFR_4 := FR.notin (Nat.le_of_eq hX4))); (try (have mhall_4 := hall.notin (Nat.le_of_eq hX4))); have b4 := Loc.new bb E hX4; clear bb hX4; (try replace E := E.ext hx); (try replace b5 := b5.ext hx); (try replace hu := hu.ext hx); (try replace FR := FR.ext hx); (try replace hall := hall.ext hx); (try (clear hcE hfE)); (try (have hcf := bcell E.low; obtain ⟨hcE, hfE⟩ := hcf)); (try (clear c4 f4)); (try (have c4 := b4.cell; have f4 := b4.free)); (try (clear c5 f5)); (try (have c5 := b5.cell; have f5 := b5.free))) | ((with_reducible refine at_dst 5 ?_); go_simp; (generalize hX5 : Array.size (World.heap _) = X5); refine new_block hX5 ?_; intro wn bb hx; (try (have n4_5 := (b4.ne hX5).1; have n5_4 := (b4.ne hX5).2)); (try (have z5 := Nat.le_trans E.size (Nat.le_of_eq hX5))); (try (have mhu_5 := hu.notin (Nat.le_of_eq hX5))); (try (have mFR_5 := FR.notin (Nat.le_of_eq hX5))); (try (have mhall_5 := hall.notin (Nat.le_of_eq hX5))); have b5 := Loc.new bb E hX5; clear bb hX5; (try replace E := E.ext hx); (try replace b4 := b4.ext hx); (try replace hu := hu.ext hx); (try replace FR := FR.ext hx); (try replace hall := hall.ext hx); (try (clear hcE hfE)); (try (have hcf := bcell E.low; obtain ⟨hcE, hfE⟩ := hcf)); (try (clear c4 f4)); (try (have c4 := b4.cell; have f4 := b4.free)); (try (clear c5 f5)); (try (have c5 := b5.cell; have f5 := b5.free))) | ((with_reducible refine at_dst 12 ?_); go_simp; (have hc := qjoined_any (hq.n.ext E.low) (hq.e.ext E.low) (few_of hf1) (few_of hf2)); ((refine hc.mono ?_)); clear hc; unfold SPost; rw [HJ.out]; rintro e wn ⟨oa, oc, rfl, r12, hx⟩; replace r12 := r12.old E; (try replace E := E.ext hx); (try replace b4 := b4.ext hx); (try replace b5 := b5.ext hx); (try replace hu := hu.ext hx); (try replace FR := FR.ext hx); (try replace hall := hall.ext hx); (try (clear hcE hfE)); (try (have hcf := bcell E.low; obtain ⟨hcE, hfE⟩ := hcf)); (try (clear c4 f4)); (try (have c4 := b4.cell; have f4 := b4.free)); (try (clear c5 f5)); (try (have c5 := b5.cell; have f5 := b5.free))))
  have hall := r12.pr
  clear r12
  go_upto_region 3 with (first | fail)
  go_loopw [7] (fun i wr => ∃ j : Nat, i = .int .i64 j ∧ j ≤ n.names.length ∧ QAt w0 wr b (adds U ((n.names.map fun x => (⟨p, 1, x, J⟩ : Ev)).take j)) p ∧ UFr b b w wr ∧ PR w0 wr (.slice oa J.length oc) J ∧ Loc [] w0 wr X4 36 (nsC n).toArray) (fun i _ => n.names.length - (intOf i).toNat)
  case atStart => exact ⟨0, rfl, Nat.zero_le _, hu, FR, hall, b4⟩
  case round =>
    clear hu FR E hall b4 c4 f4 b5 c5 f5
    obtain ⟨j, rfl, hj, hu, FR, hall, b4⟩ := hrel
    have E := hu.only
    have c4 := b4.cell
    have f4 := b4.free
    obtain ⟨hcE, hfE⟩ := bcell E.low
    by_cases hlt : j < n.names.length
    · obtain ⟨g, o, hgo, hg, k0⟩ := hn.n.cells hlt
      go_upto_region 9999 with (first | ((with_reducible refine at_dst 27 ?_); go_simp; ((with_reducible refine (quclass_any hu 1 n.names[j] hall (wt_at (evCls_at hlt) hw2)).mono ?_)); unfold QUPost; rintro e wn ⟨rfl, hu2, hF⟩; (try replace b4 := hu.loc b4 hF (of_decide_eq_true rfl)); (try replace b5 := hu.loc b5 hF (of_decide_eq_true rfl)); (try replace hall := hall.qf hu hF); replace FR := FR.trans hF; clear hu E hF; have hu := hu2; clear hu2; have E := hu.only; (try (clear hcE hfE)); (try (have hcf := bcell E.low; obtain ⟨hcE, hfE⟩ := hcf)); (try (clear c4 f4)); (try (have c4 := b4.cell; have f4 := b4.free)); (try (clear c5 f5)); (try (have c5 := b5.cell; have f5 := b5.free))))
      try simp only [← hgo]
      clear hgo
      go_roundw
      case rel => exact ⟨j + 1, by go_num, by omega, adds_at (U := U) (evCls_at hlt) ▸ hu, FR, hall, b4⟩
      case measure => simp [intOf]; omega
    · rw [adds_all (by rw [List.length_map]; omega)] at hu
      go_upto_region 9999 with (first | ((with_reducible refine at_dst 31 ?_); go_simp; ((with_reducible refine (quadd_any hu 1 (PR.in hn.e) (wt_adds hw3)).mono ?_)); unfold QUPost; rintro e wn ⟨rfl, hu2, hF⟩; (try replace b4 := hu.loc b4 hF (of_decide_eq_true rfl)); (try replace b5 := hu.loc b5 hF (of_decide_eq_true rfl)); (try replace hall := hall.qf hu hF); replace FR := FR.trans hF; clear hu E hF; have hu := hu2; clear hu2; have E := hu.only; (try (clear hcE hfE)); (try (have hcf := bcell E.low; obtain ⟨hcE, hfE⟩ := hcf)); (try (clear c4 f4)); (try (have c4 := b4.cell; have f4 := b4.free)); (try (clear c5 f5)); (try (have c5 := b5.cell; have f5 := b5.free))))
      refine bodyPost_ret (v := .tuple #[]) (by simp [results, Try.f57, go_sem]) rfl (qupost hu (by rw [evCls, adds_app, ← adds_join, HJ.out]) FR)
end Go.Proofs.Ytnifgkgdphlleaa
set_option linter.unusedSimpArgs false
set_option linter.unusedVariables false
namespace Go.Proofs.Ytnifgkgdphlleaa
open Go.RowKit Tk
set_option maxHeartbeats 2000000 in
set_option maxRecDepth 100000 in
theorem qulevel_any {w0 w : World} {b : Nat} {U : List PS} {p : Int × Int} (hu : QAt w0 w b U p) {l : Lvl} (hl : l.ok w0) (hw : wtU U + wtE (evLvl p l) ≤ 1900000000000) :
    Calls Try.prog 49 #[.pointer (some ⟨b, 0, none⟩), .agg (lvC l).toArray] w (QUPost w0 b (adds U (evLvl p l)) p w) := by
  have n2 := (RRow.lens hl.c).2
  have hw2 : wtU (addU U ⟨p, 7, l.sens, []⟩) + wtE (catEv p l.cats) ≤ 1900000000000 := by
    have := addU_wt U ⟨p, 7, l.sens, []⟩
    unfold evLvl at hw; rw [wtE_cons] at hw
    unfold catEv
    dsimp only [List.length_nil] at this hw
    omega
  go_enter Try.func49, Try.ntmps49
  have E := hu.only
  have FR : UFr b b w w := UFr.refl
  go_upto_region 3 with (first | ((with_reducible refine at_dst 3 ?_); go_simp; (generalize hX3 : Array.size (World.heap _) = X3); refine new_block hX3 ?_; intro wn bb hx; (try (have z3 := Nat.le_trans E.size (Nat.le_of_eq hX3))); (try (have mhu_3 := hu.notin (Nat.le_of_eq hX3))); (try (have mFR_3 := FR.notin (Nat.le_of_eq hX3))); have b3 := Loc.new bb E hX3; clear bb hX3; (try replace E := E.ext hx); (try replace hu := hu.ext hx); (try replace FR := FR.ext hx); (try (clear hcE hfE)); (try (have hcf := bcell E.low; obtain ⟨hcE, hfE⟩ := hcf)); (try (clear c3 f3)); (try (have c3 := b3.cell; have f3 := b3.free))) | ((with_reducible refine at_dst 8 ?_); go_simp; (generalize hX8 : Array.size (World.heap _) = X8); refine new_block hX8 ?_; intro wn bb hx; (try (have n3_8 := (b3.ne hX8).1; have n8_3 := (b3.ne hX8).2)); (try (have z8 := Nat.le_trans E.size (Nat.le_of_eq hX8))); (try (have mhu_8 := hu.notin (Nat.le_of_eq hX8))); (try (have mFR_8 := FR.notin (Nat.le_of_eq hX8))); have b8 := bb; have g8 := Loc.new bb E hX8; clear bb hX8; (try replace E := E.ext hx); (try replace b3 := b3.ext hx); (try replace hu := hu.ext hx); (try replace FR := FR.ext hx); (try (clear hcE hfE)); (try (have hcf := bcell E.low; obtain ⟨hcE, hfE⟩ := hcf)); (try (clear c3 f3)); (try (have c3 := b3.cell; have f3 := b3.free))) | ((with_reducible refine at_dst 9 ?_); go_simp; ((with_reducible refine (quadd_any hu 7 (PR.blk1 b8) (by unfold evLvl at hw; rw [wtE_cons] at hw; rw [show evList p 7 [l.sens] = [⟨p, 7, l.sens, []⟩] from rfl, wtE_cons, show wtE ([] : List Ev) = 0 from rfl]; omega)).mono ?_)); unfold QUPost; rintro e wn ⟨rfl, hu2, hF⟩; (try replace b3 := hu.loc b3 hF (of_decide_eq_true rfl)); replace FR := FR.trans hF; clear hu E hF; have hu := hu2; clear hu2; have E := hu.only; (try (clear hcE hfE)); (try (have hcf := bcell E.low; obtain ⟨hcE, hfE⟩ := hcf)); (try (clear c3 f3)); (try (have c3 := b3.cell; have f3 := b3.free))))
  have hu2 : QAt w0 wn b (adds (addU U ⟨p, 7, l.sens, []⟩) (catEv p (l.cats.take 0))) p := hu
  go_loopw [4] (fun i wr => ∃ j : Nat, i = .int .i64 j ∧ j ≤ l.cats.length ∧ QAt w0 wr b (adds (addU U ⟨p, 7, l.sens, []⟩) (catEv p (l.cats.take j))) p ∧ UFr b b w wr ∧ Loc [] w0 wr X3 45 (lvC l).toArray) (fun i _ => l.cats.length - (intOf i).toNat)
  case atStart => exact ⟨0, rfl, Nat.zero_le _, hu2, FR, b3⟩
  case round =>
    clear hu hu2 FR E b3 c3 f3
    obtain ⟨j, rfl, hj, hu, FR, b3⟩ := hrel
    have E := hu.only
    have c3 := b3.cell
    have f3 := b3.free
    obtain ⟨hcE, hfE⟩ := bcell E.low
    by_cases hlt : j < l.cats.length
    · obtain ⟨y, hy⟩ := at_some hlt
      obtain ⟨g, o, hgo, hg, hc⟩ := RRow.cells hl.c hlt
      have hyi : l.cats[j] = y := by
        obtain ⟨h1, h2⟩ := List.getElem?_eq_some_iff.1 hy
        exact h2
      rw [hyi] at hc
      have k0 := hc 0 (by omega)
      have k1 := hc 1 (by omega)
      rw [show (spanC y)[0]? = some (.string y.1) from rfl, Nat.add_zero] at k0
      rw [show (spanC y)[1]? = some (.string y.2) from rfl] at k1
      have hwc := wt_cat hlt hw2
      have HY := Lib.hid hy
      have hs := cat_take (p := p) hy (addU U ⟨p, 7, l.sens, []⟩)
      have HS := Lib.hid hs
      clear hy hs hc hyi
      go_upto_region 9999 with (first | ((with_reducible refine at_dst 30 ?_); go_simp; (generalize hX30 : Array.size (World.heap _) = X30); refine new_block hX30 ?_; intro wn bb hx; (try (have n3_30 := (b3.ne hX30).1; have n30_3 := (b3.ne hX30).2)); (try (have z30 := Nat.le_trans E.size (Nat.le_of_eq hX30))); (try (have mhu_30 := hu.notin (Nat.le_of_eq hX30))); (try (have mFR_30 := FR.notin (Nat.le_of_eq hX30))); have b30 := bb; have g30 := Loc.new bb E hX30; clear bb hX30; (try replace E := E.ext hx); (try replace b3 := b3.ext hx); (try replace hu := hu.ext hx); (try replace FR := FR.ext hx); (try (clear hcE hfE)); (try (have hcf := bcell E.low; obtain ⟨hcE, hfE⟩ := hcf)); (try (clear c3 f3)); (try (have c3 := b3.cell; have f3 := b3.free))) | ((with_reducible refine at_dst 31 ?_); go_simp; ((with_reducible refine (quadd_any hu 8 (PR.blk2 b30) (by rw [show wtE (evList p 8 [y.1, y.2]) = 2 from rfl]; exact hwc)).mono ?_)); unfold QUPost; rintro e wn ⟨rfl, hu2, hF⟩; (try replace b3 := hu.loc b3 hF (of_decide_eq_true rfl)); replace FR := FR.trans hF; clear hu E hF; have hu := hu2; clear hu2; have E := hu.only; (try (clear hcE hfE)); (try (have hcf := bcell E.low; obtain ⟨hcE, hfE⟩ := hcf)); (try (clear c3 f3)); (try (have c3 := b3.cell; have f3 := b3.free))) | ((with_reducible refine at_reg 5 ?_); (refine wp_region_t2 (id := 5) [0, 1, 2, 3, 4, 5, 6, 7, 8, 9, 10, 11, 12, 13, 14] mixed ?_ ?_); (· decide +kernel); intro K hK wn hx; (try replace E := E.ext hx); (try replace b3 := b3.ext hx); (try replace hu := hu.ext hx); (try replace FR := FR.ext hx); (try (clear hcE hfE)); (try (have hcf := bcell E.low; obtain ⟨hcE, hfE⟩ := hcf)); (try (clear c3 f3)); (try (have c3 := b3.cell; have f3 := b3.free)); dsimp only [pickL, List.getElem?_cons_succ, List.getElem?_cons_zero]) | ((with_reducible refine wpTxt_q ?_ ?_ ?_); rfl; rfl; intro _ _) | ((with_reducible refine wpTxt_w0 ?_ ?_ ?_); rfl; rfl; intro _ _) | (with_reducible refine wpTxt_nil ?_))
      try simp only [← hgo]
      clear hgo
      have hu2 : QAt w0 wn b (adds (addU U ⟨p, 7, l.sens, []⟩) (catEv p (l.cats.take (j + 1)))) p := by rw [HS.out]; exact hu
      go_roundw
      case rel => exact ⟨j + 1, by go_num, by omega, hu2, FR, b3⟩
      case measure => simp [intOf]; omega
    · go_upto_region 9999 with (first | fail)
      refine bodyPost_ret (v := .tuple #[]) (by simp [results, Try.f49, go_sem]) rfl (qupost hu (by rw [List.take_of_length_le (by omega)]; rfl) FR)
set_option maxHeartbeats 2000000 in
set_option maxRecDepth 100000 in
theorem quspan_any {w0 w : World} {b : Nat} {U : List PS} {p : Int × Int} (hu : QAt w0 w b U p) {r : Rng} (hr : r.ok w0) (hw : wtU U + wtE (evRng p r) ≤ 1900000000000) :
    Calls Try.prog 50 #[.pointer (some ⟨b, 0, none⟩), .agg (rgC r).toArray] w (QUPost w0 b (adds U (evRng p r)) p w) := by
  go_enter Try.func50, Try.ntmps50
  have E := hu.only
  have FR : UFr b b w w := UFr.refl
  go_upto_region 9999 with (first | ((with_reducible refine at_dst 3 ?_); go_simp; (generalize hX3 : Array.size (World.heap _) = X3); refine new_block hX3 ?_; intro wn bb hx; (try (have z3 := Nat.le_trans E.size (Nat.le_of_eq hX3))); (try (have mhu_3 := hu.notin (Nat.le_of_eq hX3))); (try (have mFR_3 := FR.notin (Nat.le_of_eq hX3))); have b3 := Loc.new bb E hX3; clear bb hX3; (try replace E := E.ext hx); (try replace hu := hu.ext hx); (try replace FR := FR.ext hx); (try (clear hcE hfE)); (try (have hcf := bcell E.low; obtain ⟨hcE, hfE⟩ := hcf)); (try (clear c3 f3)); (try (have c3 := b3.cell; have f3 := b3.free))) | ((with_reducible refine at_dst 6 ?_); (refine wp_part (vs := (lvC (r).lo).toArray) b3.blk rfl rfl ?_ ?_ ?_ ?_); (· kernel_rfl); (· kernel_rfl); (· kernel_rfl)) | ((with_reducible refine at_dst 7 ?_); go_simp; ((with_reducible refine (qulevel_any hu hr.lo (by unfold evRng at hw; rw [wtE_app] at hw; omega)).mono ?_)); unfold QUPost; rintro e wn ⟨rfl, hu2, hF⟩; (try replace b3 := hu.loc b3 hF (of_decide_eq_true rfl)); replace FR := FR.trans hF; clear hu E hF; have hu := hu2; clear hu2; have E := hu.only; (try (clear hcE hfE)); (try (have hcf := bcell E.low; obtain ⟨hcE, hfE⟩ := hcf)); (try (clear c3 f3)); (try (have c3 := b3.cell; have f3 := b3.free))) | ((with_reducible refine at_dst 10 ?_); (refine wp_part (vs := (lvC (r).hi).toArray) b3.blk rfl rfl ?_ ?_ ?_ ?_); (· kernel_rfl); (· kernel_rfl); (· kernel_rfl)) | ((with_reducible refine at_dst 11 ?_); go_simp; ((with_reducible refine (qulevel_any hu hr.hi (wt_adds (by unfold evRng at hw; rw [wtE_app] at hw; exact hw))).mono ?_)); unfold QUPost; rintro e wn ⟨rfl, hu2, hF⟩; (try replace b3 := hu.loc b3 hF (of_decide_eq_true rfl)); replace FR := FR.trans hF; clear hu E hF; have hu := hu2; clear hu2; have E := hu.only; (try (clear hcE hfE)); (try (have hcf := bcell E.low; obtain ⟨hcE, hfE⟩ := hcf)); (try (clear c3 f3)); (try (have c3 := b3.cell; have f3 := b3.free))))
  refine bodyPost_ret (v := .tuple #[]) (by simp [results, Try.f50, go_sem]) rfl (qupost hu (adds_app _ _ _).symm FR)
theorem wt_lone {U : List PS} {p : Int × Int} {k : Int} {s : ByteArray} {n N : Nat} (hw : wtU U + ((1 + ([] : List ByteArray).length) + n) ≤ N) : wtU U + wtE (evList p k [s]) ≤ N := by
  rw [show wtE (evList p k [s]) = 1 from rfl]
  rw [List.length_nil] at hw; omega
set_option maxHeartbeats 2000000 in
set_option maxRecDepth 100000 in
theorem qucontext_any {w0 w : World} {b : Nat} {U : List PS} {p : Int × Int} (hu : QAt w0 w b U p) {c : Ctx} (hc : c.rng.ok w0) (hw : wtU U + wtE (evCtx p c) ≤ 1900000000000) :
    Calls Try.prog 52 #[.pointer (some ⟨b, 0, none⟩), .agg (cxC c).toArray] w (QUPost w0 b (adds U (evCtx p c)) p w) := by
  unfold evCtx at hw
  rw [wtE_cons, wtE_cons, wtE_cons] at hw
  go_enter Try.func52, Try.ntmps52
  have E := hu.only
  have FR : UFr b b w w := UFr.refl
  go_upto_region 9999 with (first | ((with_reducible refine at_dst 3 ?_); go_simp; (generalize hX3 : Array.size (World.heap _) = X3); refine new_block hX3 ?_; intro wn bb hx; (try (have z3 := Nat.le_trans E.size (Nat.le_of_eq hX3))); (try (have mhu_3 := hu.notin (Nat.le_of_eq hX3))); (try (have mFR_3 := FR.notin (Nat.le_of_eq hX3))); have b3 := Loc.new bb E hX3; clear bb hX3; (try replace E := E.ext hx); (try replace hu := hu.ext hx); (try replace FR := FR.ext hx); (try (clear hcE hfE)); (try (have hcf := bcell E.low; obtain ⟨hcE, hfE⟩ := hcf)); (try (clear c3 f3)); (try (have c3 := b3.cell; have f3 := b3.free))) | ((with_reducible refine at_dst 7 ?_); go_simp; (generalize hX7 : Array.size (World.heap _) = X7); refine new_block hX7 ?_; intro wn bb hx; (try (have n3_7 := (b3.ne hX7).1; have n7_3 := (b3.ne hX7).2)); (try (have z7 := Nat.le_trans E.size (Nat.le_of_eq hX7))); (try (have mhu_7 := hu.notin (Nat.le_of_eq hX7))); (try (have mFR_7 := FR.notin (Nat.le_of_eq hX7))); have b7 := bb; have g7 := Loc.new bb E hX7; clear bb hX7; (try replace E := E.ext hx); (try replace b3 := b3.ext hx); (try replace hu := hu.ext hx); (try replace FR := FR.ext hx); (try (clear hcE hfE)); (try (have hcf := bcell E.low; obtain ⟨hcE, hfE⟩ := hcf)); (try (clear c3 f3)); (try (have c3 := b3.cell; have f3 := b3.free))) | ((with_reducible refine at_dst 8 ?_); go_simp; ((with_reducible refine (quadd_any hu 5 (PR.blk1 b7) (wt_lone hw)).mono ?_)); unfold QUPost; rintro e wn ⟨rfl, hu2, hF⟩; (try replace b3 := hu.loc b3 hF (of_decide_eq_true rfl)); replace FR := FR.trans hF; clear hu E hF; have hu := hu2; clear hu2; have E := hu.only; (try (clear hcE hfE)); (try (have hcf := bcell E.low; obtain ⟨hcE, hfE⟩ := hcf)); (try (clear c3 f3)); (try (have c3 := b3.cell; have f3 := b3.free))) | ((with_reducible refine at_dst 12 ?_); go_simp; (generalize hX12 : Array.size (World.heap _) = X12); refine new_block hX12 ?_; intro wn bb hx; (try (have n3_12 := (b3.ne hX12).1; have n12_3 := (b3.ne hX12).2)); (try (have z12 := Nat.le_trans E.size (Nat.le_of_eq hX12))); (try (have mhu_12 := hu.notin (Nat.le_of_eq hX12))); (try (have mFR_12 := FR.notin (Nat.le_of_eq hX12))); have b12 := bb; have g12 := Loc.new bb E hX12; clear bb hX12; (try replace E := E.ext hx); (try replace b3 := b3.ext hx); (try replace hu := hu.ext hx); (try replace FR := FR.ext hx); (try (clear hcE hfE)); (try (have hcf := bcell E.low; obtain ⟨hcE, hfE⟩ := hcf)); (try (clear c3 f3)); (try (have c3 := b3.cell; have f3 := b3.free))) | ((with_reducible refine at_dst 13 ?_); go_simp; ((with_reducible refine (quadd_any hu 4 (PR.blk1 b12) (wt_lone (wt_one hw))).mono ?_)); unfold QUPost; rintro e wn ⟨rfl, hu2, hF⟩; (try replace b3 := hu.loc b3 hF (of_decide_eq_true rfl)); replace FR := FR.trans hF; clear hu E hF; have hu := hu2; clear hu2; have E := hu.only; (try (clear hcE hfE)); (try (have hcf := bcell E.low; obtain ⟨hcE, hfE⟩ := hcf)); (try (clear c3 f3)); (try (have c3 := b3.cell; have f3 := b3.free))) | ((with_reducible refine at_dst 17 ?_); go_simp; (generalize hX17 : Array.size (World.heap _) = X17); refine new_block hX17 ?_; intro wn bb hx; (try (have n3_17 := (b3.ne hX17).1; have n17_3 := (b3.ne hX17).2)); (try (have z17 := Nat.le_trans E.size (Nat.le_of_eq hX17))); (try (have mhu_17 := hu.notin (Nat.le_of_eq hX17))); (try (have mFR_17 := FR.notin (Nat.le_of_eq hX17))); have b17 := bb; have g17 := Loc.new bb E hX17; clear bb hX17; (try replace E := E.ext hx); (try replace b3 := b3.ext hx); (try replace hu := hu.ext hx); (try replace FR := FR.ext hx); (try (clear hcE hfE)); (try (have hcf := bcell E.low; obtain ⟨hcE, hfE⟩ := hcf)); (try (clear c3 f3)); (try (have c3 := b3.cell; have f3 := b3.free))) | ((with_reducible refine at_dst 18 ?_); go_simp; ((with_reducible refine (quadd_any hu 2 (PR.blk1 b17) (wt_lone (wt_one (wt_one hw)))).mono ?_)); unfold QUPost; rintro e wn ⟨rfl, hu2, hF⟩; (try replace b3 := hu.loc b3 hF (of_decide_eq_true rfl)); replace FR := FR.trans hF; clear hu E hF; have hu := hu2; clear hu2; have E := hu.only; (try (clear hcE hfE)); (try (have hcf := bcell E.low; obtain ⟨hcE, hfE⟩ := hcf)); (try (clear c3 f3)); (try (have c3 := b3.cell; have f3 := b3.free))) | ((with_reducible refine at_dst 21 ?_); (refine wp_part (vs := (rgC (c).rng).toArray) b3.blk rfl rfl ?_ ?_ ?_ ?_); (· kernel_rfl); (· kernel_rfl); (· kernel_rfl)) | ((with_reducible refine at_dst 22 ?_); go_simp; ((with_reducible refine (quspan_any hu hc (wt_one (wt_one (wt_one hw)))).mono ?_)); unfold QUPost; rintro e wn ⟨rfl, hu2, hF⟩; (try replace b3 := hu.loc b3 hF (of_decide_eq_true rfl)); replace FR := FR.trans hF; clear hu E hF; have hu := hu2; clear hu2; have E := hu.only; (try (clear hcE hfE)); (try (have hcf := bcell E.low; obtain ⟨hcE, hfE⟩ := hcf)); (try (clear c3 f3)); (try (have c3 := b3.cell; have f3 := b3.free))))
  refine bodyPost_ret (v := .tuple #[]) (by simp [results, Try.f52, go_sem]) rfl (qupost hu rfl FR)
end Go.Proofs.Ytnifgkgdphlleaa
