/- Ha, Hz -/
import Derived.Test.YtbobbbhgdfapjaaGreatZB1
import Derived.Test.YtbobbbhgdfapjaaGreatZB2
import Derived.Test.YtbobbbhgdfapjaaGreatZB3
import Derived.Test.YtbobbbhgdfapjaaGreatZB4
import Derived.Test.YtbobbbhgdfapjaaGreatZBnkt1
import Derived.Test.YtbobbbhgdfapjaaGreatZB5
import Derived.Test.YtbobbbhgdfapjaaGreatZB6
import Derived.Test.YtbobbbhgdfapjaaGreatZB7
import Derived.Test.YtbobbbhgdfapjaaGreatZB8
import Derived.Test.YtbobbbhgdfapjaaGreatZB9
set_option linter.unusedSimpArgs false
set_option linter.unusedVariables false
namespace Go.Proofs.YtbobbbhgdfapjaaGreat
set_option maxHeartbeats 8000000
set_option maxRecDepth 100000
open Go.RowKit Tk
def fOutB : Option Nat → Int
 | some i => i
 | none => -1
theorem qfind_any {w : World} {a : Option Addr} {n c : Nat} {l : List (ByteArray × Bool)} (hl : RRow w 2 boC (.slice a n c) l) (s : ByteArray) : Calls Tryz.prog 50 #[.slice a n c, .string s] w (IPost (fOutB (findB s l)) w) := by
 obtain ⟨rfl, n2⟩ := RRow.lens hl
 obtain ⟨R, hR⟩ : ∃ R, findB s l = R := ⟨_, rfl⟩
 rw [hR]
 have HR : Hid ((findB s (l.drop 0)).map (· + 0) = R) := Lib.hid (by simpa using hR)
 clear hR
 go_enter Tryz.func50, Tryz.ntmps50
 have E := Only.refl [] w
 go_upto_region 2 with (first | fail)
 go_loopw [5] (fun i wr => ∃ j : Nat, i = .int .i64 j ∧ j ≤ l.length ∧ Hid ((findB s (l.drop j)).map (· + j) = R) ∧ Only [] w wr) (fun i _ => l.length - (intOf i).toNat)
 case atStart => exact ⟨0, rfl, Nat.zero_le _, HR, E⟩
 case round =>
  clear HR E
  (try clear hcE)
  obtain ⟨j, rfl, hj, HR, E⟩ := hrel
  have hcE := bcell E.low
  by_cases hlt : j < l.length
  · obtain ⟨y, hy⟩ := at_some hlt
    obtain ⟨g, o, hgo, hg, hc⟩ := RRow.cells hl hlt
    have hye : l[j] = y := (List.getElem?_eq_some_iff.1 hy).2
    rw [hye] at hc
    have k0 : w.cell? ⟨g, o + j * 2, none⟩ = some (.string y.1) := hc 0 (by omega)
    have HY := Lib.hid hy
    clear hc hye hy
    by_cases h2 : y.1 = s
    · have g3 := txt_t h2
      have hs := findB_hit HR HY.out h2
      have HS := Lib.hid hs
      have H2 := Lib.hid h2
      clear h2 HR hs
      go_upto_region 9999 with (first | fail)
      go_ret
      exact ⟨by rw [HS.out]; rfl, E.low⟩
    · have g3 := txt_f h2
      have HS := findB_miss HR HY.out h2
      have H2 := Lib.hid h2
      clear h2 HR
      go_upto_region 9999 with (first | fail)
      (try simp only [← hgo])
      clear hgo
      go_roundw
      case rel => exact ⟨j + 1, by go_num, by omega, HS, E⟩
      case measure => simp [intOf]; omega
  · have hz : R = none := by
      have := HR.out
      rw [List.drop_of_length_le (by omega)] at this
      exact this.symm
    have HZ := Lib.hid hz
    clear hz
    go_upto_region 9999 with (first | fail)
    go_ret
    exact ⟨by rw [HZ.out]; rfl, E.low⟩
open Go.RowKit Tk
@[reducible] def QvalOk (N : Nat) : Prop := ∀ (x : Ex) {w : World} {la : Option Addr} {lc : Nat} {l : List (ByteArray × Bool)}, RRow w 2 boC (.slice la l.length lc) l → x.ok w → x.wf → x.sz < N → (∀ n ∈ namesE x, (findB n l).isSome = true) → Calls Tryz.prog 51 #[.agg (exC x).toArray, .slice la l.length lc] w (BPost (valE l x) w)
theorem qvalue_name (x : Ex) {w : World} {la : Option Addr} {lc : Nat} {l : List (ByteArray × Bool)} (hl : RRow w 2 boC (.slice la l.length lc) l) (hxo : x.ok w) (hwf : x.wf) (hop : x.h.op = 1) (hall : ∀ n ∈ namesE x, (findB n l).isSome = true) :
    Calls Tryz.prog 51 #[.agg (exC x).toArray, .slice la l.length lc] w (BPost (valE l x) w) := by
 have hnm := hwf.names
 rw [hop, show namedE 1 = 1 from rfl] at hnm
 have n3 := (Reads.lens hxo.names).2
 have n4 := (RRow.lens hl).2
 have hlt : 0 < x.h.names.length := by omega
 obtain ⟨nm, hnm2⟩ : ∃ nm, x.h.names = [nm] := by
  have h8 : x.h.names.length = 1 := by omega
  match hq : x.h.names, h8 with
  | [nm], _ => exact ⟨nm, rfl⟩
 obtain ⟨gg, oo, hgo, hg, k0⟩ := hxo.names.cells hlt
 have hn0 : x.h.names[0] = nm := by simp [hnm2]
 rw [hn0, Nat.add_zero] at k0
 have hs := hall nm (by rw [namesE_eq, hnm2]; simp)
 obtain ⟨i, hi⟩ := Option.isSome_iff_exists.1 hs
 have hil := findB_lt hi
 obtain ⟨y, hy⟩ := at_some hil
 have ey : l[i] = y := by rw [List.getElem?_eq_getElem hil] at hy; injection hy
 obtain ⟨g, o, hlo, hg2, hcl⟩ := RRow.cells hl hil
 have k1 := hcl 1 (by decide)
 rw [ey] at k1
 have k2 : w.cell? ⟨g, o + i * 2 + 1, none⟩ = some (.bool y.2) := k1
 have HF : Hid (fOutB (findB nm l) = i) := Lib.hid (by rw [hi]; rfl)
 have hV : valE l x = y.2 := by
  rw [valE_eq, hnm2, show firstN [nm] = nm from rfl]
  unfold bodyV valB
  rw [if_pos hop, hi]
  show (Option.map _ l[i]?).getD false = _
  rw [hy]; rfl
 rw [hV]
 have HNM := Lib.hid hnm2
 have HOP := Lib.hid hop
 obtain ⟨s1, s2⟩ := kd_t hop
 clear hnm2 hn0 hnm hV hs hi hy ey hcl k1 hall hop
 subst hlo
 go_enter Tryz.func51, Tryz.ntmps51
 have E := Only.refl [] w
 go_upto_region 9999 with (first | ((first | ((with_reducible refine at_dst 16 ?_); go_simp; (have hc := qfind_any (RRow.ext hl E.low) nm); (first | with_reducible refine hc.mono ?_ | refine hc.mono ?_); clear hc; unfold IPost; rw [HF.out]; rintro e wn ⟨rfl, hx⟩) | ((with_reducible refine at_dst 2 ?_); go_simp; (generalize hXn : Array.size (World.heap _) = X2); refine new_block hXn ?_; intro wn bb hx; have b2 := Loc.new bb E hXn; have zz := Nat.le_trans E.size (Nat.le_of_eq hXn); clear bb hXn)); (try replace E := E.ext hx); (try replace b2 := b2.ext hx); (try replace hcE := bcell E.low); (try replace c2 := b2.cf)))
 go_ret
 exact ⟨rfl, E.low⟩
theorem qvalue_not {N : Nat} (IH : Hid (QvalOk N)) (x : Ex) {w : World} {la : Option Addr} {lc : Nat} {l : List (ByteArray × Bool)} (hl : RRow w 2 boC (.slice la l.length lc) l) (hxo : x.ok w) (hwf : x.wf) (hz : x.sz < N + 1) (hop : x.h.op = 2) (hall : ∀ n ∈ namesE x, (findB n l).isSome = true) :
    Calls Tryz.prog 51 #[.agg (exC x).toArray, .slice la l.length lc] w (BPost (valE l x) w) := by
 rw [Ex.sz_kids] at hz
 have hk := hwf.kids
 rw [hop, show opn 2 = 1 from rfl] at hk
 have n2 := (RRow.lens hxo.kids).2
 obtain ⟨a, hka⟩ : ∃ a, x.kids = [a] := by
  have h8 : x.kids.length = 1 := by omega
  match hq : x.kids, h8 with
  | [a], _ => exact ⟨a, rfl⟩
 have ham : a ∈ x.kids := by rw [hka]; simp
 have hao := hxo.subs.mem ham
 have haw := hwf.subs.mem ham
 have HNA : Hid (∀ n ∈ namesE a, (findB n l).isSome = true) := Lib.hid fun n hn => hall n (names_mem ham hn)
 have hs1 : Ex.szs x.kids = a.sz := by rw [hka, Ex.szs, Ex.szs]; rfl
 have has : a.sz < N := by omega
 obtain ⟨va, hva⟩ : ∃ v, valE l a = v := ⟨_, rfl⟩
 have hlt : 0 < x.kids.length := by omega
 obtain ⟨g, o, hgo, hg, -⟩ := RRow.cells hxo.kids hlt
 have hkc : RRow w 10 exC (.slice (some ⟨g, o, none⟩) x.kids.length x.h.hk.c) x.kids := hgo ▸ hxo.kids
 have H0 : Hid (x.kids[0]? = some a) := Lib.hid (by rw [hka]; rfl)
 have hV : valE l x = !va := by
  rw [valE_eq, hka, ← hva]
  unfold bodyV
  rw [if_neg (by rw [hop]; decide), if_pos hop]
  rfl
 rw [hV]
 have HA := Lib.hid hva
 have HKA := Lib.hid hka
 have HOP := Lib.hid hop
 obtain ⟨s1, s2⟩ := kd_f (show ¬ x.h.op = 1 by omega)
 obtain ⟨s3, s4⟩ := kd_t hop
 clear hva hka hk hs1 hwf ham hV hop hall
 go_enter Tryz.func51, Tryz.ntmps51
 have E := Only.refl [] w
 go_upto_region 9999 with (first | ((first | ((with_reducible refine at_dst 25 ?_); go_simp; (have hc := IH.out a (RRow.ext hl E.low) (hao.ext E.low) haw has (HNA.out)); (first | with_reducible refine hc.mono ?_ | refine hc.mono ?_); clear hc; unfold BPost; rw [HA.out]; rintro e wn ⟨rfl, hx⟩) | ((with_reducible refine at_dst 2 ?_); go_simp; (generalize hXn : Array.size (World.heap _) = X2); refine new_block hXn ?_; intro wn bb hx; have b2 := Loc.new bb E hXn; have zz := Nat.le_trans E.size (Nat.le_of_eq hXn); clear bb hXn)); (try replace E := E.ext hx); (try replace b2 := b2.ext hx); (try replace hcE := bcell E.low); (try replace c2 := b2.cf)) | ((with_reducible refine at_dst 23 ?_); (refine wp_rec2 ((RRow.ext hkc E.low)) (H0.out) exC_len rfl rfl ?_ ?_ ?_); (· kernel_rfl); (· kernel_rfl)))
 go_ret
 exact ⟨rfl, E.low⟩
theorem qvalue_two {N : Nat} (IH : Hid (QvalOk N)) (x : Ex) {w : World} {la : Option Addr} {lc : Nat} {l : List (ByteArray × Bool)} (hl : RRow w 2 boC (.slice la l.length lc) l) (hxo : x.ok w) (hwf : x.wf) (hz : x.sz < N + 1) (ho : opn x.h.op = 2) (hall : ∀ n ∈ namesE x, (findB n l).isSome = true) :
    Calls Tryz.prog 51 #[.agg (exC x).toArray, .slice la l.length lc] w (BPost (valE l x) w) := by
 rw [Ex.sz_kids] at hz
 have hk := hwf.kids
 rw [ho] at hk
 have n2 := (RRow.lens hxo.kids).2
 have hne1 : ¬ x.h.op = 1 := by rintro h; rw [h] at ho; exact absurd ho (by decide)
 have hne2 : ¬ x.h.op = 2 := by rintro h; rw [h] at ho; exact absurd ho (by decide)
 obtain ⟨a, b, hka⟩ : ∃ a b, x.kids = [a, b] := by
  have h8 : x.kids.length = 2 := by omega
  match hq : x.kids, h8 with
  | [a, b], _ => exact ⟨a, b, rfl⟩
 have ham : a ∈ x.kids := by rw [hka]; simp
 have hbm : b ∈ x.kids := by rw [hka]; simp
 have hao := hxo.subs.mem ham
 have haw := hwf.subs.mem ham
 have hbo := hxo.subs.mem hbm
 have hbw := hwf.subs.mem hbm
 have HNA : Hid (∀ n ∈ namesE a, (findB n l).isSome = true) := Lib.hid fun n hn => hall n (names_mem ham hn)
 have HNB : Hid (∀ n ∈ namesE b, (findB n l).isSome = true) := Lib.hid fun n hn => hall n (names_mem hbm hn)
 have hs1 : Ex.szs x.kids = a.sz + b.sz := by rw [hka, Ex.szs, Ex.szs, Ex.szs]; rfl
 have has : a.sz < N := by omega
 have hbs : b.sz < N := by omega
 obtain ⟨va, hva⟩ : ∃ v, valE l a = v := ⟨_, rfl⟩
 obtain ⟨vb, hvb⟩ : ∃ v, valE l b = v := ⟨_, rfl⟩
 have hlt : 0 < x.kids.length := by omega
 have hlt1 : 1 < x.kids.length := by omega
 obtain ⟨g, o, hgo, hg, -⟩ := RRow.cells hxo.kids hlt
 have hkc : RRow w 10 exC (.slice (some ⟨g, o, none⟩) x.kids.length x.h.hk.c) x.kids := hgo ▸ hxo.kids
 have H0 : Hid (x.kids[0]? = some a) := Lib.hid (by rw [hka]; rfl)
 have H1 : Hid (x.kids[1]? = some b) := Lib.hid (by rw [hka]; rfl)
 have hV : valE l x = (if x.h.op = 3 then va && vb else if x.h.op = 4 then va || vb else if x.h.op = 6 then va == vb else va != vb) := by
  rw [valE_eq, hka, ← hva, ← hvb]
  unfold bodyV
  rw [if_neg hne1, if_neg hne2]
  rfl
 rw [hV]
 have HA := Lib.hid hva
 have HB := Lib.hid hvb
 have HKA := Lib.hid hka
 have HO := Lib.hid ho
 obtain ⟨s1, s2⟩ := kd_f hne1
 obtain ⟨s3, s4⟩ := kd_f hne2
 have HN1 := Lib.hid hne1
 have HN2 := Lib.hid hne2
 clear hva hvb hka hk hs1 hwf ham hbm hV ho hne1 hne2 hall
 by_cases h3 : x.h.op = 3
 · rw [if_pos h3]
   obtain ⟨t1, t2⟩ := kd_t h3
   have H3 := Lib.hid h3
   clear h3
   cases va
   all_goals
    go_enter Tryz.func51, Tryz.ntmps51
    have E := Only.refl [] w
    go_upto_region 9999 with (first | ((first | ((with_reducible refine at_dst 25 ?_); go_simp; (have hc := IH.out a (RRow.ext hl E.low) (hao.ext E.low) haw has (HNA.out)); (first | with_reducible refine hc.mono ?_ | refine hc.mono ?_); clear hc; unfold BPost; rw [HA.out]; rintro e wn ⟨rfl, hx⟩) | ((with_reducible refine at_dst 36 ?_); go_simp; (have hc := IH.out b (RRow.ext hl E.low) (hbo.ext E.low) hbw hbs (HNB.out)); (first | with_reducible refine hc.mono ?_ | refine hc.mono ?_); clear hc; unfold BPost; rw [HB.out]; rintro e wn ⟨rfl, hx⟩) | ((with_reducible refine at_dst 2 ?_); go_simp; (generalize hXn : Array.size (World.heap _) = X2); refine new_block hXn ?_; intro wn bb hx; have b2 := Loc.new bb E hXn; have zz := Nat.le_trans E.size (Nat.le_of_eq hXn); clear bb hXn)); (try replace E := E.ext hx); (try replace b2 := b2.ext hx); (try replace hcE := bcell E.low); (try replace c2 := b2.cf)) | ((with_reducible refine at_dst 23 ?_); (refine wp_rec2 ((RRow.ext hkc E.low)) (H0.out) exC_len rfl rfl ?_ ?_ ?_); (· kernel_rfl); (· kernel_rfl)) | ((with_reducible refine at_dst 34 ?_); (refine wp_rec2 ((RRow.ext hkc E.low)) (H1.out) exC_len rfl rfl ?_ ?_ ?_); (· kernel_rfl); (· kernel_rfl)))
    go_ret
    exact ⟨rfl, E.low⟩
 rw [if_neg h3]
 obtain ⟨t1, t2⟩ := kd_f h3
 have H3 := Lib.hid h3
 clear h3
 by_cases h4 : x.h.op = 4
 · rw [if_pos h4]
   obtain ⟨t3, t4⟩ := kd_t h4
   have H4 := Lib.hid h4
   clear h4
   cases va
   all_goals
    go_enter Tryz.func51, Tryz.ntmps51
    have E := Only.refl [] w
    go_upto_region 9999 with (first | ((first | ((with_reducible refine at_dst 25 ?_); go_simp; (have hc := IH.out a (RRow.ext hl E.low) (hao.ext E.low) haw has (HNA.out)); (first | with_reducible refine hc.mono ?_ | refine hc.mono ?_); clear hc; unfold BPost; rw [HA.out]; rintro e wn ⟨rfl, hx⟩) | ((with_reducible refine at_dst 36 ?_); go_simp; (have hc := IH.out b (RRow.ext hl E.low) (hbo.ext E.low) hbw hbs (HNB.out)); (first | with_reducible refine hc.mono ?_ | refine hc.mono ?_); clear hc; unfold BPost; rw [HB.out]; rintro e wn ⟨rfl, hx⟩) | ((with_reducible refine at_dst 2 ?_); go_simp; (generalize hXn : Array.size (World.heap _) = X2); refine new_block hXn ?_; intro wn bb hx; have b2 := Loc.new bb E hXn; have zz := Nat.le_trans E.size (Nat.le_of_eq hXn); clear bb hXn)); (try replace E := E.ext hx); (try replace b2 := b2.ext hx); (try replace hcE := bcell E.low); (try replace c2 := b2.cf)) | ((with_reducible refine at_dst 23 ?_); (refine wp_rec2 ((RRow.ext hkc E.low)) (H0.out) exC_len rfl rfl ?_ ?_ ?_); (· kernel_rfl); (· kernel_rfl)) | ((with_reducible refine at_dst 34 ?_); (refine wp_rec2 ((RRow.ext hkc E.low)) (H1.out) exC_len rfl rfl ?_ ?_ ?_); (· kernel_rfl); (· kernel_rfl)))
    go_ret
    exact ⟨rfl, E.low⟩
 rw [if_neg h4]
 obtain ⟨t3, t4⟩ := kd_f h4
 have H4 := Lib.hid h4
 clear h4
 by_cases h6 : x.h.op = 6
 · rw [if_pos h6]
   obtain ⟨t5, t6⟩ := kd_t h6
   have H6 := Lib.hid h6
   clear h6
   go_enter Tryz.func51, Tryz.ntmps51
   have E := Only.refl [] w
   go_upto_region 9999 with (first | ((first | ((with_reducible refine at_dst 25 ?_); go_simp; (have hc := IH.out a (RRow.ext hl E.low) (hao.ext E.low) haw has (HNA.out)); (first | with_reducible refine hc.mono ?_ | refine hc.mono ?_); clear hc; unfold BPost; rw [HA.out]; rintro e wn ⟨rfl, hx⟩) | ((with_reducible refine at_dst 36 ?_); go_simp; (have hc := IH.out b (RRow.ext hl E.low) (hbo.ext E.low) hbw hbs (HNB.out)); (first | with_reducible refine hc.mono ?_ | refine hc.mono ?_); clear hc; unfold BPost; rw [HB.out]; rintro e wn ⟨rfl, hx⟩) | ((with_reducible refine at_dst 2 ?_); go_simp; (generalize hXn : Array.size (World.heap _) = X2); refine new_block hXn ?_; intro wn bb hx; have b2 := Loc.new bb E hXn; have zz := Nat.le_trans E.size (Nat.le_of_eq hXn); clear bb hXn)); (try replace E := E.ext hx); (try replace b2 := b2.ext hx); (try replace hcE := bcell E.low); (try replace c2 := b2.cf)) | ((with_reducible refine at_dst 23 ?_); (refine wp_rec2 ((RRow.ext hkc E.low)) (H0.out) exC_len rfl rfl ?_ ?_ ?_); (· kernel_rfl); (· kernel_rfl)) | ((with_reducible refine at_dst 34 ?_); (refine wp_rec2 ((RRow.ext hkc E.low)) (H1.out) exC_len rfl rfl ?_ ?_ ?_); (· kernel_rfl); (· kernel_rfl)))
   go_ret
   exact ⟨by cases va <;> cases vb <;> rfl, E.low⟩
 rw [if_neg h6]
 obtain ⟨t5, t6⟩ := kd_f h6
 have H6 := Lib.hid h6
 clear h6
 go_enter Tryz.func51, Tryz.ntmps51
 have E := Only.refl [] w
 go_upto_region 9999 with (first | ((first | ((with_reducible refine at_dst 25 ?_); go_simp; (have hc := IH.out a (RRow.ext hl E.low) (hao.ext E.low) haw has (HNA.out)); (first | with_reducible refine hc.mono ?_ | refine hc.mono ?_); clear hc; unfold BPost; rw [HA.out]; rintro e wn ⟨rfl, hx⟩) | ((with_reducible refine at_dst 36 ?_); go_simp; (have hc := IH.out b (RRow.ext hl E.low) (hbo.ext E.low) hbw hbs (HNB.out)); (first | with_reducible refine hc.mono ?_ | refine hc.mono ?_); clear hc; unfold BPost; rw [HB.out]; rintro e wn ⟨rfl, hx⟩) | ((with_reducible refine at_dst 2 ?_); go_simp; (generalize hXn : Array.size (World.heap _) = X2); refine new_block hXn ?_; intro wn bb hx; have b2 := Loc.new bb E hXn; have zz := Nat.le_trans E.size (Nat.le_of_eq hXn); clear bb hXn)); (try replace E := E.ext hx); (try replace b2 := b2.ext hx); (try replace hcE := bcell E.low); (try replace c2 := b2.cf)) | ((with_reducible refine at_dst 23 ?_); (refine wp_rec2 ((RRow.ext hkc E.low)) (H0.out) exC_len rfl rfl ?_ ?_ ?_); (· kernel_rfl); (· kernel_rfl)) | ((with_reducible refine at_dst 34 ?_); (refine wp_rec2 ((RRow.ext hkc E.low)) (H1.out) exC_len rfl rfl ?_ ?_ ?_); (· kernel_rfl); (· kernel_rfl)))
 go_ret
 exact ⟨by cases va <;> cases vb <;> rfl, E.low⟩
theorem qvalue_any : ∀ N : Nat, QvalOk N
 | 0 => fun _ _ _ _ _ _ _ _ hz => absurd hz (Nat.not_lt_zero _)
 | N + 1 => fun x w la lc l hl hxo hwf hz hall => by
   have hk := hwf.kids
   have IH := Lib.hid (qvalue_any N)
   by_cases h1 : x.h.op = 1
   · exact qvalue_name x hl hxo hwf h1 hall
   by_cases h2 : x.h.op = 2
   · exact qvalue_not IH x hl hxo hwf hz h2 hall
   · refine qvalue_two IH x hl hxo hwf hz ?_ hall
     have h0 : 0 ≤ opn x.h.op := by omega
     unfold opn at h0 ⊢
     rw [if_neg h1, if_neg h2] at h0 ⊢
     split
     · rfl
     · rename_i hc; rw [if_neg hc] at h0; omega
end Go.Proofs.YtbobbbhgdfapjaaGreat
