/- Hg -/
import Derived.Test.YtbobbbhgdfapjaaZR1
import Derived.Test.YtbobbbhgdfapjaaZR2
import Derived.Test.YtbobbbhgdfapjaaZR3
import Derived.Test.YtbobbbhgdfapjaaZR4
import Derived.Test.YtbobbbhgdfapjaaZR5
import Derived.Test.YtbobbbhgdfapjaaZR6
import Derived.Test.YtbobbbhgdfapjaaZR7
set_option linter.unusedSimpArgs false
set_option linter.unusedVariables false
namespace Go.Proofs.Ytbobbbhgdfapjaa
set_option maxHeartbeats 8000000
set_option maxRecDepth 100000
open Go.RowKit Tk
def bodyV (h : ExH) (n : Bool) (vs : List Bool) : Bool :=
 if h.op = 1 then n else if h.op = 2 then !vs.headD false else if h.op = 3 then vs.headD false && vs.getD 1 false else if h.op = 4 then vs.headD false || vs.getD 1 false else if h.op = 6 then vs.headD false == vs.getD 1 false else vs.headD false != vs.getD 1 false
mutual
def valE (l : List (ByteArray × Bool)) : Ex → Bool
 | .mk h k => bodyV h ((valB (firstN h.names) l).getD false) (valEs l k)
def valEs (l : List (ByteArray × Bool)) : List Ex → List Bool
 | [] => []
 | e :: r => valE l e :: valEs l r
end
theorem valE_eq (l : List (ByteArray × Bool)) (x : Ex) : valE l x = bodyV x.h ((valB (firstN x.h.names) l).getD false) (valEs l x.kids) := by cases x; rw [valE]; rfl
def b2i (b : Bool) : Int := if b = true then 1 else 0
theorem not_low (a : Bool) : bits .and .u64 (bits .xor .u64 IntKind.u64.max (b2i a)) 1 = b2i (!a) := by cases a <;> decide +kernel
theorem oper_low (k : Int) (a b : Bool) : bits .and .u64 (operW k (b2i a) (b2i b)) 1 = b2i (if k = 3 then a && b else if k = 4 then a || b else if k = 6 then a == b else a != b) := by
 unfold operW
 by_cases h3 : k = 3
 · rw [if_pos h3, if_pos h3]; cases a <;> cases b <;> decide +kernel
 rw [if_neg h3, if_neg h3]
 by_cases h4 : k = 4
 · rw [if_pos h4, if_pos h4]; cases a <;> cases b <;> decide +kernel
 rw [if_neg h4, if_neg h4]
 by_cases h6 : k = 6
 · rw [if_pos h6, if_pos h6]; cases a <;> cases b <;> decide +kernel
 rw [if_neg h6, if_neg h6]; cases a <;> cases b <;> decide +kernel
@[reducible] def ValOk (N : Nat) : Prop := ∀ (x : Ex) {w : World} {la : Option Addr} {ln lc : Nat} {l : List (ByteArray × Bool)}, RRow w 2 boC (.slice la ln lc) l → x.ok w → x.wf → x.sz < N → Calls Try.prog 26 #[.agg (exC x).toArray, .slice la ln lc] w (U64Post (b2i (valE l x)) w)
theorem bvalue_3 {N : Nat} (IH : Hid (ValOk N)) (x : Ex) {w : World} {la : Option Addr} {ln lc : Nat} {l : List (ByteArray × Bool)} (hl : RRow w 2 boC (.slice la ln lc) l) (hxo : x.ok w) (hwf : x.wf) (hz : x.sz < N + 1) (hop : x.h.op = 3) :
    Calls Try.prog 26 #[.agg (exC x).toArray, .slice la ln lc] w (U64Post (b2i (valE l x)) w) := by
 rw [Ex.sz_kids] at hz
 have ho : opn x.h.op = 2 := by rw [hop]; rfl
 have hk := hwf.kids
 rw [ho] at hk
 have n2 := (RRow.lens hxo.kids).2
 have hne1 : ¬ x.h.op = 1 := by rintro h; rw [h] at ho; exact absurd ho (by decide)
 have hne2 : ¬ x.h.op = 2 := by rintro h; rw [h] at ho; exact absurd ho (by decide)
 obtain ⟨a, b, hka⟩ : ∃ a b, x.kids = [a, b] := by
  have h8 : x.kids.length = 2 := by omega
  match hq : x.kids, h8 with
  | [a, b], _ => exact ⟨a, b, rfl⟩
 have ham : a ∈ x.kids := by rw [hka]; simp
 have hbm : b ∈ x.kids := by rw [hka]; simp
 have hao := hxo.subs.mem ham
 have haw := hwf.subs.mem ham
 have hbo := hxo.subs.mem hbm
 have hbw := hwf.subs.mem hbm
 have hs1 : Ex.szs x.kids = a.sz + b.sz := by rw [hka, Ex.szs, Ex.szs, Ex.szs]; rfl
 have has : a.sz < N := by omega
 have hbs : b.sz < N := by omega
 obtain ⟨va, hva⟩ : ∃ v, valE l a = v := ⟨_, rfl⟩
 obtain ⟨vb, hvb⟩ : ∃ v, valE l b = v := ⟨_, rfl⟩
 have hlt : 0 < x.kids.length := by omega
 have hlt1 : 1 < x.kids.length := by omega
 obtain ⟨g, o, hgo, hg, -⟩ := RRow.cells hxo.kids hlt
 have hkc : RRow w 10 exC (.slice (some ⟨g, o, none⟩) x.kids.length x.h.hk.c) x.kids := hgo ▸ hxo.kids
 have H0 : Hid (x.kids[0]? = some a) := Lib.hid (by rw [hka]; rfl)
 have H1 : Hid (x.kids[1]? = some b) := Lib.hid (by rw [hka]; rfl)
 have hV : b2i (valE l x) = bits .and .u64 (operW x.h.op (b2i va) (b2i vb)) 1 := by
  rw [oper_low, valE_eq, hka, ← hva, ← hvb]
  unfold bodyV
  rw [if_neg hne1, if_neg hne2]
  rfl
 rw [hV, hop, show operW 3 (b2i va) (b2i vb) = wAnd (b2i va) (b2i vb) from rfl]
 have HA := Lib.hid hva
 have HB := Lib.hid hvb
 have HKA := Lib.hid hka
 clear hva hvb hka hk hs1 hwf ham hbm hV ho hne1 hne2
 go_enter Try.func26, Try.ntmps26
 have E := Only.refl [] w
 go_upto_region 9999 with (first | ((first | ((with_reducible refine at_reg 9 ?_); (refine wp_region_x (id := 9) (spOf [(2, spVal (.func (.func 65) #[] #[])), (8, spVal (.int .u64 (b2i va))), (14, spVal (.int .u64 (b2i vb))), (16, spVal (.int .u64 (wAnd (b2i va) (b2i vb))))]) [0, 1, 3, 4, 5, 6, 7, 9, 10, 11, 12, 13, 2, 8, 14, 15, 16, 17, 18] [] [] mixed ?_ ?_); (· decide +kernel); intro K ws hx hK; dsimp only [pickE, pickL, List.getElem?_cons_succ, List.getElem?_cons_zero] at hK ⊢) | ((with_reducible refine at_dst 2 ?_); go_simp; (generalize hXn : Array.size (World.heap _) = X2); refine new_block hXn ?_; intro wn bb hx; have b2 := Loc.new bb E hXn; have zz := Nat.le_trans E.size (Nat.le_of_eq hXn); clear bb hXn)); (try replace E := E.ext hx); (try replace b2 := b2.ext hx); (try replace hcE := bcell E.low); (try replace c2 := b2.cf)) | ((with_reducible refine at_j 2 ?_); refine wpE_w (spVal (.func (.func 65) #[] #[])) _ rfl rfl ?_ rfl rfl (⟨_, rfl⟩) ?_ ?_; (· first | rfl | go_simp); (· intro wn hx K2 hK2; go_wp2_with fail; (first | ((with_reducible refine (boperator_any 3 _).mono ?_)) | ((have hc := boperator_any 3 _); (with_reducible refine hc.mono ?_); clear hc)); rintro e wn ⟨rfl, hx⟩; go_wp2_with fail; exact good_val hx); rintro v33 rfl; (try simp only [Act.put, actL])) | ((with_reducible refine at_j 8 ?_); refine wpE_w (spVal (.int .u64 (b2i va))) _ rfl rfl ?_ rfl rfl (⟨_, rfl⟩) ?_ ?_; (· first | rfl | go_simp); (· intro wn hx K2 hK2; (try replace E := E.ext hx); go_wp2_with fail; (first | ((with_reducible refine (IH.out a (RRow.ext hl E.low) (hao.ext E.low) haw has).mono ?_)) | ((have hc := IH.out a (RRow.ext hl E.low) (hao.ext E.low) haw has); (with_reducible refine hc.mono ?_); clear hc)); unfold U64Post; rw [HA.out]; rintro e wn ⟨rfl, hx⟩; go_wp2_with fail; exact good_val hx); rintro v39 rfl; (try simp only [Act.put, actL])) | ((with_reducible refine at_j 14 ?_); refine wpE_w (spVal (.int .u64 (b2i vb))) _ rfl rfl ?_ rfl rfl (⟨_, rfl⟩) ?_ ?_; (· first | rfl | go_simp); (· intro wn hx K2 hK2; (try replace E := E.ext hx); go_wp2_with fail; (first | ((with_reducible refine (IH.out b (RRow.ext hl E.low) (hbo.ext E.low) hbw hbs).mono ?_)) | ((have hc := IH.out b (RRow.ext hl E.low) (hbo.ext E.low) hbw hbs); (with_reducible refine hc.mono ?_); clear hc)); unfold U64Post; rw [HB.out]; rintro e wn ⟨rfl, hx⟩; go_wp2_with fail; exact good_val hx); rintro v45 rfl; (try simp only [Act.put, actL])) | ((with_reducible refine at_j 16 ?_); refine wpE_w (spVal (.int .u64 (wAnd (b2i va) (b2i vb)))) _ rfl rfl ?_ rfl rfl (⟨_, rfl⟩) ?_ ?_; (· first | rfl | go_simp); (· intro wn hx K2 hK2; go_wp2_with fail; (first | ((with_reducible refine (b6and_any (b2i va) (b2i vb) _).mono ?_)) | ((have hc := b6and_any (b2i va) (b2i vb) _); (with_reducible refine hc.mono ?_); clear hc)); unfold U64Post; rintro e wn ⟨rfl, hx⟩; go_wp2_with fail; exact good_val hx); rintro v47 rfl; (try simp only [Act.put, actL])) | ((with_reducible refine at_j 6 ?_); (with_reducible refine wpE_q ?_ ?_ ?_); rfl; rfl; intro wq hq K2 hK2; (refine wp_rec2 (RRow.ext ((RRow.ext hkc E.low)) hq) (H0.out) exC_len rfl rfl ?_ ?_ ?_); (· kernel_rfl); (· kernel_rfl); refine hK2 _ ?_; clear hK2; (try simp only [Act.put, actL])) | ((with_reducible refine at_j 12 ?_); (with_reducible refine wpE_q ?_ ?_ ?_); rfl; rfl; intro wq hq K2 hK2; (refine wp_rec2 (RRow.ext ((RRow.ext hkc E.low)) hq) (H1.out) exC_len rfl rfl ?_ ?_ ?_); (· kernel_rfl); (· kernel_rfl); refine hK2 _ ?_; clear hK2; (try simp only [Act.put, actL])) | ((with_reducible refine wpE_q ?_ ?_ ?_); rfl; rfl; intro wq hq _ _; (try replace hcE := bcell (E.ext hq).low); (try replace c2 := (b2.ext hq).cf)) | ((with_reducible refine at_nil 0 ?_); refine wpE_nil (fun wn hx hΦ hfp hdis => ?_); (try replace E := E.ext hx); (try replace b2 := b2.ext hx); (try replace hcE := bcell E.low); (try replace c2 := b2.cf); clear hΦ hfp hdis; refine hK _ _ ?_; clear hK) | (with_reducible refine wpTxt_nil ?_))
 go_ret
 exact ⟨rfl, E.low⟩
theorem bvalue_4 {N : Nat} (IH : Hid (ValOk N)) (x : Ex) {w : World} {la : Option Addr} {ln lc : Nat} {l : List (ByteArray × Bool)} (hl : RRow w 2 boC (.slice la ln lc) l) (hxo : x.ok w) (hwf : x.wf) (hz : x.sz < N + 1) (hop : x.h.op = 4) :
    Calls Try.prog 26 #[.agg (exC x).toArray, .slice la ln lc] w (U64Post (b2i (valE l x)) w) := by
 rw [Ex.sz_kids] at hz
 have ho : opn x.h.op = 2 := by rw [hop]; rfl
 have hk := hwf.kids
 rw [ho] at hk
 have n2 := (RRow.lens hxo.kids).2
 have hne1 : ¬ x.h.op = 1 := by rintro h; rw [h] at ho; exact absurd ho (by decide)
 have hne2 : ¬ x.h.op = 2 := by rintro h; rw [h] at ho; exact absurd ho (by decide)
 obtain ⟨a, b, hka⟩ : ∃ a b, x.kids = [a, b] := by
  have h8 : x.kids.length = 2 := by omega
  match hq : x.kids, h8 with
  | [a, b], _ => exact ⟨a, b, rfl⟩
 have ham : a ∈ x.kids := by rw [hka]; simp
 have hbm : b ∈ x.kids := by rw [hka]; simp
 have hao := hxo.subs.mem ham
 have haw := hwf.subs.mem ham
 have hbo := hxo.subs.mem hbm
 have hbw := hwf.subs.mem hbm
 have hs1 : Ex.szs x.kids = a.sz + b.sz := by rw [hka, Ex.szs, Ex.szs, Ex.szs]; rfl
 have has : a.sz < N := by omega
 have hbs : b.sz < N := by omega
 obtain ⟨va, hva⟩ : ∃ v, valE l a = v := ⟨_, rfl⟩
 obtain ⟨vb, hvb⟩ : ∃ v, valE l b = v := ⟨_, rfl⟩
 have hlt : 0 < x.kids.length := by omega
 have hlt1 : 1 < x.kids.length := by omega
 obtain ⟨g, o, hgo, hg, -⟩ := RRow.cells hxo.kids hlt
 have hkc : RRow w 10 exC (.slice (some ⟨g, o, none⟩) x.kids.length x.h.hk.c) x.kids := hgo ▸ hxo.kids
 have H0 : Hid (x.kids[0]? = some a) := Lib.hid (by rw [hka]; rfl)
 have H1 : Hid (x.kids[1]? = some b) := Lib.hid (by rw [hka]; rfl)
 have hV : b2i (valE l x) = bits .and .u64 (operW x.h.op (b2i va) (b2i vb)) 1 := by
  rw [oper_low, valE_eq, hka, ← hva, ← hvb]
  unfold bodyV
  rw [if_neg hne1, if_neg hne2]
  rfl
 rw [hV, hop, show operW 4 (b2i va) (b2i vb) = wOr (b2i va) (b2i vb) from rfl]
 have HA := Lib.hid hva
 have HB := Lib.hid hvb
 have HKA := Lib.hid hka
 clear hva hvb hka hk hs1 hwf ham hbm hV ho hne1 hne2
 go_enter Try.func26, Try.ntmps26
 have E := Only.refl [] w
 go_upto_region 9999 with (first | ((first | ((with_reducible refine at_reg 9 ?_); (refine wp_region_x (id := 9) (spOf [(2, spVal (.func (.func 66) #[] #[])), (8, spVal (.int .u64 (b2i va))), (14, spVal (.int .u64 (b2i vb))), (16, spVal (.int .u64 (wOr (b2i va) (b2i vb))))]) [0, 1, 3, 4, 5, 6, 7, 9, 10, 11, 12, 13, 2, 8, 14, 15, 16, 17, 18] [] [] mixed ?_ ?_); (· decide +kernel); intro K ws hx hK; dsimp only [pickE, pickL, List.getElem?_cons_succ, List.getElem?_cons_zero] at hK ⊢) | ((with_reducible refine at_dst 2 ?_); go_simp; (generalize hXn : Array.size (World.heap _) = X2); refine new_block hXn ?_; intro wn bb hx; have b2 := Loc.new bb E hXn; have zz := Nat.le_trans E.size (Nat.le_of_eq hXn); clear bb hXn)); (try replace E := E.ext hx); (try replace b2 := b2.ext hx); (try replace hcE := bcell E.low); (try replace c2 := b2.cf)) | ((with_reducible refine at_j 2 ?_); refine wpE_w (spVal (.func (.func 66) #[] #[])) _ rfl rfl ?_ rfl rfl (⟨_, rfl⟩) ?_ ?_; (· first | rfl | go_simp); (· intro wn hx K2 hK2; go_wp2_with fail; (first | ((with_reducible refine (boperator_any 4 _).mono ?_)) | ((have hc := boperator_any 4 _); (with_reducible refine hc.mono ?_); clear hc)); rintro e wn ⟨rfl, hx⟩; go_wp2_with fail; exact good_val hx); rintro v33 rfl; (try simp only [Act.put, actL])) | ((with_reducible refine at_j 8 ?_); refine wpE_w (spVal (.int .u64 (b2i va))) _ rfl rfl ?_ rfl rfl (⟨_, rfl⟩) ?_ ?_; (· first | rfl | go_simp); (· intro wn hx K2 hK2; (try replace E := E.ext hx); go_wp2_with fail; (first | ((with_reducible refine (IH.out a (RRow.ext hl E.low) (hao.ext E.low) haw has).mono ?_)) | ((have hc := IH.out a (RRow.ext hl E.low) (hao.ext E.low) haw has); (with_reducible refine hc.mono ?_); clear hc)); unfold U64Post; rw [HA.out]; rintro e wn ⟨rfl, hx⟩; go_wp2_with fail; exact good_val hx); rintro v39 rfl; (try simp only [Act.put, actL])) | ((with_reducible refine at_j 14 ?_); refine wpE_w (spVal (.int .u64 (b2i vb))) _ rfl rfl ?_ rfl rfl (⟨_, rfl⟩) ?_ ?_; (· first | rfl | go_simp); (· intro wn hx K2 hK2; (try replace E := E.ext hx); go_wp2_with fail; (first | ((with_reducible refine (IH.out b (RRow.ext hl E.low) (hbo.ext E.low) hbw hbs).mono ?_)) | ((have hc := IH.out b (RRow.ext hl E.low) (hbo.ext E.low) hbw hbs); (with_reducible refine hc.mono ?_); clear hc)); unfold U64Post; rw [HB.out]; rintro e wn ⟨rfl, hx⟩; go_wp2_with fail; exact good_val hx); rintro v45 rfl; (try simp only [Act.put, actL])) | ((with_reducible refine at_j 16 ?_); refine wpE_w (spVal (.int .u64 (wOr (b2i va) (b2i vb)))) _ rfl rfl ?_ rfl rfl (⟨_, rfl⟩) ?_ ?_; (· first | rfl | go_simp); (· intro wn hx K2 hK2; go_wp2_with fail; (first | ((with_reducible refine (b6or_any (b2i va) (b2i vb) _).mono ?_)) | ((have hc := b6or_any (b2i va) (b2i vb) _); (with_reducible refine hc.mono ?_); clear hc)); unfold U64Post; rintro e wn ⟨rfl, hx⟩; go_wp2_with fail; exact good_val hx); rintro v47 rfl; (try simp only [Act.put, actL])) | ((with_reducible refine at_j 6 ?_); (with_reducible refine wpE_q ?_ ?_ ?_); rfl; rfl; intro wq hq K2 hK2; (refine wp_rec2 (RRow.ext ((RRow.ext hkc E.low)) hq) (H0.out) exC_len rfl rfl ?_ ?_ ?_); (· kernel_rfl); (· kernel_rfl); refine hK2 _ ?_; clear hK2; (try simp only [Act.put, actL])) | ((with_reducible refine at_j 12 ?_); (with_reducible refine wpE_q ?_ ?_ ?_); rfl; rfl; intro wq hq K2 hK2; (refine wp_rec2 (RRow.ext ((RRow.ext hkc E.low)) hq) (H1.out) exC_len rfl rfl ?_ ?_ ?_); (· kernel_rfl); (· kernel_rfl); refine hK2 _ ?_; clear hK2; (try simp only [Act.put, actL])) | ((with_reducible refine wpE_q ?_ ?_ ?_); rfl; rfl; intro wq hq _ _; (try replace hcE := bcell (E.ext hq).low); (try replace c2 := (b2.ext hq).cf)) | ((with_reducible refine at_nil 0 ?_); refine wpE_nil (fun wn hx hΦ hfp hdis => ?_); (try replace E := E.ext hx); (try replace b2 := b2.ext hx); (try replace hcE := bcell E.low); (try replace c2 := b2.cf); clear hΦ hfp hdis; refine hK _ _ ?_; clear hK) | (with_reducible refine wpTxt_nil ?_))
 go_ret
 exact ⟨rfl, E.low⟩
theorem bvalue_5 {N : Nat} (IH : Hid (ValOk N)) (x : Ex) {w : World} {la : Option Addr} {ln lc : Nat} {l : List (ByteArray × Bool)} (hl : RRow w 2 boC (.slice la ln lc) l) (hxo : x.ok w) (hwf : x.wf) (hz : x.sz < N + 1) (hop : x.h.op = 5) :
    Calls Try.prog 26 #[.agg (exC x).toArray, .slice la ln lc] w (U64Post (b2i (valE l x)) w) := by
 rw [Ex.sz_kids] at hz
 have ho : opn x.h.op = 2 := by rw [hop]; rfl
 have hk := hwf.kids
 rw [ho] at hk
 have n2 := (RRow.lens hxo.kids).2
 have hne1 : ¬ x.h.op = 1 := by rintro h; rw [h] at ho; exact absurd ho (by decide)
 have hne2 : ¬ x.h.op = 2 := by rintro h; rw [h] at ho; exact absurd ho (by decide)
 obtain ⟨a, b, hka⟩ : ∃ a b, x.kids = [a, b] := by
  have h8 : x.kids.length = 2 := by omega
  match hq : x.kids, h8 with
  | [a, b], _ => exact ⟨a, b, rfl⟩
 have ham : a ∈ x.kids := by rw [hka]; simp
 have hbm : b ∈ x.kids := by rw [hka]; simp
 have hao := hxo.subs.mem ham
 have haw := hwf.subs.mem ham
 have hbo := hxo.subs.mem hbm
 have hbw := hwf.subs.mem hbm
 have hs1 : Ex.szs x.kids = a.sz + b.sz := by rw [hka, Ex.szs, Ex.szs, Ex.szs]; rfl
 have has : a.sz < N := by omega
 have hbs : b.sz < N := by omega
 obtain ⟨va, hva⟩ : ∃ v, valE l a = v := ⟨_, rfl⟩
 obtain ⟨vb, hvb⟩ : ∃ v, valE l b = v := ⟨_, rfl⟩
 have hlt : 0 < x.kids.length := by omega
 have hlt1 : 1 < x.kids.length := by omega
 obtain ⟨g, o, hgo, hg, -⟩ := RRow.cells hxo.kids hlt
 have hkc : RRow w 10 exC (.slice (some ⟨g, o, none⟩) x.kids.length x.h.hk.c) x.kids := hgo ▸ hxo.kids
 have H0 : Hid (x.kids[0]? = some a) := Lib.hid (by rw [hka]; rfl)
 have H1 : Hid (x.kids[1]? = some b) := Lib.hid (by rw [hka]; rfl)
 have hV : b2i (valE l x) = bits .and .u64 (operW x.h.op (b2i va) (b2i vb)) 1 := by
  rw [oper_low, valE_eq, hka, ← hva, ← hvb]
  unfold bodyV
  rw [if_neg hne1, if_neg hne2]
  rfl
 rw [hV, hop, show operW 5 (b2i va) (b2i vb) = wXor (b2i va) (b2i vb) from rfl]
 have HA := Lib.hid hva
 have HB := Lib.hid hvb
 have HKA := Lib.hid hka
 clear hva hvb hka hk hs1 hwf ham hbm hV ho hne1 hne2
 go_enter Try.func26, Try.ntmps26
 have E := Only.refl [] w
 go_upto_region 9999 with (first | ((first | ((with_reducible refine at_reg 9 ?_); (refine wp_region_x (id := 9) (spOf [(2, spVal (.func (.func 68) #[] #[])), (8, spVal (.int .u64 (b2i va))), (14, spVal (.int .u64 (b2i vb))), (16, spVal (.int .u64 (wXor (b2i va) (b2i vb))))]) [0, 1, 3, 4, 5, 6, 7, 9, 10, 11, 12, 13, 2, 8, 14, 15, 16, 17, 18] [] [] mixed ?_ ?_); (· decide +kernel); intro K ws hx hK; dsimp only [pickE, pickL, List.getElem?_cons_succ, List.getElem?_cons_zero] at hK ⊢) | ((with_reducible refine at_dst 2 ?_); go_simp; (generalize hXn : Array.size (World.heap _) = X2); refine new_block hXn ?_; intro wn bb hx; have b2 := Loc.new bb E hXn; have zz := Nat.le_trans E.size (Nat.le_of_eq hXn); clear bb hXn)); (try replace E := E.ext hx); (try replace b2 := b2.ext hx); (try replace hcE := bcell E.low); (try replace c2 := b2.cf)) | ((with_reducible refine at_j 2 ?_); refine wpE_w (spVal (.func (.func 68) #[] #[])) _ rfl rfl ?_ rfl rfl (⟨_, rfl⟩) ?_ ?_; (· first | rfl | go_simp); (· intro wn hx K2 hK2; go_wp2_with fail; (first | ((with_reducible refine (boperator_any 5 _).mono ?_)) | ((have hc := boperator_any 5 _); (with_reducible refine hc.mono ?_); clear hc)); rintro e wn ⟨rfl, hx⟩; go_wp2_with fail; exact good_val hx); rintro v33 rfl; (try simp only [Act.put, actL])) | ((with_reducible refine at_j 8 ?_); refine wpE_w (spVal (.int .u64 (b2i va))) _ rfl rfl ?_ rfl rfl (⟨_, rfl⟩) ?_ ?_; (· first | rfl | go_simp); (· intro wn hx K2 hK2; (try replace E := E.ext hx); go_wp2_with fail; (first | ((with_reducible refine (IH.out a (RRow.ext hl E.low) (hao.ext E.low) haw has).mono ?_)) | ((have hc := IH.out a (RRow.ext hl E.low) (hao.ext E.low) haw has); (with_reducible refine hc.mono ?_); clear hc)); unfold U64Post; rw [HA.out]; rintro e wn ⟨rfl, hx⟩; go_wp2_with fail; exact good_val hx); rintro v39 rfl; (try simp only [Act.put, actL])) | ((with_reducible refine at_j 14 ?_); refine wpE_w (spVal (.int .u64 (b2i vb))) _ rfl rfl ?_ rfl rfl (⟨_, rfl⟩) ?_ ?_; (· first | rfl | go_simp); (· intro wn hx K2 hK2; (try replace E := E.ext hx); go_wp2_with fail; (first | ((with_reducible refine (IH.out b (RRow.ext hl E.low) (hbo.ext E.low) hbw hbs).mono ?_)) | ((have hc := IH.out b (RRow.ext hl E.low) (hbo.ext E.low) hbw hbs); (with_reducible refine hc.mono ?_); clear hc)); unfold U64Post; rw [HB.out]; rintro e wn ⟨rfl, hx⟩; go_wp2_with fail; exact good_val hx); rintro v45 rfl; (try simp only [Act.put, actL])) | ((with_reducible refine at_j 16 ?_); refine wpE_w (spVal (.int .u64 (wXor (b2i va) (b2i vb)))) _ rfl rfl ?_ rfl rfl (⟨_, rfl⟩) ?_ ?_; (· first | rfl | go_simp); (· intro wn hx K2 hK2; go_wp2_with fail; (first | ((with_reducible refine (b6differ_any (b2i va) (b2i vb) _).mono ?_)) | ((have hc := b6differ_any (b2i va) (b2i vb) _); (with_reducible refine hc.mono ?_); clear hc)); unfold U64Post; rintro e wn ⟨rfl, hx⟩; go_wp2_with fail; exact good_val hx); rintro v47 rfl; (try simp only [Act.put, actL])) | ((with_reducible refine at_j 6 ?_); (with_reducible refine wpE_q ?_ ?_ ?_); rfl; rfl; intro wq hq K2 hK2; (refine wp_rec2 (RRow.ext ((RRow.ext hkc E.low)) hq) (H0.out) exC_len rfl rfl ?_ ?_ ?_); (· kernel_rfl); (· kernel_rfl); refine hK2 _ ?_; clear hK2; (try simp only [Act.put, actL])) | ((with_reducible refine at_j 12 ?_); (with_reducible refine wpE_q ?_ ?_ ?_); rfl; rfl; intro wq hq K2 hK2; (refine wp_rec2 (RRow.ext ((RRow.ext hkc E.low)) hq) (H1.out) exC_len rfl rfl ?_ ?_ ?_); (· kernel_rfl); (· kernel_rfl); refine hK2 _ ?_; clear hK2; (try simp only [Act.put, actL])) | ((with_reducible refine wpE_q ?_ ?_ ?_); rfl; rfl; intro wq hq _ _; (try replace hcE := bcell (E.ext hq).low); (try replace c2 := (b2.ext hq).cf)) | ((with_reducible refine at_nil 0 ?_); refine wpE_nil (fun wn hx hΦ hfp hdis => ?_); (try replace E := E.ext hx); (try replace b2 := b2.ext hx); (try replace hcE := bcell E.low); (try replace c2 := b2.cf); clear hΦ hfp hdis; refine hK _ _ ?_; clear hK) | (with_reducible refine wpTxt_nil ?_))
 go_ret
 exact ⟨rfl, E.low⟩
theorem bvalue_6 {N : Nat} (IH : Hid (ValOk N)) (x : Ex) {w : World} {la : Option Addr} {ln lc : Nat} {l : List (ByteArray × Bool)} (hl : RRow w 2 boC (.slice la ln lc) l) (hxo : x.ok w) (hwf : x.wf) (hz : x.sz < N + 1) (hop : x.h.op = 6) :
    Calls Try.prog 26 #[.agg (exC x).toArray, .slice la ln lc] w (U64Post (b2i (valE l x)) w) := by
 rw [Ex.sz_kids] at hz
 have ho : opn x.h.op = 2 := by rw [hop]; rfl
 have hk := hwf.kids
 rw [ho] at hk
 have n2 := (RRow.lens hxo.kids).2
 have hne1 : ¬ x.h.op = 1 := by rintro h; rw [h] at ho; exact absurd ho (by decide)
 have hne2 : ¬ x.h.op = 2 := by rintro h; rw [h] at ho; exact absurd ho (by decide)
 obtain ⟨a, b, hka⟩ : ∃ a b, x.kids = [a, b] := by
  have h8 : x.kids.length = 2 := by omega
  match hq : x.kids, h8 with
  | [a, b], _ => exact ⟨a, b, rfl⟩
 have ham : a ∈ x.kids := by rw [hka]; simp
 have hbm : b ∈ x.kids := by rw [hka]; simp
 have hao := hxo.subs.mem ham
 have haw := hwf.subs.mem ham
 have hbo := hxo.subs.mem hbm
 have hbw := hwf.subs.mem hbm
 have hs1 : Ex.szs x.kids = a.sz + b.sz := by rw [hka, Ex.szs, Ex.szs, Ex.szs]; rfl
 have has : a.sz < N := by omega
 have hbs : b.sz < N := by omega
 obtain ⟨va, hva⟩ : ∃ v, valE l a = v := ⟨_, rfl⟩
 obtain ⟨vb, hvb⟩ : ∃ v, valE l b = v := ⟨_, rfl⟩
 have hlt : 0 < x.kids.length := by omega
 have hlt1 : 1 < x.kids.length := by omega
 obtain ⟨g, o, hgo, hg, -⟩ := RRow.cells hxo.kids hlt
 have hkc : RRow w 10 exC (.slice (some ⟨g, o, none⟩) x.kids.length x.h.hk.c) x.kids := hgo ▸ hxo.kids
 have H0 : Hid (x.kids[0]? = some a) := Lib.hid (by rw [hka]; rfl)
 have H1 : Hid (x.kids[1]? = some b) := Lib.hid (by rw [hka]; rfl)
 have hV : b2i (valE l x) = bits .and .u64 (operW x.h.op (b2i va) (b2i vb)) 1 := by
  rw [oper_low, valE_eq, hka, ← hva, ← hvb]
  unfold bodyV
  rw [if_neg hne1, if_neg hne2]
  rfl
 rw [hV, hop, show operW 6 (b2i va) (b2i vb) = wSame (b2i va) (b2i vb) from rfl]
 have HA := Lib.hid hva
 have HB := Lib.hid hvb
 have HKA := Lib.hid hka
 clear hva hvb hka hk hs1 hwf ham hbm hV ho hne1 hne2
 go_enter Try.func26, Try.ntmps26
 have E := Only.refl [] w
 go_upto_region 9999 with (first | ((first | ((with_reducible refine at_reg 9 ?_); (refine wp_region_x (id := 9) (spOf [(2, spVal (.func (.func 67) #[] #[])), (8, spVal (.int .u64 (b2i va))), (14, spVal (.int .u64 (b2i vb))), (16, spVal (.int .u64 (wSame (b2i va) (b2i vb))))]) [0, 1, 3, 4, 5, 6, 7, 9, 10, 11, 12, 13, 2, 8, 14, 15, 16, 17, 18] [] [] mixed ?_ ?_); (· decide +kernel); intro K ws hx hK; dsimp only [pickE, pickL, List.getElem?_cons_succ, List.getElem?_cons_zero] at hK ⊢) | ((with_reducible refine at_dst 2 ?_); go_simp; (generalize hXn : Array.size (World.heap _) = X2); refine new_block hXn ?_; intro wn bb hx; have b2 := Loc.new bb E hXn; have zz := Nat.le_trans E.size (Nat.le_of_eq hXn); clear bb hXn)); (try replace E := E.ext hx); (try replace b2 := b2.ext hx); (try replace hcE := bcell E.low); (try replace c2 := b2.cf)) | ((with_reducible refine at_j 2 ?_); refine wpE_w (spVal (.func (.func 67) #[] #[])) _ rfl rfl ?_ rfl rfl (⟨_, rfl⟩) ?_ ?_; (· first | rfl | go_simp); (· intro wn hx K2 hK2; go_wp2_with fail; (first | ((with_reducible refine (boperator_any 6 _).mono ?_)) | ((have hc := boperator_any 6 _); (with_reducible refine hc.mono ?_); clear hc)); rintro e wn ⟨rfl, hx⟩; go_wp2_with fail; exact good_val hx); rintro v33 rfl; (try simp only [Act.put, actL])) | ((with_reducible refine at_j 8 ?_); refine wpE_w (spVal (.int .u64 (b2i va))) _ rfl rfl ?_ rfl rfl (⟨_, rfl⟩) ?_ ?_; (· first | rfl | go_simp); (· intro wn hx K2 hK2; (try replace E := E.ext hx); go_wp2_with fail; (first | ((with_reducible refine (IH.out a (RRow.ext hl E.low) (hao.ext E.low) haw has).mono ?_)) | ((have hc := IH.out a (RRow.ext hl E.low) (hao.ext E.low) haw has); (with_reducible refine hc.mono ?_); clear hc)); unfold U64Post; rw [HA.out]; rintro e wn ⟨rfl, hx⟩; go_wp2_with fail; exact good_val hx); rintro v39 rfl; (try simp only [Act.put, actL])) | ((with_reducible refine at_j 14 ?_); refine wpE_w (spVal (.int .u64 (b2i vb))) _ rfl rfl ?_ rfl rfl (⟨_, rfl⟩) ?_ ?_; (· first | rfl | go_simp); (· intro wn hx K2 hK2; (try replace E := E.ext hx); go_wp2_with fail; (first | ((with_reducible refine (IH.out b (RRow.ext hl E.low) (hbo.ext E.low) hbw hbs).mono ?_)) | ((have hc := IH.out b (RRow.ext hl E.low) (hbo.ext E.low) hbw hbs); (with_reducible refine hc.mono ?_); clear hc)); unfold U64Post; rw [HB.out]; rintro e wn ⟨rfl, hx⟩; go_wp2_with fail; exact good_val hx); rintro v45 rfl; (try simp only [Act.put, actL])) | ((with_reducible refine at_j 16 ?_); refine wpE_w (spVal (.int .u64 (wSame (b2i va) (b2i vb)))) _ rfl rfl ?_ rfl rfl (⟨_, rfl⟩) ?_ ?_; (· first | rfl | go_simp); (· intro wn hx K2 hK2; go_wp2_with fail; (first | ((with_reducible refine (b6same_any (b2i va) (b2i vb) _).mono ?_)) | ((have hc := b6same_any (b2i va) (b2i vb) _); (with_reducible refine hc.mono ?_); clear hc)); unfold U64Post; rintro e wn ⟨rfl, hx⟩; go_wp2_with fail; exact good_val hx); rintro v47 rfl; (try simp only [Act.put, actL])) | ((with_reducible refine at_j 6 ?_); (with_reducible refine wpE_q ?_ ?_ ?_); rfl; rfl; intro wq hq K2 hK2; (refine wp_rec2 (RRow.ext ((RRow.ext hkc E.low)) hq) (H0.out) exC_len rfl rfl ?_ ?_ ?_); (· kernel_rfl); (· kernel_rfl); refine hK2 _ ?_; clear hK2; (try simp only [Act.put, actL])) | ((with_reducible refine at_j 12 ?_); (with_reducible refine wpE_q ?_ ?_ ?_); rfl; rfl; intro wq hq K2 hK2; (refine wp_rec2 (RRow.ext ((RRow.ext hkc E.low)) hq) (H1.out) exC_len rfl rfl ?_ ?_ ?_); (· kernel_rfl); (· kernel_rfl); refine hK2 _ ?_; clear hK2; (try simp only [Act.put, actL])) | ((with_reducible refine wpE_q ?_ ?_ ?_); rfl; rfl; intro wq hq _ _; (try replace hcE := bcell (E.ext hq).low); (try replace c2 := (b2.ext hq).cf)) | ((with_reducible refine at_nil 0 ?_); refine wpE_nil (fun wn hx hΦ hfp hdis => ?_); (try replace E := E.ext hx); (try replace b2 := b2.ext hx); (try replace hcE := bcell E.low); (try replace c2 := b2.cf); clear hΦ hfp hdis; refine hK _ _ ?_; clear hK) | (with_reducible refine wpTxt_nil ?_))
 go_ret
 exact ⟨rfl, E.low⟩
theorem bvalue_7 {N : Nat} (IH : Hid (ValOk N)) (x : Ex) {w : World} {la : Option Addr} {ln lc : Nat} {l : List (ByteArray × Bool)} (hl : RRow w 2 boC (.slice la ln lc) l) (hxo : x.ok w) (hwf : x.wf) (hz : x.sz < N + 1) (hop : x.h.op = 7) :
    Calls Try.prog 26 #[.agg (exC x).toArray, .slice la ln lc] w (U64Post (b2i (valE l x)) w) := by
 rw [Ex.sz_kids] at hz
 have ho : opn x.h.op = 2 := by rw [hop]; rfl
 have hk := hwf.kids
 rw [ho] at hk
 have n2 := (RRow.lens hxo.kids).2
 have hne1 : ¬ x.h.op = 1 := by rintro h; rw [h] at ho; exact absurd ho (by decide)
 have hne2 : ¬ x.h.op = 2 := by rintro h; rw [h] at ho; exact absurd ho (by decide)
 obtain ⟨a, b, hka⟩ : ∃ a b, x.kids = [a, b] := by
  have h8 : x.kids.length = 2 := by omega
  match hq : x.kids, h8 with
  | [a, b], _ => exact ⟨a, b, rfl⟩
 have ham : a ∈ x.kids := by rw [hka]; simp
 have hbm : b ∈ x.kids := by rw [hka]; simp
 have hao := hxo.subs.mem ham
 have haw := hwf.subs.mem ham
 have hbo := hxo.subs.mem hbm
 have hbw := hwf.subs.mem hbm
 have hs1 : Ex.szs x.kids = a.sz + b.sz := by rw [hka, Ex.szs, Ex.szs, Ex.szs]; rfl
 have has : a.sz < N := by omega
 have hbs : b.sz < N := by omega
 obtain ⟨va, hva⟩ : ∃ v, valE l a = v := ⟨_, rfl⟩
 obtain ⟨vb, hvb⟩ : ∃ v, valE l b = v := ⟨_, rfl⟩
 have hlt : 0 < x.kids.length := by omega
 have hlt1 : 1 < x.kids.length := by omega
 obtain ⟨g, o, hgo, hg, -⟩ := RRow.cells hxo.kids hlt
 have hkc : RRow w 10 exC (.slice (some ⟨g, o, none⟩) x.kids.length x.h.hk.c) x.kids := hgo ▸ hxo.kids
 have H0 : Hid (x.kids[0]? = some a) := Lib.hid (by rw [hka]; rfl)
 have H1 : Hid (x.kids[1]? = some b) := Lib.hid (by rw [hka]; rfl)
 have hV : b2i (valE l x) = bits .and .u64 (operW x.h.op (b2i va) (b2i vb)) 1 := by
  rw [oper_low, valE_eq, hka, ← hva, ← hvb]
  unfold bodyV
  rw [if_neg hne1, if_neg hne2]
  rfl
 rw [hV, hop, show operW 7 (b2i va) (b2i vb) = wXor (b2i va) (b2i vb) from rfl]
 have HA := Lib.hid hva
 have HB := Lib.hid hvb
 have HKA := Lib.hid hka
 clear hva hvb hka hk hs1 hwf ham hbm hV ho hne1 hne2
 go_enter Try.func26, Try.ntmps26
 have E := Only.refl [] w
 go_upto_region 9999 with (first | ((first | ((with_reducible refine at_reg 9 ?_); (refine wp_region_x (id := 9) (spOf [(2, spVal (.func (.func 68) #[] #[])), (8, spVal (.int .u64 (b2i va))), (14, spVal (.int .u64 (b2i vb))), (16, spVal (.int .u64 (wXor (b2i va) (b2i vb))))]) [0, 1, 3, 4, 5, 6, 7, 9, 10, 11, 12, 13, 2, 8, 14, 15, 16, 17, 18] [] [] mixed ?_ ?_); (· decide +kernel); intro K ws hx hK; dsimp only [pickE, pickL, List.getElem?_cons_succ, List.getElem?_cons_zero] at hK ⊢) | ((with_reducible refine at_dst 2 ?_); go_simp; (generalize hXn : Array.size (World.heap _) = X2); refine new_block hXn ?_; intro wn bb hx; have b2 := Loc.new bb E hXn; have zz := Nat.le_trans E.size (Nat.le_of_eq hXn); clear bb hXn)); (try replace E := E.ext hx); (try replace b2 := b2.ext hx); (try replace hcE := bcell E.low); (try replace c2 := b2.cf)) | ((with_reducible refine at_j 2 ?_); refine wpE_w (spVal (.func (.func 68) #[] #[])) _ rfl rfl ?_ rfl rfl (⟨_, rfl⟩) ?_ ?_; (· first | rfl | go_simp); (· intro wn hx K2 hK2; go_wp2_with fail; (first | ((with_reducible refine (boperator_any 7 _).mono ?_)) | ((have hc := boperator_any 7 _); (with_reducible refine hc.mono ?_); clear hc)); rintro e wn ⟨rfl, hx⟩; go_wp2_with fail; exact good_val hx); rintro v33 rfl; (try simp only [Act.put, actL])) | ((with_reducible refine at_j 8 ?_); refine wpE_w (spVal (.int .u64 (b2i va))) _ rfl rfl ?_ rfl rfl (⟨_, rfl⟩) ?_ ?_; (· first | rfl | go_simp); (· intro wn hx K2 hK2; (try replace E := E.ext hx); go_wp2_with fail; (first | ((with_reducible refine (IH.out a (RRow.ext hl E.low) (hao.ext E.low) haw has).mono ?_)) | ((have hc := IH.out a (RRow.ext hl E.low) (hao.ext E.low) haw has); (with_reducible refine hc.mono ?_); clear hc)); unfold U64Post; rw [HA.out]; rintro e wn ⟨rfl, hx⟩; go_wp2_with fail; exact good_val hx); rintro v39 rfl; (try simp only [Act.put, actL])) | ((with_reducible refine at_j 14 ?_); refine wpE_w (spVal (.int .u64 (b2i vb))) _ rfl rfl ?_ rfl rfl (⟨_, rfl⟩) ?_ ?_; (· first | rfl | go_simp); (· intro wn hx K2 hK2; (try replace E := E.ext hx); go_wp2_with fail; (first | ((with_reducible refine (IH.out b (RRow.ext hl E.low) (hbo.ext E.low) hbw hbs).mono ?_)) | ((have hc := IH.out b (RRow.ext hl E.low) (hbo.ext E.low) hbw hbs); (with_reducible refine hc.mono ?_); clear hc)); unfold U64Post; rw [HB.out]; rintro e wn ⟨rfl, hx⟩; go_wp2_with fail; exact good_val hx); rintro v45 rfl; (try simp only [Act.put, actL])) | ((with_reducible refine at_j 16 ?_); refine wpE_w (spVal (.int .u64 (wXor (b2i va) (b2i vb)))) _ rfl rfl ?_ rfl rfl (⟨_, rfl⟩) ?_ ?_; (· first | rfl | go_simp); (· intro wn hx K2 hK2; go_wp2_with fail; (first | ((with_reducible refine (b6differ_any (b2i va) (b2i vb) _).mono ?_)) | ((have hc := b6differ_any (b2i va) (b2i vb) _); (with_reducible refine hc.mono ?_); clear hc)); unfold U64Post; rintro e wn ⟨rfl, hx⟩; go_wp2_with fail; exact good_val hx); rintro v47 rfl; (try simp only [Act.put, actL])) | ((with_reducible refine at_j 6 ?_); (with_reducible refine wpE_q ?_ ?_ ?_); rfl; rfl; intro wq hq K2 hK2; (refine wp_rec2 (RRow.ext ((RRow.ext hkc E.low)) hq) (H0.out) exC_len rfl rfl ?_ ?_ ?_); (· kernel_rfl); (· kernel_rfl); refine hK2 _ ?_; clear hK2; (try simp only [Act.put, actL])) | ((with_reducible refine at_j 12 ?_); (with_reducible refine wpE_q ?_ ?_ ?_); rfl; rfl; intro wq hq K2 hK2; (refine wp_rec2 (RRow.ext ((RRow.ext hkc E.low)) hq) (H1.out) exC_len rfl rfl ?_ ?_ ?_); (· kernel_rfl); (· kernel_rfl); refine hK2 _ ?_; clear hK2; (try simp only [Act.put, actL])) | ((with_reducible refine wpE_q ?_ ?_ ?_); rfl; rfl; intro wq hq _ _; (try replace hcE := bcell (E.ext hq).low); (try replace c2 := (b2.ext hq).cf)) | ((with_reducible refine at_nil 0 ?_); refine wpE_nil (fun wn hx hΦ hfp hdis => ?_); (try replace E := E.ext hx); (try replace b2 := b2.ext hx); (try replace hcE := bcell E.low); (try replace c2 := b2.cf); clear hΦ hfp hdis; refine hK _ _ ?_; clear hK) | (with_reducible refine wpTxt_nil ?_))
 go_ret
 exact ⟨rfl, E.low⟩
end Go.Proofs.Ytbobbbhgdfapjaa
