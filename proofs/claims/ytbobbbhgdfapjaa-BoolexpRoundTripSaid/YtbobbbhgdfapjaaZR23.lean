/- I7 -/
import Derived.Test.YtbobbbhgdfapjaaZR1
import Derived.Test.YtbobbbhgdfapjaaZR2
import Derived.Test.YtbobbbhgdfapjaaZR3
import Derived.Test.YtbobbbhgdfapjaaZR4
import Derived.Test.YtbobbbhgdfapjaaZR5
import Derived.Test.YtbobbbhgdfapjaaZR6
import Derived.Test.YtbobbbhgdfapjaaZR7
import Derived.Test.YtbobbbhgdfapjaaZR8
import Derived.Test.YtbobbbhgdfapjaaZR9
import Derived.Test.YtbobbbhgdfapjaaZR10
import Derived.Test.YtbobbbhgdfapjaaZR11
import Derived.Test.YtbobbbhgdfapjaaZR12
import Derived.Test.YtbobbbhgdfapjaaZR13
import Derived.Test.YtbobbbhgdfapjaaZR14
import Derived.Test.YtbobbbhgdfapjaaZR15
import Derived.Test.YtbobbbhgdfapjaaZR16
import Derived.Test.YtbobbbhgdfapjaaZR17
import Derived.Test.YtbobbbhgdfapjaaZR18
import Derived.Test.YtbobbbhgdfapjaaZR19
import Derived.Test.YtbobbbhgdfapjaaZR20
import Derived.Test.YtbobbbhgdfapjaaZR21
import Derived.Test.YtbobbbhgdfapjaaZR22
set_option linter.unusedSimpArgs false
set_option linter.unusedVariables false
namespace Go.Proofs.Ytbobbbhgdfapjaa
set_option maxHeartbeats 8000000
set_option maxRecDepth 100000
open Go.RowKit Tk
theorem tw_oper (op : Int) (F G : Nat → Bool) (W : Nat) : operW op (tw64 F W : Nat) (tw64 G W : Nat) = (tw64 (fun r => opB op (F r) (G r)) W : Nat) := wd_oper op _ _
theorem apart_rows {w0 wa w : World} {X Y n c m d : Nat} {xs ys : List Nat} (r : OwnR w0 wa 23 1 u64C (.slice (some ⟨X, 0, none⟩) n c) xs) (q : OwnR wa w 23 1 u64C (.slice (some ⟨Y, 0, none⟩) m d) ys) : X ∉ ownB (.slice (some ⟨Y, 0, none⟩) m d) := fun hm => by
 have h1 := r.row.lt (x := X) (by simp [Value.ownBlock])
 have h2 := q.new X hm
 omega
theorem boper_3 (w : World) : Calls Try.prog 45 #[.int .i64 3] w (fun e w' => e = .returned (.func (.func 65) #[] #[]) ∧ Ext w w') := boperator_any 3 w
theorem btable_3 {N : Nat} (IH : Hid (TabOk N)) (x : Ex) {w : World} {na : Option Addr} {nc : Nat} {ns : List ByteArray} (hns : Reads w (.slice na ns.length nc) ns) (hok : x.ok w) (hwf : x.wf) (hz : x.sz < N + 1) (hop : x.h.op = 3) (hn16 : ns.length ≤ 16) (hall : ∀ n ∈ namesE x, n ∈ ns) :
    Calls Try.prog 31 #[.agg (exC x).toArray, .slice na ns.length nc] w (TabPost w (tabN (rowV ns x) (lenT ns.length))) := by
 rw [Ex.sz_kids] at hz
 have hk := hwf.kids
 rw [hop, show opn 3 = 2 from rfl] at hk
 have n2 := (RRow.lens hok.kids).2
 obtain ⟨a, b, hka⟩ : ∃ a b, x.kids = [a, b] := by
  have h8 : x.kids.length = 2 := by omega
  match hq : x.kids, h8 with
  | [a, b], _ => exact ⟨a, b, rfl⟩
 have ham : a ∈ x.kids := by rw [hka]; simp
 have hbm : b ∈ x.kids := by rw [hka]; simp
 have hao := hok.subs.mem ham
 have haw := hwf.subs.mem ham
 have hbo := hok.subs.mem hbm
 have hbw := hwf.subs.mem hbm
 have HNA : Hid (∀ n ∈ namesE a, n ∈ ns) := Lib.hid fun n hn => hall n (names_mem ham hn)
 have HNB : Hid (∀ n ∈ namesE b, n ∈ ns) := Lib.hid fun n hn => hall n (names_mem hbm hn)
 have hs1 : Ex.szs x.kids = a.sz + b.sz := by rw [hka, Ex.szs, Ex.szs, Ex.szs]; rfl
 have has : a.sz < N := by omega
 have hbs : b.sz < N := by omega
 have hlt : 0 < x.kids.length := by omega
 have hlt1 : 1 < x.kids.length := by omega
 obtain ⟨g, o, hgo, hg, -⟩ := RRow.cells hok.kids hlt
 have hkc : RRow w 10 exC (.slice (some ⟨g, o, none⟩) x.kids.length x.h.hk.c) x.kids := hgo ▸ hok.kids
 have H0 : Hid (x.kids[0]? = some a) := Lib.hid (by rw [hka]; rfl)
 have H1 : Hid (x.kids[1]? = some b) := Lib.hid (by rw [hka]; rfl)
 have e1 : rowV ns x = fun r => opB 3 (rowV ns a r) (rowV ns b r) := funext fun r => by rw [row_two (by omega) (by omega) hka r, hop]
 rw [e1]
 have hl := lenT_le hn16
 obtain ⟨len, hlen⟩ : ∃ len, lenT ns.length = len := ⟨_, rfl⟩
 rw [hlen] at hl ⊢
 obtain ⟨hl1, hl2⟩ := hl
 have HLEN := Lib.hid hlen
 have HKA := Lib.hid hka
 have HY1 : Hid ((tabN (fun r => opB 3 (rowV ns a r) (rowV ns b r)) len).length = (tabN (rowV ns a) len).length) := Lib.hid (by rw [tabN_len, tabN_len])
 have HY2 : Hid ((tabN (rowV ns a) len).length = len) := Lib.hid (tabN_len _ _)
 clear hka hk hs1 hwf ham hbm hall e1 hlen
 go_enter Try.func31, Try.ntmps31
 have E := Only.refl [] w
 go_upto_region 13 with (first | ((first | ((with_reducible refine at_dst 27 ?_); go_simp; (have hc := IH.out a (hns.ext E.low) (hao.ext E.low) haw has hn16 HNA.out); (first | with_reducible refine hc.mono ?_ | refine hc.mono ?_); clear hc; unfold TabPost; rw [tabN_len]; rintro e wn ⟨X27, rfl, r0, hx⟩; replace r0 := r0.back E.size) | ((with_reducible refine at_dst 48 ?_); go_simp; ((with_reducible refine (boper_3 _).mono ?_)); rintro e wn ⟨rfl, hx⟩) | ((with_reducible refine at_dst 54 ?_); go_simp; (have hc := IH.out b (hns.ext E.low) (hbo.ext E.low) hbw hbs hn16 HNB.out); (first | with_reducible refine hc.mono ?_ | refine hc.mono ?_); clear hc; unfold TabPost; rw [tabN_len]; rintro e wn ⟨X54, rfl, r1, hx⟩; have hd1 := apart_rows r0 r1; replace r1 := r1.back E.size) | ((with_reducible refine at_dst 2 ?_); go_simp; (generalize hXn : Array.size (World.heap _) = X2); refine new_block hXn ?_; intro wn bb hx; have b2 := Loc.new bb E hXn; have zz := Nat.le_trans E.size (Nat.le_of_eq hXn); clear bb hXn)); (try replace E := E.ext hx); (try replace b2 := b2.ext hx); (try replace r0 := r0.ext hx); (try replace hcE := bcell E.low); (try replace c2 := b2.cf)) | ((with_reducible refine at_dst 25 ?_); (refine wp_rec2 ((RRow.ext hkc E.low)) (H0.out) exC_len rfl rfl ?_ ?_ ?_); (· kernel_rfl); (· kernel_rfl)) | ((with_reducible refine at_dst 52 ?_); (refine wp_rec2 ((RRow.ext hkc E.low)) (H1.out) exC_len rfl rfl ?_ ?_ ?_); (· kernel_rfl); (· kernel_rfl)))
 have hr0 := r0
 have hr1 := r1
 rw [HLEN.out] at hr0 hr1 hd1
 clear r0 r1
 have r0 : OwnR w wn 23 1 u64C (.slice (some ⟨X27, 0, none⟩) len len) (mixL (tabN (rowV ns a) len) (tabN (fun r => opB 3 (rowV ns a r) (rowV ns b r)) len) 0) := hr0
 have r1 : OwnR w wn 23 1 u64C (.slice (some ⟨X54, 0, none⟩) len len) (tabN (rowV ns b) len) := hr1
 rw [HLEN.out]
 go_loopw [56] (fun v wr => ∃ W : Nat, v = .int .i64 W ∧ W ≤ len ∧ Only [] w wr ∧ OwnR w wr 23 1 u64C (.slice (some ⟨X54, 0, none⟩) len len) (tabN (rowV ns b) len) ∧ OwnR w wr 23 1 u64C (.slice (some ⟨X27, 0, none⟩) len len) (mixL (tabN (rowV ns a) len) (tabN (fun r => opB 3 (rowV ns a r) (rowV ns b r)) len) W)) (fun v _ => len - (intOf v).toNat)
 case atStart => exact ⟨0, rfl, Nat.zero_le _, E, r1, r0⟩
 case round =>
  clear E r0 hr0 r1 hr1
  (try clear b2 c2)
  obtain ⟨W, rfl, hW, E, r1, r0⟩ := hrel
  by_cases hlt : W < len
  · have HK1 : Hid ((mixL (tabN (rowV ns a) len) (tabN (fun r => opB 3 (rowV ns a r) (rowV ns b r)) len) W)[W]? = some (tw64 (rowV ns a) W)) := Lib.hid (by rw [mix_at HY1.out (by rw [HY2.out]; exact hlt)]; exact tabN_at _ hlt)
    have HK2 : Hid ((tabN (rowV ns b) len)[W]? = some (tw64 (rowV ns b) W)) := Lib.hid (tabN_at _ hlt)
    have k1 := u64_at r0 HK1.out
    have k2 := u64_at r1 HK2.out
    have G2 : Hid (wAnd (tw64 (rowV ns a) W : Nat) (tw64 (rowV ns b) W : Nat) = (tw64 (fun r => opB 3 (rowV ns a r) (rowV ns b r)) W : Nat)) := Lib.hid (tw_oper 3 _ _ W)
    go_upto_region 9999 with (first | ((first | ((with_reducible refine at_dst 70 ?_); go_simp; ((with_reducible refine (b6and_any (tw64 (rowV ns a) W : Nat) (tw64 (rowV ns b) W : Nat) _).mono ?_)); unfold U64Post; rw [G2.out]; rintro e wn ⟨rfl, hx⟩) | ((with_reducible refine at_store 71 ?_); (refine wp_put_u64 (tw64 (fun r => opB 3 (rowV ns a r) (rowV ns b r)) W) r0 HK1.out rfl rfl rfl ?_ ?_); (· kernel_rfl); intro wn rn hb; have E2 := r0.put E hb; replace r1 := r1.but0 hb hd1; clear E r0; have E := E2; clear E2; have r0 := rn; clear rn hb; dsimp only [Act.put])); (try replace E := E.ext hx); (try replace r0 := r0.ext hx); (try replace r1 := r1.ext hx); (try replace hcE := bcell E.low); (try clear k1); (try have k1 := u64_at r0 HK1.out); (try clear k2); (try have k2 := u64_at r1 HK2.out)))
    go_roundw
    case rel => exact ⟨W + 1, by go_num, by omega, E, r1, by rw [← mix_set HY1.out (by rw [HY2.out]; exact hlt) (tabN_at _ hlt)]; exact r0⟩
    case measure => simp [intOf]; omega
  · have hWl : W = len := by omega
    subst hWl
    have e2 : mixL (tabN (rowV ns a) W) (tabN (fun r => opB 3 (rowV ns a r) (rowV ns b r)) W) W = tabN (fun r => opB 3 (rowV ns a r) (rowV ns b r)) W := by
     have := mix_end HY1.out
     rwa [HY2.out] at this
    rw [e2] at r0
    clear e2
    go_upto_region 9999 with (first | fail)
    go_ret
    have e := tabN_len (fun r => opB 3 (rowV ns a r) (rowV ns b r)) W
    refine ⟨X27, by rw [e]; rfl, by rw [e]; exact r0, E.low⟩
theorem boper_4 (w : World) : Calls Try.prog 45 #[.int .i64 4] w (fun e w' => e = .returned (.func (.func 66) #[] #[]) ∧ Ext w w') := boperator_any 4 w
theorem btable_4 {N : Nat} (IH : Hid (TabOk N)) (x : Ex) {w : World} {na : Option Addr} {nc : Nat} {ns : List ByteArray} (hns : Reads w (.slice na ns.length nc) ns) (hok : x.ok w) (hwf : x.wf) (hz : x.sz < N + 1) (hop : x.h.op = 4) (hn16 : ns.length ≤ 16) (hall : ∀ n ∈ namesE x, n ∈ ns) :
    Calls Try.prog 31 #[.agg (exC x).toArray, .slice na ns.length nc] w (TabPost w (tabN (rowV ns x) (lenT ns.length))) := by
 rw [Ex.sz_kids] at hz
 have hk := hwf.kids
 rw [hop, show opn 4 = 2 from rfl] at hk
 have n2 := (RRow.lens hok.kids).2
 obtain ⟨a, b, hka⟩ : ∃ a b, x.kids = [a, b] := by
  have h8 : x.kids.length = 2 := by omega
  match hq : x.kids, h8 with
  | [a, b], _ => exact ⟨a, b, rfl⟩
 have ham : a ∈ x.kids := by rw [hka]; simp
 have hbm : b ∈ x.kids := by rw [hka]; simp
 have hao := hok.subs.mem ham
 have haw := hwf.subs.mem ham
 have hbo := hok.subs.mem hbm
 have hbw := hwf.subs.mem hbm
 have HNA : Hid (∀ n ∈ namesE a, n ∈ ns) := Lib.hid fun n hn => hall n (names_mem ham hn)
 have HNB : Hid (∀ n ∈ namesE b, n ∈ ns) := Lib.hid fun n hn => hall n (names_mem hbm hn)
 have hs1 : Ex.szs x.kids = a.sz + b.sz := by rw [hka, Ex.szs, Ex.szs, Ex.szs]; rfl
 have has : a.sz < N := by omega
 have hbs : b.sz < N := by omega
 have hlt : 0 < x.kids.length := by omega
 have hlt1 : 1 < x.kids.length := by omega
 obtain ⟨g, o, hgo, hg, -⟩ := RRow.cells hok.kids hlt
 have hkc : RRow w 10 exC (.slice (some ⟨g, o, none⟩) x.kids.length x.h.hk.c) x.kids := hgo ▸ hok.kids
 have H0 : Hid (x.kids[0]? = some a) := Lib.hid (by rw [hka]; rfl)
 have H1 : Hid (x.kids[1]? = some b) := Lib.hid (by rw [hka]; rfl)
 have e1 : rowV ns x = fun r => opB 4 (rowV ns a r) (rowV ns b r) := funext fun r => by rw [row_two (by omega) (by omega) hka r, hop]
 rw [e1]
 have hl := lenT_le hn16
 obtain ⟨len, hlen⟩ : ∃ len, lenT ns.length = len := ⟨_, rfl⟩
 rw [hlen] at hl ⊢
 obtain ⟨hl1, hl2⟩ := hl
 have HLEN := Lib.hid hlen
 have HKA := Lib.hid hka
 have HY1 : Hid ((tabN (fun r => opB 4 (rowV ns a r) (rowV ns b r)) len).length = (tabN (rowV ns a) len).length) := Lib.hid (by rw [tabN_len, tabN_len])
 have HY2 : Hid ((tabN (rowV ns a) len).length = len) := Lib.hid (tabN_len _ _)
 clear hka hk hs1 hwf ham hbm hall e1 hlen
 go_enter Try.func31, Try.ntmps31
 have E := Only.refl [] w
 go_upto_region 13 with (first | ((first | ((with_reducible refine at_dst 27 ?_); go_simp; (have hc := IH.out a (hns.ext E.low) (hao.ext E.low) haw has hn16 HNA.out); (first | with_reducible refine hc.mono ?_ | refine hc.mono ?_); clear hc; unfold TabPost; rw [tabN_len]; rintro e wn ⟨X27, rfl, r0, hx⟩; replace r0 := r0.back E.size) | ((with_reducible refine at_dst 48 ?_); go_simp; ((with_reducible refine (boper_4 _).mono ?_)); rintro e wn ⟨rfl, hx⟩) | ((with_reducible refine at_dst 54 ?_); go_simp; (have hc := IH.out b (hns.ext E.low) (hbo.ext E.low) hbw hbs hn16 HNB.out); (first | with_reducible refine hc.mono ?_ | refine hc.mono ?_); clear hc; unfold TabPost; rw [tabN_len]; rintro e wn ⟨X54, rfl, r1, hx⟩; have hd1 := apart_rows r0 r1; replace r1 := r1.back E.size) | ((with_reducible refine at_dst 2 ?_); go_simp; (generalize hXn : Array.size (World.heap _) = X2); refine new_block hXn ?_; intro wn bb hx; have b2 := Loc.new bb E hXn; have zz := Nat.le_trans E.size (Nat.le_of_eq hXn); clear bb hXn)); (try replace E := E.ext hx); (try replace b2 := b2.ext hx); (try replace r0 := r0.ext hx); (try replace hcE := bcell E.low); (try replace c2 := b2.cf)) | ((with_reducible refine at_dst 25 ?_); (refine wp_rec2 ((RRow.ext hkc E.low)) (H0.out) exC_len rfl rfl ?_ ?_ ?_); (· kernel_rfl); (· kernel_rfl)) | ((with_reducible refine at_dst 52 ?_); (refine wp_rec2 ((RRow.ext hkc E.low)) (H1.out) exC_len rfl rfl ?_ ?_ ?_); (· kernel_rfl); (· kernel_rfl)))
 have hr0 := r0
 have hr1 := r1
 rw [HLEN.out] at hr0 hr1 hd1
 clear r0 r1
 have r0 : OwnR w wn 23 1 u64C (.slice (some ⟨X27, 0, none⟩) len len) (mixL (tabN (rowV ns a) len) (tabN (fun r => opB 4 (rowV ns a r) (rowV ns b r)) len) 0) := hr0
 have r1 : OwnR w wn 23 1 u64C (.slice (some ⟨X54, 0, none⟩) len len) (tabN (rowV ns b) len) := hr1
 rw [HLEN.out]
 go_loopw [56] (fun v wr => ∃ W : Nat, v = .int .i64 W ∧ W ≤ len ∧ Only [] w wr ∧ OwnR w wr 23 1 u64C (.slice (some ⟨X54, 0, none⟩) len len) (tabN (rowV ns b) len) ∧ OwnR w wr 23 1 u64C (.slice (some ⟨X27, 0, none⟩) len len) (mixL (tabN (rowV ns a) len) (tabN (fun r => opB 4 (rowV ns a r) (rowV ns b r)) len) W)) (fun v _ => len - (intOf v).toNat)
 case atStart => exact ⟨0, rfl, Nat.zero_le _, E, r1, r0⟩
 case round =>
  clear E r0 hr0 r1 hr1
  (try clear b2 c2)
  obtain ⟨W, rfl, hW, E, r1, r0⟩ := hrel
  by_cases hlt : W < len
  · have HK1 : Hid ((mixL (tabN (rowV ns a) len) (tabN (fun r => opB 4 (rowV ns a r) (rowV ns b r)) len) W)[W]? = some (tw64 (rowV ns a) W)) := Lib.hid (by rw [mix_at HY1.out (by rw [HY2.out]; exact hlt)]; exact tabN_at _ hlt)
    have HK2 : Hid ((tabN (rowV ns b) len)[W]? = some (tw64 (rowV ns b) W)) := Lib.hid (tabN_at _ hlt)
    have k1 := u64_at r0 HK1.out
    have k2 := u64_at r1 HK2.out
    have G2 : Hid (wOr (tw64 (rowV ns a) W : Nat) (tw64 (rowV ns b) W : Nat) = (tw64 (fun r => opB 4 (rowV ns a r) (rowV ns b r)) W : Nat)) := Lib.hid (tw_oper 4 _ _ W)
    go_upto_region 9999 with (first | ((first | ((with_reducible refine at_dst 70 ?_); go_simp; ((with_reducible refine (b6or_any (tw64 (rowV ns a) W : Nat) (tw64 (rowV ns b) W : Nat) _).mono ?_)); unfold U64Post; rw [G2.out]; rintro e wn ⟨rfl, hx⟩) | ((with_reducible refine at_store 71 ?_); (refine wp_put_u64 (tw64 (fun r => opB 4 (rowV ns a r) (rowV ns b r)) W) r0 HK1.out rfl rfl rfl ?_ ?_); (· kernel_rfl); intro wn rn hb; have E2 := r0.put E hb; replace r1 := r1.but0 hb hd1; clear E r0; have E := E2; clear E2; have r0 := rn; clear rn hb; dsimp only [Act.put])); (try replace E := E.ext hx); (try replace r0 := r0.ext hx); (try replace r1 := r1.ext hx); (try replace hcE := bcell E.low); (try clear k1); (try have k1 := u64_at r0 HK1.out); (try clear k2); (try have k2 := u64_at r1 HK2.out)))
    go_roundw
    case rel => exact ⟨W + 1, by go_num, by omega, E, r1, by rw [← mix_set HY1.out (by rw [HY2.out]; exact hlt) (tabN_at _ hlt)]; exact r0⟩
    case measure => simp [intOf]; omega
  · have hWl : W = len := by omega
    subst hWl
    have e2 : mixL (tabN (rowV ns a) W) (tabN (fun r => opB 4 (rowV ns a r) (rowV ns b r)) W) W = tabN (fun r => opB 4 (rowV ns a r) (rowV ns b r)) W := by
     have := mix_end HY1.out
     rwa [HY2.out] at this
    rw [e2] at r0
    clear e2
    go_upto_region 9999 with (first | fail)
    go_ret
    have e := tabN_len (fun r => opB 4 (rowV ns a r) (rowV ns b r)) W
    refine ⟨X27, by rw [e]; rfl, by rw [e]; exact r0, E.low⟩
theorem boper_5 (w : World) : Calls Try.prog 45 #[.int .i64 5] w (fun e w' => e = .returned (.func (.func 68) #[] #[]) ∧ Ext w w') := boperator_any 5 w
theorem btable_5 {N : Nat} (IH : Hid (TabOk N)) (x : Ex) {w : World} {na : Option Addr} {nc : Nat} {ns : List ByteArray} (hns : Reads w (.slice na ns.length nc) ns) (hok : x.ok w) (hwf : x.wf) (hz : x.sz < N + 1) (hop : x.h.op = 5) (hn16 : ns.length ≤ 16) (hall : ∀ n ∈ namesE x, n ∈ ns) :
    Calls Try.prog 31 #[.agg (exC x).toArray, .slice na ns.length nc] w (TabPost w (tabN (rowV ns x) (lenT ns.length))) := by
 rw [Ex.sz_kids] at hz
 have hk := hwf.kids
 rw [hop, show opn 5 = 2 from rfl] at hk
 have n2 := (RRow.lens hok.kids).2
 obtain ⟨a, b, hka⟩ : ∃ a b, x.kids = [a, b] := by
  have h8 : x.kids.length = 2 := by omega
  match hq : x.kids, h8 with
  | [a, b], _ => exact ⟨a, b, rfl⟩
 have ham : a ∈ x.kids := by rw [hka]; simp
 have hbm : b ∈ x.kids := by rw [hka]; simp
 have hao := hok.subs.mem ham
 have haw := hwf.subs.mem ham
 have hbo := hok.subs.mem hbm
 have hbw := hwf.subs.mem hbm
 have HNA : Hid (∀ n ∈ namesE a, n ∈ ns) := Lib.hid fun n hn => hall n (names_mem ham hn)
 have HNB : Hid (∀ n ∈ namesE b, n ∈ ns) := Lib.hid fun n hn => hall n (names_mem hbm hn)
 have hs1 : Ex.szs x.kids = a.sz + b.sz := by rw [hka, Ex.szs, Ex.szs, Ex.szs]; rfl
 have has : a.sz < N := by omega
 have hbs : b.sz < N := by omega
 have hlt : 0 < x.kids.length := by omega
 have hlt1 : 1 < x.kids.length := by omega
 obtain ⟨g, o, hgo, hg, -⟩ := RRow.cells hok.kids hlt
 have hkc : RRow w 10 exC (.slice (some ⟨g, o, none⟩) x.kids.length x.h.hk.c) x.kids := hgo ▸ hok.kids
 have H0 : Hid (x.kids[0]? = some a) := Lib.hid (by rw [hka]; rfl)
 have H1 : Hid (x.kids[1]? = some b) := Lib.hid (by rw [hka]; rfl)
 have e1 : rowV ns x = fun r => opB 5 (rowV ns a r) (rowV ns b r) := funext fun r => by rw [row_two (by omega) (by omega) hka r, hop]
 rw [e1]
 have hl := lenT_le hn16
 obtain ⟨len, hlen⟩ : ∃ len, lenT ns.length = len := ⟨_, rfl⟩
 rw [hlen] at hl ⊢
 obtain ⟨hl1, hl2⟩ := hl
 have HLEN := Lib.hid hlen
 have HKA := Lib.hid hka
 have HY1 : Hid ((tabN (fun r => opB 5 (rowV ns a r) (rowV ns b r)) len).length = (tabN (rowV ns a) len).length) := Lib.hid (by rw [tabN_len, tabN_len])
 have HY2 : Hid ((tabN (rowV ns a) len).length = len) := Lib.hid (tabN_len _ _)
 clear hka hk hs1 hwf ham hbm hall e1 hlen
 go_enter Try.func31, Try.ntmps31
 have E := Only.refl [] w
 go_upto_region 13 with (first | ((first | ((with_reducible refine at_dst 27 ?_); go_simp; (have hc := IH.out a (hns.ext E.low) (hao.ext E.low) haw has hn16 HNA.out); (first | with_reducible refine hc.mono ?_ | refine hc.mono ?_); clear hc; unfold TabPost; rw [tabN_len]; rintro e wn ⟨X27, rfl, r0, hx⟩; replace r0 := r0.back E.size) | ((with_reducible refine at_dst 48 ?_); go_simp; ((with_reducible refine (boper_5 _).mono ?_)); rintro e wn ⟨rfl, hx⟩) | ((with_reducible refine at_dst 54 ?_); go_simp; (have hc := IH.out b (hns.ext E.low) (hbo.ext E.low) hbw hbs hn16 HNB.out); (first | with_reducible refine hc.mono ?_ | refine hc.mono ?_); clear hc; unfold TabPost; rw [tabN_len]; rintro e wn ⟨X54, rfl, r1, hx⟩; have hd1 := apart_rows r0 r1; replace r1 := r1.back E.size) | ((with_reducible refine at_dst 2 ?_); go_simp; (generalize hXn : Array.size (World.heap _) = X2); refine new_block hXn ?_; intro wn bb hx; have b2 := Loc.new bb E hXn; have zz := Nat.le_trans E.size (Nat.le_of_eq hXn); clear bb hXn)); (try replace E := E.ext hx); (try replace b2 := b2.ext hx); (try replace r0 := r0.ext hx); (try replace hcE := bcell E.low); (try replace c2 := b2.cf)) | ((with_reducible refine at_dst 25 ?_); (refine wp_rec2 ((RRow.ext hkc E.low)) (H0.out) exC_len rfl rfl ?_ ?_ ?_); (· kernel_rfl); (· kernel_rfl)) | ((with_reducible refine at_dst 52 ?_); (refine wp_rec2 ((RRow.ext hkc E.low)) (H1.out) exC_len rfl rfl ?_ ?_ ?_); (· kernel_rfl); (· kernel_rfl)))
 have hr0 := r0
 have hr1 := r1
 rw [HLEN.out] at hr0 hr1 hd1
 clear r0 r1
 have r0 : OwnR w wn 23 1 u64C (.slice (some ⟨X27, 0, none⟩) len len) (mixL (tabN (rowV ns a) len) (tabN (fun r => opB 5 (rowV ns a r) (rowV ns b r)) len) 0) := hr0
 have r1 : OwnR w wn 23 1 u64C (.slice (some ⟨X54, 0, none⟩) len len) (tabN (rowV ns b) len) := hr1
 rw [HLEN.out]
 go_loopw [56] (fun v wr => ∃ W : Nat, v = .int .i64 W ∧ W ≤ len ∧ Only [] w wr ∧ OwnR w wr 23 1 u64C (.slice (some ⟨X54, 0, none⟩) len len) (tabN (rowV ns b) len) ∧ OwnR w wr 23 1 u64C (.slice (some ⟨X27, 0, none⟩) len len) (mixL (tabN (rowV ns a) len) (tabN (fun r => opB 5 (rowV ns a r) (rowV ns b r)) len) W)) (fun v _ => len - (intOf v).toNat)
 case atStart => exact ⟨0, rfl, Nat.zero_le _, E, r1, r0⟩
 case round =>
  clear E r0 hr0 r1 hr1
  (try clear b2 c2)
  obtain ⟨W, rfl, hW, E, r1, r0⟩ := hrel
  by_cases hlt : W < len
  · have HK1 : Hid ((mixL (tabN (rowV ns a) len) (tabN (fun r => opB 5 (rowV ns a r) (rowV ns b r)) len) W)[W]? = some (tw64 (rowV ns a) W)) := Lib.hid (by rw [mix_at HY1.out (by rw [HY2.out]; exact hlt)]; exact tabN_at _ hlt)
    have HK2 : Hid ((tabN (rowV ns b) len)[W]? = some (tw64 (rowV ns b) W)) := Lib.hid (tabN_at _ hlt)
    have k1 := u64_at r0 HK1.out
    have k2 := u64_at r1 HK2.out
    have G2 : Hid (wXor (tw64 (rowV ns a) W : Nat) (tw64 (rowV ns b) W : Nat) = (tw64 (fun r => opB 5 (rowV ns a r) (rowV ns b r)) W : Nat)) := Lib.hid (tw_oper 5 _ _ W)
    go_upto_region 9999 with (first | ((first | ((with_reducible refine at_dst 70 ?_); go_simp; ((with_reducible refine (b6differ_any (tw64 (rowV ns a) W : Nat) (tw64 (rowV ns b) W : Nat) _).mono ?_)); unfold U64Post; rw [G2.out]; rintro e wn ⟨rfl, hx⟩) | ((with_reducible refine at_store 71 ?_); (refine wp_put_u64 (tw64 (fun r => opB 5 (rowV ns a r) (rowV ns b r)) W) r0 HK1.out rfl rfl rfl ?_ ?_); (· kernel_rfl); intro wn rn hb; have E2 := r0.put E hb; replace r1 := r1.but0 hb hd1; clear E r0; have E := E2; clear E2; have r0 := rn; clear rn hb; dsimp only [Act.put])); (try replace E := E.ext hx); (try replace r0 := r0.ext hx); (try replace r1 := r1.ext hx); (try replace hcE := bcell E.low); (try clear k1); (try have k1 := u64_at r0 HK1.out); (try clear k2); (try have k2 := u64_at r1 HK2.out)))
    go_roundw
    case rel => exact ⟨W + 1, by go_num, by omega, E, r1, by rw [← mix_set HY1.out (by rw [HY2.out]; exact hlt) (tabN_at _ hlt)]; exact r0⟩
    case measure => simp [intOf]; omega
  · have hWl : W = len := by omega
    subst hWl
    have e2 : mixL (tabN (rowV ns a) W) (tabN (fun r => opB 5 (rowV ns a r) (rowV ns b r)) W) W = tabN (fun r => opB 5 (rowV ns a r) (rowV ns b r)) W := by
     have := mix_end HY1.out
     rwa [HY2.out] at this
    rw [e2] at r0
    clear e2
    go_upto_region 9999 with (first | fail)
    go_ret
    have e := tabN_len (fun r => opB 5 (rowV ns a r) (rowV ns b r)) W
    refine ⟨X27, by rw [e]; rfl, by rw [e]; exact r0, E.low⟩
theorem boper_6 (w : World) : Calls Try.prog 45 #[.int .i64 6] w (fun e w' => e = .returned (.func (.func 67) #[] #[]) ∧ Ext w w') := boperator_any 6 w
theorem btable_6 {N : Nat} (IH : Hid (TabOk N)) (x : Ex) {w : World} {na : Option Addr} {nc : Nat} {ns : List ByteArray} (hns : Reads w (.slice na ns.length nc) ns) (hok : x.ok w) (hwf : x.wf) (hz : x.sz < N + 1) (hop : x.h.op = 6) (hn16 : ns.length ≤ 16) (hall : ∀ n ∈ namesE x, n ∈ ns) :
    Calls Try.prog 31 #[.agg (exC x).toArray, .slice na ns.length nc] w (TabPost w (tabN (rowV ns x) (lenT ns.length))) := by
 rw [Ex.sz_kids] at hz
 have hk := hwf.kids
 rw [hop, show opn 6 = 2 from rfl] at hk
 have n2 := (RRow.lens hok.kids).2
 obtain ⟨a, b, hka⟩ : ∃ a b, x.kids = [a, b] := by
  have h8 : x.kids.length = 2 := by omega
  match hq : x.kids, h8 with
  | [a, b], _ => exact ⟨a, b, rfl⟩
 have ham : a ∈ x.kids := by rw [hka]; simp
 have hbm : b ∈ x.kids := by rw [hka]; simp
 have hao := hok.subs.mem ham
 have haw := hwf.subs.mem ham
 have hbo := hok.subs.mem hbm
 have hbw := hwf.subs.mem hbm
 have HNA : Hid (∀ n ∈ namesE a, n ∈ ns) := Lib.hid fun n hn => hall n (names_mem ham hn)
 have HNB : Hid (∀ n ∈ namesE b, n ∈ ns) := Lib.hid fun n hn => hall n (names_mem hbm hn)
 have hs1 : Ex.szs x.kids = a.sz + b.sz := by rw [hka, Ex.szs, Ex.szs, Ex.szs]; rfl
 have has : a.sz < N := by omega
 have hbs : b.sz < N := by omega
 have hlt : 0 < x.kids.length := by omega
 have hlt1 : 1 < x.kids.length := by omega
 obtain ⟨g, o, hgo, hg, -⟩ := RRow.cells hok.kids hlt
 have hkc : RRow w 10 exC (.slice (some ⟨g, o, none⟩) x.kids.length x.h.hk.c) x.kids := hgo ▸ hok.kids
 have H0 : Hid (x.kids[0]? = some a) := Lib.hid (by rw [hka]; rfl)
 have H1 : Hid (x.kids[1]? = some b) := Lib.hid (by rw [hka]; rfl)
 have e1 : rowV ns x = fun r => opB 6 (rowV ns a r) (rowV ns b r) := funext fun r => by rw [row_two (by omega) (by omega) hka r, hop]
 rw [e1]
 have hl := lenT_le hn16
 obtain ⟨len, hlen⟩ : ∃ len, lenT ns.length = len := ⟨_, rfl⟩
 rw [hlen] at hl ⊢
 obtain ⟨hl1, hl2⟩ := hl
 have HLEN := Lib.hid hlen
 have HKA := Lib.hid hka
 have HY1 : Hid ((tabN (fun r => opB 6 (rowV ns a r) (rowV ns b r)) len).length = (tabN (rowV ns a) len).length) := Lib.hid (by rw [tabN_len, tabN_len])
 have HY2 : Hid ((tabN (rowV ns a) len).length = len) := Lib.hid (tabN_len _ _)
 clear hka hk hs1 hwf ham hbm hall e1 hlen
 go_enter Try.func31, Try.ntmps31
 have E := Only.refl [] w
 go_upto_region 13 with (first | ((first | ((with_reducible refine at_dst 27 ?_); go_simp; (have hc := IH.out a (hns.ext E.low) (hao.ext E.low) haw has hn16 HNA.out); (first | with_reducible refine hc.mono ?_ | refine hc.mono ?_); clear hc; unfold TabPost; rw [tabN_len]; rintro e wn ⟨X27, rfl, r0, hx⟩; replace r0 := r0.back E.size) | ((with_reducible refine at_dst 48 ?_); go_simp; ((with_reducible refine (boper_6 _).mono ?_)); rintro e wn ⟨rfl, hx⟩) | ((with_reducible refine at_dst 54 ?_); go_simp; (have hc := IH.out b (hns.ext E.low) (hbo.ext E.low) hbw hbs hn16 HNB.out); (first | with_reducible refine hc.mono ?_ | refine hc.mono ?_); clear hc; unfold TabPost; rw [tabN_len]; rintro e wn ⟨X54, rfl, r1, hx⟩; have hd1 := apart_rows r0 r1; replace r1 := r1.back E.size) | ((with_reducible refine at_dst 2 ?_); go_simp; (generalize hXn : Array.size (World.heap _) = X2); refine new_block hXn ?_; intro wn bb hx; have b2 := Loc.new bb E hXn; have zz := Nat.le_trans E.size (Nat.le_of_eq hXn); clear bb hXn)); (try replace E := E.ext hx); (try replace b2 := b2.ext hx); (try replace r0 := r0.ext hx); (try replace hcE := bcell E.low); (try replace c2 := b2.cf)) | ((with_reducible refine at_dst 25 ?_); (refine wp_rec2 ((RRow.ext hkc E.low)) (H0.out) exC_len rfl rfl ?_ ?_ ?_); (· kernel_rfl); (· kernel_rfl)) | ((with_reducible refine at_dst 52 ?_); (refine wp_rec2 ((RRow.ext hkc E.low)) (H1.out) exC_len rfl rfl ?_ ?_ ?_); (· kernel_rfl); (· kernel_rfl)))
 have hr0 := r0
 have hr1 := r1
 rw [HLEN.out] at hr0 hr1 hd1
 clear r0 r1
 have r0 : OwnR w wn 23 1 u64C (.slice (some ⟨X27, 0, none⟩) len len) (mixL (tabN (rowV ns a) len) (tabN (fun r => opB 6 (rowV ns a r) (rowV ns b r)) len) 0) := hr0
 have r1 : OwnR w wn 23 1 u64C (.slice (some ⟨X54, 0, none⟩) len len) (tabN (rowV ns b) len) := hr1
 rw [HLEN.out]
 go_loopw [56] (fun v wr => ∃ W : Nat, v = .int .i64 W ∧ W ≤ len ∧ Only [] w wr ∧ OwnR w wr 23 1 u64C (.slice (some ⟨X54, 0, none⟩) len len) (tabN (rowV ns b) len) ∧ OwnR w wr 23 1 u64C (.slice (some ⟨X27, 0, none⟩) len len) (mixL (tabN (rowV ns a) len) (tabN (fun r => opB 6 (rowV ns a r) (rowV ns b r)) len) W)) (fun v _ => len - (intOf v).toNat)
 case atStart => exact ⟨0, rfl, Nat.zero_le _, E, r1, r0⟩
 case round =>
  clear E r0 hr0 r1 hr1
  (try clear b2 c2)
  obtain ⟨W, rfl, hW, E, r1, r0⟩ := hrel
  by_cases hlt : W < len
  · have HK1 : Hid ((mixL (tabN (rowV ns a) len) (tabN (fun r => opB 6 (rowV ns a r) (rowV ns b r)) len) W)[W]? = some (tw64 (rowV ns a) W)) := Lib.hid (by rw [mix_at HY1.out (by rw [HY2.out]; exact hlt)]; exact tabN_at _ hlt)
    have HK2 : Hid ((tabN (rowV ns b) len)[W]? = some (tw64 (rowV ns b) W)) := Lib.hid (tabN_at _ hlt)
    have k1 := u64_at r0 HK1.out
    have k2 := u64_at r1 HK2.out
    have G2 : Hid (wSame (tw64 (rowV ns a) W : Nat) (tw64 (rowV ns b) W : Nat) = (tw64 (fun r => opB 6 (rowV ns a r) (rowV ns b r)) W : Nat)) := Lib.hid (tw_oper 6 _ _ W)
    go_upto_region 9999 with (first | ((first | ((with_reducible refine at_dst 70 ?_); go_simp; ((with_reducible refine (b6same_any (tw64 (rowV ns a) W : Nat) (tw64 (rowV ns b) W : Nat) _).mono ?_)); unfold U64Post; rw [G2.out]; rintro e wn ⟨rfl, hx⟩) | ((with_reducible refine at_store 71 ?_); (refine wp_put_u64 (tw64 (fun r => opB 6 (rowV ns a r) (rowV ns b r)) W) r0 HK1.out rfl rfl rfl ?_ ?_); (· kernel_rfl); intro wn rn hb; have E2 := r0.put E hb; replace r1 := r1.but0 hb hd1; clear E r0; have E := E2; clear E2; have r0 := rn; clear rn hb; dsimp only [Act.put])); (try replace E := E.ext hx); (try replace r0 := r0.ext hx); (try replace r1 := r1.ext hx); (try replace hcE := bcell E.low); (try clear k1); (try have k1 := u64_at r0 HK1.out); (try clear k2); (try have k2 := u64_at r1 HK2.out)))
    go_roundw
    case rel => exact ⟨W + 1, by go_num, by omega, E, r1, by rw [← mix_set HY1.out (by rw [HY2.out]; exact hlt) (tabN_at _ hlt)]; exact r0⟩
    case measure => simp [intOf]; omega
  · have hWl : W = len := by omega
    subst hWl
    have e2 : mixL (tabN (rowV ns a) W) (tabN (fun r => opB 6 (rowV ns a r) (rowV ns b r)) W) W = tabN (fun r => opB 6 (rowV ns a r) (rowV ns b r)) W := by
     have := mix_end HY1.out
     rwa [HY2.out] at this
    rw [e2] at r0
    clear e2
    go_upto_region 9999 with (first | fail)
    go_ret
    have e := tabN_len (fun r => opB 6 (rowV ns a r) (rowV ns b r)) W
    refine ⟨X27, by rw [e]; rfl, by rw [e]; exact r0, E.low⟩
theorem boper_7 (w : World) : Calls Try.prog 45 #[.int .i64 7] w (fun e w' => e = .returned (.func (.func 68) #[] #[]) ∧ Ext w w') := boperator_any 7 w
theorem btable_7 {N : Nat} (IH : Hid (TabOk N)) (x : Ex) {w : World} {na : Option Addr} {nc : Nat} {ns : List ByteArray} (hns : Reads w (.slice na ns.length nc) ns) (hok : x.ok w) (hwf : x.wf) (hz : x.sz < N + 1) (hop : x.h.op = 7) (hn16 : ns.length ≤ 16) (hall : ∀ n ∈ namesE x, n ∈ ns) :
    Calls Try.prog 31 #[.agg (exC x).toArray, .slice na ns.length nc] w (TabPost w (tabN (rowV ns x) (lenT ns.length))) := by
 rw [Ex.sz_kids] at hz
 have hk := hwf.kids
 rw [hop, show opn 7 = 2 from rfl] at hk
 have n2 := (RRow.lens hok.kids).2
 obtain ⟨a, b, hka⟩ : ∃ a b, x.kids = [a, b] := by
  have h8 : x.kids.length = 2 := by omega
  match hq : x.kids, h8 with
  | [a, b], _ => exact ⟨a, b, rfl⟩
 have ham : a ∈ x.kids := by rw [hka]; simp
 have hbm : b ∈ x.kids := by rw [hka]; simp
 have hao := hok.subs.mem ham
 have haw := hwf.subs.mem ham
 have hbo := hok.subs.mem hbm
 have hbw := hwf.subs.mem hbm
 have HNA : Hid (∀ n ∈ namesE a, n ∈ ns) := Lib.hid fun n hn => hall n (names_mem ham hn)
 have HNB : Hid (∀ n ∈ namesE b, n ∈ ns) := Lib.hid fun n hn => hall n (names_mem hbm hn)
 have hs1 : Ex.szs x.kids = a.sz + b.sz := by rw [hka, Ex.szs, Ex.szs, Ex.szs]; rfl
 have has : a.sz < N := by omega
 have hbs : b.sz < N := by omega
 have hlt : 0 < x.kids.length := by omega
 have hlt1 : 1 < x.kids.length := by omega
 obtain ⟨g, o, hgo, hg, -⟩ := RRow.cells hok.kids hlt
 have hkc : RRow w 10 exC (.slice (some ⟨g, o, none⟩) x.kids.length x.h.hk.c) x.kids := hgo ▸ hok.kids
 have H0 : Hid (x.kids[0]? = some a) := Lib.hid (by rw [hka]; rfl)
 have H1 : Hid (x.kids[1]? = some b) := Lib.hid (by rw [hka]; rfl)
 have e1 : rowV ns x = fun r => opB 7 (rowV ns a r) (rowV ns b r) := funext fun r => by rw [row_two (by omega) (by omega) hka r, hop]
 rw [e1]
 have hl := lenT_le hn16
 obtain ⟨len, hlen⟩ : ∃ len, lenT ns.length = len := ⟨_, rfl⟩
 rw [hlen] at hl ⊢
 obtain ⟨hl1, hl2⟩ := hl
 have HLEN := Lib.hid hlen
 have HKA := Lib.hid hka
 have HY1 : Hid ((tabN (fun r => opB 7 (rowV ns a r) (rowV ns b r)) len).length = (tabN (rowV ns a) len).length) := Lib.hid (by rw [tabN_len, tabN_len])
 have HY2 : Hid ((tabN (rowV ns a) len).length = len) := Lib.hid (tabN_len _ _)
 clear hka hk hs1 hwf ham hbm hall e1 hlen
 go_enter Try.func31, Try.ntmps31
 have E := Only.refl [] w
 go_upto_region 13 with (first | ((first | ((with_reducible refine at_dst 27 ?_); go_simp; (have hc := IH.out a (hns.ext E.low) (hao.ext E.low) haw has hn16 HNA.out); (first | with_reducible refine hc.mono ?_ | refine hc.mono ?_); clear hc; unfold TabPost; rw [tabN_len]; rintro e wn ⟨X27, rfl, r0, hx⟩; replace r0 := r0.back E.size) | ((with_reducible refine at_dst 48 ?_); go_simp; ((with_reducible refine (boper_7 _).mono ?_)); rintro e wn ⟨rfl, hx⟩) | ((with_reducible refine at_dst 54 ?_); go_simp; (have hc := IH.out b (hns.ext E.low) (hbo.ext E.low) hbw hbs hn16 HNB.out); (first | with_reducible refine hc.mono ?_ | refine hc.mono ?_); clear hc; unfold TabPost; rw [tabN_len]; rintro e wn ⟨X54, rfl, r1, hx⟩; have hd1 := apart_rows r0 r1; replace r1 := r1.back E.size) | ((with_reducible refine at_dst 2 ?_); go_simp; (generalize hXn : Array.size (World.heap _) = X2); refine new_block hXn ?_; intro wn bb hx; have b2 := Loc.new bb E hXn; have zz := Nat.le_trans E.size (Nat.le_of_eq hXn); clear bb hXn)); (try replace E := E.ext hx); (try replace b2 := b2.ext hx); (try replace r0 := r0.ext hx); (try replace hcE := bcell E.low); (try replace c2 := b2.cf)) | ((with_reducible refine at_dst 25 ?_); (refine wp_rec2 ((RRow.ext hkc E.low)) (H0.out) exC_len rfl rfl ?_ ?_ ?_); (· kernel_rfl); (· kernel_rfl)) | ((with_reducible refine at_dst 52 ?_); (refine wp_rec2 ((RRow.ext hkc E.low)) (H1.out) exC_len rfl rfl ?_ ?_ ?_); (· kernel_rfl); (· kernel_rfl)))
 have hr0 := r0
 have hr1 := r1
 rw [HLEN.out] at hr0 hr1 hd1
 clear r0 r1
 have r0 : OwnR w wn 23 1 u64C (.slice (some ⟨X27, 0, none⟩) len len) (mixL (tabN (rowV ns a) len) (tabN (fun r => opB 7 (rowV ns a r) (rowV ns b r)) len) 0) := hr0
 have r1 : OwnR w wn 23 1 u64C (.slice (some ⟨X54, 0, none⟩) len len) (tabN (rowV ns b) len) := hr1
 rw [HLEN.out]
 go_loopw [56] (fun v wr => ∃ W : Nat, v = .int .i64 W ∧ W ≤ len ∧ Only [] w wr ∧ OwnR w wr 23 1 u64C (.slice (some ⟨X54, 0, none⟩) len len) (tabN (rowV ns b) len) ∧ OwnR w wr 23 1 u64C (.slice (some ⟨X27, 0, none⟩) len len) (mixL (tabN (rowV ns a) len) (tabN (fun r => opB 7 (rowV ns a r) (rowV ns b r)) len) W)) (fun v _ => len - (intOf v).toNat)
 case atStart => exact ⟨0, rfl, Nat.zero_le _, E, r1, r0⟩
 case round =>
  clear E r0 hr0 r1 hr1
  (try clear b2 c2)
  obtain ⟨W, rfl, hW, E, r1, r0⟩ := hrel
  by_cases hlt : W < len
  · have HK1 : Hid ((mixL (tabN (rowV ns a) len) (tabN (fun r => opB 7 (rowV ns a r) (rowV ns b r)) len) W)[W]? = some (tw64 (rowV ns a) W)) := Lib.hid (by rw [mix_at HY1.out (by rw [HY2.out]; exact hlt)]; exact tabN_at _ hlt)
    have HK2 : Hid ((tabN (rowV ns b) len)[W]? = some (tw64 (rowV ns b) W)) := Lib.hid (tabN_at _ hlt)
    have k1 := u64_at r0 HK1.out
    have k2 := u64_at r1 HK2.out
    have G2 : Hid (wXor (tw64 (rowV ns a) W : Nat) (tw64 (rowV ns b) W : Nat) = (tw64 (fun r => opB 7 (rowV ns a r) (rowV ns b r)) W : Nat)) := Lib.hid (tw_oper 7 _ _ W)
    go_upto_region 9999 with (first | ((first | ((with_reducible refine at_dst 70 ?_); go_simp; ((with_reducible refine (b6differ_any (tw64 (rowV ns a) W : Nat) (tw64 (rowV ns b) W : Nat) _).mono ?_)); unfold U64Post; rw [G2.out]; rintro e wn ⟨rfl, hx⟩) | ((with_reducible refine at_store 71 ?_); (refine wp_put_u64 (tw64 (fun r => opB 7 (rowV ns a r) (rowV ns b r)) W) r0 HK1.out rfl rfl rfl ?_ ?_); (· kernel_rfl); intro wn rn hb; have E2 := r0.put E hb; replace r1 := r1.but0 hb hd1; clear E r0; have E := E2; clear E2; have r0 := rn; clear rn hb; dsimp only [Act.put])); (try replace E := E.ext hx); (try replace r0 := r0.ext hx); (try replace r1 := r1.ext hx); (try replace hcE := bcell E.low); (try clear k1); (try have k1 := u64_at r0 HK1.out); (try clear k2); (try have k2 := u64_at r1 HK2.out)))
    go_roundw
    case rel => exact ⟨W + 1, by go_num, by omega, E, r1, by rw [← mix_set HY1.out (by rw [HY2.out]; exact hlt) (tabN_at _ hlt)]; exact r0⟩
    case measure => simp [intOf]; omega
  · have hWl : W = len := by omega
    subst hWl
    have e2 : mixL (tabN (rowV ns a) W) (tabN (fun r => opB 7 (rowV ns a r) (rowV ns b r)) W) W = tabN (fun r => opB 7 (rowV ns a r) (rowV ns b r)) W := by
     have := mix_end HY1.out
     rwa [HY2.out] at this
    rw [e2] at r0
    clear e2
    go_upto_region 9999 with (first | fail)
    go_ret
    have e := tabN_len (fun r => opB 7 (rowV ns a r) (rowV ns b r)) W
    refine ⟨X27, by rw [e]; rfl, by rw [e]; exact r0, E.low⟩
theorem btable_any : ∀ N : Nat, TabOk N
 | 0 => fun _ _ _ _ _ _ _ _ hz => absurd hz (Nat.not_lt_zero _)
 | N + 1 => fun x w na nc ns hns hok hwf hz hn16 hall => by
   have hk := hwf.kids
   have IH := Lib.hid (btable_any N)
   have hv : x.h.op = 1 ∨ x.h.op = 2 ∨ x.h.op = 3 ∨ x.h.op = 4 ∨ x.h.op = 5 ∨ x.h.op = 6 ∨ x.h.op = 7 := by
    have h0 : 0 ≤ opn x.h.op := by omega
    unfold opn at h0
    repeat' split at h0
    all_goals omega
   rcases hv with h | h | h | h | h | h | h
   · exact btable_name x hns hok hwf h hn16 hall
   · exact btable_not IH x hns hok hwf hz h hn16 hall
   · exact btable_3 IH x hns hok hwf hz h hn16 hall
   · exact btable_4 IH x hns hok hwf hz h hn16 hall
   · exact btable_5 IH x hns hok hwf hz h hn16 hall
   · exact btable_6 IH x hns hok hwf hz h hn16 hall
   · exact btable_7 IH x hns hok hwf hz h hn16 hall
end Go.Proofs.Ytbobbbhgdfapjaa
