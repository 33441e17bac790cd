/- Qa -/
import Derived.Test.YtnifgkgdphlleaaS11
set_option linter.unusedSimpArgs false
set_option linter.unusedVariables false
namespace Go.Proofs.Ytnifgkgdphlleaa
open Go.RowKit Tk
theorem qspace_any (k : Int) (w : World) : Calls Try.prog 41 #[.int .i64 k] w (IPost (spR k) w) := by
  unfold spR
  by_cases h1 : k = 3
  · obtain ⟨g1, g2⟩ := kd_t h1
    have H1 := Lib.hid h1
    rw [if_pos h1]
    clear h1
    go_enter Try.func41, Try.ntmps41
    have E := Only.refl [] w
    go_upto_region 9999 with (first | fail)
    go_ret
    exact ⟨rfl, E.low⟩
  · obtain ⟨g1, g2⟩ := kd_f h1
    rw [if_neg h1]
    have H1 := Lib.hid h1
    clear h1
    go_enter Try.func41, Try.ntmps41
    have E := Only.refl [] w
    go_upto_region 9999 with (first | fail)
    go_ret
    exact ⟨rfl, E.low⟩
set_option maxHeartbeats 1000000 in
theorem qkind_any (s : St) (w : World) : Calls Try.prog 55 #[.agg (stC s).toArray] w (IPost (kindP s.h.kind) w) := by
  unfold kindP
  obtain ⟨k, hk⟩ : ∃ k, s.h.kind = k := ⟨_, rfl⟩
  by_cases hin : k = 1 ∨ k = 2 ∨ k = 3 ∨ k = 5 ∨ k = 8 ∨ k = 9 ∨ k = 10 ∨ k = 11
  · rcases hin with rfl | rfl | rfl | rfl | rfl | rfl | rfl | rfl
    all_goals
      go_enter Try.func55, Try.ntmps55
      have E := Only.refl [] w
      go_upto_region 9999 with (first | ((with_reducible refine at_dst 1 ?_); go_simp; (generalize hX1 : Array.size (World.heap _) = X1); refine new_block hX1 ?_; intro wn bb hx; (try (have z1 := Nat.le_trans E.size (Nat.le_of_eq hX1))); have b1 := Loc.new bb E hX1; clear bb hX1; (try replace E := E.ext hx); (try (clear hcE hfE)); (try (have hcf := bcell E.low; obtain ⟨hcE, hfE⟩ := hcf)); (try (clear c1 f1)); (try (have c1 := b1.cell; have f1 := b1.free))))
      go_ret
      exact ⟨rfl, E.low⟩
  · simp only [not_or] at hin
    obtain ⟨n1, n2, n3, n4, n5, n6, n7, n8⟩ := hin
    obtain ⟨g1, -⟩ := kd_f n1
    obtain ⟨g2, -⟩ := kd_f n2
    obtain ⟨g3, -⟩ := kd_f n3
    obtain ⟨g4, -⟩ := kd_f n4
    obtain ⟨g5, -⟩ := kd_f n5
    obtain ⟨g6, -⟩ := kd_f n6
    obtain ⟨g7, -⟩ := kd_f n7
    obtain ⟨g8, -⟩ := kd_f n8
    go_enter Try.func55, Try.ntmps55
    have E := Only.refl [] w
    go_upto_region 9999 with (first | ((with_reducible refine at_dst 1 ?_); go_simp; (generalize hX1 : Array.size (World.heap _) = X1); refine new_block hX1 ?_; intro wn bb hx; (try (have z1 := Nat.le_trans E.size (Nat.le_of_eq hX1))); have b1 := Loc.new bb E hX1; clear bb hX1; (try replace E := E.ext hx); (try (clear hcE hfE)); (try (have hcf := bcell E.low; obtain ⟨hcE, hfE⟩ := hcf)); (try (clear c1 f1)); (try (have c1 := b1.cell; have f1 := b1.free))))
    go_ret
    exact ⟨by simp only [n1, n2, n3, n4, n5, n6, n7, n8, if_false]; rfl, E.low⟩
theorem qobj_any (x : Sy) (w : World) : Calls Try.prog 38 #[.agg (syC x).toArray] w (BPost (isObj x.kind x.name) w) := by
  unfold isObj objT
  by_cases h1 : x.kind = 4
  · obtain ⟨g1, g2⟩ := kd_t h1
    have H1 := Lib.hid h1
    clear h1
    rw [g1, Bool.true_and]
    go_enter Try.func38, Try.ntmps38
    have E := Only.refl [] w
    go_upto_region 9999 with (first | ((with_reducible refine at_dst 1 ?_); go_simp; (generalize hX1 : Array.size (World.heap _) = X1); refine new_block hX1 ?_; intro wn bb hx; (try (have z1 := Nat.le_trans E.size (Nat.le_of_eq hX1))); have b1 := Loc.new bb E hX1; clear bb hX1; (try replace E := E.ext hx); (try (clear hcE hfE)); (try (have hcf := bcell E.low; obtain ⟨hcE, hfE⟩ := hcf)); (try (clear c1 f1)); (try (have c1 := b1.cell; have f1 := b1.free))))
    go_ret
    exact ⟨rfl, E.low⟩
  · obtain ⟨g1, g2⟩ := kd_f h1
    have H1 := Lib.hid h1
    clear h1
    rw [g1, Bool.false_and]
    go_enter Try.func38, Try.ntmps38
    have E := Only.refl [] w
    go_upto_region 9999 with (first | ((with_reducible refine at_dst 1 ?_); go_simp; (generalize hX1 : Array.size (World.heap _) = X1); refine new_block hX1 ?_; intro wn bb hx; (try (have z1 := Nat.le_trans E.size (Nat.le_of_eq hX1))); have b1 := Loc.new bb E hX1; clear bb hX1; (try replace E := E.ext hx); (try (clear hcE hfE)); (try (have hcf := bcell E.low; obtain ⟨hcE, hfE⟩ := hcf)); (try (clear c1 f1)); (try (have c1 := b1.cell; have f1 := b1.free))))
    go_ret
    exact ⟨rfl, E.low⟩
/-! ### finding -/
def findI (k : Int) (n : ByteArray) (r : Bool) : List PS → Option Nat
  | [] => none
  | x :: l => if x.kind = k ∧ x.name = n ∧ x.req = r then some 0 else (findI k n r l).map (· + 1)
def fOut : Option Nat → Int
  | some i => i
  | none => -1
theorem find_hit {k : Int} {n : ByteArray} {r : Bool} {l : List PS} {j : Nat} {y : PS} {R : Option Nat} (h : Hid ((findI k n r (l.drop j)).map (· + j) = R)) (hy : l[j]? = some y) (h1 : y.kind = k) (h2 : y.name = n) (h3 : y.req = r) : R = some j := by
  have := h.out
  rw [drop_at hy, findI, if_pos ⟨h1, h2, h3⟩] at this
  simpa using this.symm
theorem find_miss {k : Int} {n : ByteArray} {r : Bool} {l : List PS} {j : Nat} {y : PS} {R : Option Nat} (h : Hid ((findI k n r (l.drop j)).map (· + j) = R)) (hy : l[j]? = some y) (hn : ¬ (y.kind = k ∧ y.name = n ∧ y.req = r)) : Hid ((findI k n r (l.drop (j + 1))).map (· + (j + 1)) = R) := by
  have := h.out
  rw [drop_at hy, findI, if_neg hn, Option.map_map] at this
  refine Lib.hid ?_
  rw [← this]
  congr 1
  funext i
  simp only [Function.comp]; omega
set_option maxHeartbeats 2000000 in
set_option maxRecDepth 100000 in
theorem qfind_any {w : World} {a : Option Addr} {n c : Nat} {l : List Sy} (hl : RRow w 6 syC (.slice a n c) l) (k : Int) (nm : ByteArray) (r : Bool) :
    Calls Try.prog 39 #[.slice a n c, .int .i64 k, .string nm, .bool r] w (IPost (fOut (findI k nm r (l.map Sy.ps))) w) := by
  obtain ⟨rfl, n2⟩ := RRow.lens hl
  obtain ⟨R, hR⟩ : ∃ R, findI k nm r (l.map Sy.ps) = R := ⟨_, rfl⟩
  rw [hR]
  have HR : Hid ((findI k nm r ((l.map Sy.ps).drop 0)).map (· + 0) = R) := Lib.hid (by simpa using hR)
  clear hR
  go_enter Try.func39, Try.ntmps39
  have E := Only.refl [] w
  go_upto_region 2 with (first | fail)
  go_loopw [9] (fun i wr => ∃ j : Nat, i = .int .i64 j ∧ j ≤ l.length ∧ Hid ((findI k nm r ((l.map Sy.ps).drop j)).map (· + j) = R) ∧ Only [] w wr) (fun i _ => l.length - (intOf i).toNat)
  case atStart => exact ⟨0, rfl, Nat.zero_le _, HR, E⟩
  case round =>
    clear HR E
    obtain ⟨j, rfl, hj, HR, E⟩ := hrel
    obtain ⟨hcE, hfE⟩ := bcell E.low
    by_cases hlt : j < l.length
    · obtain ⟨y, hy⟩ := at_some hlt
      have hyp := map_at (f := Sy.ps) hy
      obtain ⟨g, o, rfl, hg, hc⟩ := RRow.cells hl hlt
      obtain ⟨hi, e⟩ := List.getElem?_eq_some_iff.1 hy
      rw [e] at hc
      have k0 := hc 0 (by omega)
      have k1 := hc 1 (by omega)
      have k2 := hc 2 (by omega)
      rw [show (syC y)[0]? = some (.int .i64 y.kind) from rfl, Nat.add_zero] at k0
      rw [show (syC y)[1]? = some (.string y.name) from rfl] at k1
      rw [show (syC y)[2]? = some (.bool y.req) from rfl] at k2
      clear hc hy e hi
      have HYP := Lib.hid hyp
      clear hyp
      by_cases h1 : y.kind = k
      · obtain ⟨g1, g2⟩ := kd_t h1
        by_cases h2 : y.name = nm
        · have g3 := txt_t h2
          rcases (show (y.req = r ∧ (y.req == r) = true) ∨ (¬ y.req = r ∧ (y.req == r) = false) by cases y.req <;> cases r <;> simp) with ⟨h3, g4⟩ | ⟨h3, g4⟩
          · have HS := Lib.hid (find_hit HR HYP.out h1 h2 h3)
            have H1 := Lib.hid h1
            have H2 := Lib.hid h2
            have H3 := Lib.hid h3
            clear h1 h2 h3 HR
            go_upto_region 9999 with (first | fail)
            go_ret
            exact ⟨by rw [HS.out]; rfl, E.low⟩
          · have HS := find_miss HR HYP.out (fun h => h3 h.2.2)
            have H1 := Lib.hid h1
            have H2 := Lib.hid h2
            have H3 := Lib.hid h3
            clear h1 h2 h3 HR
            go_upto_region 9999 with (first | fail)
            go_roundw
            case rel => exact ⟨j + 1, by go_num, by omega, HS, E⟩
            case measure => simp [intOf]; omega
        · have g3 := txt_f h2
          have HS := find_miss HR HYP.out (fun h => h2 h.2.1)
          have H1 := Lib.hid h1
          have H2 := Lib.hid h2
          clear h1 h2 HR
          go_upto_region 9999 with (first | fail)
          go_roundw
          case rel => exact ⟨j + 1, by go_num, by omega, HS, E⟩
          case measure => simp [intOf]; omega
      · obtain ⟨g1, g2⟩ := kd_f h1
        have HS := find_miss HR HYP.out (fun h => h1 h.1)
        have H1 := Lib.hid h1
        clear h1 HR
        go_upto_region 9999 with (first | fail)
        go_roundw
        case rel => exact ⟨j + 1, by go_num, by omega, HS, E⟩
        case measure => simp [intOf]; omega
    · have hz : R = none := by
        have := HR.out
        rw [List.drop_of_length_le (by rw [List.length_map]; omega)] at this
        exact this.symm
      have HZ := Lib.hid hz
      clear hz
      go_upto_region 9999 with (first | fail)
      go_ret
      exact ⟨by rw [HZ.out]; rfl, E.low⟩
set_option maxHeartbeats 4000000 in
set_option maxRecDepth 100000 in
theorem qclash_any {w : World} {a : Option Addr} {n c : Nat} {l : List Sy} (hl : Syms w (.slice a n c) l) (x : Sy) :
    Calls Try.prog 28 #[.slice a n c, .agg (syC x).toArray] w (IPost (clashP spR l x) w) := by
  obtain ⟨rfl, n2⟩ := hl.lens
  obtain ⟨R, hR⟩ : ∃ R, clashP spR l x = R := ⟨_, rfl⟩
  rw [hR]
  unfold clashP at hR
  obtain ⟨t0, ht0⟩ : ∃ t, (!x.req && isObj x.kind x.name) = t := ⟨_, rfl⟩
  rw [ht0] at hR
  have HR := Lib.hid hR
  clear hR
  have hx0 : x.req = true ∨ x.req = false := by cases x.req <;> simp
  obtain ⟨io, hio⟩ : ∃ io, isObj x.kind x.name = io := ⟨_, rfl⟩
  rw [hio] at ht0
  have hio2 : io = true ∨ io = false := by cases io <;> simp
  go_enter Try.func28, Try.ntmps28
  have E := Only.refl [] w
  rcases hx0 with hx0 | hx0 <;> rcases hio2 with rfl | rfl
  all_goals
    rw [hx0] at ht0
    simp only [Bool.not_true, Bool.not_false, Bool.false_and, Bool.true_and] at ht0
    subst ht0
    go_upto_region 3 with (first | ((with_reducible refine at_dst 3 ?_); go_simp; (generalize hX3 : Array.size (World.heap _) = X3); refine new_block hX3 ?_; intro wn bb hx; (try (have z3 := Nat.le_trans E.size (Nat.le_of_eq hX3))); have b3 := Loc.new bb E hX3; clear bb hX3; (try replace E := E.ext hx); (try (clear hcE hfE)); (try (have hcf := bcell E.low; obtain ⟨hcE, hfE⟩ := hcf)); (try (clear c3 f3)); (try (have c3 := b3.cell; have f3 := b3.free))) | ((with_reducible refine at_dst 7 ?_); (refine wp_all b3.blk rfl rfl ?_ ?_ ?_); (· kernel_rfl); (· kernel_rfl)) | ((with_reducible refine at_dst 8 ?_); go_simp; ((with_reducible refine (qobj_any x _).mono ?_)); unfold BPost; rintro e wn ⟨rfl, hx⟩; (try replace E := E.ext hx); (try replace b3 := b3.ext hx); (try (clear hcE hfE)); (try (have hcf := bcell E.low; obtain ⟨hcE, hfE⟩ := hcf)); (try (clear c3 f3)); (try (have c3 := b3.cell; have f3 := b3.free))))
    go_loopw [5, 6] (fun v i wr => ∃ (j : Nat) (t : Bool), i = .int .i64 j ∧ j ≤ l.length ∧ v = .bool t ∧ Hid (clashG spR x (l.drop j) t = R) ∧ Only [] w wr ∧ Loc [] w wr X3 57 (syC x).toArray) (fun _ i _ => l.length - (intOf i).toNat)
    case atStart => exact ⟨0, _, rfl, Nat.zero_le _, rfl, HR, E, b3⟩
    case round =>
      clear HR E b3 c3 f3 hcE hfE
      obtain ⟨j, t, rfl, hj, rfl, HR, E, b3⟩ := hrel
      have c3 := b3.cell
      have f3 := b3.free
      obtain ⟨hcE, hfE⟩ := bcell E.low
      by_cases hlt : j < l.length
      · obtain ⟨y, hy⟩ := at_some hlt
        have HY := Lib.hid hy
        obtain ⟨g, o, rfl, hg, k0, k1, k2, -⟩ := hl.at hy
        have HS := clash_step HR hy
        clear hy HR
        by_cases h1 : spR y.kind = spR x.kind
        · obtain ⟨g1, g2⟩ := kd_t h1
          have H1 := Lib.hid h1
          clear h1
          by_cases h2 : y.name = x.name
          · have g3 := txt_t h2
            have H2 := Lib.hid h2
            clear h2
            by_cases h3 : y.kind = x.kind
            · obtain ⟨g4, g5⟩ := kd_t h3
              have HS2 := HS.out
              rw [if_neg (by rintro (h | h); exact h H1.out; exact h H2.out), if_neg (by simp [h3])] at HS2
              have H3 := Lib.hid h3
              have hyr : y.req = true ∨ y.req = false := by cases y.req <;> simp
              have htb : t = true ∨ t = false := by cases t <;> simp
              have HQ := Lib.hid HS2
              clear h3 HS2 HS
              rcases hyr with hyr | hyr <;> rcases htb with rfl | rfl
              all_goals
                have HS2 := HQ.out
                rw [hx0, hyr] at HS2
                clear HQ
                have HQ := Lib.hid HS2
                clear HS2
                go_upto_region 9999 with (first | ((with_reducible refine at_dst 25 ?_); go_simp; ((with_reducible refine (qspace_any _ _).mono ?_)); unfold IPost; rintro e wn ⟨rfl, hx⟩; (try replace E := E.ext hx); (try replace b3 := b3.ext hx); (try (clear hcE hfE)); (try (have hcf := bcell E.low; obtain ⟨hcE, hfE⟩ := hcf)); (try (clear c3 f3)); (try (have c3 := b3.cell; have f3 := b3.free))) | ((with_reducible refine at_dst 28 ?_); go_simp; ((with_reducible refine (qspace_any _ _).mono ?_)); unfold IPost; rintro e wn ⟨rfl, hx⟩; (try replace E := E.ext hx); (try replace b3 := b3.ext hx); (try (clear hcE hfE)); (try (have hcf := bcell E.low; obtain ⟨hcE, hfE⟩ := hcf)); (try (clear c3 f3)); (try (have c3 := b3.cell; have f3 := b3.free))) | ((with_reducible refine at_reg 5 ?_); (refine wp_region_s (id := 5) [0, 0, 0, 2, 2, 2, 2, 3, 3, 2, 0, 0, 0, 0, 2, 2, 2, 2, 2, 2] [0, 1, 2, 3, 4, 6, 7, 5, 8, 9, 10, 11, 12, 13, 14, 15, 16, 17, 18, 19] mixed ?_ ?_); (· decide +kernel); intro K hK wn hx; (try replace E := E.ext hx); (try replace b3 := b3.ext hx); (try (clear hcE hfE)); (try (have hcf := bcell E.low; obtain ⟨hcE, hfE⟩ := hcf)); (try (clear c3 f3)); (try (have c3 := b3.cell; have f3 := b3.free)); dsimp only [pickL, List.getElem?_cons_succ, List.getElem?_cons_zero]) | ((with_reducible refine at_tag 0 ?_); (first | ((with_reducible refine wpTag_q ?_ ?_ ?_); rfl; rfl; intro _ _) | ((with_reducible refine wpTag_w ?_ ?_ ?_); rfl; rfl; intro _ _) | ((with_reducible refine wpTag_no ?_ ?_); (· (go_simp; done))) | ((with_reducible refine wpTag_s ?_ ?_); rfl; intro _ _; go_simp))) | ((with_reducible refine at_tag 2 ?_); (first | ((with_reducible refine wpTag_no ?_ ?_); (· (go_simp; done))) | (apply wpTag_2; (· rfl); (· first | rfl | go_simp); (· intro wq hq; (try (clear hcE hfE)); (try (have hcf := bcell (E.ext hq).low; obtain ⟨hcE, hfE⟩ := hcf)); (try (clear c3 f3)); (try (have c3 := (b3.ext hq).cell; have f3 := (b3.ext hq).free)); go_simp <;> rfl); (try simp only [Act.put, actL])))) | ((with_reducible refine at_tag 3 ?_); (first | ((with_reducible refine wpTag_no ?_ ?_); (· (go_simp; done))) | ((refine wpTag_3 ?_ ?_ (fun K2 hK2 => ?_)); (· rfl); (· first | rfl | go_simp)))) | ((with_reducible refine at_and ?_ ?_); (· first | exact hx | exact Ext.refl _)) | ((with_reducible refine at_tagn ?_); (with_reducible refine wpTag_nil ?_)) | ((with_reducible refine at_reg 6 ?_); (refine wp_region_x (id := 6) (spOf []) [0, 1, 2, 3, 4, 5, 6, 7] [] [] mixed ?_ ?_); (· decide +kernel); intro K ws hx hK; (try replace E := E.ext hx); (try replace b3 := b3.ext hx); (try (clear hcE hfE)); (try (have hcf := bcell E.low; obtain ⟨hcE, hfE⟩ := hcf)); (try (clear c3 f3)); (try (have c3 := b3.cell; have f3 := b3.free)); dsimp only [pickE, pickL, List.getElem?_cons_succ, List.getElem?_cons_zero] at hK ⊢) | ((with_reducible refine wpE_q ?_ ?_ ?_); rfl; rfl; intro wq hq _ _; (try (clear hcE hfE)); (try (have hcf := bcell (E.ext hq).low; obtain ⟨hcE, hfE⟩ := hcf)); (try (clear c3 f3)); (try (have c3 := (b3.ext hq).cell; have f3 := (b3.ext hq).free))) | ((with_reducible refine at_nil 0 ?_); refine wpE_nil (fun wn hx hΦ hfp hdis => ?_); (try replace E := E.ext hx); (try replace b3 := b3.ext hx); (try (clear hcE hfE)); (try (have hcf := bcell E.low; obtain ⟨hcE, hfE⟩ := hcf)); (try (clear c3 f3)); (try (have c3 := b3.cell; have f3 := b3.free)); clear hΦ hfp hdis; refine hK _ _ ?_; clear hK; (try simp only [Act.put, actL])) | (with_reducible refine wpTxt_nil ?_))
                go_roundw
                case rel => exact ⟨j + 1, _, by go_num, by omega, rfl, HQ, E, b3⟩
                case measure => simp [intOf]; omega
            · obtain ⟨g4, g5⟩ := kd_f h3
              have HS2 := HS.out
              rw [if_neg (by rintro (h | h); exact h H1.out; exact h H2.out), if_pos h3] at HS2
              have HQ := Lib.hid HS2
              have H3 := Lib.hid h3
              clear h3 HS2
              go_upto_region 9999 with (first | ((with_reducible refine at_dst 25 ?_); go_simp; ((with_reducible refine (qspace_any _ _).mono ?_)); unfold IPost; rintro e wn ⟨rfl, hx⟩; (try replace E := E.ext hx); (try replace b3 := b3.ext hx); (try (clear hcE hfE)); (try (have hcf := bcell E.low; obtain ⟨hcE, hfE⟩ := hcf)); (try (clear c3 f3)); (try (have c3 := b3.cell; have f3 := b3.free))) | ((with_reducible refine at_dst 28 ?_); go_simp; ((with_reducible refine (qspace_any _ _).mono ?_)); unfold IPost; rintro e wn ⟨rfl, hx⟩; (try replace E := E.ext hx); (try replace b3 := b3.ext hx); (try (clear hcE hfE)); (try (have hcf := bcell E.low; obtain ⟨hcE, hfE⟩ := hcf)); (try (clear c3 f3)); (try (have c3 := b3.cell; have f3 := b3.free))) | ((with_reducible refine at_reg 5 ?_); (refine wp_region_s (id := 5) [0, 0, 0, 2, 2, 2, 2, 3, 3, 2, 0, 0, 0, 0, 2, 2, 2, 2, 2, 2] [0, 1, 2, 3, 4, 6, 7, 5, 8, 9, 10, 11, 12, 13, 14, 15, 16, 17, 18, 19] mixed ?_ ?_); (· decide +kernel); intro K hK wn hx; (try replace E := E.ext hx); (try replace b3 := b3.ext hx); (try (clear hcE hfE)); (try (have hcf := bcell E.low; obtain ⟨hcE, hfE⟩ := hcf)); (try (clear c3 f3)); (try (have c3 := b3.cell; have f3 := b3.free)); dsimp only [pickL, List.getElem?_cons_succ, List.getElem?_cons_zero]) | ((with_reducible refine at_tag 0 ?_); (first | ((with_reducible refine wpTag_q ?_ ?_ ?_); rfl; rfl; intro _ _) | ((with_reducible refine wpTag_w ?_ ?_ ?_); rfl; rfl; intro _ _) | ((with_reducible refine wpTag_no ?_ ?_); (· (go_simp; done))) | ((with_reducible refine wpTag_s ?_ ?_); rfl; intro _ _; go_simp))) | ((with_reducible refine at_tag 2 ?_); (first | ((with_reducible refine wpTag_no ?_ ?_); (· (go_simp; done))) | (apply wpTag_2; (· rfl); (· first | rfl | go_simp); (· intro wq hq; (try (clear hcE hfE)); (try (have hcf := bcell (E.ext hq).low; obtain ⟨hcE, hfE⟩ := hcf)); (try (clear c3 f3)); (try (have c3 := (b3.ext hq).cell; have f3 := (b3.ext hq).free)); go_simp <;> rfl); (try simp only [Act.put, actL])))) | ((with_reducible refine at_tag 3 ?_); (first | ((with_reducible refine wpTag_no ?_ ?_); (· (go_simp; done))) | ((refine wpTag_3 ?_ ?_ (fun K2 hK2 => ?_)); (· rfl); (· first | rfl | go_simp)))) | ((with_reducible refine at_and ?_ ?_); (· first | exact hx | exact Ext.refl _)) | ((with_reducible refine at_tagn ?_); (with_reducible refine wpTag_nil ?_)) | ((with_reducible refine at_reg 6 ?_); (refine wp_region_x (id := 6) (spOf []) [0, 1, 2, 3, 4, 5, 6, 7] [] [] mixed ?_ ?_); (· decide +kernel); intro K ws hx hK; (try replace E := E.ext hx); (try replace b3 := b3.ext hx); (try (clear hcE hfE)); (try (have hcf := bcell E.low; obtain ⟨hcE, hfE⟩ := hcf)); (try (clear c3 f3)); (try (have c3 := b3.cell; have f3 := b3.free)); dsimp only [pickE, pickL, List.getElem?_cons_succ, List.getElem?_cons_zero] at hK ⊢) | ((with_reducible refine wpE_q ?_ ?_ ?_); rfl; rfl; intro wq hq _ _; (try (clear hcE hfE)); (try (have hcf := bcell (E.ext hq).low; obtain ⟨hcE, hfE⟩ := hcf)); (try (clear c3 f3)); (try (have c3 := (b3.ext hq).cell; have f3 := (b3.ext hq).free))) | ((with_reducible refine at_nil 0 ?_); refine wpE_nil (fun wn hx hΦ hfp hdis => ?_); (try replace E := E.ext hx); (try replace b3 := b3.ext hx); (try (clear hcE hfE)); (try (have hcf := bcell E.low; obtain ⟨hcE, hfE⟩ := hcf)); (try (clear c3 f3)); (try (have c3 := b3.cell; have f3 := b3.free)); clear hΦ hfp hdis; refine hK _ _ ?_; clear hK; (try simp only [Act.put, actL])) | (with_reducible refine wpTxt_nil ?_))
              go_ret
              exact ipost HQ.out E.low
          · have g3 := txt_f h2
            have HQ := Lib.hid (show clashG spR x (l.drop (j + 1)) t = R by rw [← HS.out, if_pos (.inr h2)])
            clear h2
            go_upto_region 9999 with (first | ((with_reducible refine at_dst 25 ?_); go_simp; ((with_reducible refine (qspace_any _ _).mono ?_)); unfold IPost; rintro e wn ⟨rfl, hx⟩; (try replace E := E.ext hx); (try replace b3 := b3.ext hx); (try (clear hcE hfE)); (try (have hcf := bcell E.low; obtain ⟨hcE, hfE⟩ := hcf)); (try (clear c3 f3)); (try (have c3 := b3.cell; have f3 := b3.free))) | ((with_reducible refine at_dst 28 ?_); go_simp; ((with_reducible refine (qspace_any _ _).mono ?_)); unfold IPost; rintro e wn ⟨rfl, hx⟩; (try replace E := E.ext hx); (try replace b3 := b3.ext hx); (try (clear hcE hfE)); (try (have hcf := bcell E.low; obtain ⟨hcE, hfE⟩ := hcf)); (try (clear c3 f3)); (try (have c3 := b3.cell; have f3 := b3.free))) | ((with_reducible refine at_reg 5 ?_); (refine wp_region_s (id := 5) [0, 0, 0, 2, 2, 2, 2, 3, 3, 2, 0, 0, 0, 0, 2, 2, 2, 2, 2, 2] [0, 1, 2, 3, 4, 6, 7, 5, 8, 9, 10, 11, 12, 13, 14, 15, 16, 17, 18, 19] mixed ?_ ?_); (· decide +kernel); intro K hK wn hx; (try replace E := E.ext hx); (try replace b3 := b3.ext hx); (try (clear hcE hfE)); (try (have hcf := bcell E.low; obtain ⟨hcE, hfE⟩ := hcf)); (try (clear c3 f3)); (try (have c3 := b3.cell; have f3 := b3.free)); dsimp only [pickL, List.getElem?_cons_succ, List.getElem?_cons_zero]) | ((with_reducible refine at_tag 0 ?_); (first | ((with_reducible refine wpTag_q ?_ ?_ ?_); rfl; rfl; intro _ _) | ((with_reducible refine wpTag_w ?_ ?_ ?_); rfl; rfl; intro _ _) | ((with_reducible refine wpTag_no ?_ ?_); (· (go_simp; done))) | ((with_reducible refine wpTag_s ?_ ?_); rfl; intro _ _; go_simp))) | ((with_reducible refine at_tag 2 ?_); (first | ((with_reducible refine wpTag_no ?_ ?_); (· (go_simp; done))) | (apply wpTag_2; (· rfl); (· first | rfl | go_simp); (· intro wq hq; (try (clear hcE hfE)); (try (have hcf := bcell (E.ext hq).low; obtain ⟨hcE, hfE⟩ := hcf)); (try (clear c3 f3)); (try (have c3 := (b3.ext hq).cell; have f3 := (b3.ext hq).free)); go_simp <;> rfl); (try simp only [Act.put, actL])))) | ((with_reducible refine at_tag 3 ?_); (first | ((with_reducible refine wpTag_no ?_ ?_); (· (go_simp; done))) | ((refine wpTag_3 ?_ ?_ (fun K2 hK2 => ?_)); (· rfl); (· first | rfl | go_simp)))) | ((with_reducible refine at_and ?_ ?_); (· first | exact hx | exact Ext.refl _)) | ((with_reducible refine at_tagn ?_); (with_reducible refine wpTag_nil ?_)))
            go_roundw
            case rel => exact ⟨j + 1, t, by go_num, by omega, rfl, HQ, E, b3⟩
            case measure => simp [intOf]; omega
        · obtain ⟨g1, g2⟩ := kd_f h1
          have HQ := Lib.hid (show clashG spR x (l.drop (j + 1)) t = R by rw [← HS.out, if_pos (.inl h1)])
          clear h1
          go_upto_region 9999 with (first | ((with_reducible refine at_dst 25 ?_); go_simp; ((with_reducible refine (qspace_any _ _).mono ?_)); unfold IPost; rintro e wn ⟨rfl, hx⟩; (try replace E := E.ext hx); (try replace b3 := b3.ext hx); (try (clear hcE hfE)); (try (have hcf := bcell E.low; obtain ⟨hcE, hfE⟩ := hcf)); (try (clear c3 f3)); (try (have c3 := b3.cell; have f3 := b3.free))) | ((with_reducible refine at_dst 28 ?_); go_simp; ((with_reducible refine (qspace_any _ _).mono ?_)); unfold IPost; rintro e wn ⟨rfl, hx⟩; (try replace E := E.ext hx); (try replace b3 := b3.ext hx); (try (clear hcE hfE)); (try (have hcf := bcell E.low; obtain ⟨hcE, hfE⟩ := hcf)); (try (clear c3 f3)); (try (have c3 := b3.cell; have f3 := b3.free))) | ((with_reducible refine at_reg 5 ?_); (refine wp_region_s (id := 5) [0, 0, 0, 2, 2, 2, 2, 3, 3, 2, 0, 0, 0, 0, 2, 2, 2, 2, 2, 2] [0, 1, 2, 3, 4, 6, 7, 5, 8, 9, 10, 11, 12, 13, 14, 15, 16, 17, 18, 19] mixed ?_ ?_); (· decide +kernel); intro K hK wn hx; (try replace E := E.ext hx); (try replace b3 := b3.ext hx); (try (clear hcE hfE)); (try (have hcf := bcell E.low; obtain ⟨hcE, hfE⟩ := hcf)); (try (clear c3 f3)); (try (have c3 := b3.cell; have f3 := b3.free)); dsimp only [pickL, List.getElem?_cons_succ, List.getElem?_cons_zero]) | ((with_reducible refine at_tag 0 ?_); (first | ((with_reducible refine wpTag_q ?_ ?_ ?_); rfl; rfl; intro _ _) | ((with_reducible refine wpTag_w ?_ ?_ ?_); rfl; rfl; intro _ _) | ((with_reducible refine wpTag_no ?_ ?_); (· (go_simp; done))) | ((with_reducible refine wpTag_s ?_ ?_); rfl; intro _ _; go_simp))) | ((with_reducible refine at_tag 2 ?_); (first | ((with_reducible refine wpTag_no ?_ ?_); (· (go_simp; done))) | (apply wpTag_2; (· rfl); (· first | rfl | go_simp); (· intro wq hq; (try (clear hcE hfE)); (try (have hcf := bcell (E.ext hq).low; obtain ⟨hcE, hfE⟩ := hcf)); (try (clear c3 f3)); (try (have c3 := (b3.ext hq).cell; have f3 := (b3.ext hq).free)); go_simp <;> rfl); (try simp only [Act.put, actL])))) | ((with_reducible refine at_tag 3 ?_); (first | ((with_reducible refine wpTag_no ?_ ?_); (· (go_simp; done))) | ((refine wpTag_3 ?_ ?_ (fun K2 hK2 => ?_)); (· rfl); (· first | rfl | go_simp)))) | ((with_reducible refine at_and ?_ ?_); (· first | exact hx | exact Ext.refl _)) | ((with_reducible refine at_tagn ?_); (with_reducible refine wpTag_nil ?_)))
          go_roundw
          case rel => exact ⟨j + 1, t, by go_num, by omega, rfl, HQ, E, b3⟩
          case measure => simp [intOf]; omega
      · have HE := Lib.hid (clash_end HR (by omega))
        have htb : t = true ∨ t = false := by cases t <;> simp
        rcases htb with rfl | rfl
        all_goals
          go_upto_region 9999 with (first | fail)
          go_ret
          exact ipost HE.out E.low
end Go.Proofs.Ytnifgkgdphlleaa
