/- Vt -/
import Derived.Test.YtnifgkgdphlleaaS10
import Derived.Test.YtnifgkgdphlleaaS26
import Derived.Laws.StructEq
set_option linter.unusedSimpArgs false
set_option linter.unusedVariables false
namespace Go.Proofs.Ytnifgkgdphlleaa
open Go.RowKit Tk
theorem pos_neq (a b c d : Int) (w : World) : (binOp .neq 29 (.agg #[.int .i64 a, .int .i64 b]) (.agg #[.int .i64 c, .int .i64 d])).run Try.prog w = .ok (.bool (!((a == c) && (b == d)))) w := by
  have hS : Try.prog.underlying 29 = some (.struct (Try.prog.fieldsOf 29)) := by kernel_rfl
  have hp : Try.prog.stoodInHeld 29 = false := by kernel_rfl
  rw [run_neq_struct, show (10000 : Nat) = 9999 + 1 from rfl, run_equalIn_agg w 9999 29 _ _ hS hp]
  simp only [Program.fieldsOf, Try.underlying29]
  go_simp
  by_cases h1 : a = c <;> by_cases h2 : b = d <;> simp [h1, h2]
theorem pos_in (d : Nat) (a b c e : Int) (w : World) : (Op.equalIn (d + 2) 29 (.agg #[.int .i64 a, .int .i64 b]) (.agg #[.int .i64 c, .int .i64 e])).run Try.prog w = .ok ((a == c) && (b == e)) w := by
  have hS : Try.prog.underlying 29 = some (.struct (Try.prog.fieldsOf 29)) := by kernel_rfl
  have hp : Try.prog.stoodInHeld 29 = false := by kernel_rfl
  rw [run_equalIn_agg w (d + 1) 29 _ _ hS hp]
  simp only [Program.fieldsOf, Try.underlying29]
  go_simp
  by_cases h1 : a = c <;> by_cases h2 : b = e <;> simp [h1, h2]
theorem fault_in (d : Nat) (a b c i e f : Int) (s t : ByteArray) (w : World) : (Op.equalIn (d + 3) 31 (.agg #[.int .i64 a, .int .i64 b, .int .i64 c, .string s]) (.agg #[.int .i64 i, .int .i64 e, .int .i64 f, .string t])).run Try.prog w = .ok ((a == i) && ((b == e) && (c == f)) && (s.toList == t.toList)) w := by
  have hS : Try.prog.underlying 31 = some (.struct (Try.prog.fieldsOf 31)) := by kernel_rfl
  have hp : Try.prog.stoodInHeld 31 = false := by kernel_rfl
  have hq := pos_in d b c e f w
  rw [run_equalIn_agg w (d + 2) 31 _ _ hS hp]
  simp only [Program.fieldsOf, Try.underlying31]
  go_simp
  by_cases h1 : a = i
  · by_cases h2 : b = e
    · by_cases h3 : c = f
      · by_cases h4 : s.toList = t.toList
        · simp [h1, h2, h3, h4]
        · simp [h1, h2, h3, h4]
      · simp [h1, h2, h3]
    · simp [h1, h2]
  · simp [h1]
@[go_sem] theorem fault_eql (a b c i e f : Int) (s t : ByteArray) (w : World) : (binOp .eql 31 (.agg #[.int .i64 a, .int .i64 b, .int .i64 c, .string s]) (.agg #[.int .i64 i, .int .i64 e, .int .i64 f, .string t])).run Try.prog w = .ok (.bool ((a == i) && ((b == e) && (c == f)) && (s.toList == t.toList))) w := by
  rw [run_eql_struct, show (10000 : Nat) = 9997 + 3 from rfl, fault_in 9997]; rfl
attribute [go_sem] pos_neq
/-- equal symbols, but for the heads of their permissions -/
theorem ps_eq {x y : Sy} (h : x.ps = y.ps) : ∃ hp, y = ⟨x.kind, x.name, x.req, hp, x.perms, x.line, x.col⟩ := by
  obtain ⟨k, n, r, hp, p, l, c⟩ := y
  unfold Sy.ps at h
  injection h with h1 h2 h3 h4 h5 h6
  dsimp only at h1 h2 h3 h4 h5 h6
  subst h1 h2 h3 h4 h5 h6
  exact ⟨hp, rfl⟩
theorem bb_self (s : ByteArray) : (s.toList == s.toList) = true := by simp
set_option maxHeartbeats 4000000 in
set_option maxRecDepth 100000 in
theorem same10_true {w : World} {a a' : Option Addr} {n c n' c' : Nat} {l1 l2 : List Sy} (h1 : Syms w (.slice a n c) l1) (h2 : Syms w (.slice a' n' c') l2) (he : l1.map Sy.ps = l2.map Sy.ps) :
    Calls Try.prog 14 #[.slice a n c, .slice a' n' c'] w (BPost true w) := by
  obtain ⟨rfl, n2⟩ := h1.lens
  obtain ⟨rfl, n3⟩ := h2.lens
  have hlen : l2.length = l1.length := by have := congrArg List.length he; simpa using this.symm
  have HE := Lib.hid he
  clear he
  rw [hlen] at h2 n3 ⊢
  go_enter Try.func14, Try.ntmps14
  have E := Only.refl [] w
  go_upto_region 4 with (first | fail)
  go_loopw [5] (fun i wr => ∃ j : Nat, i = .int .i64 j ∧ j ≤ l1.length ∧ Only [] w wr) (fun i _ => l1.length - (intOf i).toNat)
  case atStart => exact ⟨0, rfl, Nat.zero_le _, E⟩
  case round =>
    clear E
    obtain ⟨j, rfl, hj, E⟩ := hrel
    obtain ⟨hcE, hfE⟩ := bcell E.low
    by_cases hlt : j < l1.length
    · obtain ⟨x, hx⟩ := at_some hlt
      obtain ⟨y, hy⟩ := at_some (show j < l2.length by omega)
      have hxy : x.ps = y.ps := by
        have e1 := map_at (f := Sy.ps) hx
        have e2 := map_at (f := Sy.ps) hy
        rw [HE.out, e2] at e1
        injection e1 with e1; exact e1.symm
      obtain ⟨hp, rfl⟩ := ps_eq hxy
      have hxm := List.mem_of_getElem? hx
      have hym := List.mem_of_getElem? hy
      have HX := Lib.hid hx
      have HY := Lib.hid hy
      obtain ⟨g, o, rfl, hg, -⟩ := RRow.cells h1.row hlt
      obtain ⟨g', o', rfl, hg', -⟩ := RRow.cells h2.row (show j < l2.length by omega)
      clear hx hy hxy
      have k1 := kd_t (rfl : x.kind = x.kind)
      have k2 := bb_self x.name
      go_upto_region 10 with (first | ((with_reducible refine at_dst 23 ?_); (refine wp_rec2 (RRow.ext (h1.row.ext E.low) hq) HX.out syC_len rfl rfl ?_ ?_ ?_); (· kernel_rfl); (· kernel_rfl)) | ((with_reducible refine at_dst 49 ?_); (refine wp_part (vs := #[.int .i64 x.line, .int .i64 x.col]) b6.blk rfl rfl ?_ ?_ ?_ ?_); (· kernel_rfl); (· kernel_rfl); (· kernel_rfl)) | ((with_reducible refine at_dst 51 ?_); (refine wp_part (vs := #[.int .i64 x.line, .int .i64 x.col]) b7.blk rfl rfl ?_ ?_ ?_ ?_); (· kernel_rfl); (· kernel_rfl); (· kernel_rfl)) | ((with_reducible refine at_store 6 ?_); (refine wp_put b6 rfl rfl ?_ ?_ ?_ ?_; (· kernel_rfl); (· first | rfl | kernel_rfl); (· first | decide | exact Nat.le_refl _ | simp [Act.eval, Value.cells] | (simp [Act.eval, Act.put, Value.cells]; done)); intro wn bn hb; have hbk := hb; have E2 := E.put b6 hb; (try replace b7 := b7.but hb n7_6); clear E b6; have E := E2; clear E2; have b6 := bn; clear bn hb; dsimp only [Act.put]; simp only [putA, Act.eval, Value.cells, Nat.reduceAdd, putL, sizL] at b6; (try (clear hcE hfE)); (try (have hcf := bcell E.low; obtain ⟨hcE, hfE⟩ := hcf)); (try (clear c6 f6)); (try (have c6 := b6.cell; have f6 := b6.free)); (try (clear c7 f7)); (try (have c7 := b7.cell; have f7 := b7.free)))) | ((with_reducible refine at_store 7 ?_); (refine wp_put b7 rfl rfl ?_ ?_ ?_ ?_; (· kernel_rfl); (· first | rfl | kernel_rfl); (· first | decide | exact Nat.le_refl _ | simp [Act.eval, Value.cells] | (simp [Act.eval, Act.put, Value.cells]; done)); intro wn bn hb; have hbk := hb; have E2 := E.put b7 hb; (try replace b6 := b6.but hb n6_7); clear E b7; have E := E2; clear E2; have b7 := bn; clear bn hb; dsimp only [Act.put]; simp only [putA, Act.eval, Value.cells, Nat.reduceAdd, putL, sizL] at b7; (try (clear hcE hfE)); (try (have hcf := bcell E.low; obtain ⟨hcE, hfE⟩ := hcf)); (try (clear c6 f6)); (try (have c6 := b6.cell; have f6 := b6.free)); (try (clear c7 f7)); (try (have c7 := b7.cell; have f7 := b7.free)))) | ((with_reducible refine at_reg 6 ?_); (refine wp_region_m (id := 6) (spOf [(8, spNew 57 #[.int .i64 0, .string ⟨#[]⟩, .bool false, .slice none 0 0, .int .i64 0, .int .i64 0]), (9, spNew 57 #[.int .i64 0, .string ⟨#[]⟩, .bool false, .slice none 0 0, .int .i64 0, .int .i64 0])]) [0, 1, 2, 3, 4, 5, 6, 7, 8, 9] [4, 5, 6, 7] [7] [3, 0] [10, 11] mixed ?_ ?_); (· decide +kernel); intro K ws hx hK; (try replace E := E.ext hx); (try replace b6 := b6.ext hx); (try replace b7 := b7.ext hx); (try (clear hcE hfE)); (try (have hcf := bcell E.low; obtain ⟨hcE, hfE⟩ := hcf)); (try (clear c6 f6)); (try (have c6 := b6.cell; have f6 := b6.free)); (try (clear c7 f7)); (try (have c7 := b7.cell; have f7 := b7.free)); dsimp only [pickE, pickL, List.getElem?_cons_succ, List.getElem?_cons_zero] at hK ⊢) | ((with_reducible refine at_m 7 ?_); refine wpM_l (.agg (syC (⟨x.kind, x.name, x.req, hp, x.perms, x.line, x.col⟩ : Sy)).toArray) _ rfl rfl rfl rfl rfl ?_ ?_; (· intro wq hq K2 hK2; (refine wp_rec2 (RRow.ext (h2.row.ext E.low) hq) HY.out syC_len rfl rfl ?_ ?_ ?_); (· kernel_rfl); (· kernel_rfl); exact hK2); (try simp only [Act.put, actL])) | ((with_reducible refine at_m 8 ?_); refine wpM_w (spNew 57 #[.int .i64 0, .string ⟨#[]⟩, .bool false, .slice none 0 0, .int .i64 0, .int .i64 0]) _ rfl rfl rfl ?_ rfl rfl (⟨_, 0, rfl⟩) ?_ ?_; (· first | rfl | go_simp); (· intro wn hx K2 hK2; (try replace E := E.ext hx); (try replace b6 := b6.ext hx); (try replace b7 := b7.ext hx); (try (clear hcE hfE)); (try (have hcf := bcell E.low; obtain ⟨hcE, hfE⟩ := hcf)); (try (clear c6 f6)); (try (have c6 := b6.cell; have f6 := b6.free)); (try (clear c7 f7)); (try (have c7 := b7.cell; have f7 := b7.free)); go_wp2_with fail; exact good_new _ _ _); rintro v6 ⟨X6, rfl⟩; (try simp only [Act.put, actL])) | ((with_reducible refine at_m 9 ?_); refine wpM_w (spNew 57 #[.int .i64 0, .string ⟨#[]⟩, .bool false, .slice none 0 0, .int .i64 0, .int .i64 0]) _ rfl rfl rfl ?_ rfl rfl (⟨_, 0, rfl⟩) ?_ ?_; (· first | rfl | go_simp); (· intro wn hx K2 hK2; (try replace E := E.ext hx); (try replace b6 := b6.ext hx); (try replace b7 := b7.ext hx); (try (clear hcE hfE)); (try (have hcf := bcell E.low; obtain ⟨hcE, hfE⟩ := hcf)); (try (clear c6 f6)); (try (have c6 := b6.cell; have f6 := b6.free)); (try (clear c7 f7)); (try (have c7 := b7.cell; have f7 := b7.free)); go_wp2_with fail; exact good_new _ _ _); rintro v7 ⟨X7, rfl⟩; (try simp only [Act.put, actL])) | ((with_reducible refine wpM_q ?_ ?_ ?_ ?_); rfl; rfl; rfl; intro wq hq _ _; (try (clear hcE hfE)); (try (have hcf := bcell (E.ext hq).low; obtain ⟨hcE, hfE⟩ := hcf)); (try (clear c6 f6)); (try (have c6 := (b6.ext hq).cell; have f6 := (b6.ext hq).free)); (try (clear c7 f7)); (try (have c7 := (b7.ext hq).cell; have f7 := (b7.ext hq).free))) | ((with_reducible refine at_tag 0 ?_); (first | ((with_reducible refine wpTag_q ?_ ?_ ?_); rfl; rfl; intro _ _) | ((with_reducible refine wpTag_w ?_ ?_ ?_); rfl; rfl; intro _ _))) | ((with_reducible refine at_tag 3 ?_); (refine wpTag_3 ?_ ?_ (fun K2 hK2 => ?_)); (· rfl); (· first | rfl | go_simp)) | ((with_reducible refine at_ke ?_ ?_); (· first | exact KE.but hbk q6.1 | exact KE.but hbk q7.1)) | ((with_reducible refine at_tagn ?_); (with_reducible refine wpTag_nil ?_)) | ((with_reducible refine at_mnil 0 ?_); refine wpM_nil (fun wn hx hΦ hfp hdis => ?_); (try (have p6 : Blk wn X6 57 #[.int .i64 0, .string ⟨#[]⟩, .bool false, .slice none 0 0, .int .i64 0, .int .i64 0] := (by first | exact hΦ _ (.head _) | exact hΦ _ (.tail _ (.head _))); have q6 : ws.heap.size ≤ X6 ∧ X6 < wn.heap.size := (by first | exact hfp _ (.head _) _ (.head _) | exact hfp _ (.tail _ (.head _)) _ (.head _)); have b6 := Loc.later E p6 q6.1; have z6 := Nat.le_trans E.size q6.1; clear p6)); (try (have n7_6 : X7 ≠ X6 := Nat.ne_of_lt (Nat.lt_of_lt_of_le b7.lt q6.1); have n6_7 := n7_6.symm)); (try (have p7 : Blk wn X7 57 #[.int .i64 0, .string ⟨#[]⟩, .bool false, .slice none 0 0, .int .i64 0, .int .i64 0] := (by first | exact hΦ _ (.head _) | exact hΦ _ (.tail _ (.head _))); have q7 : ws.heap.size ≤ X7 ∧ X7 < wn.heap.size := (by first | exact hfp _ (.head _) _ (.head _) | exact hfp _ (.tail _ (.head _)) _ (.head _)); have b7 := Loc.later E p7 q7.1; have z7 := Nat.le_trans E.size q7.1; clear p7)); (try (have n6_7 : X6 ≠ X7 := Nat.ne_of_lt (Nat.lt_of_lt_of_le b6.lt q7.1); have n7_6 := n6_7.symm)); (try (have n6_7 : X6 ≠ X7 := (by first | exact (fun e => hdis _ (.head _) _ (.tail _ (.head _)) (by simp) X6 (.head _) (by rw [e]; exact .head _)) | exact (fun e => hdis _ (.tail _ (.head _)) _ (.head _) (by simp) X6 (.head _) (by rw [e]; exact .head _))))); (try (have n7_6 : X7 ≠ X6 := (by first | exact (fun e => hdis _ (.head _) _ (.tail _ (.head _)) (by simp) X7 (.head _) (by rw [e]; exact .head _)) | exact (fun e => hdis _ (.tail _ (.head _)) _ (.head _) (by simp) X7 (.head _) (by rw [e]; exact .head _))))); (try replace E := E.ext hx); (try replace b6 := b6.ext hx); (try replace b7 := b7.ext hx); (try (clear hcE hfE)); (try (have hcf := bcell E.low; obtain ⟨hcE, hfE⟩ := hcf)); (try (clear c6 f6)); (try (have c6 := b6.cell; have f6 := b6.free)); (try (clear c7 f7)); (try (have c7 := b7.cell; have f7 := b7.free)); clear hΦ hfp hdis; refine hK _ _ hx ?_; clear hK; (try simp only [Act.put, actL])))
      obtain ⟨wh, hwh⟩ : ∃ wh, wh = wn := ⟨_, rfl⟩
      subst hwh
      have hE0 := E
      have hp1 : Reads w (.slice x.hp.a x.perms.length x.hp.c) x.perms := h1.perms x hxm
      have hp2 : Reads w (.slice hp.a x.perms.length hp.c) x.perms := h2.perms _ hym
      have hpl := (Reads.lens hp1).2
      go_loopw [8] (fun i wr => ∃ k : Nat, i = .int .i64 k ∧ k ≤ x.perms.length ∧ Only [] w wr ∧ Loc [] w wr X6 57 (syC x).toArray ∧ Loc [] w wr X7 57 (syC (⟨x.kind, x.name, x.req, hp, x.perms, x.line, x.col⟩ : Sy)).toArray) (fun i _ => x.perms.length - (intOf i).toNat)
      case atStart => exact ⟨0, rfl, Nat.zero_le _, E, b6, b7⟩
      case round =>
        clear E b6 b7 c6 c7 f6 f7 hcE hfE
        obtain ⟨k, rfl, hk, E, b6, b7⟩ := hrel
        have c6 := b6.cell
        have f6 := b6.free
        have c7 := b7.cell
        have f7 := b7.free
        obtain ⟨hcE, hfE⟩ := bcell E.low
        by_cases hlt2 : k < x.perms.length
        · obtain ⟨g2, o2, hgo, hg2, k0⟩ := hp1.cells hlt2
          obtain ⟨g3, o3, hgo3, hg3, k03⟩ := hp2.cells hlt2
          have k3 := bb_self x.perms[k]
          go_upto_region 9999 with (first | ((with_reducible refine wpE_q ?_ ?_ ?_); rfl; rfl; intro wq hq _ _; (try (clear hcE hfE)); (try (have hcf := bcell (E.ext hq).low; obtain ⟨hcE, hfE⟩ := hcf)); (try (clear c6 f6)); (try (have c6 := (b6.ext hq).cell; have f6 := (b6.ext hq).free)); (try (clear c7 f7)); (try (have c7 := (b7.ext hq).cell; have f7 := (b7.ext hq).free))) | ((with_reducible refine at_reg 12 ?_); (refine wp_region_x (id := 12) (spOf []) [0, 1, 2, 3, 4, 5, 6, 7, 8, 9, 10] [] [] mixed ?_ ?_); (· decide +kernel); intro K ws hx hK; (try replace E := E.ext hx); (try replace b6 := b6.ext hx); (try replace b7 := b7.ext hx); (try (clear hcE hfE)); (try (have hcf := bcell E.low; obtain ⟨hcE, hfE⟩ := hcf)); (try (clear c6 f6)); (try (have c6 := b6.cell; have f6 := b6.free)); (try (clear c7 f7)); (try (have c7 := b7.cell; have f7 := b7.free)); dsimp only [pickE, pickL, List.getElem?_cons_succ, List.getElem?_cons_zero] at hK ⊢) | ((with_reducible refine wpE_q ?_ ?_ ?_); rfl; rfl; intro wq hq _ _; (try (clear hcE hfE)); (try (have hcf := bcell (E.ext hq).low; obtain ⟨hcE, hfE⟩ := hcf)); (try (clear c6 f6)); (try (have c6 := (b6.ext hq).cell; have f6 := (b6.ext hq).free)); (try (clear c7 f7)); (try (have c7 := (b7.ext hq).cell; have f7 := (b7.ext hq).free))) | ((with_reducible refine at_nil 0 ?_); refine wpE_nil (fun wn hx hΦ hfp hdis => ?_); (try replace E := E.ext hx); (try replace b6 := b6.ext hx); (try replace b7 := b7.ext hx); (try (clear hcE hfE)); (try (have hcf := bcell E.low; obtain ⟨hcE, hfE⟩ := hcf)); (try (clear c6 f6)); (try (have c6 := b6.cell; have f6 := b6.free)); (try (clear c7 f7)); (try (have c7 := b7.cell; have f7 := b7.free)); clear hΦ hfp hdis; refine hK _ _ ?_; clear hK; (try simp only [Act.put, actL])) | (with_reducible refine wpTxt_nil ?_))
          go_roundw
          case rel => exact ⟨k + 1, by go_num, by omega, E, b6, b7⟩
          case measure => simp [intOf]; omega
        · go_upto_region 9999 with (first | fail)
          go_roundw
          case rel => exact ⟨j + 1, by go_num, by omega, E⟩
          case measure => simp [intOf]; omega
    · go_upto_region 9999 with (first | fail)
      refine bodyPost_ret (v := .bool true) (by simp [results, Try.f14, go_sem]) rfl ⟨rfl, E.low⟩
end Go.Proofs.Ytnifgkgdphlleaa
