/- Vr -/
import Derived.Test.YtnifgkgdphlleaaS22
set_option linter.unusedSimpArgs false
set_option linter.unusedVariables false
namespace Go.Proofs.Ytnifgkgdphlleaa
open Go.RowKit Tk
theorem examine_any : ∀ N : Nat, ExmOk N
  | 0 => fun _ _ _ _ _ _ _ _ _ _ _ _ _ _ hz _ => absurd hz (Nat.not_lt_zero _)
  | N + 1 => examine_step (Lib.hid (examine_any N))
theorem syms_nil (w : World) : Syms w (.slice none 0 0) [] := ⟨RRow.nil _ _ _, fun x hx => by cases hx⟩
set_option maxHeartbeats 2000000 in
set_option maxRecDepth 100000 in
theorem check_any {w : World} {nm : ByteArray} {ver : Int} {a : Option Addr} {n c : Nat} {l : List St} (hl : RRow w 55 stC (.slice a n c) l) (hok : St.oks w l) (hfl : St.fewls l) (hev : St.evfs l) (hw : wtU (([] : List Sy).map Sy.ps) + St.wts l ≤ 1000000000000) :
    Calls Try.prog 8 #[.agg #[.string nm, .int .i64 ver, .slice a n c]] w (FPost (exList l []) w) := by
  obtain ⟨⟨q1, q2, q3, q4⟩, hF⟩ : ∃ F, exList l [] = F := ⟨_, rfl⟩
  rw [hF]
  have HF : Hid (exList l (([] : List Sy).map Sy.ps) = ⟨q1, q2, q3, q4⟩) := hF
  clear hF
  go_enter Try.func8, Try.ntmps8
  have E := Only.refl [] w
  go_upto_region 9999 with (first | ((with_reducible refine at_dst 1 ?_); go_simp; (generalize hX1 : Array.size (World.heap _) = X1); refine new_block hX1 ?_; intro wn bb hx; (try (have n2_1 := (b2.ne hX1).1; have n1_2 := (b2.ne hX1).2)); (try (have z1 := Nat.le_trans E.size (Nat.le_of_eq hX1))); have b1 := Loc.new bb E hX1; clear bb hX1; (try replace E := E.ext hx); (try replace b2 := b2.ext hx); (try (clear hcE hfE)); (try (have hcf := bcell E.low; obtain ⟨hcE, hfE⟩ := hcf)); (try (clear c1 f1)); (try (have c1 := b1.cell; have f1 := b1.free)); (try (clear c2 f2)); (try (have c2 := b2.cell; have f2 := b2.free))) | ((with_reducible refine at_dst 2 ?_); go_simp; (generalize hX2 : Array.size (World.heap _) = X2); refine new_block hX2 ?_; intro wn bb hx; (try (have n1_2 := (b1.ne hX2).1; have n2_1 := (b1.ne hX2).2)); (try (have z2 := Nat.le_trans E.size (Nat.le_of_eq hX2))); have b2 := Loc.new bb E hX2; clear bb hX2; (try replace E := E.ext hx); (try replace b1 := b1.ext hx); (try (clear hcE hfE)); (try (have hcf := bcell E.low; obtain ⟨hcE, hfE⟩ := hcf)); (try (clear c1 f1)); (try (have c1 := b1.cell; have f1 := b1.free)); (try (clear c2 f2)); (try (have c2 := b2.cell; have f2 := b2.free))) | ((with_reducible refine at_dst 5 ?_); go_simp; ((refine (examine_any _ l [] (RRow.ext hl E.low) (hok.ext E.low) hfl hev (syms_nil _) (Nat.lt_succ_self _) hw).mono ?_)); unfold FPost FT.v; rw [HF.out]; dsimp only; rintro e wn ⟨rfl, hx⟩; (try replace E := E.ext hx); (try replace b1 := b1.ext hx); (try replace b2 := b2.ext hx); (try (clear hcE hfE)); (try (have hcf := bcell E.low; obtain ⟨hcE, hfE⟩ := hcf)); (try (clear c1 f1)); (try (have c1 := b1.cell; have f1 := b1.free)); (try (clear c2 f2)); (try (have c2 := b2.cell; have f2 := b2.free))) | ((with_reducible refine at_store 2 ?_); (refine wp_put b2 rfl rfl ?_ ?_ ?_ ?_; (· kernel_rfl); (· first | rfl | kernel_rfl); (· first | decide | exact Nat.le_refl _ | simp [Act.eval, Value.cells] | (simp [Act.eval, Act.put, Value.cells]; done)); intro wn bn hb; have E2 := E.put b2 hb; (try replace b1 := b1.but hb n1_2); clear E b2; have E := E2; clear E2; have b2 := bn; clear bn hb; dsimp only [Act.put]; simp only [putA, Act.eval, Value.cells, Nat.reduceAdd, putL] at b2; (try (clear hcE hfE)); (try (have hcf := bcell E.low; obtain ⟨hcE, hfE⟩ := hcf)); (try (clear c1 f1)); (try (have c1 := b1.cell; have f1 := b1.free)); (try (clear c2 f2)); (try (have c2 := b2.cell; have f2 := b2.free)))))
  refine bodyPost_ret (v := .agg #[.int .i64 q1, .int .i64 q2, .int .i64 q3, .string q4]) (by simp [results, Try.f8, go_sem, c2]) rfl ?_
  exact fpost rfl E.low
end Go.Proofs.Ytnifgkgdphlleaa
