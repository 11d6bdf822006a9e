/-
  The greatest power of two below a number, walked.
-/
import Derived.Test.YtljdjagackdplaaDoorTm
import Derived.Test.YtljdjagackdplaaDoorLn
import Derived.Test.YtljdjagackdplaaDoorLz
namespace Go.Proofs.YtljdjagackdplaaDoor.L
open Go
set_option linter.unusedSectionVars false
variable [Globs] [Has_sha_table] [Has_sha_begin]
def lentab : List UInt8 := ([0, 1, 2, 2, 3, 3, 3, 3, 4, 4, 4, 4, 4, 4, 4, 4, 5, 5, 5, 5, 5, 5, 5, 5, 5, 5, 5, 5, 5, 5, 5, 5, 6, 6, 6, 6, 6, 6, 6, 6, 6, 6, 6, 6, 6, 6, 6, 6, 6, 6, 6, 6, 6, 6, 6, 6, 6, 6, 6, 6, 6, 6, 6, 6] ++ [7, 7, 7, 7, 7, 7, 7, 7, 7, 7, 7, 7, 7, 7, 7, 7, 7, 7, 7, 7, 7, 7, 7, 7, 7, 7, 7, 7, 7, 7, 7, 7, 7, 7, 7, 7, 7, 7, 7, 7, 7, 7, 7, 7, 7, 7, 7, 7, 7, 7, 7, 7, 7, 7, 7, 7, 7, 7, 7, 7, 7, 7, 7, 7]) ++ ([8, 8, 8, 8, 8, 8, 8, 8, 8, 8, 8, 8, 8, 8, 8, 8, 8, 8, 8, 8, 8, 8, 8, 8, 8, 8, 8, 8, 8, 8, 8, 8, 8, 8, 8, 8, 8, 8, 8, 8, 8, 8, 8, 8, 8, 8, 8, 8, 8, 8, 8, 8, 8, 8, 8, 8, 8, 8, 8, 8, 8, 8, 8, 8] ++ [8, 8, 8, 8, 8, 8, 8, 8, 8, 8, 8, 8, 8, 8, 8, 8, 8, 8, 8, 8, 8, 8, 8, 8, 8, 8, 8, 8, 8, 8, 8, 8, 8, 8, 8, 8, 8, 8, 8, 8, 8, 8, 8, 8, 8, 8, 8, 8, 8, 8, 8, 8, 8, 8, 8, 8, 8, 8, 8, 8, 8, 8, 8, 8])
theorem len8 {n : Nat} (h : n < 256) : lentab[((n : Nat) : Int).toNat]? = some (UInt8.ofNat (blen n)) := by
  have : ∀ k : Fin 256, lentab[k.1]? = some (UInt8.ofNat (blen k.1)) := by decide +kernel
  rw [Int.toNat_natCast]
  exact this ⟨n, h⟩
theorem blen8 {n : Nat} (h : n < 256) : (UInt8.ofNat (blen n)).toNat = blen n := by
  have : ∀ k : Fin 256, (UInt8.ofNat (blen k.1)).toNat = blen k.1 := by decide +kernel
  exact this ⟨n, h⟩
theorem blen_le {m : Nat} (h : m < 18446744073709551616) : blen m ≤ 64 := by
  unfold blen
  split
  · omega
  · have := (Nat.log2_lt (by assumption)).2 (show m < 2 ^ 64 from h)
    omega
theorem len_fin {m x j : Nat} (hm : m < 18446744073709551616) (h : blen x + j = blen m) : IntKind.i64.wrap ((j : Int) + ((blen x : Nat) : Int)) = ((blen m : Nat) : Int) := by
  have := blen_le hm
  rw [show (j : Int) + ((blen x : Nat) : Int) = ((blen m : Nat) : Int) by omega]
  exact wrapi _ (by omega) (by omega)
set_option linter.unusedVariables false
set_option linter.unusedSimpArgs false
attribute [local irreducible] J Lq E OpP PRun is any agg tup ptr sl
attribute [local irreducible] lentab blen
theorem conv8 {n : Nat} (h : n < 256) : IntKind.i64.wrap ((UInt8.ofNat (blen n)).toNat : Int) = ((blen n : Nat) : Int) := by
  rw [blen8 h]
  have := blen_le (m := n) (by omega)
  exact wrapi _ (by omega) (by omega)
theorem wrap_pow {p : Nat} (h : p ≤ 2 ^ 62) : IntKind.i64.wrap ((1 * p : Nat) : Int) = (p : Int) := by
  rw [Nat.one_mul]
  exact wrapi _ (by omega) (by omega)
theorem wrapu8 (n : Nat) (h : n < 256) : IntKind.u8.wrap (n : Int) = (n : Int) := by
  rw [wrapb, UInt8.toNat_ofNat']
  congr 1
  omega
theorem wrapu {n : Nat} (h : n < 18446744073709551616) : IntKind.u64.wrap (n : Int) = (n : Int) := by
  simp [IntKind.wrap, IntKind.bits, IntKind.signed]; omega
theorem len64_fn (m : Nat) (hm : m < 18446744073709551616) : Fn Tryd.prog 50 [is (.int .u64 (m : Int))] (is (.int .i64 ((blen m : Nat) : Int))) := by
  refine Fn.mk' 25 Tryd.func50 rfl rfl rfl rfl fun w0 H0 => ?_
  by_cases h0 : 4294967296 ≤ m
  · by_cases h1 : 65536 ≤ m / 2 ^ 32
    · by_cases h2 : 256 ≤ m / 2 ^ 32 / 2 ^ 16
      · have hx : m / 2 ^ 32 / 2 ^ 16 / 2 ^ 8 < 256 := by omega
        have hf : IntKind.i64.wrap ((32 + 16 + 8 : Int) + ((blen (m / 2 ^ 32 / 2 ^ 16 / 2 ^ 8) : Nat) : Int)) = ((blen m : Nat) : Int) := len_fin (m := m) (j := 56) hm (by have eh0 := blen_div (k := 32) (show 2 ^ 32 ≤ _ from h0); have eh1 := blen_div (k := 16) (show 2 ^ 16 ≤ _ from h1); have eh2 := blen_div (k := 8) (show 2 ^ 8 ≤ _ from h2); omega)
        repeat (first | ((first | (apply Lq.s; rfl) | apply PRun.s | (apply Lq.run; rfl; rfl; rfl; exact bsB) | (apply PRun.run; rfl; rfl; exact bsB)); first | (apply op_shrn (n := 32); rfl; rfl; decide) | (apply op_shrn (n := 16); rfl; rfl; decide) | (apply op_shrn (n := 8); rfl; rfl; decide) | (apply op_conv (c := ((m / 2 ^ 32 / 2 ^ 16 / 2 ^ 8 : Nat) : Int)); rfl; exact wrapu8 _ hx) | (apply op_sidx (s := lentab); (unfold lentab; rfl); rfl; exact Int.natCast_nonneg _; exact len8 hx) | (apply op_conv (c := ((blen (m / 2 ^ 32 / 2 ^ 16 / 2 ^ 8) : Nat) : Int)); rfl; exact conv8 hx) | (apply op_add (c := ((blen m : Nat) : Int)); rfl; rfl; exact hf) | (exact bsO)) | apply J.seq | apply E.next | apply J.lq | apply Lq.nil | apply PRun.nil | apply J.block | apply E.in_normal | apply J.skip | (apply Lq.store; rfl; rfl; exact bsP; exact bsS; rfl; rfl) | (apply PRun.al; rfl) | (apply Lq.al; rfl; rfl; intro b) | (apply Open.cons; intro b) | apply Open.nil | (apply Lq.pass; rfl; rfl; rfl) | (apply PRun.pass; rfl; rfl) | (apply Lq.skip; rfl; rfl; rfl; exact bsB) | (apply PRun.skip; rfl; rfl; exact bsB) | (apply J.drawN; exact mixed; kernel_rfl) | (apply J.cond_t; rfl) | (apply J.cond_f; rfl) | apply J.exit | apply E.then_exit | apply E.in_exit | (apply E.in_other; rfl))
        (refine J.ret ?_; (repeat (first | refine E.then_ret ?_ | refine E.in_ret ?_)))
        exact E.ret1 rfl rfl
      · have hx : m / 2 ^ 32 / 2 ^ 16 < 256 := by omega
        have hf : IntKind.i64.wrap ((32 + 16 : Int) + ((blen (m / 2 ^ 32 / 2 ^ 16) : Nat) : Int)) = ((blen m : Nat) : Int) := len_fin (m := m) (j := 48) hm (by have eh0 := blen_div (k := 32) (show 2 ^ 32 ≤ _ from h0); have eh1 := blen_div (k := 16) (show 2 ^ 16 ≤ _ from h1); omega)
        repeat (first | ((first | (apply Lq.s; rfl) | apply PRun.s | (apply Lq.run; rfl; rfl; rfl; exact bsB) | (apply PRun.run; rfl; rfl; exact bsB)); first | (apply op_shrn (n := 32); rfl; rfl; decide) | (apply op_shrn (n := 16); rfl; rfl; decide) | (apply op_shrn (n := 8); rfl; rfl; decide) | (apply op_conv (c := ((m / 2 ^ 32 / 2 ^ 16 : Nat) : Int)); rfl; exact wrapu8 _ hx) | (apply op_sidx (s := lentab); (unfold lentab; rfl); rfl; exact Int.natCast_nonneg _; exact len8 hx) | (apply op_conv (c := ((blen (m / 2 ^ 32 / 2 ^ 16) : Nat) : Int)); rfl; exact conv8 hx) | (apply op_add (c := ((blen m : Nat) : Int)); rfl; rfl; exact hf) | (exact bsO)) | apply J.seq | apply E.next | apply J.lq | apply Lq.nil | apply PRun.nil | apply J.block | apply E.in_normal | apply J.skip | (apply Lq.store; rfl; rfl; exact bsP; exact bsS; rfl; rfl) | (apply PRun.al; rfl) | (apply Lq.al; rfl; rfl; intro b) | (apply Open.cons; intro b) | apply Open.nil | (apply Lq.pass; rfl; rfl; rfl) | (apply PRun.pass; rfl; rfl) | (apply Lq.skip; rfl; rfl; rfl; exact bsB) | (apply PRun.skip; rfl; rfl; exact bsB) | (apply J.drawN; exact mixed; kernel_rfl) | (apply J.cond_t; rfl) | (apply J.cond_f; rfl) | apply J.exit | apply E.then_exit | apply E.in_exit | (apply E.in_other; rfl))
        (refine J.ret ?_; (repeat (first | refine E.then_ret ?_ | refine E.in_ret ?_)))
        exact E.ret1 rfl rfl
    · by_cases h2 : 256 ≤ m / 2 ^ 32
      · have hx : m / 2 ^ 32 / 2 ^ 8 < 256 := by omega
        have hf : IntKind.i64.wrap ((32 + 8 : Int) + ((blen (m / 2 ^ 32 / 2 ^ 8) : Nat) : Int)) = ((blen m : Nat) : Int) := len_fin (m := m) (j := 40) hm (by have eh0 := blen_div (k := 32) (show 2 ^ 32 ≤ _ from h0); have eh2 := blen_div (k := 8) (show 2 ^ 8 ≤ _ from h2); omega)
        repeat (first | ((first | (apply Lq.s; rfl) | apply PRun.s | (apply Lq.run; rfl; rfl; rfl; exact bsB) | (apply PRun.run; rfl; rfl; exact bsB)); first | (apply op_shrn (n := 32); rfl; rfl; decide) | (apply op_shrn (n := 16); rfl; rfl; decide) | (apply op_shrn (n := 8); rfl; rfl; decide) | (apply op_conv (c := ((m / 2 ^ 32 / 2 ^ 8 : Nat) : Int)); rfl; exact wrapu8 _ hx) | (apply op_sidx (s := lentab); (unfold lentab; rfl); rfl; exact Int.natCast_nonneg _; exact len8 hx) | (apply op_conv (c := ((blen (m / 2 ^ 32 / 2 ^ 8) : Nat) : Int)); rfl; exact conv8 hx) | (apply op_add (c := ((blen m : Nat) : Int)); rfl; rfl; exact hf) | (exact bsO)) | apply J.seq | apply E.next | apply J.lq | apply Lq.nil | apply PRun.nil | apply J.block | apply E.in_normal | apply J.skip | (apply Lq.store; rfl; rfl; exact bsP; exact bsS; rfl; rfl) | (apply PRun.al; rfl) | (apply Lq.al; rfl; rfl; intro b) | (apply Open.cons; intro b) | apply Open.nil | (apply Lq.pass; rfl; rfl; rfl) | (apply PRun.pass; rfl; rfl) | (apply Lq.skip; rfl; rfl; rfl; exact bsB) | (apply PRun.skip; rfl; rfl; exact bsB) | (apply J.drawN; exact mixed; kernel_rfl) | (apply J.cond_t; rfl) | (apply J.cond_f; rfl) | apply J.exit | apply E.then_exit | apply E.in_exit | (apply E.in_other; rfl))
        (refine J.ret ?_; (repeat (first | refine E.then_ret ?_ | refine E.in_ret ?_)))
        exact E.ret1 rfl rfl
      · have hx : m / 2 ^ 32 < 256 := by omega
        have hf : IntKind.i64.wrap ((32 : Int) + ((blen (m / 2 ^ 32) : Nat) : Int)) = ((blen m : Nat) : Int) := len_fin (m := m) (j := 32) hm (by have eh0 := blen_div (k := 32) (show 2 ^ 32 ≤ _ from h0); omega)
        repeat (first | ((first | (apply Lq.s; rfl) | apply PRun.s | (apply Lq.run; rfl; rfl; rfl; exact bsB) | (apply PRun.run; rfl; rfl; exact bsB)); first | (apply op_shrn (n := 32); rfl; rfl; decide) | (apply op_shrn (n := 16); rfl; rfl; decide) | (apply op_shrn (n := 8); rfl; rfl; decide) | (apply op_conv (c := ((m / 2 ^ 32 : Nat) : Int)); rfl; exact wrapu8 _ hx) | (apply op_sidx (s := lentab); (unfold lentab; rfl); rfl; exact Int.natCast_nonneg _; exact len8 hx) | (apply op_conv (c := ((blen (m / 2 ^ 32) : Nat) : Int)); rfl; exact conv8 hx) | (apply op_add (c := ((blen m : Nat) : Int)); rfl; rfl; exact hf) | (exact bsO)) | apply J.seq | apply E.next | apply J.lq | apply Lq.nil | apply PRun.nil | apply J.block | apply E.in_normal | apply J.skip | (apply Lq.store; rfl; rfl; exact bsP; exact bsS; rfl; rfl) | (apply PRun.al; rfl) | (apply Lq.al; rfl; rfl; intro b) | (apply Open.cons; intro b) | apply Open.nil | (apply Lq.pass; rfl; rfl; rfl) | (apply PRun.pass; rfl; rfl) | (apply Lq.skip; rfl; rfl; rfl; exact bsB) | (apply PRun.skip; rfl; rfl; exact bsB) | (apply J.drawN; exact mixed; kernel_rfl) | (apply J.cond_t; rfl) | (apply J.cond_f; rfl) | apply J.exit | apply E.then_exit | apply E.in_exit | (apply E.in_other; rfl))
        (refine J.ret ?_; (repeat (first | refine E.then_ret ?_ | refine E.in_ret ?_)))
        exact E.ret1 rfl rfl
  · by_cases h1 : 65536 ≤ m
    · by_cases h2 : 256 ≤ m / 2 ^ 16
      · have hx : m / 2 ^ 16 / 2 ^ 8 < 256 := by omega
        have hf : IntKind.i64.wrap ((0 + 16 + 8 : Int) + ((blen (m / 2 ^ 16 / 2 ^ 8) : Nat) : Int)) = ((blen m : Nat) : Int) := len_fin (m := m) (j := 24) hm (by have eh1 := blen_div (k := 16) (show 2 ^ 16 ≤ _ from h1); have eh2 := blen_div (k := 8) (show 2 ^ 8 ≤ _ from h2); omega)
        repeat (first | ((first | (apply Lq.s; rfl) | apply PRun.s | (apply Lq.run; rfl; rfl; rfl; exact bsB) | (apply PRun.run; rfl; rfl; exact bsB)); first | (apply op_shrn (n := 32); rfl; rfl; decide) | (apply op_shrn (n := 16); rfl; rfl; decide) | (apply op_shrn (n := 8); rfl; rfl; decide) | (apply op_conv (c := ((m / 2 ^ 16 / 2 ^ 8 : Nat) : Int)); rfl; exact wrapu8 _ hx) | (apply op_sidx (s := lentab); (unfold lentab; rfl); rfl; exact Int.natCast_nonneg _; exact len8 hx) | (apply op_conv (c := ((blen (m / 2 ^ 16 / 2 ^ 8) : Nat) : Int)); rfl; exact conv8 hx) | (apply op_add (c := ((blen m : Nat) : Int)); rfl; rfl; exact hf) | (exact bsO)) | apply J.seq | apply E.next | apply J.lq | apply Lq.nil | apply PRun.nil | apply J.block | apply E.in_normal | apply J.skip | (apply Lq.store; rfl; rfl; exact bsP; exact bsS; rfl; rfl) | (apply PRun.al; rfl) | (apply Lq.al; rfl; rfl; intro b) | (apply Open.cons; intro b) | apply Open.nil | (apply Lq.pass; rfl; rfl; rfl) | (apply PRun.pass; rfl; rfl) | (apply Lq.skip; rfl; rfl; rfl; exact bsB) | (apply PRun.skip; rfl; rfl; exact bsB) | (apply J.drawN; exact mixed; kernel_rfl) | (apply J.cond_t; rfl) | (apply J.cond_f; rfl) | apply J.exit | apply E.then_exit | apply E.in_exit | (apply E.in_other; rfl))
        (refine J.ret ?_; (repeat (first | refine E.then_ret ?_ | refine E.in_ret ?_)))
        exact E.ret1 rfl rfl
      · have hx : m / 2 ^ 16 < 256 := by omega
        have hf : IntKind.i64.wrap ((0 + 16 : Int) + ((blen (m / 2 ^ 16) : Nat) : Int)) = ((blen m : Nat) : Int) := len_fin (m := m) (j := 16) hm (by have eh1 := blen_div (k := 16) (show 2 ^ 16 ≤ _ from h1); omega)
        repeat (first | ((first | (apply Lq.s; rfl) | apply PRun.s | (apply Lq.run; rfl; rfl; rfl; exact bsB) | (apply PRun.run; rfl; rfl; exact bsB)); first | (apply op_shrn (n := 32); rfl; rfl; decide) | (apply op_shrn (n := 16); rfl; rfl; decide) | (apply op_shrn (n := 8); rfl; rfl; decide) | (apply op_conv (c := ((m / 2 ^ 16 : Nat) : Int)); rfl; exact wrapu8 _ hx) | (apply op_sidx (s := lentab); (unfold lentab; rfl); rfl; exact Int.natCast_nonneg _; exact len8 hx) | (apply op_conv (c := ((blen (m / 2 ^ 16) : Nat) : Int)); rfl; exact conv8 hx) | (apply op_add (c := ((blen m : Nat) : Int)); rfl; rfl; exact hf) | (exact bsO)) | apply J.seq | apply E.next | apply J.lq | apply Lq.nil | apply PRun.nil | apply J.block | apply E.in_normal | apply J.skip | (apply Lq.store; rfl; rfl; exact bsP; exact bsS; rfl; rfl) | (apply PRun.al; rfl) | (apply Lq.al; rfl; rfl; intro b) | (apply Open.cons; intro b) | apply Open.nil | (apply Lq.pass; rfl; rfl; rfl) | (apply PRun.pass; rfl; rfl) | (apply Lq.skip; rfl; rfl; rfl; exact bsB) | (apply PRun.skip; rfl; rfl; exact bsB) | (apply J.drawN; exact mixed; kernel_rfl) | (apply J.cond_t; rfl) | (apply J.cond_f; rfl) | apply J.exit | apply E.then_exit | apply E.in_exit | (apply E.in_other; rfl))
        (refine J.ret ?_; (repeat (first | refine E.then_ret ?_ | refine E.in_ret ?_)))
        exact E.ret1 rfl rfl
    · by_cases h2 : 256 ≤ m
      · have hx : m / 2 ^ 8 < 256 := by omega
        have hf : IntKind.i64.wrap ((0 + 8 : Int) + ((blen (m / 2 ^ 8) : Nat) : Int)) = ((blen m : Nat) : Int) := len_fin (m := m) (j := 8) hm (by have eh2 := blen_div (k := 8) (show 2 ^ 8 ≤ _ from h2); omega)
        repeat (first | ((first | (apply Lq.s; rfl) | apply PRun.s | (apply Lq.run; rfl; rfl; rfl; exact bsB) | (apply PRun.run; rfl; rfl; exact bsB)); first | (apply op_shrn (n := 32); rfl; rfl; decide) | (apply op_shrn (n := 16); rfl; rfl; decide) | (apply op_shrn (n := 8); rfl; rfl; decide) | (apply op_conv (c := ((m / 2 ^ 8 : Nat) : Int)); rfl; exact wrapu8 _ hx) | (apply op_sidx (s := lentab); (unfold lentab; rfl); rfl; exact Int.natCast_nonneg _; exact len8 hx) | (apply op_conv (c := ((blen (m / 2 ^ 8) : Nat) : Int)); rfl; exact conv8 hx) | (apply op_add (c := ((blen m : Nat) : Int)); rfl; rfl; exact hf) | (exact bsO)) | apply J.seq | apply E.next | apply J.lq | apply Lq.nil | apply PRun.nil | apply J.block | apply E.in_normal | apply J.skip | (apply Lq.store; rfl; rfl; exact bsP; exact bsS; rfl; rfl) | (apply PRun.al; rfl) | (apply Lq.al; rfl; rfl; intro b) | (apply Open.cons; intro b) | apply Open.nil | (apply Lq.pass; rfl; rfl; rfl) | (apply PRun.pass; rfl; rfl) | (apply Lq.skip; rfl; rfl; rfl; exact bsB) | (apply PRun.skip; rfl; rfl; exact bsB) | (apply J.drawN; exact mixed; kernel_rfl) | (apply J.cond_t; rfl) | (apply J.cond_f; rfl) | apply J.exit | apply E.then_exit | apply E.in_exit | (apply E.in_other; rfl))
        (refine J.ret ?_; (repeat (first | refine E.then_ret ?_ | refine E.in_ret ?_)))
        exact E.ret1 rfl rfl
      · have hx : m < 256 := by omega
        have hf : IntKind.i64.wrap ((0 : Int) + ((blen (m) : Nat) : Int)) = ((blen m : Nat) : Int) := len_fin (m := m) (j := 0) hm (rfl)
        repeat (first | ((first | (apply Lq.s; rfl) | apply PRun.s | (apply Lq.run; rfl; rfl; rfl; exact bsB) | (apply PRun.run; rfl; rfl; exact bsB)); first | (apply op_shrn (n := 32); rfl; rfl; decide) | (apply op_shrn (n := 16); rfl; rfl; decide) | (apply op_shrn (n := 8); rfl; rfl; decide) | (apply op_conv (c := ((m : Nat) : Int)); rfl; exact wrapu8 _ hx) | (apply op_sidx (s := lentab); (unfold lentab; rfl); rfl; exact Int.natCast_nonneg _; exact len8 hx) | (apply op_conv (c := ((blen (m) : Nat) : Int)); rfl; exact conv8 hx) | (apply op_add (c := ((blen m : Nat) : Int)); rfl; rfl; exact hf) | (exact bsO)) | apply J.seq | apply E.next | apply J.lq | apply Lq.nil | apply PRun.nil | apply J.block | apply E.in_normal | apply J.skip | (apply Lq.store; rfl; rfl; exact bsP; exact bsS; rfl; rfl) | (apply PRun.al; rfl) | (apply Lq.al; rfl; rfl; intro b) | (apply Open.cons; intro b) | apply Open.nil | (apply Lq.pass; rfl; rfl; rfl) | (apply PRun.pass; rfl; rfl) | (apply Lq.skip; rfl; rfl; rfl; exact bsB) | (apply PRun.skip; rfl; rfl; exact bsB) | (apply J.drawN; exact mixed; kernel_rfl) | (apply J.cond_t; rfl) | (apply J.cond_f; rfl) | apply J.exit | apply E.then_exit | apply E.in_exit | (apply E.in_other; rfl))
        (refine J.ret ?_; (repeat (first | refine E.then_ret ?_ | refine E.in_ret ?_)))
        exact E.ret1 rfl rfl
theorem len_fn (m : Nat) (hm : m < 18446744073709551616) : Fn Tryd.prog 38 [is (.int .u64 (m : Int))] (is (.int .i64 ((blen m : Nat) : Int))) := by
  refine Fn.mk' 8 Tryd.func38 rfl rfl rfl rfl fun w0 H0 => ?_
  repeat (first | ((first | (apply Lq.s; rfl) | apply PRun.s | (apply Lq.run; rfl; rfl; rfl; exact bsB) | (apply PRun.run; rfl; rfl; exact bsB)); first | (apply op_call (len64_fn m hm); exact bsD) | (exact bsO)) | apply J.seq | apply E.next | apply J.lq | apply Lq.nil | apply PRun.nil | apply J.block | apply E.in_normal | apply J.skip | (apply Lq.store; rfl; rfl; exact bsP; exact bsS; rfl; rfl) | (apply PRun.al; rfl) | (apply Lq.al; rfl; rfl; intro b) | (apply Open.cons; intro b) | apply Open.nil | (apply Lq.pass; rfl; rfl; rfl) | (apply PRun.pass; rfl; rfl) | (apply Lq.skip; rfl; rfl; rfl; exact bsB) | (apply PRun.skip; rfl; rfl; exact bsB) | (apply J.drawN; exact mixed; kernel_rfl) | (apply J.cond_t; rfl) | (apply J.cond_f; rfl) | apply J.exit | apply E.then_exit | apply E.in_exit | (apply E.in_other; rfl))
  (refine J.ret ?_; (repeat (first | refine E.then_ret ?_ | refine E.in_ret ?_)))
  exact E.ret1 rfl rfl

def splitZ (n : Int) : Int := ((split n.toNat : Nat) : Int)
theorem split_fn (n : Int) (h1 : -9223372036854775808 ≤ n) (h2 : n ≤ 9223372036854775807) : Fn Tryd.prog 18 [is (.int .i64 n)] (is (.int .i64 (splitZ n))) := by
  by_cases hn : n < 2
  · have e : splitZ n = 0 := by unfold splitZ split; rw [if_pos (by omega)]; rfl
    rw [e]
    refine Fn.mk' 11 Tryd.func18 rfl rfl rfl rfl fun w0 H0 => ?_
    repeat (first | ((first | (apply Lq.s; rfl) | apply PRun.s | (apply Lq.run; rfl; rfl; rfl; exact bsB) | (apply PRun.run; rfl; rfl; exact bsB)); first | (exact bsO)) | apply J.seq | apply E.next | apply J.lq | apply Lq.nil | apply PRun.nil | apply J.block | apply E.in_normal | apply J.skip | (apply Lq.store; rfl; rfl; exact bsP; exact bsS; rfl; rfl) | (apply PRun.al; rfl) | (apply Lq.al; rfl; rfl; intro b) | (apply Open.cons; intro b) | apply Open.nil | (apply Lq.pass; rfl; rfl; rfl) | (apply PRun.pass; rfl; rfl) | (apply Lq.skip; rfl; rfl; rfl; exact bsB) | (apply PRun.skip; rfl; rfl; exact bsB) | (apply J.drawN; exact mixed; kernel_rfl) | (apply J.cond_t; rfl) | (apply J.cond_f; rfl) | apply J.exit | apply E.then_exit | apply E.in_exit | (apply E.in_other; rfl))
    (refine J.ret ?_; (repeat (first | refine E.then_ret ?_ | refine E.in_ret ?_)))
    exact E.ret1 rfl rfl
  · obtain ⟨m, rfl⟩ : ∃ m : Nat, n = (m : Int) + 1 := ⟨(n - 1).toNat, by omega⟩
    have hb : blen m = Nat.log2 m + 1 := by unfold blen; rw [if_neg (by omega)]
    have hl : Nat.log2 m < 63 := (Nat.log2_lt (by omega)).2 (show m < 2 ^ 63 by omega)
    have e : splitZ ((m : Int) + 1) = ((2 ^ Nat.log2 m : Nat) : Int) := by
      unfold splitZ split
      rw [show ((m : Int) + 1).toNat = m + 1 by omega, if_neg (by omega), Nat.add_sub_cancel]
    have hp : 2 ^ Nat.log2 m ≤ 2 ^ 62 := Nat.pow_le_pow_right (by decide) (by omega)
    rw [e]
    refine Fn.mk' 11 Tryd.func18 rfl rfl rfl rfl fun w0 H0 => ?_
    repeat (first | ((first | (apply Lq.s; rfl) | apply PRun.s | (apply Lq.run; rfl; rfl; rfl; exact bsB) | (apply PRun.run; rfl; rfl; exact bsB)); first | (apply op_sub (c := (m : Int)); rfl; rfl; (rw [show (m : Int) + 1 - 1 = (m : Int) by omega]; apply wrapi <;> omega)) | (apply op_conv (c := (m : Int)); rfl; exact wrapu (by omega)) | (apply op_call (len_fn m (by omega)); exact bsD) | (apply op_sub (c := ((Nat.log2 m : Nat) : Int)); rfl; rfl; (rw [hb, show ((Nat.log2 m + 1 : Nat) : Int) - 1 = ((Nat.log2 m : Nat) : Int) by omega]; apply wrapi <;> omega)) | (apply op_shln (m := 1) (n := Nat.log2 m) (c := ((2 ^ Nat.log2 m : Nat) : Int)); rfl; rfl; (show Nat.log2 m ≤ 64; omega); exact wrap_pow hp) | (exact bsO)) | apply J.seq | apply E.next | apply J.lq | apply Lq.nil | apply PRun.nil | apply J.block | apply E.in_normal | apply J.skip | (apply Lq.store; rfl; rfl; exact bsP; exact bsS; rfl; rfl) | (apply PRun.al; rfl) | (apply Lq.al; rfl; rfl; intro b) | (apply Open.cons; intro b) | apply Open.nil | (apply Lq.pass; rfl; rfl; rfl) | (apply PRun.pass; rfl; rfl) | (apply Lq.skip; rfl; rfl; rfl; exact bsB) | (apply PRun.skip; rfl; rfl; exact bsB) | (apply J.drawN; exact mixed; kernel_rfl) | (apply J.cond_t; rfl) | (apply J.cond_f; rfl) | apply J.exit | apply E.then_exit | apply E.in_exit | (apply E.in_other; rfl))
    (refine J.ret ?_; (repeat (first | refine E.then_ret ?_ | refine E.in_ret ?_)))
    exact E.ret1 rfl rfl
end Go.Proofs.YtljdjagackdplaaDoor.L
