/-
  How many bits of a number are 1: counted one by one, and counted side by side in a machine word. No program in sight.
-/
import Derived.Test.YtljdjagackdplaaDoorSj
namespace Go.Proofs.YtljdjagackdplaaDoor.L
open Go
set_option linter.unusedSectionVars false
variable [Globs] [Has_sha_table] [Has_sha_begin]
def pop (n : Nat) : Nat := if n = 0 then 0 else n % 2 + pop (n / 2)
theorem pop_0 : pop 0 = 0 := by rw [pop, if_pos rfl]
theorem pop_s (n : Nat) : pop n = n % 2 + pop (n / 2) := by
  by_cases h : n = 0
  · subst h; rw [pop_0]
  · conv => lhs; rw [pop, if_neg h]
theorem pop_8 (x : Nat) : pop x = x % 2 + (x / 2 % 2 + (x / 4 % 2 + (x / 8 % 2 + (x / 16 % 2 + (x / 32 % 2 + (x / 64 % 2 + (x / 128 % 2 + pop (x / 256)))))))) := by
  rw [pop_s x, pop_s (x / 2), Nat.div_div_eq_div_mul, pop_s (x / (2 * 2)), Nat.div_div_eq_div_mul, pop_s (x / (2 * 2 * 2)), Nat.div_div_eq_div_mul, pop_s (x / (2 * 2 * 2 * 2)), Nat.div_div_eq_div_mul, pop_s (x / (2 * 2 * 2 * 2 * 2)), Nat.div_div_eq_div_mul, pop_s (x / (2 * 2 * 2 * 2 * 2 * 2)), Nat.div_div_eq_div_mul, pop_s (x / (2 * 2 * 2 * 2 * 2 * 2 * 2)), Nat.div_div_eq_div_mul]
theorem pop_byte {a b : Nat} (h : b < 256) : pop (256 * a + b) = pop a + pop b := by
  rw [pop_8 (256 * a + b), pop_8 b, show b / 256 = 0 by omega, show (256 * a + b) / 256 = a by omega, pop_0]
  omega
theorem and_byte {a b r s : Nat} (hr : r < 256) (hs : s < 256) : (256 * a + r) &&& (256 * b + s) = 256 * (a &&& b) + (r &&& s) := by
  apply Nat.eq_of_testBit_eq
  intro i
  have hrs : r &&& s < 256 := Nat.and_lt_two_pow r (show s < 2 ^ 8 from hs)
  rw [Nat.testBit_and, show (256 : Nat) = 2 ^ 8 from rfl, Nat.testBit_two_pow_mul_add a (show r < 2 ^ 8 from hr), Nat.testBit_two_pow_mul_add b (show s < 2 ^ 8 from hs), Nat.testBit_two_pow_mul_add _ (show r &&& s < 2 ^ 8 from hrs)]
  split
  · rw [Nat.testBit_and]
  · rw [Nat.testBit_and]
/-- A byte over and over. -/
def msk (c : Nat) : Nat → Nat
  | 0 => 0
  | k + 1 => 256 * msk c k + c
theorem msk1 : msk 85 8 = 6148914691236517205 := by decide
theorem msk2 : msk 51 8 = 3689348814741910323 := by decide
theorem msk3 : msk 15 8 = 1085102592571150095 := by decide
def f1 (b : Nat) : Nat := (b / 2 &&& 85) + (b &&& 85)
def f2 (b : Nat) : Nat := (b / 4 &&& 51) + (b &&& 51)
def f3 (b : Nat) : Nat := (b / 16 + b) &&& 15
/-- A number, byte by byte. -/
def byb (f : Nat → Nat) : Nat → Nat → Nat
  | 0, _ => 0
  | k + 1, x => 256 * byb f k (x / 256) + f (x % 256)
theorem byb_s (f : Nat → Nat) (k x : Nat) : byb f (k + 1) x = 256 * byb f k (x / 256) + f (x % 256) := rfl
theorem fin256 {P : Nat → Prop} (h : ∀ b : Fin 256, P b.1) {b : Nat} (hb : b < 256) : P b := h ⟨b, hb⟩
theorem f1_lt {b : Nat} (hb : b < 256) : f1 b < 256 := fin256 (P := fun b => f1 b < 256) (by decide +kernel) hb
theorem f2_lt {b : Nat} (hb : b < 256) : f2 b < 256 := fin256 (P := fun b => f2 b < 256) (by decide +kernel) hb
theorem f1a {b e : Nat} (hb : b < 256) (he : e < 2) : (128 * e + b / 2) &&& 85 = b / 2 &&& 85 := by
  have : e = 0 ∨ e = 1 := by omega
  rcases this with rfl | rfl
  · rw [Nat.mul_zero, Nat.zero_add]
  · exact fin256 (P := fun b => (128 * 1 + b / 2) &&& 85 = b / 2 &&& 85) (by decide +kernel) hb
theorem f2a {b e : Nat} (hb : b < 256) (he : e < 4) : (64 * e + b / 4) &&& 51 = b / 4 &&& 51 := by
  have : e = 0 ∨ e = 1 ∨ e = 2 ∨ e = 3 := by omega
  rcases this with rfl | rfl | rfl | rfl
  · rw [Nat.mul_zero, Nat.zero_add]
  · exact fin256 (P := fun b => (64 * 1 + b / 4) &&& 51 = b / 4 &&& 51) (by decide +kernel) hb
  · exact fin256 (P := fun b => (64 * 2 + b / 4) &&& 51 = b / 4 &&& 51) (by decide +kernel) hb
  · exact fin256 (P := fun b => (64 * 3 + b / 4) &&& 51 = b / 4 &&& 51) (by decide +kernel) hb
theorem step1 : ∀ k x, (x / 2 &&& msk 85 k) + (x &&& msk 85 k) = byb f1 k x
  | 0, x => by show (x / 2 &&& 0) + (x &&& 0) = 0; rw [Nat.and_zero, Nat.and_zero]
  | k + 1, x => by
    have e : x = 256 * (x / 256) + x % 256 := by omega
    have hb : x % 256 < 256 := Nat.mod_lt _ (by decide)
    have e2 : x / 2 = 256 * (x / 256 / 2) + (128 * (x / 256 % 2) + x % 256 / 2) := by omega
    show (x / 2 &&& (256 * msk 85 k + 85)) + (x &&& (256 * msk 85 k + 85)) = 256 * byb f1 k (x / 256) + f1 (x % 256)
    rw [e2, and_byte (by omega) (by decide), f1a hb (Nat.mod_lt _ (by decide))]
    conv => lhs; rhs; rw [e]
    rw [and_byte hb (by decide), ← step1 k (x / 256)]
    unfold f1
    omega
theorem step2 : ∀ k x, (x / 4 &&& msk 51 k) + (x &&& msk 51 k) = byb f2 k x
  | 0, x => by show (x / 4 &&& 0) + (x &&& 0) = 0; rw [Nat.and_zero, Nat.and_zero]
  | k + 1, x => by
    have e : x = 256 * (x / 256) + x % 256 := by omega
    have hb : x % 256 < 256 := Nat.mod_lt _ (by decide)
    have e2 : x / 4 = 256 * (x / 256 / 4) + (64 * (x / 256 % 4) + x % 256 / 4) := by omega
    show (x / 4 &&& (256 * msk 51 k + 51)) + (x &&& (256 * msk 51 k + 51)) = 256 * byb f2 k (x / 256) + f2 (x % 256)
    rw [e2, and_byte (by omega) (by decide), f2a hb (Nat.mod_lt _ (by decide))]
    conv => lhs; rhs; rw [e]
    rw [and_byte hb (by decide), ← step2 k (x / 256)]
    unfold f2
    omega
/-- Of one whose bytes are two numbers of at most 4 each. -/
theorem f3a {b e : Nat} (hb : b % 16 ≤ 4) (hb2 : b / 16 ≤ 4) (he : e ≤ 4) : (16 * e + b / 16 + b) &&& 15 = f3 b := by
  have h1 : ∀ b' : Fin 256, b'.1 % 16 ≤ 4 → b'.1 / 16 ≤ 4 → ∀ e' : Fin 5, (16 * e'.1 + b'.1 / 16 + b'.1) &&& 15 = f3 b'.1 := by decide +kernel
  exact h1 ⟨b, by omega⟩ hb hb2 ⟨e, by omega⟩
/-- Every byte of it is two numbers of at most 4. -/
def nib : Nat → Nat → Prop
  | 0, x => x = 0
  | k + 1, x => x % 16 ≤ 4 ∧ x % 256 / 16 ≤ 4 ∧ nib k (x / 256)
theorem step3 : ∀ k x, nib k x → ((x / 16 + x) &&& msk 15 k) = byb f3 k x ∧ x / 16 + x < 256 ^ k ∨ (k = 0 ∧ x = 0)
  | 0, x, h => .inr ⟨rfl, h⟩
  | k + 1, x, ⟨h1, h2, h3⟩ => by
    have e : x = 256 * (x / 256) + x % 256 := by omega
    have hlow : x / 256 % 16 ≤ 4 := by
      cases k with
      | zero => have : x / 256 = 0 := h3; rw [this]; decide
      | succ k => exact h3.1
    have e2 : x / 16 + x = 256 * (x / 256 / 16 + x / 256) + (16 * (x / 256 % 16) + x % 256 / 16 + x % 256) := by omega
    have hsm : 16 * (x / 256 % 16) + x % 256 / 16 + x % 256 < 256 := by omega
    left
    rw [e2]
    constructor
    · show (_ &&& (256 * msk 15 k + 15)) = 256 * byb f3 k (x / 256) + f3 (x % 256)
      rw [and_byte hsm (by decide), f3a (by omega) h2 hlow]
      rcases step3 k (x / 256) h3 with h | ⟨rfl, h⟩
      · rw [h.1]
      · rw [h]; rfl
    · rw [Nat.pow_succ]
      rcases step3 k (x / 256) h3 with h | ⟨rfl, h⟩
      · have := h.2; omega
      · rw [h]; simp; omega
theorem byb_lt (f : Nat → Nat) (hf : ∀ b, b < 256 → f b < 256) : ∀ k x, byb f k x < 256 ^ k
  | 0, x => by show 0 < 1; decide
  | k + 1, x => by
    have h1 := byb_lt f hf k (x / 256)
    have h2 := hf (x % 256) (Nat.mod_lt _ (by decide))
    show 256 * byb f k (x / 256) + f (x % 256) < 256 ^ (k + 1)
    rw [Nat.pow_succ]; omega
theorem byb_byb (f g : Nat → Nat) (hf : ∀ b, b < 256 → f b < 256) : ∀ k x, byb g k (byb f k x) = byb (fun b => g (f b)) k x
  | 0, x => rfl
  | k + 1, x => by
    have h2 := hf (x % 256) (Nat.mod_lt _ (by decide))
    have e : byb f (k + 1) x = 256 * byb f k (x / 256) + f (x % 256) := rfl
    show 256 * byb g k (byb f (k + 1) x / 256) + g (byb f (k + 1) x % 256) = 256 * byb (fun b => g (f b)) k (x / 256) + g (f (x % 256))
    rw [e, show (256 * byb f k (x / 256) + f (x % 256)) / 256 = byb f k (x / 256) by omega, show (256 * byb f k (x / 256) + f (x % 256)) % 256 = f (x % 256) by omega, byb_byb f g hf k]
theorem nib_byb : ∀ k x, nib k (byb (fun b => f2 (f1 b)) k x)
  | 0, x => rfl
  | k + 1, x => by
    have h1 : ∀ b : Fin 256, f2 (f1 b.1) % 16 ≤ 4 ∧ f2 (f1 b.1) / 16 ≤ 4 ∧ f2 (f1 b.1) < 256 := by decide +kernel
    obtain ⟨k1, k2, k3⟩ := h1 ⟨x % 256, Nat.mod_lt _ (by decide)⟩
    have e : byb (fun b => f2 (f1 b)) (k + 1) x = 256 * byb (fun b => f2 (f1 b)) k (x / 256) + f2 (f1 (x % 256)) := rfl
    dsimp only at k1 k2 k3
    refine ⟨by rw [e]; omega, by rw [e]; omega, ?_⟩
    rw [e, show (256 * byb (fun b => f2 (f1 b)) k (x / 256) + f2 (f1 (x % 256))) / 256 = byb (fun b => f2 (f1 b)) k (x / 256) by omega]
    exact nib_byb k _
def pp8 (b : Nat) : Nat := b % 2 + (b / 2 % 2 + (b / 4 % 2 + (b / 8 % 2 + (b / 16 % 2 + (b / 32 % 2 + (b / 64 % 2 + b / 128 % 2))))))
theorem f321 : ∀ b : Fin 256, f3 (f2 (f1 b.1)) = pp8 b.1 := by decide +kernel
theorem pop_pp8 {b : Nat} (hb : b < 256) : pop b = pp8 b := by
  rw [pop_8 b, show b / 256 = 0 by omega, pop_0, Nat.add_zero]
  rfl
theorem pp8_le (b : Nat) : pp8 b ≤ 8 := by unfold pp8; omega
theorem pop_p8 {b : Nat} (hb : b < 256) : f3 (f2 (f1 b)) = pop b ∧ pop b ≤ 8 := by
  rw [pop_pp8 hb]
  exact ⟨f321 ⟨b, hb⟩, pp8_le b⟩
theorem byb_congr {f g : Nat → Nat} (h : ∀ b, b < 256 → f b = g b) : ∀ k x, byb f k x = byb g k x
  | 0, x => rfl
  | k + 1, x => by
    show 256 * byb f k (x / 256) + f (x % 256) = 256 * byb g k (x / 256) + g (x % 256)
    rw [byb_congr h k, h _ (Nat.mod_lt _ (by decide))]
/-- The word's steps. -/
def o1 (x : Nat) : Nat := (x / 2 &&& 6148914691236517205) + (x &&& 6148914691236517205)
def o2 (x : Nat) : Nat := (x / 4 &&& 3689348814741910323) + (x &&& 3689348814741910323)
def o3 (x : Nat) : Nat := (x / 16 + x) &&& 1085102592571150095
theorem o1_lt (x : Nat) : o1 x < 2 ^ 64 := by
  unfold o1
  rw [← msk1, step1]
  exact byb_lt f1 (fun b hb => f1_lt hb) 8 x
theorem o2_lt (x : Nat) : o2 x < 2 ^ 64 := by
  unfold o2
  rw [← msk2, step2]
  exact byb_lt f2 (fun b hb => f2_lt hb) 8 x
theorem o2_o1 (x : Nat) : o2 (o1 x) = byb (fun b => f2 (f1 b)) 8 x := by
  unfold o2 o1
  rw [← msk1, ← msk2, step1, step2, byb_byb f1 f2 (fun b hb => f1_lt hb)]
theorem o3_in (x : Nat) : o2 (o1 x) / 16 + o2 (o1 x) < 2 ^ 64 := by
  rw [o2_o1]
  rcases step3 8 _ (nib_byb 8 x) with h | ⟨h, _⟩
  · exact h.2
  · cases h
theorem o3_all (x : Nat) : o3 (o2 (o1 x)) = byb pop 8 x := by
  unfold o3
  rw [o2_o1, ← msk3]
  rcases step3 8 _ (nib_byb 8 x) with h | ⟨h, _⟩
  · rw [h.1, byb_byb (fun b => f2 (f1 b)) f3 (fun b hb => f2_lt (f1_lt hb))]
    exact byb_congr (fun b hb => (pop_p8 hb).1) 8 x
  · cases h
theorem sum8v {p0 p1 p2 p3 p4 p5 p6 p7 : Nat} (q0 : p0 ≤ 8) (q1 : p1 ≤ 8) (q2 : p2 ≤ 8) (q3 : p3 ≤ 8) (q4 : p4 ≤ 8) (q5 : p5 ≤ 8) (q6 : p6 ≤ 8) (q7 : p7 ≤ 8) {y a b c : Nat}
    (hy : y = p0 + 256 * p1 + 65536 * p2 + 16777216 * p3 + 4294967296 * p4 + 1099511627776 * p5 + 281474976710656 * p6 + 72057594037927936 * p7)
    (ha : a = y + y / 256) (hb : b = a + a / 65536) (hc : c = b + b / 4294967296) : a < 18446744073709551616 ∧ b < 18446744073709551616 ∧ c < 9223372036854775808 ∧ c % 128 = p0 + p1 + p2 + p3 + p4 + p5 + p6 + p7 := by
  have g1 : y / 256 = p1 + 256 * p2 + 65536 * p3 + 16777216 * p4 + 4294967296 * p5 + 1099511627776 * p6 + 281474976710656 * p7 := by omega
  rw [g1] at ha
  clear g1
  have g2 : a / 65536 = (p2 + p3) + 256 * (p3 + p4) + 65536 * (p4 + p5) + 16777216 * (p5 + p6) + 4294967296 * (p6 + p7) + 1099511627776 * p7 := by omega
  rw [g2] at hb
  clear g2
  have g3 : b / 4294967296 = (p4 + p5 + p6 + p7) + 256 * (p5 + p6 + p7) + 65536 * (p6 + p7) + 16777216 * p7 := by omega
  rw [g3] at hc
  clear g3
  refine ⟨by omega, by omega, by omega, ?_⟩
  have g4 : c = 256 * (p0 * 0 + (p1 + p2 + p3 + p4 + p5 + p6 + p7) + 256 * (p2 + p3 + p4 + p5 + p6 + p7) + 65536 * (p3 + p4 + p5 + p6 + p7) + 16777216 * (p4 + p5 + p6 + p7) + 4294967296 * (p5 + p6 + p7) + 1099511627776 * (p6 + p7) + 281474976710656 * p7) + (p0 + p1 + p2 + p3 + p4 + p5 + p6 + p7) := by omega
  clear hy ha hb hc
  omega
theorem pop_2 (x : Nat) : pop x = pop (x / 256) + pop (x % 256) := by
  have := pop_byte (a := x / 256) (b := x % 256) (Nat.mod_lt _ (by decide))
  rwa [show 256 * (x / 256) + x % 256 = x by omega] at this
theorem pop_m (x : Nat) : pop (x % 256) ≤ 8 := (pop_p8 (Nat.mod_lt _ (by decide))).2
/-- The sum of all bytes. -/
theorem sum8 {x y a b c : Nat} (hx : x < 18446744073709551616) (hy : y = byb pop 8 x) (ha : a = y + y / 256) (hb : b = a + a / 65536) (hc : c = b + b / 4294967296) : a < 18446744073709551616 ∧ b < 18446744073709551616 ∧ c < 9223372036854775808 ∧ c % 128 = pop x := by
  obtain ⟨x1, h1⟩ : ∃ z, z = x / 256 := ⟨_, rfl⟩
  obtain ⟨x2, h2⟩ : ∃ z, z = x1 / 256 := ⟨_, rfl⟩
  obtain ⟨x3, h3⟩ : ∃ z, z = x2 / 256 := ⟨_, rfl⟩
  obtain ⟨x4, h4⟩ : ∃ z, z = x3 / 256 := ⟨_, rfl⟩
  obtain ⟨x5, h5⟩ : ∃ z, z = x4 / 256 := ⟨_, rfl⟩
  obtain ⟨x6, h6⟩ : ∃ z, z = x5 / 256 := ⟨_, rfl⟩
  obtain ⟨x7, h7⟩ : ∃ z, z = x6 / 256 := ⟨_, rfl⟩
  have l1 : x1 < 72057594037927936 := by rw [h1]; exact Nat.div_lt_of_lt_mul (Nat.lt_of_lt_of_eq hx (show 18446744073709551616 = 256 * 72057594037927936 by decide))
  have l2 : x2 < 281474976710656 := by rw [h2]; exact Nat.div_lt_of_lt_mul (Nat.lt_of_lt_of_eq l1 (show 72057594037927936 = 256 * 281474976710656 by decide))
  have l3 : x3 < 1099511627776 := by rw [h3]; exact Nat.div_lt_of_lt_mul (Nat.lt_of_lt_of_eq l2 (show 281474976710656 = 256 * 1099511627776 by decide))
  have l4 : x4 < 4294967296 := by rw [h4]; exact Nat.div_lt_of_lt_mul (Nat.lt_of_lt_of_eq l3 (show 1099511627776 = 256 * 4294967296 by decide))
  have l5 : x5 < 16777216 := by rw [h5]; exact Nat.div_lt_of_lt_mul (Nat.lt_of_lt_of_eq l4 (show 4294967296 = 256 * 16777216 by decide))
  have l6 : x6 < 65536 := by rw [h6]; exact Nat.div_lt_of_lt_mul (Nat.lt_of_lt_of_eq l5 (show 16777216 = 256 * 65536 by decide))
  have l7 : x7 < 256 := by rw [h7]; exact Nat.div_lt_of_lt_mul (Nat.lt_of_lt_of_eq l6 (show 65536 = 256 * 256 by decide))
  have h8 : x7 / 256 = 0 := Nat.div_eq_of_lt l7
  have e0 := pop_2 x
  have e1 := pop_2 x1
  have e2 := pop_2 x2
  have e3 := pop_2 x3
  have e4 := pop_2 x4
  have e5 := pop_2 x5
  have e6 := pop_2 x6
  have e7 := pop_2 x7
  rw [← h1] at e0
  rw [← h2] at e1
  rw [← h3] at e2
  rw [← h4] at e3
  rw [← h5] at e4
  rw [← h6] at e5
  rw [← h7] at e6
  rw [h8, pop_0] at e7
  have hyy : byb pop 8 x = 256 * (256 * (256 * (256 * (256 * (256 * (256 * (256 * 0 + pop (x7 % 256)) + pop (x6 % 256)) + pop (x5 % 256)) + pop (x4 % 256)) + pop (x3 % 256)) + pop (x2 % 256)) + pop (x1 % 256)) + pop (x % 256) := by
    rw [byb_s pop 7 x, ← h1, byb_s pop 6 x1, ← h2, byb_s pop 5 x2, ← h3, byb_s pop 4 x3, ← h4, byb_s pop 3 x4, ← h5, byb_s pop 2 x5, ← h6, byb_s pop 1 x6, ← h7, byb_s pop 0 x7]
    rfl
  clear h1 h2 h3 h4 h5 h6 h7 h8 l1 l2 l3 l4 l5 l6 l7 hx
  have := sum8v (pop_m x) (pop_m x1) (pop_m x2) (pop_m x3) (pop_m x4) (pop_m x5) (pop_m x6) (pop_m x7) (y := y) (by rw [hy, hyy]; clear e0 e1 e2 e3 e4 e5 e6 e7 hyy hy; omega) ha hb hc
  refine ⟨this.1, this.2.1, this.2.2.1, ?_⟩
  rw [this.2.2.2, e0, e1, e2, e3, e4, e5, e6, e7]
  clear e0 e1 e2 e3 e4 e5 e6 e7 hyy hy ha hb hc this
  omega
end Go.Proofs.YtljdjagackdplaaDoor.L
