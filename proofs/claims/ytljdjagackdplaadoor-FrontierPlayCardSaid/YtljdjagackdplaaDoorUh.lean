import Derived.Test.YtljdjagackdplaaDoorSj
import Derived.Test.YtljdjagackdplaaDoorTm
import Derived.Test.YtljdjagackdplaaDoorWz
import Derived.Test.YtljdjagackdplaaDoorLo
/-
  How many bits of a number are 1: counted one by one, and counted side by side in a machine word. No program in sight.
-/
namespace Go.Proofs.YtljdjagackdplaaDoor.L
open Go
set_option linter.unusedSectionVars false
variable [Globs] [Has_sha_table] [Has_sha_begin]
def pop (n : Nat) : Nat := if n = 0 then 0 else n % 2 + pop (n / 2)
theorem pop_0 : pop 0 = 0 := by rw [pop, if_pos rfl]
theorem pop_s (n : Nat) : pop n = n % 2 + pop (n / 2) := by
  by_cases h : n = 0
  · subst h; rw [pop_0]
  · conv => lhs; rw [pop, if_neg h]
theorem pop_8 (x : Nat) : pop x = x % 2 + (x / 2 % 2 + (x / 4 % 2 + (x / 8 % 2 + (x / 16 % 2 + (x / 32 % 2 + (x / 64 % 2 + (x / 128 % 2 + pop (x / 256)))))))) := by
  rw [pop_s x, pop_s (x / 2), Nat.div_div_eq_div_mul, pop_s (x / (2 * 2)), Nat.div_div_eq_div_mul, pop_s (x / (2 * 2 * 2)), Nat.div_div_eq_div_mul, pop_s (x / (2 * 2 * 2 * 2)), Nat.div_div_eq_div_mul, pop_s (x / (2 * 2 * 2 * 2 * 2)), Nat.div_div_eq_div_mul, pop_s (x / (2 * 2 * 2 * 2 * 2 * 2)), Nat.div_div_eq_div_mul, pop_s (x / (2 * 2 * 2 * 2 * 2 * 2 * 2)), Nat.div_div_eq_div_mul]
theorem pop_byte {a b : Nat} (h : b < 256) : pop (256 * a + b) = pop a + pop b := by
  rw [pop_8 (256 * a + b), pop_8 b, show b / 256 = 0 by omega, show (256 * a + b) / 256 = a by omega, pop_0]
  omega
theorem and_byte {a b r s : Nat} (hr : r < 256) (hs : s < 256) : (256 * a + r) &&& (256 * b + s) = 256 * (a &&& b) + (r &&& s) := by
  apply Nat.eq_of_testBit_eq
  intro i
  have hrs : r &&& s < 256 := Nat.and_lt_two_pow r (show s < 2 ^ 8 from hs)
  rw [Nat.testBit_and, show (256 : Nat) = 2 ^ 8 from rfl, Nat.testBit_two_pow_mul_add a (show r < 2 ^ 8 from hr), Nat.testBit_two_pow_mul_add b (show s < 2 ^ 8 from hs), Nat.testBit_two_pow_mul_add _ (show r &&& s < 2 ^ 8 from hrs)]
  split
  · rw [Nat.testBit_and]
  · rw [Nat.testBit_and]
/-- A byte over and over. -/
def msk (c : Nat) : Nat → Nat
  | 0 => 0
  | k + 1 => 256 * msk c k + c
theorem msk1 : msk 85 8 = 6148914691236517205 := by decide
theorem msk2 : msk 51 8 = 3689348814741910323 := by decide
theorem msk3 : msk 15 8 = 1085102592571150095 := by decide
def f1 (b : Nat) : Nat := (b / 2 &&& 85) + (b &&& 85)
def f2 (b : Nat) : Nat := (b / 4 &&& 51) + (b &&& 51)
def f3 (b : Nat) : Nat := (b / 16 + b) &&& 15
/-- A number, byte by byte. -/
def byb (f : Nat → Nat) : Nat → Nat → Nat
  | 0, _ => 0
  | k + 1, x => 256 * byb f k (x / 256) + f (x % 256)
theorem byb_s (f : Nat → Nat) (k x : Nat) : byb f (k + 1) x = 256 * byb f k (x / 256) + f (x % 256) := rfl
theorem fin256 {P : Nat → Prop} (h : ∀ b : Fin 256, P b.1) {b : Nat} (hb : b < 256) : P b := h ⟨b, hb⟩
theorem f1_lt {b : Nat} (hb : b < 256) : f1 b < 256 := fin256 (P := fun b => f1 b < 256) (by decide +kernel) hb
theorem f2_lt {b : Nat} (hb : b < 256) : f2 b < 256 := fin256 (P := fun b => f2 b < 256) (by decide +kernel) hb
theorem f1a {b e : Nat} (hb : b < 256) (he : e < 2) : (128 * e + b / 2) &&& 85 = b / 2 &&& 85 := by
  have : e = 0 ∨ e = 1 := by omega
  rcases this with rfl | rfl
  · rw [Nat.mul_zero, Nat.zero_add]
  · exact fin256 (P := fun b => (128 * 1 + b / 2) &&& 85 = b / 2 &&& 85) (by decide +kernel) hb
theorem f2a {b e : Nat} (hb : b < 256) (he : e < 4) : (64 * e + b / 4) &&& 51 = b / 4 &&& 51 := by
  have : e = 0 ∨ e = 1 ∨ e = 2 ∨ e = 3 := by omega
  rcases this with rfl | rfl | rfl | rfl
  · rw [Nat.mul_zero, Nat.zero_add]
  · exact fin256 (P := fun b => (64 * 1 + b / 4) &&& 51 = b / 4 &&& 51) (by decide +kernel) hb
  · exact fin256 (P := fun b => (64 * 2 + b / 4) &&& 51 = b / 4 &&& 51) (by decide +kernel) hb
  · exact fin256 (P := fun b => (64 * 3 + b / 4) &&& 51 = b / 4 &&& 51) (by decide +kernel) hb
theorem step1 : ∀ k x, (x / 2 &&& msk 85 k) + (x &&& msk 85 k) = byb f1 k x
  | 0, x => by show (x / 2 &&& 0) + (x &&& 0) = 0; rw [Nat.and_zero, Nat.and_zero]
  | k + 1, x => by
    have e : x = 256 * (x / 256) + x % 256 := by omega
    have hb : x % 256 < 256 := Nat.mod_lt _ (by decide)
    have e2 : x / 2 = 256 * (x / 256 / 2) + (128 * (x / 256 % 2) + x % 256 / 2) := by omega
    show (x / 2 &&& (256 * msk 85 k + 85)) + (x &&& (256 * msk 85 k + 85)) = 256 * byb f1 k (x / 256) + f1 (x % 256)
    rw [e2, and_byte (by omega) (by decide), f1a hb (Nat.mod_lt _ (by decide))]
    conv => lhs; rhs; rw [e]
    rw [and_byte hb (by decide), ← step1 k (x / 256)]
    unfold f1
    omega
theorem step2 : ∀ k x, (x / 4 &&& msk 51 k) + (x &&& msk 51 k) = byb f2 k x
  | 0, x => by show (x / 4 &&& 0) + (x &&& 0) = 0; rw [Nat.and_zero, Nat.and_zero]
  | k + 1, x => by
    have e : x = 256 * (x / 256) + x % 256 := by omega
    have hb : x % 256 < 256 := Nat.mod_lt _ (by decide)
    have e2 : x / 4 = 256 * (x / 256 / 4) + (64 * (x / 256 % 4) + x % 256 / 4) := by omega
    show (x / 4 &&& (256 * msk 51 k + 51)) + (x &&& (256 * msk 51 k + 51)) = 256 * byb f2 k (x / 256) + f2 (x % 256)
    rw [e2, and_byte (by omega) (by decide), f2a hb (Nat.mod_lt _ (by decide))]
    conv => lhs; rhs; rw [e]
    rw [and_byte hb (by decide), ← step2 k (x / 256)]
    unfold f2
    omega
/-- Of one whose bytes are two numbers of at most 4 each. -/
theorem f3a {b e : Nat} (hb : b % 16 ≤ 4) (hb2 : b / 16 ≤ 4) (he : e ≤ 4) : (16 * e + b / 16 + b) &&& 15 = f3 b := by
  have h1 : ∀ b' : Fin 256, b'.1 % 16 ≤ 4 → b'.1 / 16 ≤ 4 → ∀ e' : Fin 5, (16 * e'.1 + b'.1 / 16 + b'.1) &&& 15 = f3 b'.1 := by decide +kernel
  exact h1 ⟨b, by omega⟩ hb hb2 ⟨e, by omega⟩
/-- Every byte of it is two numbers of at most 4. -/
def nib : Nat → Nat → Prop
  | 0, x => x = 0
  | k + 1, x => x % 16 ≤ 4 ∧ x % 256 / 16 ≤ 4 ∧ nib k (x / 256)
theorem step3 : ∀ k x, nib k x → ((x / 16 + x) &&& msk 15 k) = byb f3 k x ∧ x / 16 + x < 256 ^ k ∨ (k = 0 ∧ x = 0)
  | 0, x, h => .inr ⟨rfl, h⟩
  | k + 1, x, ⟨h1, h2, h3⟩ => by
    have e : x = 256 * (x / 256) + x % 256 := by omega
    have hlow : x / 256 % 16 ≤ 4 := by
      cases k with
      | zero => have : x / 256 = 0 := h3; rw [this]; decide
      | succ k => exact h3.1
    have e2 : x / 16 + x = 256 * (x / 256 / 16 + x / 256) + (16 * (x / 256 % 16) + x % 256 / 16 + x % 256) := by omega
    have hsm : 16 * (x / 256 % 16) + x % 256 / 16 + x % 256 < 256 := by omega
    left
    rw [e2]
    constructor
    · show (_ &&& (256 * msk 15 k + 15)) = 256 * byb f3 k (x / 256) + f3 (x % 256)
      rw [and_byte hsm (by decide), f3a (by omega) h2 hlow]
      rcases step3 k (x / 256) h3 with h | ⟨rfl, h⟩
      · rw [h.1]
      · rw [h]; rfl
    · rw [Nat.pow_succ]
      rcases step3 k (x / 256) h3 with h | ⟨rfl, h⟩
      · have := h.2; omega
      · rw [h]; simp; omega
theorem byb_lt (f : Nat → Nat) (hf : ∀ b, b < 256 → f b < 256) : ∀ k x, byb f k x < 256 ^ k
  | 0, x => by show 0 < 1; decide
  | k + 1, x => by
    have h1 := byb_lt f hf k (x / 256)
    have h2 := hf (x % 256) (Nat.mod_lt _ (by decide))
    show 256 * byb f k (x / 256) + f (x % 256) < 256 ^ (k + 1)
    rw [Nat.pow_succ]; omega
theorem byb_byb (f g : Nat → Nat) (hf : ∀ b, b < 256 → f b < 256) : ∀ k x, byb g k (byb f k x) = byb (fun b => g (f b)) k x
  | 0, x => rfl
  | k + 1, x => by
    have h2 := hf (x % 256) (Nat.mod_lt _ (by decide))
    have e : byb f (k + 1) x = 256 * byb f k (x / 256) + f (x % 256) := rfl
    show 256 * byb g k (byb f (k + 1) x / 256) + g (byb f (k + 1) x % 256) = 256 * byb (fun b => g (f b)) k (x / 256) + g (f (x % 256))
    rw [e, show (256 * byb f k (x / 256) + f (x % 256)) / 256 = byb f k (x / 256) by omega, show (256 * byb f k (x / 256) + f (x % 256)) % 256 = f (x % 256) by omega, byb_byb f g hf k]
theorem nib_byb : ∀ k x, nib k (byb (fun b => f2 (f1 b)) k x)
  | 0, x => rfl
  | k + 1, x => by
    have h1 : ∀ b : Fin 256, f2 (f1 b.1) % 16 ≤ 4 ∧ f2 (f1 b.1) / 16 ≤ 4 ∧ f2 (f1 b.1) < 256 := by decide +kernel
    obtain ⟨k1, k2, k3⟩ := h1 ⟨x % 256, Nat.mod_lt _ (by decide)⟩
    have e : byb (fun b => f2 (f1 b)) (k + 1) x = 256 * byb (fun b => f2 (f1 b)) k (x / 256) + f2 (f1 (x % 256)) := rfl
    dsimp only at k1 k2 k3
    refine ⟨by rw [e]; omega, by rw [e]; omega, ?_⟩
    rw [e, show (256 * byb (fun b => f2 (f1 b)) k (x / 256) + f2 (f1 (x % 256))) / 256 = byb (fun b => f2 (f1 b)) k (x / 256) by omega]
    exact nib_byb k _
def pp8 (b : Nat) : Nat := b % 2 + (b / 2 % 2 + (b / 4 % 2 + (b / 8 % 2 + (b / 16 % 2 + (b / 32 % 2 + (b / 64 % 2 + b / 128 % 2))))))
theorem f321 : ∀ b : Fin 256, f3 (f2 (f1 b.1)) = pp8 b.1 := by decide +kernel
theorem pop_pp8 {b : Nat} (hb : b < 256) : pop b = pp8 b := by
  rw [pop_8 b, show b / 256 = 0 by omega, pop_0, Nat.add_zero]
  rfl
theorem pp8_le (b : Nat) : pp8 b ≤ 8 := by unfold pp8; omega
theorem pop_p8 {b : Nat} (hb : b < 256) : f3 (f2 (f1 b)) = pop b ∧ pop b ≤ 8 := by
  rw [pop_pp8 hb]
  exact ⟨f321 ⟨b, hb⟩, pp8_le b⟩
theorem byb_congr {f g : Nat → Nat} (h : ∀ b, b < 256 → f b = g b) : ∀ k x, byb f k x = byb g k x
  | 0, x => rfl
  | k + 1, x => by
    show 256 * byb f k (x / 256) + f (x % 256) = 256 * byb g k (x / 256) + g (x % 256)
    rw [byb_congr h k, h _ (Nat.mod_lt _ (by decide))]
/-- The word's steps. -/
def o1 (x : Nat) : Nat := (x / 2 &&& 6148914691236517205) + (x &&& 6148914691236517205)
def o2 (x : Nat) : Nat := (x / 4 &&& 3689348814741910323) + (x &&& 3689348814741910323)
def o3 (x : Nat) : Nat := (x / 16 + x) &&& 1085102592571150095
theorem o1_lt (x : Nat) : o1 x < 2 ^ 64 := by
  unfold o1
  rw [← msk1, step1]
  exact byb_lt f1 (fun b hb => f1_lt hb) 8 x
theorem o2_lt (x : Nat) : o2 x < 2 ^ 64 := by
  unfold o2
  rw [← msk2, step2]
  exact byb_lt f2 (fun b hb => f2_lt hb) 8 x
theorem o2_o1 (x : Nat) : o2 (o1 x) = byb (fun b => f2 (f1 b)) 8 x := by
  unfold o2 o1
  rw [← msk1, ← msk2, step1, step2, byb_byb f1 f2 (fun b hb => f1_lt hb)]
theorem o3_in (x : Nat) : o2 (o1 x) / 16 + o2 (o1 x) < 2 ^ 64 := by
  rw [o2_o1]
  rcases step3 8 _ (nib_byb 8 x) with h | ⟨h, _⟩
  · exact h.2
  · cases h
theorem o3_all (x : Nat) : o3 (o2 (o1 x)) = byb pop 8 x := by
  unfold o3
  rw [o2_o1, ← msk3]
  rcases step3 8 _ (nib_byb 8 x) with h | ⟨h, _⟩
  · rw [h.1, byb_byb (fun b => f2 (f1 b)) f3 (fun b hb => f2_lt (f1_lt hb))]
    exact byb_congr (fun b hb => (pop_p8 hb).1) 8 x
  · cases h
theorem sum8v {p0 p1 p2 p3 p4 p5 p6 p7 : Nat} (q0 : p0 ≤ 8) (q1 : p1 ≤ 8) (q2 : p2 ≤ 8) (q3 : p3 ≤ 8) (q4 : p4 ≤ 8) (q5 : p5 ≤ 8) (q6 : p6 ≤ 8) (q7 : p7 ≤ 8) {y a b c : Nat}
    (hy : y = p0 + 256 * p1 + 65536 * p2 + 16777216 * p3 + 4294967296 * p4 + 1099511627776 * p5 + 281474976710656 * p6 + 72057594037927936 * p7)
    (ha : a = y + y / 256) (hb : b = a + a / 65536) (hc : c = b + b / 4294967296) : a < 18446744073709551616 ∧ b < 18446744073709551616 ∧ c < 9223372036854775808 ∧ c % 128 = p0 + p1 + p2 + p3 + p4 + p5 + p6 + p7 := by
  have g1 : y / 256 = p1 + 256 * p2 + 65536 * p3 + 16777216 * p4 + 4294967296 * p5 + 1099511627776 * p6 + 281474976710656 * p7 := by omega
  rw [g1] at ha
  clear g1
  have g2 : a / 65536 = (p2 + p3) + 256 * (p3 + p4) + 65536 * (p4 + p5) + 16777216 * (p5 + p6) + 4294967296 * (p6 + p7) + 1099511627776 * p7 := by omega
  rw [g2] at hb
  clear g2
  have g3 : b / 4294967296 = (p4 + p5 + p6 + p7) + 256 * (p5 + p6 + p7) + 65536 * (p6 + p7) + 16777216 * p7 := by omega
  rw [g3] at hc
  clear g3
  refine ⟨by omega, by omega, by omega, ?_⟩
  have g4 : c = 256 * (p0 * 0 + (p1 + p2 + p3 + p4 + p5 + p6 + p7) + 256 * (p2 + p3 + p4 + p5 + p6 + p7) + 65536 * (p3 + p4 + p5 + p6 + p7) + 16777216 * (p4 + p5 + p6 + p7) + 4294967296 * (p5 + p6 + p7) + 1099511627776 * (p6 + p7) + 281474976710656 * p7) + (p0 + p1 + p2 + p3 + p4 + p5 + p6 + p7) := by omega
  clear hy ha hb hc
  omega
theorem pop_2 (x : Nat) : pop x = pop (x / 256) + pop (x % 256) := by
  have := pop_byte (a := x / 256) (b := x % 256) (Nat.mod_lt _ (by decide))
  rwa [show 256 * (x / 256) + x % 256 = x by omega] at this
theorem pop_m (x : Nat) : pop (x % 256) ≤ 8 := (pop_p8 (Nat.mod_lt _ (by decide))).2
/-- The sum of all bytes. -/
theorem sum8 {x y a b c : Nat} (hx : x < 18446744073709551616) (hy : y = byb pop 8 x) (ha : a = y + y / 256) (hb : b = a + a / 65536) (hc : c = b + b / 4294967296) : a < 18446744073709551616 ∧ b < 18446744073709551616 ∧ c < 9223372036854775808 ∧ c % 128 = pop x := by
  obtain ⟨x1, h1⟩ : ∃ z, z = x / 256 := ⟨_, rfl⟩
  obtain ⟨x2, h2⟩ : ∃ z, z = x1 / 256 := ⟨_, rfl⟩
  obtain ⟨x3, h3⟩ : ∃ z, z = x2 / 256 := ⟨_, rfl⟩
  obtain ⟨x4, h4⟩ : ∃ z, z = x3 / 256 := ⟨_, rfl⟩
  obtain ⟨x5, h5⟩ : ∃ z, z = x4 / 256 := ⟨_, rfl⟩
  obtain ⟨x6, h6⟩ : ∃ z, z = x5 / 256 := ⟨_, rfl⟩
  obtain ⟨x7, h7⟩ : ∃ z, z = x6 / 256 := ⟨_, rfl⟩
  have l1 : x1 < 72057594037927936 := by rw [h1]; exact Nat.div_lt_of_lt_mul (Nat.lt_of_lt_of_eq hx (show 18446744073709551616 = 256 * 72057594037927936 by decide))
  have l2 : x2 < 281474976710656 := by rw [h2]; exact Nat.div_lt_of_lt_mul (Nat.lt_of_lt_of_eq l1 (show 72057594037927936 = 256 * 281474976710656 by decide))
  have l3 : x3 < 1099511627776 := by rw [h3]; exact Nat.div_lt_of_lt_mul (Nat.lt_of_lt_of_eq l2 (show 281474976710656 = 256 * 1099511627776 by decide))
  have l4 : x4 < 4294967296 := by rw [h4]; exact Nat.div_lt_of_lt_mul (Nat.lt_of_lt_of_eq l3 (show 1099511627776 = 256 * 4294967296 by decide))
  have l5 : x5 < 16777216 := by rw [h5]; exact Nat.div_lt_of_lt_mul (Nat.lt_of_lt_of_eq l4 (show 4294967296 = 256 * 16777216 by decide))
  have l6 : x6 < 65536 := by rw [h6]; exact Nat.div_lt_of_lt_mul (Nat.lt_of_lt_of_eq l5 (show 16777216 = 256 * 65536 by decide))
  have l7 : x7 < 256 := by rw [h7]; exact Nat.div_lt_of_lt_mul (Nat.lt_of_lt_of_eq l6 (show 65536 = 256 * 256 by decide))
  have h8 : x7 / 256 = 0 := Nat.div_eq_of_lt l7
  have e0 := pop_2 x
  have e1 := pop_2 x1
  have e2 := pop_2 x2
  have e3 := pop_2 x3
  have e4 := pop_2 x4
  have e5 := pop_2 x5
  have e6 := pop_2 x6
  have e7 := pop_2 x7
  rw [← h1] at e0
  rw [← h2] at e1
  rw [← h3] at e2
  rw [← h4] at e3
  rw [← h5] at e4
  rw [← h6] at e5
  rw [← h7] at e6
  rw [h8, pop_0] at e7
  have hyy : byb pop 8 x = 256 * (256 * (256 * (256 * (256 * (256 * (256 * (256 * 0 + pop (x7 % 256)) + pop (x6 % 256)) + pop (x5 % 256)) + pop (x4 % 256)) + pop (x3 % 256)) + pop (x2 % 256)) + pop (x1 % 256)) + pop (x % 256) := by
    rw [byb_s pop 7 x, ← h1, byb_s pop 6 x1, ← h2, byb_s pop 5 x2, ← h3, byb_s pop 4 x3, ← h4, byb_s pop 3 x4, ← h5, byb_s pop 2 x5, ← h6, byb_s pop 1 x6, ← h7, byb_s pop 0 x7]
    rfl
  clear h1 h2 h3 h4 h5 h6 h7 h8 l1 l2 l3 l4 l5 l6 l7 hx
  have := sum8v (pop_m x) (pop_m x1) (pop_m x2) (pop_m x3) (pop_m x4) (pop_m x5) (pop_m x6) (pop_m x7) (y := y) (by rw [hy, hyy]; clear e0 e1 e2 e3 e4 e5 e6 e7 hyy hy; omega) ha hb hc
  refine ⟨this.1, this.2.1, this.2.2.1, ?_⟩
  rw [this.2.2.2, e0, e1, e2, e3, e4, e5, e6, e7]
  clear e0 e1 e2 e3 e4 e5 e6 e7 hyy hy ha hb hc this
  omega
end Go.Proofs.YtljdjagackdplaaDoor.L
/-
  The edge of a tree to which leaves come one by one: no program in sight.
-/
namespace Go.Proofs.YtljdjagackdplaaDoor.L
open Go
set_option linter.unusedSectionVars false
variable [Globs] [Has_sha_table] [Has_sha_begin]
/-- The last two made one. -/
def join2 (hs : List Hash) : List Hash := match hs.reverse with
  | b :: a :: r => (nodeH a b :: r).reverse
  | _ => hs
theorem join2_of (xs : List Hash) (a b : Hash) : join2 (xs ++ [a, b]) = xs ++ [nodeH a b] := by
  unfold join2
  simp
/-- As often as a number ends in 1 bits. -/
def joins (n : Nat) (hs : List Hash) : List Hash := if n % 2 = 1 then joins (n / 2) (join2 hs) else hs
termination_by n
decreasing_by omega
theorem joins_odd {n : Nat} (h : n % 2 = 1) (hs : List Hash) : joins n hs = joins (n / 2) (join2 hs) := by rw [joins, if_pos h]
theorem joins_even {n : Nat} (h : n % 2 = 0) (hs : List Hash) : joins n hs = hs := by rw [joins, if_neg (by omega)]
/-- The sizes of full trees, the smallest first. -/
def asc (n i : Nat) : List Nat := if n = 0 then [] else if n % 2 = 1 then 2 ^ i :: asc (n / 2) (i + 1) else asc (n / 2) (i + 1)
termination_by n
decreasing_by all_goals omega
theorem asc_0 (i : Nat) : asc 0 i = [] := by rw [asc, if_pos rfl]
theorem asc_odd {n : Nat} (h : n % 2 = 1) (i : Nat) : asc n i = 2 ^ i :: asc (n / 2) (i + 1) := by rw [asc, if_neg (by omega), if_pos h]
theorem asc_even {n : Nat} (h : n % 2 = 0) (i : Nat) : asc n i = asc (n / 2) (i + 1) := by
  by_cases h0 : n = 0
  · subst h0; rw [asc_0, show 0 / 2 = 0 from rfl, asc_0]
  · rw [asc, if_neg h0, if_neg (by omega)]
def szs (n : Nat) : List Nat := (asc n 0).reverse
theorem asc_len : ∀ (k n i : Nat), n ≤ k → (asc n i).length = pop n
  | 0, n, i, h => by
    obtain rfl : n = 0 := by omega
    rw [asc_0, pop_0]; rfl
  | k + 1, n, i, h => by
    by_cases h0 : n = 0
    · subst h0; rw [asc_0, pop_0]; rfl
    · rcases Nat.mod_two_eq_zero_or_one n with h2 | h2
      · rw [asc_even h2, asc_len k (n / 2) (i + 1) (by omega), pop_s n, h2, Nat.zero_add]
      · rw [asc_odd h2, List.length_cons, asc_len k (n / 2) (i + 1) (by omega), pop_s n, h2]; omega
theorem szs_len (n : Nat) : (szs n).length = pop n := by unfold szs; rw [List.length_reverse, asc_len n n 0 (Nat.le_refl _)]
theorem asc_sum : ∀ (k n i : Nat), n ≤ k → (asc n i).sum = n * 2 ^ i
  | 0, n, i, h => by
    obtain rfl : n = 0 := by omega
    rw [asc_0, Nat.zero_mul]; rfl
  | k + 1, n, i, h => by
    by_cases h0 : n = 0
    · subst h0; rw [asc_0, Nat.zero_mul]; rfl
    · have hp : 2 ^ (i + 1) = 2 * 2 ^ i := by rw [Nat.pow_succ]; omega
      rcases Nat.mod_two_eq_zero_or_one n with h2 | h2
      · rw [asc_even h2, asc_sum k (n / 2) (i + 1) (by omega), hp, ← Nat.mul_assoc, show n / 2 * 2 = n by omega]
      · rw [asc_odd h2, List.sum_cons, asc_sum k (n / 2) (i + 1) (by omega), hp, ← Nat.mul_assoc]
        conv => rhs; rw [show n = n / 2 * 2 + 1 by omega, Nat.add_mul, Nat.one_mul]
        omega
theorem szs_sum (n : Nat) : (szs n).sum = n := by unfold szs; rw [List.sum_reverse, asc_sum n n 0 (Nat.le_refl _)]; simp
theorem asc_ge : ∀ (k n i : Nat), n ≤ k → ∀ s ∈ asc n i, 2 ^ i ≤ s
  | 0, n, i, h, s, hs => by
    obtain rfl : n = 0 := by omega
    rw [asc_0] at hs; cases hs
  | k + 1, n, i, h, s, hs => by
    by_cases h0 : n = 0
    · subst h0; rw [asc_0] at hs; cases hs
    · have hp : 2 ^ (i + 1) = 2 * 2 ^ i := by rw [Nat.pow_succ]; omega
      rcases Nat.mod_two_eq_zero_or_one n with h2 | h2
      · rw [asc_even h2] at hs
        have := asc_ge k (n / 2) (i + 1) (by omega) s hs
        omega
      · rw [asc_odd h2] at hs
        rcases List.mem_cons.1 hs with rfl | hs
        · exact Nat.le_refl _
        · have := asc_ge k (n / 2) (i + 1) (by omega) s hs
          omega
theorem asc_top : ∀ (j n i : Nat), 2 ^ j ≤ n → n < 2 ^ (j + 1) → asc n i = asc (n - 2 ^ j) i ++ [2 ^ (i + j)]
  | 0, n, i, h1, h2 => by
    obtain rfl : n = 1 := by simp at h1 h2; omega
    rw [asc_odd rfl, show 1 / 2 = 0 from rfl, asc_0, show 1 - 2 ^ 0 = 0 from rfl, asc_0]; rfl
  | j + 1, n, i, h1, h2 => by
    have p1 : 2 ^ (j + 1) = 2 * 2 ^ j := by rw [Nat.pow_succ]; omega
    have p2 : 2 ^ (j + 1 + 1) = 2 * 2 ^ (j + 1) := by rw [Nat.pow_succ]; omega
    have ih := asc_top j (n / 2) (i + 1) (by omega) (by omega)
    have e : (n - 2 ^ (j + 1)) / 2 = n / 2 - 2 ^ j := by omega
    have e2 : i + 1 + j = i + (j + 1) := by omega
    rcases Nat.mod_two_eq_zero_or_one n with h | h
    · rw [asc_even h, ih, asc_even (n := n - 2 ^ (j + 1)) (by omega), e, e2]
    · rw [asc_odd h, ih, asc_odd (n := n - 2 ^ (j + 1)) (by omega), e, e2]; rfl
theorem szs_top {j n : Nat} (h1 : 2 ^ j ≤ n) (h2 : n < 2 ^ (j + 1)) : szs n = 2 ^ j :: szs (n - 2 ^ j) := by
  unfold szs
  rw [asc_top j n 0 h1 h2, List.reverse_append, Nat.zero_add]
  rfl
theorem szs_0 : szs 0 = [] := by unfold szs; rw [asc_0]; rfl
theorem szs_pow (j : Nat) : szs (2 ^ j) = [2 ^ j] := by
  rw [szs_top (Nat.le_refl _) (by rw [Nat.pow_succ]; have := Nat.one_le_two_pow (n := j); omega), Nat.sub_self, szs_0]
theorem pop_ones : ∀ j, pop (2 ^ j - 1) = j
  | 0 => pop_0
  | j + 1 => by
    have p1 : 2 ^ (j + 1) = 2 * 2 ^ j := by rw [Nat.pow_succ]; omega
    have p0 : 1 ≤ 2 ^ j := Nat.one_le_two_pow
    rw [pop_s, show (2 ^ (j + 1) - 1) % 2 = 1 by omega, show (2 ^ (j + 1) - 1) / 2 = 2 ^ j - 1 by omega, pop_ones j]
    omega
/-- The roots of full trees, one behind the other. -/
def edgeC : List Nat → List Hash → List Hash
  | [], _ => []
  | s :: r, l => mroot (l.take s) :: edgeC r (l.drop s)
theorem edgeC_len : ∀ (ss : List Nat) (l : List Hash), (edgeC ss l).length = ss.length
  | [], _ => rfl
  | s :: r, l => by show (edgeC r _).length + 1 = _; rw [edgeC_len]; rfl
theorem edgeC_app : ∀ (ss : List Nat) (s : Nat) (l x : List Hash), l.length = ss.sum → x.length = s → edgeC (ss ++ [s]) (l ++ x) = edgeC ss l ++ [mroot x]
  | [], s, l, x, hl, hx => by
    obtain rfl : l = [] := List.eq_nil_of_length_eq_zero hl
    show mroot (([] ++ x).take s) :: [] = _
    rw [List.nil_append, List.take_of_length_le (by omega)]; rfl
  | t :: ss, s, l, x, hl, hx => by
    rw [List.sum_cons] at hl
    show mroot ((l ++ x).take t) :: edgeC (ss ++ [s]) ((l ++ x).drop t) = mroot (l.take t) :: (edgeC ss (l.drop t) ++ [mroot x])
    rw [List.take_append_of_le_length (by omega), List.drop_append_of_le_length (by omega), edgeC_app ss s (l.drop t) x (by rw [List.length_drop]; omega) hx]
def edge (l : List Hash) : List Hash := edgeC (szs l.length) l
theorem edge_nil : edge [] = [] := by
  show edgeC (szs 0) [] = []
  rw [szs_0]; rfl
theorem edge_len (l : List Hash) : (edge l).length = pop l.length := by unfold edge; rw [edgeC_len, szs_len]
theorem mroot_two {x y : List Hash} {i : Nat} (hx : x.length = 2 ^ i) (hy : y.length = 2 ^ i) : mroot (x ++ y) = nodeH (mroot x) (mroot y) := by
  have p0 : 1 ≤ 2 ^ i := Nat.one_le_two_pow
  have hl : (x ++ y).length = 2 ^ i + 2 ^ i := by rw [List.length_append, hx, hy]
  have hs : split (x ++ y).length = 2 ^ i := by rw [hl]; exact split_of (by omega) (by rw [Nat.pow_succ]; omega)
  rw [mroot_split (by omega), hs, List.take_left' hx, List.drop_left' hx]
theorem joins_edge : ∀ (k m i : Nat) (l x : List Hash), m ≤ k → l.length = m * 2 ^ i → x.length = 2 ^ i → joins m (edgeC (asc m i).reverse l ++ [mroot x]) = edgeC (asc (m + 1) i).reverse (l ++ x)
  | k, m, i, l, x, hk, hl, hx => by
    have hp : 2 ^ (i + 1) = 2 * 2 ^ i := by rw [Nat.pow_succ]; omega
    have p0 : 1 ≤ 2 ^ i := Nat.one_le_two_pow
    rcases Nat.mod_two_eq_zero_or_one m with h2 | h2
    · rw [joins_even h2, asc_odd (n := m + 1) (by omega), show (m + 1) / 2 = m / 2 by omega, ← asc_even h2, List.reverse_cons, edgeC_app _ _ _ _ (by rw [List.sum_reverse, asc_sum m m i (Nat.le_refl _)]; exact hl) hx]
    · match k, hk with
      | 0, hk => omega
      | k + 1, hk =>
        have hm : m = m / 2 * 2 + 1 := by omega
        have hl2 : l.length = (m / 2) * 2 ^ (i + 1) + 2 ^ i := by
          rw [hl, hp, ← Nat.mul_assoc]
          conv => lhs; rw [hm, Nat.add_mul, Nat.one_mul]
        have e1 : (l.take ((m / 2) * 2 ^ (i + 1))).length = (m / 2) * 2 ^ (i + 1) := by rw [List.length_take]; omega
        have e2 : (l.drop ((m / 2) * 2 ^ (i + 1))).length = 2 ^ i := by rw [List.length_drop]; omega
        have hsp : edgeC (asc m i).reverse l = edgeC (asc (m / 2) (i + 1)).reverse (l.take ((m / 2) * 2 ^ (i + 1))) ++ [mroot (l.drop ((m / 2) * 2 ^ (i + 1)))] := by
          rw [asc_odd h2, List.reverse_cons]
          conv => lhs; rw [← List.take_append_drop ((m / 2) * 2 ^ (i + 1)) l]
          exact edgeC_app _ _ _ _ (by rw [List.sum_reverse, asc_sum (m / 2) (m / 2) (i + 1) (Nat.le_refl _)]; exact e1) e2
        rw [joins_odd h2, hsp, List.append_assoc, show [mroot (l.drop ((m / 2) * 2 ^ (i + 1)))] ++ [mroot x] = [mroot (l.drop ((m / 2) * 2 ^ (i + 1))), mroot x] from rfl, join2_of, ← mroot_two e2 hx,
          joins_edge k (m / 2) (i + 1) _ _ (by omega) e1 (by rw [List.length_append, e2, hx]; omega), ← List.append_assoc, List.take_append_drop, asc_even (n := m + 1) (by omega), show (m + 1) / 2 = m / 2 + 1 by omega]
/-- One more leaf. -/
theorem edge_snoc (l : List Hash) (h : Hash) : edge (l ++ [h]) = joins l.length (edge l ++ [h]) := by
  have := joins_edge l.length l.length 0 l [h] (Nat.le_refl _) (by simp) rfl
  unfold edge szs
  rw [List.length_append]
  exact this.symm
/-- What the edge's root is. -/
def rootE (hs : List Hash) : Hash := match hs.reverse with
  | [] => emptyH
  | x :: r => r.foldl (fun acc h => nodeH h acc) x
theorem rootE_nil : rootE [] = emptyH := rfl
theorem rootE_snoc (hs : List Hash) (x : Hash) : rootE (hs ++ [x]) = hs.reverse.foldl (fun acc h => nodeH h acc) x := by
  unfold rootE
  rw [List.reverse_append]
  rfl
theorem rootE_one (x : Hash) : rootE [x] = x := rfl
theorem rootE_cons {hs : List Hash} (a : Hash) (h : hs ≠ []) : rootE (a :: hs) = nodeH a (rootE hs) := by
  rcases List.eq_nil_or_concat hs with rfl | ⟨r, x, rfl⟩
  · exact absurd rfl h
  · rw [List.concat_eq_append, ← List.cons_append, rootE_snoc, rootE_snoc, List.reverse_cons, List.foldl_append]
    rfl
theorem szs_ne {n : Nat} (h : 0 < n) : szs n ≠ [] := fun e => by
  have := szs_sum n
  rw [e] at this
  have : 0 = n := this
  omega
theorem rootE_edge : ∀ (k : Nat) (l : List Hash), l.length ≤ k → rootE (edge l) = mroot l
  | k, l, hk => by
    by_cases h0 : l.length = 0
    · obtain rfl := List.eq_nil_of_length_eq_zero h0
      rw [edge_nil]; rfl
    · obtain ⟨j, h1, h2⟩ : ∃ j, 2 ^ j ≤ l.length ∧ l.length < 2 ^ (j + 1) := ⟨Nat.log2 l.length, Nat.log2_self_le h0, Nat.lt_log2_self⟩
      have p0 : 1 ≤ 2 ^ j := Nat.one_le_two_pow
      have e : edge l = mroot (l.take (2 ^ j)) :: edge (l.drop (2 ^ j)) := by
        unfold edge
        rw [szs_top h1 h2, List.length_drop]
        rfl
      rw [e]
      by_cases he : l.length = 2 ^ j
      · rw [show l.drop (2 ^ j) = [] from List.drop_eq_nil_of_le (by omega), edge_nil, rootE_one, List.take_of_length_le (by omega)]
      · have hs : split l.length = 2 ^ j := split_of (by omega) (by omega)
        have hne : edge (l.drop (2 ^ j)) ≠ [] := fun h => by
          have := edge_len (l.drop (2 ^ j))
          rw [h, List.length_drop, ← szs_len] at this
          exact szs_ne (n := l.length - 2 ^ j) (by omega) (List.eq_nil_of_length_eq_zero this.symm)
        rw [rootE_cons _ hne]
        match k, hk with
        | 0, hk => omega
        | k + 1, hk =>
        rw [rootE_edge k (l.drop (2 ^ j)) (by rw [List.length_drop]; omega)]
        have := mroot_split (l := l) (by omega)
        rw [hs] at this
        exact this.symm
/-- A loop over sizes from the greatest one on. -/
theorem edge_at {l : List Hash} {j : Nat} (h1 : 2 ^ j ≤ l.length) (h2 : l.length < 2 ^ (j + 1)) : edge l = mroot (l.take (2 ^ j)) :: edge (l.drop (2 ^ j)) := by
  unfold edge
  rw [szs_top h1 h2, List.length_drop]
  rfl
theorem pop_pos {n : Nat} (h : n % 2 = 1) : 1 ≤ pop n := by rw [pop_s, h]; omega
theorem join2_len {hs : List Hash} (h : 2 ≤ hs.length) : (join2 hs).length + 1 = hs.length := by
  rcases List.eq_nil_or_concat hs with rfl | ⟨r, b, rfl⟩
  · simp at h
  · rw [List.concat_eq_append] at h ⊢
    rcases List.eq_nil_or_concat r with rfl | ⟨q, a, rfl⟩
    · simp at h
    · rw [List.concat_eq_append, List.append_assoc]
      show (join2 (q ++ [a, b])).length + 1 = (q ++ [a, b]).length
      rw [join2_of]; simp
theorem joins_len : ∀ (k n : Nat) (hs : List Hash), n ≤ k → hs.length = pop n + 1 → (joins n hs).length = pop (n + 1)
  | k, n, hs, hk, hl => by
    rcases Nat.mod_two_eq_zero_or_one n with h2 | h2
    · rw [joins_even h2, hl, pop_s n, pop_s (n + 1), h2, show (n + 1) % 2 = 1 by omega, show (n + 1) / 2 = n / 2 by omega]; omega
    · match k, hk with
      | 0, hk => omega
      | k + 1, hk =>
      have hp := pop_s n
      rw [h2] at hp
      have hj := join2_len (hs := hs) (by omega)
      rw [joins_odd h2, joins_len k (n / 2) (join2 hs) (by omega) (by omega), pop_s (n + 1), show (n + 1) % 2 = 0 by omega, show (n + 1) / 2 = n / 2 + 1 by omega]; omega
end Go.Proofs.YtljdjagackdplaaDoor.L
/-
  The edge of a tree, walked: bits counted, rows cloned, leaves taken.
-/
namespace Go.Proofs.YtljdjagackdplaaDoor.L
open Go
set_option linter.unusedSectionVars false
variable [Globs] [Has_sha_table] [Has_sha_begin]
set_option linter.unusedVariables false
/-- An edge in memory. -/
def frL (b : Nat) (hs : List Hash) (many : Nat) (A : Option Addr) (c : Nat) : List Res := [own b 66 [is (.slice A hs.length c), is (.int .i64 (many : Int))], row (.slice A hs.length c) 23 hashT.toTy hs]
def frV (b : Nat) (hs : List Hash) (many : Nat) : VS := fun Δ => ∃ A c, Δ = frL b hs many A c
theorem pop_le (n : Nat) : pop n ≤ n := by
  rw [← szs_len]
  have h2 := szs_sum n
  have hge : ∀ s ∈ szs n, 1 ≤ s := fun s hs => by
    unfold szs at hs
    exact asc_ge n n 0 (Nat.le_refl _) s (List.mem_reverse.1 hs)
  have key : ∀ ss : List Nat, (∀ s ∈ ss, 1 ≤ s) → ss.length ≤ ss.sum := by
    intro ss
    induction ss with
    | nil => intro _; exact Nat.le_refl _
    | cons t ss ih =>
      intro h1
      have := ih (fun s hs => h1 s (List.mem_cons_of_mem _ hs))
      have := h1 t List.mem_cons_self
      rw [List.length_cons, List.sum_cons]; omega
  have := key (szs n) hge
  omega
theorem split2s {hs : List Hash} (h : 2 ≤ hs.length) : ∃ xs p q, hs = xs ++ [p, q] := by
  rcases List.eq_nil_or_concat hs with rfl | ⟨r, b, rfl⟩
  · simp at h
  · rw [List.concat_eq_append] at h ⊢
    rcases List.eq_nil_or_concat r with rfl | ⟨q, a, rfl⟩
    · simp at h
    · exact ⟨q, a, b, by rw [List.concat_eq_append, List.append_assoc]; rfl⟩
set_option linter.unusedVariables false
set_option linter.unusedSimpArgs false
attribute [local irreducible] J Lq E OpP PRun is any agg tup ptr sl PRunW OpE
attribute [local irreducible] up2 mroot nodeH leafH emptyH shaH ownAt row someL leafOf splitZ split rv join2 edge rootE o1 o2 o3
theorem ones64_fn (n : Nat) (hn : n < 18446744073709551616) : Fn Tryd.prog 55 [is (.int .u64 (n : Int))] (is (.int .i64 ((pop n : Nat) : Int))) := by
  obtain ⟨y, hy⟩ : ∃ y, y = o3 (o2 (o1 n)) := ⟨_, rfl⟩
  obtain ⟨a, ha⟩ : ∃ a, a = y + y / 256 := ⟨_, rfl⟩
  obtain ⟨b, hb⟩ : ∃ b, b = a + a / 65536 := ⟨_, rfl⟩
  obtain ⟨c, hc⟩ : ∃ c, c = b + b / 4294967296 := ⟨_, rfl⟩
  obtain ⟨k1, k2, k3, k4⟩ := sum8 hn (hy.trans (o3_all n)) ha hb hc
  have l1 : o1 n < 18446744073709551616 := o1_lt n
  have l2 : o2 (o1 n) < 18446744073709551616 := o2_lt _
  have l3 : o2 (o1 n) / 16 + o2 (o1 n) < 18446744073709551616 := o3_in n
  have d1 : (n / 2 ^ 1 &&& 6148914691236517205) + (n &&& 6148914691236517205) = o1 n := by unfold o1; rfl
  have d2 : (o1 n / 2 ^ 2 &&& 3689348814741910323) + (o1 n &&& 3689348814741910323) = o2 (o1 n) := by unfold o2; rfl
  have d3 : (o2 (o1 n) / 2 ^ 4 + o2 (o1 n)) &&& 1085102592571150095 = y := by rw [hy]; unfold o3; rfl
  have d4 : c &&& 127 = pop n := by
    rw [← k4]
    exact Nat.and_two_pow_sub_one_eq_mod c 7
  have ly : y < 18446744073709551616 := by omega
  have q1 : n / 2 ^ 1 < 2 ^ 64 := by omega
  generalize o2 (o1 n) = z2 at *
  generalize o1 n = z1 at *
  generalize pop n = r at *
  clear hy
  refine Fn.mk' 35 Tryd.func55 rfl rfl rfl rfl fun w0 H0 => ?_
  repeat (first | ((first | (apply Lq.s; rfl) | apply PRun.s | (apply Lq.run; rfl; rfl; rfl; exact bsB) | (apply PRun.run; rfl; rfl; exact bsB)); first | (apply op_shrn (m := n) (n := 1); rfl; rfl; decide) | (apply op_shrn (m := z1) (n := 2); rfl; rfl; decide) | (apply op_shrn (m := z2) (n := 4); rfl; rfl; decide) | (apply op_shrn (m := y) (n := 8); rfl; rfl; decide) | (apply op_shrn (m := a) (n := 16); rfl; rfl; decide) | (apply op_shrn (m := b) (n := 32); rfl; rfl; decide) | (apply op_andu (m := n / 2 ^ 1) (n := 6148914691236517205); rfl; rfl; omega; omega) | (apply op_andu (m := n) (n := 6148914691236517205); rfl; rfl; omega; omega) | (apply op_add (c := (z1 : Int)); rfl; rfl; (rw [show ((n / 2 ^ 1 &&& 6148914691236517205 : Nat) : Int) + ((n &&& 6148914691236517205 : Nat) : Int) = (z1 : Int) by omega]; exact wrapu' l1)) | (apply op_andu (m := z1 / 2 ^ 2) (n := 3689348814741910323); rfl; rfl; omega; omega) | (apply op_andu (m := z1) (n := 3689348814741910323); rfl; rfl; omega; omega) | (apply op_add (c := (z2 : Int)); rfl; rfl; (rw [show ((z1 / 2 ^ 2 &&& 3689348814741910323 : Nat) : Int) + ((z1 &&& 3689348814741910323 : Nat) : Int) = (z2 : Int) by omega]; exact wrapu' l2)) | (apply op_add (c := ((z2 / 2 ^ 4 + z2 : Nat) : Int)); rfl; rfl; (rw [show ((z2 / 2 ^ 4 : Nat) : Int) + (z2 : Int) = ((z2 / 2 ^ 4 + z2 : Nat) : Int) by omega]; exact wrapu' (by omega))) | (apply op_andu (m := z2 / 2 ^ 4 + z2) (n := 1085102592571150095); rfl; rfl; omega; omega) | (exact bsO)) | apply J.seq | apply E.next | apply J.lq | apply Lq.nil | apply PRun.nil | apply J.block | apply E.in_normal | apply J.skip | (apply Lq.store; rfl; rfl; exact bsP; exact bsS; rfl; rfl) | (apply PRun.al; rfl) | (apply Lq.al; rfl; rfl; intro b) | (apply Open.cons; intro b) | apply Open.nil | (apply Lq.pass; rfl; rfl; rfl) | (apply PRun.pass; rfl; rfl) | (apply Lq.skip; rfl; rfl; rfl; exact bsB) | (apply PRun.skip; rfl; rfl; exact bsB) | (apply J.drawN; exact mixed; kernel_rfl) | (apply J.cond_t; rfl) | (apply J.cond_f; rfl) | apply J.exit | apply E.then_exit | apply E.in_exit | (apply E.in_other; rfl))
  rw [d3]
  repeat (first | ((first | (apply Lq.s; rfl) | apply PRun.s | (apply Lq.run; rfl; rfl; rfl; exact bsB) | (apply PRun.run; rfl; rfl; exact bsB)); first | (apply op_shrn (m := y) (n := 8); rfl; rfl; decide) | (apply op_shrn (m := a) (n := 16); rfl; rfl; decide) | (apply op_shrn (m := b) (n := 32); rfl; rfl; decide) | (apply op_add (c := (a : Int)); rfl; rfl; (rw [show (y : Int) + ((y / 2 ^ 8 : Nat) : Int) = (a : Int) by omega]; exact wrapu' k1)) | (apply op_add (c := (b : Int)); rfl; rfl; (rw [show (a : Int) + ((a / 2 ^ 16 : Nat) : Int) = (b : Int) by omega]; exact wrapu' k2)) | (apply op_add (c := (c : Int)); rfl; rfl; (rw [show (b : Int) + ((b / 2 ^ 32 : Nat) : Int) = (c : Int) by omega]; exact wrapu' (by omega))) | (apply op_conv (c := (c : Int)); rfl; (apply wrapi <;> omega)) | (apply op_andn (m := c) (n := 127); rfl; rfl; omega; omega) | (exact bsO)) | apply J.seq | apply E.next | apply J.lq | apply Lq.nil | apply PRun.nil | apply J.block | apply E.in_normal | apply J.skip | (apply Lq.store; rfl; rfl; exact bsP; exact bsS; rfl; rfl) | (apply PRun.al; rfl) | (apply Lq.al; rfl; rfl; intro b) | (apply Open.cons; intro b) | apply Open.nil | (apply Lq.pass; rfl; rfl; rfl) | (apply PRun.pass; rfl; rfl) | (apply Lq.skip; rfl; rfl; rfl; exact bsB) | (apply PRun.skip; rfl; rfl; exact bsB) | (apply J.drawN; exact mixed; kernel_rfl) | (apply J.cond_t; rfl) | (apply J.cond_f; rfl) | apply J.exit | apply E.then_exit | apply E.in_exit | (apply E.in_other; rfl))
  rw [d4]
  repeat (first | ((first | (apply Lq.s; rfl) | apply PRun.s | (apply Lq.run; rfl; rfl; rfl; exact bsB) | (apply PRun.run; rfl; rfl; exact bsB)); first | (exact bsO)) | apply J.seq | apply E.next | apply J.lq | apply Lq.nil | apply PRun.nil | apply J.block | apply E.in_normal | apply J.skip | (apply Lq.store; rfl; rfl; exact bsP; exact bsS; rfl; rfl) | (apply PRun.al; rfl) | (apply Lq.al; rfl; rfl; intro b) | (apply Open.cons; intro b) | apply Open.nil | (apply Lq.pass; rfl; rfl; rfl) | (apply PRun.pass; rfl; rfl) | (apply Lq.skip; rfl; rfl; rfl; exact bsB) | (apply PRun.skip; rfl; rfl; exact bsB) | (apply J.drawN; exact mixed; kernel_rfl) | (apply J.cond_t; rfl) | (apply J.cond_f; rfl) | apply J.exit | apply E.then_exit | apply E.in_exit | (apply E.in_other; rfl))
  (refine J.ret ?_; (repeat (first | refine E.then_ret ?_ | refine E.in_ret ?_)))
  exact E.ret1 rfl rfl
theorem ones_fn (n : Nat) (hn : n < 18446744073709551616) : Fn Tryd.prog 41 [is (.int .u64 (n : Int))] (is (.int .i64 ((pop n : Nat) : Int))) := by
  have h := ones64_fn n hn
  generalize pop n = r at *
  refine Fn.mk' 8 Tryd.func41 rfl rfl rfl rfl fun w0 H0 => ?_
  repeat (first | ((first | (apply Lq.s; rfl) | apply PRun.s | (apply Lq.run; rfl; rfl; rfl; exact bsB) | (apply PRun.run; rfl; rfl; exact bsB)); first | (apply op_call h; exact bsD) | (exact bsO)) | apply J.seq | apply E.next | apply J.lq | apply Lq.nil | apply PRun.nil | apply J.block | apply E.in_normal | apply J.skip | (apply Lq.store; rfl; rfl; exact bsP; exact bsS; rfl; rfl) | (apply PRun.al; rfl) | (apply Lq.al; rfl; rfl; intro b) | (apply Open.cons; intro b) | apply Open.nil | (apply Lq.pass; rfl; rfl; rfl) | (apply PRun.pass; rfl; rfl) | (apply Lq.skip; rfl; rfl; rfl; exact bsB) | (apply PRun.skip; rfl; rfl; exact bsB) | (apply J.drawN; exact mixed; kernel_rfl) | (apply J.cond_t; rfl) | (apply J.cond_f; rfl) | apply J.exit | apply E.then_exit | apply E.in_exit | (apply E.in_other; rfl))
  (refine J.ret ?_; (repeat (first | refine E.then_ret ?_ | refine E.in_ret ?_)))
  exact E.ret1 rfl rfl
theorem clone_fnR (hs : List Hash) (hl : hs.length ≤ 100000) (A : Option Addr) (c e : Nat) : FnR Tryd.prog 42 [is (.slice A hs.length c)] [row (.slice A hs.length c) e hashT.toTy hs] (fun ψ Δ => ∃ A' c', ψ = is (.slice A' hs.length c') ∧ Δ = [row (.slice A' hs.length c') 23 hashT.toTy hs, row (.slice A hs.length c) e hashT.toTy hs]) := by
  refine FnR.mk' 8 Tryd.func42 rfl rfl rfl rfl fun w0 H0 => ?_
  refine J.rowNil (List.Perm.refl _) (fun hA hn hc hx => ?_) (fun a hA => ?_)
  · subst hA; subst hx; subst hc
    refine J.nilrow 23 hashT.toTy ?_
    repeat (first | ((first | (apply Lq.s; rfl) | apply PRun.s | (apply Lq.run; rfl; rfl; rfl; exact bsB) | (apply PRun.run; rfl; rfl; exact bsB)); first | (apply op_slnil; rfl; rfl) | (exact bsO)) | apply J.seq | apply E.next | apply J.lq | apply Lq.nil | apply PRun.nil | apply J.block | apply E.in_normal | apply J.skip | (apply Lq.store; rfl; rfl; exact bsP; exact bsS; rfl; rfl) | (apply PRun.al; rfl) | (apply Lq.al; rfl; rfl; intro b) | (apply Open.cons; intro b) | apply Open.nil | (apply Lq.pass; rfl; rfl; rfl) | (apply PRun.pass; rfl; rfl) | (apply Lq.skip; rfl; rfl; rfl; exact bsB) | (apply PRun.skip; rfl; rfl; exact bsB) | (apply J.drawN; exact mixed; kernel_rfl) | (apply J.cond_t; rfl) | (apply J.cond_f; rfl) | apply J.exit | apply E.then_exit | apply E.in_exit | (apply E.in_other; rfl))
    (refine J.ret ?_; (repeat (first | refine E.then_ret ?_ | refine E.in_ret ?_)))
    exact E.retR1 (G := []) rfl rfl ⟨none, 0, rfl, rfl⟩ (List.Perm.refl _)
  · subst hA
    repeat (first | ((first | (apply Lq.s; rfl) | apply PRun.s | (apply Lq.run; rfl; rfl; rfl; exact bsB) | (apply PRun.run; rfl; rfl; exact bsB)); first | (apply op_slnil; rfl; rfl) | (exact bsO)) | apply J.seq | apply E.next | apply J.lq | apply Lq.nil | apply PRun.nil | apply J.block | apply E.in_normal | apply J.skip | (apply Lq.store; rfl; rfl; exact bsP; exact bsS; rfl; rfl) | (apply PRun.al; rfl) | (apply Lq.al; rfl; rfl; intro b) | (apply Open.cons; intro b) | apply Open.nil | (apply Lq.pass; rfl; rfl; rfl) | (apply PRun.pass; rfl; rfl) | (apply Lq.skip; rfl; rfl; rfl; exact bsB) | (apply PRun.skip; rfl; rfl; exact bsB) | (apply J.drawN; exact mixed; kernel_rfl) | (apply J.cond_t; rfl) | (apply J.cond_f; rfl) | apply J.exit | apply E.then_exit | apply E.in_exit | (apply E.in_other; rfl))
    (apply Lq.bsl (T := hashT) (xs := []); rfl; (repeat (first | exact PO.nil _ | (apply PO.cons; rfl))); rfl; rfl; rfl)
    intro A1 c1
    repeat (first | ((first | (apply Lq.s; rfl) | apply PRun.s | (apply Lq.run; rfl; rfl; rfl; exact bsB) | (apply PRun.run; rfl; rfl; exact bsB)); first | (exact bsO)) | apply J.seq | apply E.next | apply J.lq | apply Lq.nil | apply PRun.nil | apply J.block | apply E.in_normal | apply J.skip | (apply Lq.store; rfl; rfl; exact bsP; exact bsS; rfl; rfl) | (apply PRun.al; rfl) | (apply Lq.al; rfl; rfl; intro b) | (apply Open.cons; intro b) | apply Open.nil | (apply Lq.pass; rfl; rfl; rfl) | (apply PRun.pass; rfl; rfl) | (apply Lq.skip; rfl; rfl; rfl; exact bsB) | (apply PRun.skip; rfl; rfl; exact bsB) | (apply J.drawN; exact mixed; kernel_rfl) | (apply J.cond_t; rfl) | (apply J.cond_f; rfl) | apply J.exit | apply E.then_exit | apply E.in_exit | (apply E.in_other; rfl))
    (apply Lq.append (T := hashT) (xs := []) (ys := hs); rfl; exact List.Perm.refl _; (apply From.row; rfl; exact List.mem_cons_of_mem _ List.mem_cons_self); rfl; rfl; rfl; (show 0 + _ ≤ maxLen; unfold maxLen; omega); (show (0 + _) * 32 ≤ _; omega))
    intro A2 c2
    rw [List.nil_append]
    repeat (first | ((first | (apply Lq.s; rfl) | apply PRun.s | (apply Lq.run; rfl; rfl; rfl; exact bsB) | (apply PRun.run; rfl; rfl; exact bsB)); first | (exact bsO)) | apply J.seq | apply E.next | apply J.lq | apply Lq.nil | apply PRun.nil | apply J.block | apply E.in_normal | apply J.skip | (apply Lq.store; rfl; rfl; exact bsP; exact bsS; rfl; rfl) | (apply PRun.al; rfl) | (apply Lq.al; rfl; rfl; intro b) | (apply Open.cons; intro b) | apply Open.nil | (apply Lq.pass; rfl; rfl; rfl) | (apply PRun.pass; rfl; rfl) | (apply Lq.skip; rfl; rfl; rfl; exact bsB) | (apply PRun.skip; rfl; rfl; exact bsB) | (apply J.drawN; exact mixed; kernel_rfl) | (apply J.cond_t; rfl) | (apply J.cond_f; rfl) | apply J.exit | apply E.then_exit | apply E.in_exit | (apply E.in_other; rfl))
    (refine J.ret ?_; (repeat (first | refine E.then_ret ?_ | refine E.in_ret ?_)))
    exact E.retR1 (G := []) rfl rfl ⟨A2, c2, rfl, rfl⟩ (List.Perm.refl _)
theorem fnew_fnR : FnR Tryd.prog 33 [] [] (fun ψ Δ => ∃ b, ψ = is (.pointer (some ⟨b, 0, none⟩)) ∧ Δ = frL b [] 0 none 0) := by
  refine FnR.mk' 3 Tryd.func33 rfl rfl rfl rfl fun w0 H0 => ?_
  refine J.nilrow 23 hashT.toTy ?_
  repeat (first | ((first | (apply Lq.s; rfl) | apply PRun.s | (apply Lq.run; rfl; rfl; rfl; exact bsB) | (apply PRun.run; rfl; rfl; exact bsB)); first | (exact bsO)) | apply J.seq | apply E.next | apply J.lq | apply Lq.nil | apply PRun.nil | apply J.block | apply E.in_normal | apply J.skip | (apply Lq.store; rfl; rfl; exact bsP; exact bsS; rfl; rfl) | (apply PRun.al; rfl) | (apply Lq.al; rfl; rfl; intro b) | (apply Open.cons; intro b) | apply Open.nil | (apply Lq.pass; rfl; rfl; rfl) | (apply PRun.pass; rfl; rfl) | (apply Lq.skip; rfl; rfl; rfl; exact bsB) | (apply PRun.skip; rfl; rfl; exact bsB) | (apply J.drawN; exact mixed; kernel_rfl) | (apply J.cond_t; rfl) | (apply J.cond_f; rfl) | apply J.exit | apply E.then_exit | apply E.in_exit | (apply E.in_other; rfl))
  refine Lq.box rfl rfl Seg.agg ?_
  intro b
  repeat (first | ((first | (apply Lq.s; rfl) | apply PRun.s | (apply Lq.run; rfl; rfl; rfl; exact bsB) | (apply PRun.run; rfl; rfl; exact bsB)); first | (exact bsO)) | apply J.seq | apply E.next | apply J.lq | apply Lq.nil | apply PRun.nil | apply J.block | apply E.in_normal | apply J.skip | (apply Lq.store; rfl; rfl; exact bsP; exact bsS; rfl; rfl) | (apply PRun.al; rfl) | (apply Lq.al; rfl; rfl; intro b) | (apply Open.cons; intro b) | apply Open.nil | (apply Lq.pass; rfl; rfl; rfl) | (apply PRun.pass; rfl; rfl) | (apply Lq.skip; rfl; rfl; rfl; exact bsB) | (apply PRun.skip; rfl; rfl; exact bsB) | (apply J.drawN; exact mixed; kernel_rfl) | (apply J.cond_t; rfl) | (apply J.cond_f; rfl) | apply J.exit | apply E.then_exit | apply E.in_exit | (apply E.in_other; rfl))
  (refine J.ret ?_; (repeat (first | refine E.then_ret ?_ | refine E.in_ret ?_)))
  exact E.retR1 (G := []) rfl rfl ⟨b, rfl, rfl⟩ (List.Perm.refl _)
set_option maxHeartbeats 1000000 in
theorem join_fnR (b many : Nat) (xs : List Hash) (p q : Hash) (A : Option Addr) (c : Nat) (hl : xs.length ≤ 90000) : FnR Tryd.prog 44 [is (.pointer (some ⟨b, 0, none⟩))] (frL b (xs ++ [p, q]) many A c) (fun ψ Δ => ψ = any ∧ frV b (xs ++ [nodeH p q]) many Δ) := by
  have hll : (xs ++ [p, q]).length = xs.length + 2 := by rw [List.length_append]; rfl
  have hp : (xs ++ [p, q])[xs.length]? = some p := by rw [List.getElem?_append_right (Nat.le_refl _), Nat.sub_self]; rfl
  have hq : (xs ++ [p, q])[xs.length + 1]? = some q := by rw [List.getElem?_append_right (by omega), Nat.add_sub_cancel_left]; rfl
  refine FnR.mk' 36 Tryd.func44 rfl rfl rfl rfl fun w0 H0 => ?_
  unfold frL
  refine J.open (List.Perm.swap _ _ _) (by intro h; rw [h] at hll; simp at hll) ?_
  intro rb ro cap pre post hR
  obtain ⟨hv, hpre, hle, hcap, hroom, _⟩ := hR
  injection hv with hA _ hc
  subst hA; subst hc
  repeat (first | ((first | (apply Lq.s; rfl) | apply PRun.s | (apply Lq.run; rfl; rfl; rfl; exact bsB) | (apply PRun.run; rfl; rfl; exact bsB)); first | (apply op_ocell; rfl; exact bsM; rfl) | (apply op_slen; rfl) | (apply op_sub (c := (xs.length : Int)); rfl; rfl; (rw [hll, show ((xs.length + 2 : Nat) : Int) - 2 = (xs.length : Int) by omega]; apply wrapi <;> omega)) | (exact bsO)) | apply J.seq | apply E.next | apply J.lq | apply Lq.nil | apply PRun.nil | apply J.block | apply E.in_normal | apply J.skip | (apply Lq.store; rfl; rfl; exact bsP; exact bsS; rfl; rfl) | (apply PRun.al; rfl) | (apply Lq.al; rfl; rfl; intro b) | (apply Open.cons; intro b) | apply Open.nil | (apply Lq.pass; rfl; rfl; rfl) | (apply PRun.pass; rfl; rfl) | (apply Lq.skip; rfl; rfl; rfl; exact bsB) | (apply PRun.skip; rfl; rfl; exact bsB) | (apply J.cond_t; rfl) | (apply J.cond_f; rfl) | apply J.exit | apply E.then_exit | apply E.in_exit | (apply E.in_other; rfl))
  refine J.drawW2 27 [(none, none), (none, none), (none, none), (none, none), (some 0, some 0), (none, none), (none, none), (none, none), (none, none), (none, none), (some 0, some 0), (none, none), (none, none), (some 2, some 2), (none, none), (none, none), (none, none), (some 0, some 0), (none, none), (none, none), (none, none), (some 2, some 2), (none, none), (none, none), (some 2, some 33), (none, none), (none, none)] 0 2
    (itemA b 66 [is (.slice (some ⟨rb, ro, none⟩) (xs ++ [p, q]).length c), is (.int .i64 (many : Int))]) (itemK (own rb 23 (pre ++ flat hashT.toTy (xs ++ [p, q]) ++ post))) (by decide) rfl rfl (by rw [itemA_self]; exact List.Perm.swap _ _ _) mixed (by kernel_rfl) ?_
  repeat (first | ((first | apply PRunW.s | (apply PRunW.run; rfl; rfl; exact bsB) | (apply Lq.s; rfl) | apply PRun.s | (apply Lq.run; rfl; rfl; rfl; exact bsB) | (apply PRun.run; rfl; rfl; exact bsB)); first | (exact bsO)) | apply J.seq | apply E.next | apply J.lq | apply Lq.nil | apply PRun.nil | apply J.block | apply E.in_normal | apply J.skip | (apply Lq.store; rfl; rfl; exact bsP; exact bsS; rfl; rfl) | (apply PRun.al; rfl) | (apply Lq.al; rfl; rfl; intro b) | (apply Open.cons; intro b) | apply Open.nil | (apply Lq.pass; rfl; rfl; rfl) | (apply PRun.pass; rfl; rfl) | (apply Lq.skip; rfl; rfl; rfl; exact bsB) | (apply PRun.skip; rfl; rfl; exact bsB) | (apply J.cond_t; rfl) | (apply J.cond_f; rfl) | apply J.exit | apply E.then_exit | apply E.in_exit | (apply E.in_other; rfl) | apply PRunW.nil | (apply PRunW.al; rfl) | (apply PRunW.pass; rfl; rfl) | (apply PRunW.skip; rfl; rfl; exact bsB) | (apply Open.pv; intro b) | apply Open.av | (apply Open.rv; intro A c))
  refine PRunW.ldC (by decide) itemA_fst rfl rfl rfl ?_
  repeat (first | ((first | apply PRunW.s | (apply PRunW.run; rfl; rfl; exact bsB) | (apply Lq.s; rfl) | apply PRun.s | (apply Lq.run; rfl; rfl; rfl; exact bsB) | (apply PRun.run; rfl; rfl; exact bsB)); first | (apply op_sl_hi (hi := xs.length); rfl; rfl; omega) | (exact bsO)) | apply J.seq | apply E.next | apply J.lq | apply Lq.nil | apply PRun.nil | apply J.block | apply E.in_normal | apply J.skip | (apply Lq.store; rfl; rfl; exact bsP; exact bsS; rfl; rfl) | (apply PRun.al; rfl) | (apply Lq.al; rfl; rfl; intro b) | (apply Open.cons; intro b) | apply Open.nil | (apply Lq.pass; rfl; rfl; rfl) | (apply PRun.pass; rfl; rfl) | (apply Lq.skip; rfl; rfl; rfl; exact bsB) | (apply PRun.skip; rfl; rfl; exact bsB) | (apply J.cond_t; rfl) | (apply J.cond_f; rfl) | apply J.exit | apply E.then_exit | apply E.in_exit | (apply E.in_other; rfl) | apply PRunW.nil | (apply PRunW.al; rfl) | (apply PRunW.pass; rfl; rfl) | (apply PRunW.skip; rfl; rfl; exact bsB) | (apply Open.pv; intro b) | apply Open.av | (apply Open.rv; intro A c))
  refine PRunW.ldC (by decide) itemA_fst rfl rfl rfl ?_
  repeat (first | ((first | apply PRunW.s | (apply PRunW.run; rfl; rfl; exact bsB) | (apply Lq.s; rfl) | apply PRun.s | (apply Lq.run; rfl; rfl; rfl; exact bsB) | (apply PRun.run; rfl; rfl; exact bsB)); first | (apply op_siaddr; rfl; rfl; omega; omega) | (exact bsO)) | apply J.seq | apply E.next | apply J.lq | apply Lq.nil | apply PRun.nil | apply J.block | apply E.in_normal | apply J.skip | (apply Lq.store; rfl; rfl; exact bsP; exact bsS; rfl; rfl) | (apply PRun.al; rfl) | (apply Lq.al; rfl; rfl; intro b) | (apply Open.cons; intro b) | apply Open.nil | (apply Lq.pass; rfl; rfl; rfl) | (apply PRun.pass; rfl; rfl) | (apply Lq.skip; rfl; rfl; rfl; exact bsB) | (apply PRun.skip; rfl; rfl; exact bsB) | (apply J.cond_t; rfl) | (apply J.cond_f; rfl) | apply J.exit | apply E.then_exit | apply E.in_exit | (apply E.in_other; rfl) | apply PRunW.nil | (apply PRunW.al; rfl) | (apply PRunW.pass; rfl; rfl) | (apply PRunW.skip; rfl; rfl; exact bsB) | (apply Open.pv; intro b) | apply Open.av | (apply Open.rv; intro A c))
  refine PRunW.ldG hashT (v := p) (by decide) itemK_fst rfl rfl (at_row hashT.toTy hpre (by rw [Int.toNat_natCast]; exact hp)) ?_
  repeat (first | ((first | apply PRunW.s | (apply PRunW.run; rfl; rfl; exact bsB) | (apply Lq.s; rfl) | apply PRun.s | (apply Lq.run; rfl; rfl; rfl; exact bsB) | (apply PRun.run; rfl; rfl; exact bsB)); first | (exact bsO)) | apply J.seq | apply E.next | apply J.lq | apply Lq.nil | apply PRun.nil | apply J.block | apply E.in_normal | apply J.skip | (apply Lq.store; rfl; rfl; exact bsP; exact bsS; rfl; rfl) | (apply PRun.al; rfl) | (apply Lq.al; rfl; rfl; intro b) | (apply Open.cons; intro b) | apply Open.nil | (apply Lq.pass; rfl; rfl; rfl) | (apply PRun.pass; rfl; rfl) | (apply Lq.skip; rfl; rfl; rfl; exact bsB) | (apply PRun.skip; rfl; rfl; exact bsB) | (apply J.cond_t; rfl) | (apply J.cond_f; rfl) | apply J.exit | apply E.then_exit | apply E.in_exit | (apply E.in_other; rfl) | apply PRunW.nil | (apply PRunW.al; rfl) | (apply PRunW.pass; rfl; rfl) | (apply PRunW.skip; rfl; rfl; exact bsB) | (apply Open.pv; intro b) | apply Open.av | (apply Open.rv; intro A c))
  refine PRunW.ldC (by decide) itemA_fst rfl rfl rfl ?_
  repeat (first | ((first | apply PRunW.s | (apply PRunW.run; rfl; rfl; exact bsB) | (apply Lq.s; rfl) | apply PRun.s | (apply Lq.run; rfl; rfl; rfl; exact bsB) | (apply PRun.run; rfl; rfl; exact bsB)); first | (apply op_add (c := ((xs.length + 1 : Nat) : Int)); rfl; rfl; (rw [show (xs.length : Int) + 1 = ((xs.length + 1 : Nat) : Int) by omega]; apply wrapi <;> omega)) | (apply op_siaddr; rfl; rfl; omega; omega) | (exact bsO)) | apply J.seq | apply E.next | apply J.lq | apply Lq.nil | apply PRun.nil | apply J.block | apply E.in_normal | apply J.skip | (apply Lq.store; rfl; rfl; exact bsP; exact bsS; rfl; rfl) | (apply PRun.al; rfl) | (apply Lq.al; rfl; rfl; intro b) | (apply Open.cons; intro b) | apply Open.nil | (apply Lq.pass; rfl; rfl; rfl) | (apply PRun.pass; rfl; rfl) | (apply Lq.skip; rfl; rfl; rfl; exact bsB) | (apply PRun.skip; rfl; rfl; exact bsB) | (apply J.cond_t; rfl) | (apply J.cond_f; rfl) | apply J.exit | apply E.then_exit | apply E.in_exit | (apply E.in_other; rfl) | apply PRunW.nil | (apply PRunW.al; rfl) | (apply PRunW.pass; rfl; rfl) | (apply PRunW.skip; rfl; rfl; exact bsB) | (apply Open.pv; intro b) | apply Open.av | (apply Open.rv; intro A c))
  refine PRunW.ldG hashT (v := q) (by decide) itemK_fst rfl rfl (at_row hashT.toTy hpre (by rw [Int.toNat_natCast]; exact hq)) ?_
  repeat (first | ((first | apply PRunW.s | (apply PRunW.run; rfl; rfl; exact bsB) | (apply Lq.s; rfl) | apply PRun.s | (apply Lq.run; rfl; rfl; rfl; exact bsB) | (apply PRun.run; rfl; rfl; exact bsB)); first | (apply op_call (nodeH_fn p q); exact bsD) | (apply op_bslice hashT (xs := [nodeH p q]); (repeat (first | exact PO.nil _ | (apply PO.cons; rfl))); rfl; rfl; rfl) | (exact bsO)) | apply J.seq | apply E.next | apply J.lq | apply Lq.nil | apply PRun.nil | apply J.block | apply E.in_normal | apply J.skip | (apply Lq.store; rfl; rfl; exact bsP; exact bsS; rfl; rfl) | (apply PRun.al; rfl) | (apply Lq.al; rfl; rfl; intro b) | (apply Open.cons; intro b) | apply Open.nil | (apply Lq.pass; rfl; rfl; rfl) | (apply PRun.pass; rfl; rfl) | (apply Lq.skip; rfl; rfl; rfl; exact bsB) | (apply PRun.skip; rfl; rfl; exact bsB) | (apply J.cond_t; rfl) | (apply J.cond_f; rfl) | apply J.exit | apply E.then_exit | apply E.in_exit | (apply E.in_other; rfl) | apply PRunW.nil | (apply PRunW.al; rfl) | (apply PRunW.pass; rfl; rfl) | (apply PRunW.skip; rfl; rfl; exact bsB) | (apply Open.pv; intro b) | apply Open.av | (apply Open.rv; intro A c))
  (apply PRunW.apK (T := hashT) (xs := xs) (ys := [nodeH p q]); rfl; rfl; rfl; exact row_conv (T := hashT.toTy) (xs := xs) (ys := [p, q]) hpre hle hcap hroom; (apply From.sl; rfl); rfl; rfl; (show _ + 1 ≤ maxLen; unfold maxLen; omega); (show (_ + 1) * 32 ≤ _; omega))
  refine PRunW.s (op_nilCheck rfl) ?_
  refine PRunW.s (op_ofaddr rfl (by decide)) ?_
  refine PRunW.nil (Open.rv fun A2 c2 => Open.av (Open.nil ?_))
  refine Lq.storeE (φs' := [is (.slice A2 (xs ++ [nodeH p q]).length c2), is (.int .i64 (many : Int))]) rfl rfl (List.Perm.refl _) (Seg.is rfl) rfl (Nat.le_of_ble_eq_true rfl) rfl ?_
  repeat (first | ((first | (apply Lq.s; rfl) | apply PRun.s | (apply Lq.run; rfl; rfl; rfl; exact bsB) | (apply PRun.run; rfl; rfl; exact bsB)); first | (exact bsO)) | apply J.seq | apply E.next | apply J.lq | apply Lq.nil | apply PRun.nil | apply J.block | apply E.in_normal | apply J.skip | (apply Lq.store; rfl; rfl; exact bsP; exact bsS; rfl; rfl) | (apply PRun.al; rfl) | (apply Lq.al; rfl; rfl; intro b) | (apply Open.cons; intro b) | apply Open.nil | (apply Lq.pass; rfl; rfl; rfl) | (apply PRun.pass; rfl; rfl) | (apply Lq.skip; rfl; rfl; rfl; exact bsB) | (apply PRun.skip; rfl; rfl; exact bsB) | (apply J.cond_t; rfl) | (apply J.cond_f; rfl) | apply J.exit | apply E.then_exit | apply E.in_exit | (apply E.in_other; rfl))
  exact E.retR0 (G := []) .normal (.inr rfl) rfl (fun _ => any_h) ⟨rfl, A2, c2, rfl⟩ (List.Perm.refl _)
theorem all_fnR (b many : Nat) (hs : List Hash) (A : Option Addr) (c : Nat) (hl : hs.length ≤ 90000) : FnR Tryd.prog 45 [is (.pointer (some ⟨b, 0, none⟩))] (frL b hs many A c) (fun ψ Δ => ∃ A' c', ψ = is (.slice A' hs.length c') ∧ Δ = row (.slice A' hs.length c') 23 hashT.toTy hs :: frL b hs many A c) := by
  refine FnR.mk' 8 Tryd.func45 rfl rfl rfl rfl fun w0 H0 => ?_
  unfold frL
  repeat (first | ((first | (apply Lq.s; rfl) | apply PRun.s | (apply Lq.run; rfl; rfl; rfl; exact bsB) | (apply PRun.run; rfl; rfl; exact bsB)); first | (apply op_ocell; rfl; exact bsM; rfl) | (apply op_slen; rfl) | (exact bsO)) | apply J.seq | apply E.next | apply J.lq | apply Lq.nil | apply PRun.nil | apply J.block | apply E.in_normal | apply J.skip | (apply Lq.store; rfl; rfl; exact bsP; exact bsS; rfl; rfl) | (apply PRun.al; rfl) | (apply Lq.al; rfl; rfl; intro b) | (apply Open.cons; intro b) | apply Open.nil | (apply Lq.pass; rfl; rfl; rfl) | (apply PRun.pass; rfl; rfl) | (apply Lq.skip; rfl; rfl; rfl; exact bsB) | (apply PRun.skip; rfl; rfl; exact bsB) | (apply J.drawN; exact mixed; kernel_rfl) | (apply J.cond_t; rfl) | (apply J.cond_f; rfl) | apply J.exit | apply E.then_exit | apply E.in_exit | (apply E.in_other; rfl))
  refine Lq.callS (Δf := [_]) (clone_fnR hs (by omega) A c 23) rfl bsD (List.Perm.swap _ _ _) ?_
  rintro _ _ ⟨A2, c2, rfl, rfl⟩
  repeat (first | ((first | (apply Lq.s; rfl) | apply PRun.s | (apply Lq.run; rfl; rfl; rfl; exact bsB) | (apply PRun.run; rfl; rfl; exact bsB)); first | (exact bsO)) | apply J.seq | apply E.next | apply J.lq | apply Lq.nil | apply PRun.nil | apply J.block | apply E.in_normal | apply J.skip | (apply Lq.store; rfl; rfl; exact bsP; exact bsS; rfl; rfl) | (apply PRun.al; rfl) | (apply Lq.al; rfl; rfl; intro b) | (apply Open.cons; intro b) | apply Open.nil | (apply Lq.pass; rfl; rfl; rfl) | (apply PRun.pass; rfl; rfl) | (apply Lq.skip; rfl; rfl; rfl; exact bsB) | (apply PRun.skip; rfl; rfl; exact bsB) | (apply J.drawN; exact mixed; kernel_rfl) | (apply J.cond_t; rfl) | (apply J.cond_f; rfl) | apply J.exit | apply E.then_exit | apply E.in_exit | (apply E.in_other; rfl))
  (refine J.ret ?_; (repeat (first | refine E.then_ret ?_ | refine E.in_ret ?_)))
  exact E.retR1 (G := []) rfl rfl ⟨A2, c2, rfl, rfl⟩ (List.Perm.cons _ (List.Perm.swap _ _ _))
theorem flen_fnR (b many : Nat) (hs : List Hash) (A : Option Addr) (c : Nat) : FnR Tryd.prog 27 [is (.pointer (some ⟨b, 0, none⟩))] (frL b hs many A c) (fun ψ Δ => ψ = is (.int .i64 (many : Int)) ∧ Δ = frL b hs many A c) := by
  refine FnR.mk' 9 Tryd.func27 rfl rfl rfl rfl fun w0 H0 => ?_
  unfold frL
  repeat (first | ((first | (apply Lq.s; rfl) | apply PRun.s | (apply Lq.run; rfl; rfl; rfl; exact bsB) | (apply PRun.run; rfl; rfl; exact bsB)); first | (apply op_ocell; rfl; exact bsM; rfl) | (apply op_slen; rfl) | (apply op_peq; rfl; rfl) | (exact bsO)) | apply J.seq | apply E.next | apply J.lq | apply Lq.nil | apply PRun.nil | apply J.block | apply E.in_normal | apply J.skip | (apply Lq.store; rfl; rfl; exact bsP; exact bsS; rfl; rfl) | (apply PRun.al; rfl) | (apply Lq.al; rfl; rfl; intro b) | (apply Open.cons; intro b) | apply Open.nil | (apply Lq.pass; rfl; rfl; rfl) | (apply PRun.pass; rfl; rfl) | (apply Lq.skip; rfl; rfl; rfl; exact bsB) | (apply PRun.skip; rfl; rfl; exact bsB) | (apply J.drawN; exact mixed; kernel_rfl) | (apply J.cond_t; rfl) | (apply J.cond_f; rfl) | apply J.exit | apply E.then_exit | apply E.in_exit | (apply E.in_other; rfl))
  (refine J.ret ?_; (repeat (first | refine E.then_ret ?_ | refine E.in_ret ?_)))
  exact E.retR1 (G := []) rfl rfl ⟨rfl, rfl⟩ (List.Perm.refl _)
theorem fhashes_fnR (b many : Nat) (hs : List Hash) (A : Option Addr) (c : Nat) (hl : hs.length ≤ 90000) : FnR Tryd.prog 31 [is (.pointer (some ⟨b, 0, none⟩))] (frL b hs many A c) (fun ψ Δ => ∃ A' c', ψ = is (.slice A' hs.length c') ∧ Δ = row (.slice A' hs.length c') 23 hashT.toTy hs :: frL b hs many A c) := by
  have ha := all_fnR b many hs A c hl
  refine FnR.mk' 9 Tryd.func31 rfl rfl rfl rfl fun w0 H0 => ?_
  repeat (first | ((first | (apply Lq.s; rfl) | apply PRun.s | (apply Lq.run; rfl; rfl; rfl; exact bsB) | (apply PRun.run; rfl; rfl; exact bsB)); first | (apply op_peq; rfl; rfl) | (exact bsO)) | apply J.seq | apply E.next | apply J.lq | apply Lq.nil | apply PRun.nil | apply J.block | apply E.in_normal | apply J.skip | (apply Lq.store; rfl; rfl; exact bsP; exact bsS; rfl; rfl) | (apply PRun.al; rfl) | (apply Lq.al; rfl; rfl; intro b) | (apply Open.cons; intro b) | apply Open.nil | (apply Lq.pass; rfl; rfl; rfl) | (apply PRun.pass; rfl; rfl) | (apply Lq.skip; rfl; rfl; rfl; exact bsB) | (apply PRun.skip; rfl; rfl; exact bsB) | (apply J.drawN; exact mixed; kernel_rfl) | (apply J.cond_t; rfl) | (apply J.cond_f; rfl) | apply J.exit | apply E.then_exit | apply E.in_exit | (apply E.in_other; rfl))
  refine Lq.callS (Δf := []) ha rfl bsD (by rw [List.append_nil]) ?_
  rintro _ _ ⟨A2, c2, rfl, rfl⟩
  repeat (first | ((first | (apply Lq.s; rfl) | apply PRun.s | (apply Lq.run; rfl; rfl; rfl; exact bsB) | (apply PRun.run; rfl; rfl; exact bsB)); first | (exact bsO)) | apply J.seq | apply E.next | apply J.lq | apply Lq.nil | apply PRun.nil | apply J.block | apply E.in_normal | apply J.skip | (apply Lq.store; rfl; rfl; exact bsP; exact bsS; rfl; rfl) | (apply PRun.al; rfl) | (apply Lq.al; rfl; rfl; intro b) | (apply Open.cons; intro b) | apply Open.nil | (apply Lq.pass; rfl; rfl; rfl) | (apply PRun.pass; rfl; rfl) | (apply Lq.skip; rfl; rfl; rfl; exact bsB) | (apply PRun.skip; rfl; rfl; exact bsB) | (apply J.drawN; exact mixed; kernel_rfl) | (apply J.cond_t; rfl) | (apply J.cond_f; rfl) | apply J.exit | apply E.then_exit | apply E.in_exit | (apply E.in_other; rfl))
  (refine J.ret ?_; (repeat (first | refine E.then_ret ?_ | refine E.in_ret ?_)))
  exact E.retR1 (G := []) rfl rfl ⟨A2, c2, rfl, rfl⟩ (by rw [List.append_nil])
set_option maxHeartbeats 2000000 in
theorem fappend_fnR (b many : Nat) (hs : List Hash) (A : Option Addr) (c : Nat) (h : Hash) (hl : hs.length ≤ 80000) (hp : hs.length = pop many) (hm : many < 9223372036854775807) : FnR Tryd.prog 25 [is (.pointer (some ⟨b, 0, none⟩)), hashT.val h] (frL b hs many A c) (fun ψ Δ => ψ = is (.int .i64 0) ∧ frV b (joins many (hs ++ [h])) (many + 1) Δ) := by
  refine FnR.mk' 47 Tryd.func25 rfl rfl rfl rfl fun w0 H0 => ?_
  unfold frL
  generalize hw : joins many (hs ++ [h]) = want
  repeat (first | ((first | (apply Lq.s; rfl) | apply PRun.s | (apply Lq.run; rfl; rfl; rfl; exact bsB) | (apply PRun.run; rfl; rfl; exact bsB)); first | (apply op_box hashT; rfl) | (apply op_ocell; rfl; exact bsM; rfl) | (apply op_slen; rfl) | (apply op_peq; rfl; rfl) | (exact bsO)) | apply J.seq | apply E.next | apply J.lq | apply Lq.nil | apply PRun.nil | apply J.block | apply E.in_normal | apply J.skip | (apply Lq.store; rfl; rfl; exact bsP; exact bsS; rfl; rfl) | (apply PRun.al; rfl) | (apply Lq.al; rfl; rfl; intro b) | (apply Open.cons; intro b) | apply Open.nil | (apply Lq.pass; rfl; rfl; rfl) | (apply PRun.pass; rfl; rfl) | (apply Lq.skip; rfl; rfl; rfl; exact bsB) | (apply PRun.skip; rfl; rfl; exact bsB) | (apply J.cond_t; rfl) | (apply J.cond_f; rfl) | apply J.exit | apply E.then_exit | apply E.in_exit | (apply E.in_other; rfl))
  refine J.drawW2 12 [(none, none), (none, none), (none, none), (none, none), (none, none), (some 0, some 0), (none, none), (none, none), (some 4, some 23), (none, none), (none, none), (none, none)] 0 4
    (itemA b 66 [is (.slice A hs.length c), is (.int .i64 (many : Int))]) (itemK (row (.slice A hs.length c) 23 hashT.toTy hs)) (by decide) rfl rfl (by rw [itemA_self]; exact List.Perm.refl _) mixed (by kernel_rfl) ?_
  repeat (first | ((first | apply PRunW.s | (apply PRunW.run; rfl; rfl; exact bsB) | (apply Lq.s; rfl) | apply PRun.s | (apply Lq.run; rfl; rfl; rfl; exact bsB) | (apply PRun.run; rfl; rfl; exact bsB)); first | (exact bsO)) | apply J.seq | apply E.next | apply J.lq | apply Lq.nil | apply PRun.nil | apply J.block | apply E.in_normal | apply J.skip | (apply Lq.store; rfl; rfl; exact bsP; exact bsS; rfl; rfl) | (apply PRun.al; rfl) | (apply Lq.al; rfl; rfl; intro b) | (apply Open.cons; intro b) | apply Open.nil | (apply Lq.pass; rfl; rfl; rfl) | (apply PRun.pass; rfl; rfl) | (apply Lq.skip; rfl; rfl; rfl; exact bsB) | (apply PRun.skip; rfl; rfl; exact bsB) | (apply J.cond_t; rfl) | (apply J.cond_f; rfl) | apply J.exit | apply E.then_exit | apply E.in_exit | (apply E.in_other; rfl) | apply PRunW.nil | (apply PRunW.al; rfl) | (apply PRunW.pass; rfl; rfl) | (apply PRunW.skip; rfl; rfl; exact bsB) | (apply Open.pv; intro b) | apply Open.av | (apply Open.rv; intro A c))
  refine PRunW.ldC (by decide) itemA_fst rfl rfl rfl ?_
  repeat (first | ((first | apply PRunW.s | (apply PRunW.run; rfl; rfl; exact bsB) | (apply Lq.s; rfl) | apply PRun.s | (apply Lq.run; rfl; rfl; rfl; exact bsB) | (apply PRun.run; rfl; rfl; exact bsB)); first | (apply op_load hashT; rfl) | (apply op_bslice hashT (xs := [h]); (repeat (first | exact PO.nil _ | (apply PO.cons; rfl))); rfl; rfl; rfl) | (exact bsO)) | apply J.seq | apply E.next | apply J.lq | apply Lq.nil | apply PRun.nil | apply J.block | apply E.in_normal | apply J.skip | (apply Lq.store; rfl; rfl; exact bsP; exact bsS; rfl; rfl) | (apply PRun.al; rfl) | (apply Lq.al; rfl; rfl; intro b) | (apply Open.cons; intro b) | apply Open.nil | (apply Lq.pass; rfl; rfl; rfl) | (apply PRun.pass; rfl; rfl) | (apply Lq.skip; rfl; rfl; rfl; exact bsB) | (apply PRun.skip; rfl; rfl; exact bsB) | (apply J.cond_t; rfl) | (apply J.cond_f; rfl) | apply J.exit | apply E.then_exit | apply E.in_exit | (apply E.in_other; rfl) | apply PRunW.nil | (apply PRunW.al; rfl) | (apply PRunW.pass; rfl; rfl) | (apply PRunW.skip; rfl; rfl; exact bsB) | (apply Open.pv; intro b) | apply Open.av | (apply Open.rv; intro A c))
  (apply PRunW.apK (T := hashT) (xs := hs) (ys := [h]); rfl; rfl; rfl; exact (fun H w k => ⟨k, rfl⟩); (apply From.sl; rfl); rfl; rfl; (show _ + 1 ≤ maxLen; unfold maxLen; omega); (show (_ + 1) * 32 ≤ _; omega))
  refine PRunW.s (op_nilCheck rfl) ?_
  refine PRunW.s (op_ofaddr rfl (by decide)) ?_
  refine PRunW.s (op_ofaddr rfl (by decide)) ?_
  refine PRunW.nil (Open.rv fun A2 c2 => Open.av (Open.nil ?_))
  refine Lq.storeE (φs' := [is (.slice A2 (hs ++ [h]).length c2), is (.int .i64 (many : Int))]) rfl rfl (List.Perm.refl _) (Seg.is rfl) rfl (Nat.le_of_ble_eq_true rfl) rfl ?_
  repeat (first | ((first | (apply Lq.s; rfl) | apply PRun.s | (apply Lq.run; rfl; rfl; rfl; exact bsB) | (apply PRun.run; rfl; rfl; exact bsB)); first | (apply op_ocell; rfl; exact bsM; rfl) | (apply op_slen; rfl) | (exact bsO)) | apply J.seq | apply E.next | apply J.lq | apply Lq.nil | apply PRun.nil | apply J.block | apply E.in_normal | apply J.skip | (apply Lq.store; rfl; rfl; exact bsP; exact bsS; rfl; rfl) | (apply PRun.al; rfl) | (apply Lq.al; rfl; rfl; intro b) | (apply Open.cons; intro b) | apply Open.nil | (apply Lq.pass; rfl; rfl; rfl) | (apply PRun.pass; rfl; rfl) | (apply Lq.skip; rfl; rfl; rfl; exact bsB) | (apply PRun.skip; rfl; rfl; exact bsB) | (apply J.cond_t; rfl) | (apply J.cond_f; rfl) | apply J.exit | apply E.then_exit | apply E.in_exit | (apply E.in_other; rfl))
  refine J.loop (fun p : Nat × List Hash × Option Addr × Nat => p.1 ≤ many ∧ p.2.1.length = pop p.1 + 1 ∧ p.2.1.length ≤ hs.length + 1 ∧ joins p.1 p.2.1 = want)
    (fun p => [(0, is (.pointer (some ⟨b, 0, none⟩))), (5, is (.int .i64 (p.1 : Int)))]) (fun p => frL b p.2.1 many p.2.2.1 p.2.2.2) (fun p => p.1) (many, hs ++ [h], A2, c2) ⟨Nat.le_refl _, by rw [List.length_append, hp]; rfl, by rw [List.length_append]; exact Nat.le_refl _, hw⟩ (Sub.same (by repeat' (first | exact trivial | refine ⟨rfl, ?_⟩))) ?_
  rintro ⟨n, ys, A3, c3⟩ ⟨hn, hyl, hyb, hj⟩
  dsimp only at hn hyl hyb hj ⊢
  have hand := and_one n
  rcases Nat.mod_two_eq_zero_or_one n with h2 | h2
  · rw [joins_even h2] at hj
    subst hj
    unfold frL
    repeat (first | ((first | (apply Lq.s; rfl) | apply PRun.s | (apply Lq.run; rfl; rfl; rfl; exact bsB) | (apply PRun.run; rfl; rfl; exact bsB)); first | (apply op_andn (m := n) (n := 1); rfl; rfl; omega; omega) | (apply op_ocell; rfl; exact bsM; rfl) | (apply op_slen; rfl) | (apply op_add (c := ((many + 1 : Nat) : Int)); rfl; rfl; (rw [show (many : Int) + 1 = ((many + 1 : Nat) : Int) by omega]; apply wrapi <;> omega)) | (exact bsO)) | apply J.seq | apply E.next | apply J.lq | apply Lq.nil | apply PRun.nil | apply J.block | apply E.in_normal | apply J.skip | (apply Lq.store; rfl; rfl; exact bsP; exact bsS; rfl; rfl) | (apply PRun.al; rfl) | (apply Lq.al; rfl; rfl; intro b) | (apply Open.cons; intro b) | apply Open.nil | (apply Lq.pass; rfl; rfl; rfl) | (apply PRun.pass; rfl; rfl) | (apply Lq.skip; rfl; rfl; rfl; exact bsB) | (apply PRun.skip; rfl; rfl; exact bsB) | (apply J.cond_t; rfl) | (apply J.cond_f; rfl) | apply J.exit | apply E.then_exit | apply E.in_exit | (apply E.in_other; rfl))
    (refine J.ret ?_; (repeat (first | refine E.then_ret ?_ | refine E.in_ret ?_)))
    exact E.retR1 (Δ' := frL b ys (many + 1) A3 c3) (G := []) rfl rfl ⟨rfl, A3, c3, rfl⟩ (List.Perm.refl _)
  · have hpp := pop_s n
    rw [h2] at hpp
    rw [joins_odd h2] at hj
    have hjl := join2_len (hs := ys) (by have := pop_s n; omega)
    obtain ⟨xs, p, q, rfl⟩ := split2s (hs := ys) (by omega)
    rw [join2_of] at hj hjl
    have hlen2 : (xs ++ [p, q]).length = xs.length + 2 := by rw [List.length_append]; rfl
    have hjn := join_fnR b many xs p q A3 c3 (by omega)
    repeat (first | ((first | (apply Lq.s; rfl) | apply PRun.s | (apply Lq.run; rfl; rfl; rfl; exact bsB) | (apply PRun.run; rfl; rfl; exact bsB)); first | (apply op_andn (m := n) (n := 1); rfl; rfl; omega; omega) | (apply op_ofaddr; rfl; decide) | (exact bsO)) | apply J.seq | apply E.next | apply J.lq | apply Lq.nil | apply PRun.nil | apply J.block | apply E.in_normal | apply J.skip | (apply Lq.store; rfl; rfl; exact bsP; exact bsS; rfl; rfl) | (apply PRun.al; rfl) | (apply Lq.al; rfl; rfl; intro b) | (apply Open.cons; intro b) | apply Open.nil | (apply Lq.pass; rfl; rfl; rfl) | (apply PRun.pass; rfl; rfl) | (apply Lq.skip; rfl; rfl; rfl; exact bsB) | (apply PRun.skip; rfl; rfl; exact bsB) | (apply J.cond_t; rfl) | (apply J.cond_f; rfl) | apply J.exit | apply E.then_exit | apply E.in_exit | (apply E.in_other; rfl))
    refine Lq.callS (Δf := []) hjn rfl bsD (by rw [List.append_nil]) ?_
    rintro _ _ ⟨rfl, A4, c4, rfl⟩
    rw [List.append_nil]
    repeat (first | ((first | (apply Lq.s; rfl) | apply PRun.s | (apply Lq.run; rfl; rfl; rfl; exact bsB) | (apply PRun.run; rfl; rfl; exact bsB)); first | (apply op_shr1 (m := n) (c := n / 2); rfl; rfl; rfl) | (exact bsO)) | apply J.seq | apply E.next | apply J.lq | apply Lq.nil | apply PRun.nil | apply J.block | apply E.in_normal | apply J.skip | (apply Lq.store; rfl; rfl; exact bsP; exact bsS; rfl; rfl) | (apply PRun.al; rfl) | (apply Lq.al; rfl; rfl; intro b) | (apply Open.cons; intro b) | apply Open.nil | (apply Lq.pass; rfl; rfl; rfl) | (apply PRun.pass; rfl; rfl) | (apply Lq.skip; rfl; rfl; rfl; exact bsB) | (apply PRun.skip; rfl; rfl; exact bsB) | (apply J.cond_t; rfl) | (apply J.cond_f; rfl) | apply J.exit | apply E.then_exit | apply E.in_exit | (apply E.in_other; rfl))
    exact E.again (n / 2, xs ++ [nodeH p q], A4, c4) (by dsimp only; omega) ⟨by dsimp only; omega, by dsimp only; omega, by dsimp only; omega, hj⟩ (Sub.same (by repeat' (first | exact trivial | refine ⟨rfl, ?_⟩)))
set_option maxHeartbeats 1000000 in
theorem fof_fnR (l : List Hash) (hl : l.length ≤ 70000) : FnR Tryd.prog 35 [sl hashT.toTy l] [] (fun ψ Δ => ∃ b, ψ = is (.pointer (some ⟨b, 0, none⟩)) ∧ frV b (edge l) l.length Δ) := by
  refine FnR.mk' 18 Tryd.func35 rfl rfl rfl rfl fun w0 H0 => ?_
  repeat (first | ((first | (apply Lq.s; rfl) | apply PRun.s | (apply Lq.run; rfl; rfl; rfl; exact bsB) | (apply PRun.run; rfl; rfl; exact bsB)); first | (exact bsO)) | apply J.seq | apply E.next | apply J.lq | apply Lq.nil | apply PRun.nil | apply J.block | apply E.in_normal | apply J.skip | (apply Lq.store; rfl; rfl; exact bsP; exact bsS; rfl; rfl) | (apply PRun.al; rfl) | (apply Lq.al; rfl; rfl; intro b) | (apply Open.cons; intro b) | apply Open.nil | (apply Lq.pass; rfl; rfl; rfl) | (apply PRun.pass; rfl; rfl) | (apply Lq.skip; rfl; rfl; rfl; exact bsB) | (apply PRun.skip; rfl; rfl; exact bsB) | (apply J.drawN; exact mixed; kernel_rfl) | (apply J.cond_t; rfl) | (apply J.cond_f; rfl) | apply J.exit | apply E.then_exit | apply E.in_exit | (apply E.in_other; rfl))
  refine Lq.callS (Δ0 := []) (Δf := []) fnew_fnR rfl bsD (List.Perm.refl _) ?_
  rintro _ _ ⟨b, rfl, rfl⟩
  rw [List.append_nil]
  repeat (first | ((first | (apply Lq.s; rfl) | apply PRun.s | (apply Lq.run; rfl; rfl; rfl; exact bsB) | (apply PRun.run; rfl; rfl; exact bsB)); first | (exact bsO)) | apply J.seq | apply E.next | apply J.lq | apply Lq.nil | apply PRun.nil | apply J.block | apply E.in_normal | apply J.skip | (apply Lq.store; rfl; rfl; exact bsP; exact bsS; rfl; rfl) | (apply PRun.al; rfl) | (apply Lq.al; rfl; rfl; intro b) | (apply Open.cons; intro b) | apply Open.nil | (apply Lq.pass; rfl; rfl; rfl) | (apply PRun.pass; rfl; rfl) | (apply Lq.skip; rfl; rfl; rfl; exact bsB) | (apply PRun.skip; rfl; rfl; exact bsB) | (apply J.drawN; exact mixed; kernel_rfl) | (apply J.cond_t; rfl) | (apply J.cond_f; rfl) | apply J.exit | apply E.then_exit | apply E.in_exit | (apply E.in_other; rfl))
  refine J.loop (fun p : Nat × Option Addr × Nat => p.1 ≤ l.length) (fun p => [(3, is (.pointer (some ⟨b, 0, none⟩))), (7, sl hashT.toTy l), (8, is (.int .i64 (l.length : Int))), (9, is (.int .i64 (p.1 : Int)))]) (fun p => frL b (edge (l.take p.1)) p.1 p.2.1 p.2.2) (fun p => l.length - p.1) (0, none, 0) (Nat.zero_le _) ?_ ?_
  · dsimp only
    rw [List.take_zero, edge_nil]
    exact (Sub.same (by repeat' (first | exact trivial | refine ⟨rfl, ?_⟩)))
  rintro ⟨i, A, c⟩ hi
  dsimp only at hi ⊢
  by_cases hlt : i < l.length
  · obtain ⟨h, hx⟩ : ∃ h, l[i]? = some h := ⟨_, List.getElem?_eq_getElem hlt⟩
    have htl : (l.take i).length = i := by rw [List.length_take]; omega
    have hel := edge_len (l.take i)
    rw [htl] at hel
    have hpl : pop i ≤ i := by
      rw [← szs_len]
      have := szs_sum i
      have hge : ∀ s ∈ szs i, 1 ≤ s := fun s hs => by
        unfold szs at hs
        exact asc_ge i i 0 (Nat.le_refl _) s (List.mem_reverse.1 hs)
      have key : ∀ ss : List Nat, (∀ s ∈ ss, 1 ≤ s) → ss.length ≤ ss.sum := by
        intro ss
        induction ss with
        | nil => intro _; exact Nat.le_refl _
        | cons t ss ih =>
          intro h1
          have := ih (fun s hs => h1 s (List.mem_cons_of_mem _ hs))
          have := h1 t List.mem_cons_self
          rw [List.length_cons, List.sum_cons]; omega
      have := key (szs i) hge
      omega
    have happ := fappend_fnR b i (edge (l.take i)) A c h (by omega) hel (by omega)
    have hsn := edge_snoc (l.take i) h
    rw [htl] at hsn
    have hts : l.take i ++ [h] = l.take (i + 1) := by rw [List.take_add_one, hx]; rfl
    rw [← hsn, hts] at happ
    repeat (first | ((first | (apply Lq.s; rfl) | apply PRun.s | (apply Lq.run; rfl; rfl; rfl; exact bsB) | (apply PRun.run; rfl; rfl; exact bsB)); first | (apply op_iaddr hashT.toTy (x := h); rfl; rfl; exact Int.natCast_nonneg _; (rw [Int.toNat_natCast]; exact hx)) | (apply op_load hashT; rfl) | (exact bsO)) | apply J.seq | apply E.next | apply J.lq | apply Lq.nil | apply PRun.nil | apply J.block | apply E.in_normal | apply J.skip | (apply Lq.store; rfl; rfl; exact bsP; exact bsS; rfl; rfl) | (apply PRun.al; rfl) | (apply Lq.al; rfl; rfl; intro b) | (apply Open.cons; intro b) | apply Open.nil | (apply Lq.pass; rfl; rfl; rfl) | (apply PRun.pass; rfl; rfl) | (apply Lq.skip; rfl; rfl; rfl; exact bsB) | (apply PRun.skip; rfl; rfl; exact bsB) | (apply J.cond_t; rfl) | (apply J.cond_f; rfl) | apply J.exit | apply E.then_exit | apply E.in_exit | (apply E.in_other; rfl))
    rename_i bh
    (apply Lq.storeE (φs' := hashT.cells h); rfl; rfl; exact List.Perm.refl _; exact Seg.val _ _; exact hashT.len _; exact Nat.le_refl 32; exact splice_all (by rw [hashT.len]; rfl))
    repeat (first | ((first | (apply Lq.s; rfl) | apply PRun.s | (apply Lq.run; rfl; rfl; rfl; exact bsB) | (apply PRun.run; rfl; rfl; exact bsB)); first | (apply op_oload hashT (x := h); rfl; exact bsM; exact at_hash h) | (exact bsO)) | apply J.seq | apply E.next | apply J.lq | apply Lq.nil | apply PRun.nil | apply J.block | apply E.in_normal | apply J.skip | (apply Lq.store; rfl; rfl; exact bsP; exact bsS; rfl; rfl) | (apply PRun.al; rfl) | (apply Lq.al; rfl; rfl; intro b) | (apply Open.cons; intro b) | apply Open.nil | (apply Lq.pass; rfl; rfl; rfl) | (apply PRun.pass; rfl; rfl) | (apply Lq.skip; rfl; rfl; rfl; exact bsB) | (apply PRun.skip; rfl; rfl; exact bsB) | (apply J.cond_t; rfl) | (apply J.cond_f; rfl) | apply J.exit | apply E.then_exit | apply E.in_exit | (apply E.in_other; rfl))
    refine Lq.callS (Δf := [_]) happ rfl bsD (List.perm_append_comm (l₁ := [_])) ?_
    rintro _ _ ⟨rfl, A2, c2, rfl⟩
    repeat (first | ((first | (apply Lq.s; rfl) | apply PRun.s | (apply Lq.run; rfl; rfl; rfl; exact bsB) | (apply PRun.run; rfl; rfl; exact bsB)); first | (exact bsO)) | apply J.seq | apply E.next | apply J.lq | apply Lq.nil | apply PRun.nil | apply J.block | apply E.in_normal | apply J.skip | (apply Lq.store; rfl; rfl; exact bsP; exact bsS; rfl; rfl) | (apply PRun.al; rfl) | (apply Lq.al; rfl; rfl; intro b) | (apply Open.cons; intro b) | apply Open.nil | (apply Lq.pass; rfl; rfl; rfl) | (apply PRun.pass; rfl; rfl) | (apply Lq.skip; rfl; rfl; rfl; exact bsB) | (apply PRun.skip; rfl; rfl; exact bsB) | (apply J.cond_t; rfl) | (apply J.cond_f; rfl) | apply J.exit | apply E.then_exit | apply E.in_exit | (apply E.in_other; rfl))
    exact E.again (i + 1, A2, c2) (by dsimp only; omega) (by dsimp only; omega) ⟨(by repeat' (first | exact trivial | refine ⟨rfl, ?_⟩)), [_], List.Perm.refl _⟩
  · obtain rfl : i = l.length := by omega
    rw [List.take_length]
    repeat (first | ((first | (apply Lq.s; rfl) | apply PRun.s | (apply Lq.run; rfl; rfl; rfl; exact bsB) | (apply PRun.run; rfl; rfl; exact bsB)); first | (exact bsO)) | apply J.seq | apply E.next | apply J.lq | apply Lq.nil | apply PRun.nil | apply J.block | apply E.in_normal | apply J.skip | (apply Lq.store; rfl; rfl; exact bsP; exact bsS; rfl; rfl) | (apply PRun.al; rfl) | (apply Lq.al; rfl; rfl; intro b) | (apply Open.cons; intro b) | apply Open.nil | (apply Lq.pass; rfl; rfl; rfl) | (apply PRun.pass; rfl; rfl) | (apply Lq.skip; rfl; rfl; rfl; exact bsB) | (apply PRun.skip; rfl; rfl; exact bsB) | (apply J.drawN; exact mixed; kernel_rfl) | (apply J.cond_t; rfl) | (apply J.cond_f; rfl) | apply J.exit | apply E.then_exit | apply E.in_exit | (apply E.in_other; rfl))
    (refine J.ret ?_; (repeat (first | refine E.then_ret ?_ | refine E.in_ret ?_)))
    exact E.retR1 (G := []) rfl rfl ⟨b, rfl, A, c, rfl⟩ (by rw [List.append_nil])
end Go.Proofs.YtljdjagackdplaaDoor.L
/-
  The edge's root, walked; edges that are loaded.
-/
namespace Go.Proofs.YtljdjagackdplaaDoor.L
open Go
set_option linter.unusedSectionVars false
variable [Globs] [Has_sha_table] [Has_sha_begin]
set_option linter.unusedVariables false
set_option linter.unusedVariables false
set_option linter.unusedSimpArgs false
attribute [local irreducible] J Lq E OpP PRun is any agg tup ptr sl PRunW OpE
attribute [local irreducible] up2 mroot nodeH leafH emptyH shaH ownAt row someL leafOf splitZ split rv join2 edge rootE o1 o2 o3
theorem backward_fnR (l : List Hash) : FnR Tryd.prog 46 [sl hashT.toTy l] [] (fun ψ Δ => ∃ b1, ψ = is (.func (.func 56) #[] [.pointer (some ⟨b1, 0, none⟩)].toArray) ∧ Δ = [own b1 22 [sl hashT.toTy l]]) := by
  refine FnR.mk' 4 Tryd.func46 rfl rfl rfl rfl fun w0 H0 => ?_
  refine J.seq ?_
  refine J.lq ?_
  refine Lq.box rfl rfl Seg.sl ?_
  intro b1
  repeat (first | ((first | (apply Lq.s; rfl) | apply PRun.s | (apply Lq.run; rfl; rfl; rfl; exact bsB) | (apply PRun.run; rfl; rfl; exact bsB)); first | (apply op_makeFunc (vs := [_]); exact bsD) | (exact bsO)) | apply J.seq | apply E.next | apply J.lq | apply Lq.nil | apply PRun.nil | apply J.block | apply E.in_normal | apply J.skip | (apply Lq.store; rfl; rfl; exact bsP; exact bsS; rfl; rfl) | (apply PRun.al; rfl) | (apply Lq.al; rfl; rfl; intro b) | (apply Open.cons; intro b) | apply Open.nil | (apply Lq.pass; rfl; rfl; rfl) | (apply PRun.pass; rfl; rfl) | (apply Lq.skip; rfl; rfl; rfl; exact bsB) | (apply PRun.skip; rfl; rfl; exact bsB) | (apply J.cond_t; rfl) | (apply J.cond_f; rfl) | apply J.exit | apply E.then_exit | apply E.in_exit | (apply E.in_other; rfl))
  (refine J.ret ?_; (repeat (first | refine E.then_ret ?_ | refine E.in_ret ?_)))
  exact E.retR1 (G := []) rfl rfl ⟨b1, rfl, rfl⟩ (List.Perm.refl _)
theorem drop_one {α : Type} {l : List α} {k : Nat} {x : α} (h : l[k]? = some x) : (l.drop k).reverse = (l.drop (k + 1)).reverse ++ [x] := by
  obtain ⟨hl, hh⟩ := List.getElem?_eq_some_iff.1 h
  rw [List.drop_eq_getElem_cons hl, hh, List.reverse_cons]
set_option maxHeartbeats 1000000 in
theorem back1_fnR (V : Hash → List Res → Prop) (lp : Nat) (r : Loop) (H1 : IH) (b1 : Nat) (l : List Hash) (acc0 : Hash) (Δ0 : List Res) (hl : l.length ≤ 90000) (hV : V acc0 Δ0)
    (Y : ∀ (i : Nat) (x acc : Hash) Δc, V acc Δc → YR Tryd.prog lp [is (.int .i64 (i : Int)), hashT.val x] (loopL lp r H1 Δc) (fun Δ' => ∃ Δd, V (nodeH x acc) Δd ∧ Δ' = loopL lp r H1 Δd)) :
    FnR Tryd.prog 56 [is (.func (.yield lp) #[] #[]), is (.pointer (some ⟨b1, 0, none⟩))] (own b1 22 [sl hashT.toTy l] :: loopL lp r H1 Δ0)
      (fun _ Δ' => ∃ Δc, V (l.reverse.foldl (fun acc h => nodeH h acc) acc0) Δc ∧ Δ' = loopL lp r H1 Δc) := by
  refine FnR.mk' 19 Tryd.func56 rfl rfl rfl rfl fun w0 H0 => ?_
  generalize hw : l.reverse.foldl (fun acc h => nodeH h acc) acc0 = want
  repeat (first | ((first | (apply Lq.s; rfl) | apply PRun.s | (apply Lq.run; rfl; rfl; rfl; exact bsB) | (apply PRun.run; rfl; rfl; exact bsB)); first | (apply op_oload (slT hashT); rfl; exact bsM; rfl) | (apply op_sub (c := (l.length : Int) - 1); rfl; rfl; (apply wrapi <;> omega)) | (exact bsO)) | apply J.seq | apply E.next | apply J.lq | apply Lq.nil | apply PRun.nil | apply J.block | apply E.in_normal | apply J.skip | (apply Lq.store; rfl; rfl; exact bsP; exact bsS; rfl; rfl) | (apply PRun.al; rfl) | (apply Lq.al; rfl; rfl; intro b) | (apply Open.cons; intro b) | apply Open.nil | (apply Lq.pass; rfl; rfl; rfl) | (apply PRun.pass; rfl; rfl) | (apply Lq.skip; rfl; rfl; rfl; exact bsB) | (apply PRun.skip; rfl; rfl; exact bsB) | (apply J.drawN; exact mixed; kernel_rfl) | (apply J.cond_t; rfl) | (apply J.cond_f; rfl) | apply J.exit | apply E.then_exit | apply E.in_exit | (apply E.in_other; rfl))
  refine J.loop (fun p : Nat × Hash × List Res => p.1 ≤ l.length ∧ p.2.1 = (l.drop p.1).reverse.foldl (fun acc h => nodeH h acc) acc0 ∧ V p.2.1 p.2.2)
    (fun p => [(0, is (.func (.yield lp) #[] #[])), (1, is (.pointer (some ⟨b1, 0, none⟩))), (3, is (.int .i64 ((p.1 : Int) - 1)))])
    (fun p => own b1 22 [sl hashT.toTy l] :: loopL lp r H1 p.2.2) (fun p => p.1) (l.length, acc0, Δ0) ⟨Nat.le_refl _, by dsimp only; rw [List.drop_length]; rfl, hV⟩ (Sub.same (by repeat' (first | exact trivial | refine ⟨rfl, ?_⟩))) ?_
  rintro ⟨k, acc, Δc⟩ ⟨hk, hacc, hVc⟩
  dsimp only at hk hacc hVc ⊢
  cases k with
  | zero =>
    rw [List.drop_zero, hw] at hacc
    subst hacc
    repeat (first | ((first | (apply Lq.s; rfl) | apply PRun.s | (apply Lq.run; rfl; rfl; rfl; exact bsB) | (apply PRun.run; rfl; rfl; exact bsB)); first | (exact bsO)) | apply J.seq | apply E.next | apply J.lq | apply Lq.nil | apply PRun.nil | apply J.block | apply E.in_normal | apply J.skip | (apply Lq.store; rfl; rfl; exact bsP; exact bsS; rfl; rfl) | (apply PRun.al; rfl) | (apply Lq.al; rfl; rfl; intro b) | (apply Open.cons; intro b) | apply Open.nil | (apply Lq.pass; rfl; rfl; rfl) | (apply PRun.pass; rfl; rfl) | (apply Lq.skip; rfl; rfl; rfl; exact bsB) | (apply PRun.skip; rfl; rfl; exact bsB) | (apply J.drawN; exact mixed; kernel_rfl) | (apply J.cond_t; rfl) | (apply J.cond_f; rfl) | apply J.exit | apply E.then_exit | apply E.in_exit | (apply E.in_other; rfl))
    exact E.retR0 (G := [_]) .normal (.inr rfl) rfl (fun _ => any_h) ⟨Δc, hVc, rfl⟩ (List.perm_append_comm (l₁ := [_]))
  | succ i =>
    obtain ⟨x, hx⟩ : ∃ x, l[i]? = some x := ⟨_, List.getElem?_eq_getElem (by omega)⟩
    rw [show ((i + 1 : Nat) : Int) - 1 = (i : Int) by omega]
    have Y1 := Y i x acc Δc hVc
    repeat (first | ((first | (apply Lq.s; rfl) | apply PRun.s | (apply Lq.run; rfl; rfl; rfl; exact bsB) | (apply PRun.run; rfl; rfl; exact bsB)); first | (apply op_oload (slT hashT); rfl; exact bsM; rfl) | (apply op_iaddr hashT.toTy (x := x); rfl; rfl; exact Int.natCast_nonneg _; (rw [Int.toNat_natCast]; exact hx)) | (apply op_load hashT; rfl) | (exact bsO)) | apply J.seq | apply E.next | apply J.lq | apply Lq.nil | apply PRun.nil | apply J.block | apply E.in_normal | apply J.skip | (apply Lq.store; rfl; rfl; exact bsP; exact bsS; rfl; rfl) | (apply PRun.al; rfl) | (apply Lq.al; rfl; rfl; intro b) | (apply Open.cons; intro b) | apply Open.nil | (apply Lq.pass; rfl; rfl; rfl) | (apply PRun.pass; rfl; rfl) | (apply Lq.skip; rfl; rfl; rfl; exact bsB) | (apply PRun.skip; rfl; rfl; exact bsB) | (apply J.drawN; exact mixed; kernel_rfl) | (apply J.cond_t; rfl) | (apply J.cond_f; rfl) | apply J.exit | apply E.then_exit | apply E.in_exit | (apply E.in_other; rfl))
    refine Lq.callY Y1 rfl rfl bsD (List.perm_append_comm (l₁ := [_])) ?_
    rintro _ ⟨Δd, hVd, rfl⟩
    refine Lq.perm (List.perm_append_comm (l₂ := [_])) ?_
    repeat (first | ((first | (apply Lq.s; rfl) | apply PRun.s | (apply Lq.run; rfl; rfl; rfl; exact bsB) | (apply PRun.run; rfl; rfl; exact bsB)); first | (apply op_sub (c := (i : Int) - 1); rfl; rfl; (apply wrapi <;> omega)) | (exact bsO)) | apply J.seq | apply E.next | apply J.lq | apply Lq.nil | apply PRun.nil | apply J.block | apply E.in_normal | apply J.skip | (apply Lq.store; rfl; rfl; exact bsP; exact bsS; rfl; rfl) | (apply PRun.al; rfl) | (apply Lq.al; rfl; rfl; intro b) | (apply Open.cons; intro b) | apply Open.nil | (apply Lq.pass; rfl; rfl; rfl) | (apply PRun.pass; rfl; rfl) | (apply Lq.skip; rfl; rfl; rfl; exact bsB) | (apply PRun.skip; rfl; rfl; exact bsB) | (apply J.drawN; exact mixed; kernel_rfl) | (apply J.cond_t; rfl) | (apply J.cond_f; rfl) | apply J.exit | apply E.then_exit | apply E.in_exit | (apply E.in_other; rfl))
    exact E.again (i, nodeH x acc, Δd) (by dsimp only; omega) ⟨by dsimp only; omega, by dsimp only; rw [drop_one hx, List.foldl_append, ← hacc]; rfl, hVd⟩ (Sub.same (by repeat' (first | exact trivial | refine ⟨rfl, ?_⟩)))
set_option maxHeartbeats 2000000 in
theorem froot_fnR (fb many : Nat) (hs : List Hash) (fA : Option Addr) (fc : Nat) (hl : hs.length ≤ 90000) : FnR Tryd.prog 29 [is (.pointer (some ⟨fb, 0, none⟩))] (frL fb hs many fA fc) (fun ψ Δ => ψ = hashT.val (rootE hs) ∧ Δ = frL fb hs many fA fc) := by
  have ha := all_fnR fb many hs fA fc hl
  refine FnR.mkM 36 Tryd.func29 rfl rfl rfl rfl fun w0 H0 => ?_
  repeat (first | ((first | (apply Lq.s; rfl) | apply PRun.s | (apply Lq.run; rfl; rfl; rfl; exact bsB) | (apply PRun.run; rfl; rfl; exact bsB)); first | (apply op_peq; rfl; rfl) | (apply op_ofaddr; rfl; decide) | (exact bsO)) | apply J.seq | apply E.next | apply J.lq | apply Lq.nil | apply PRun.nil | apply J.block | apply E.in_normal | apply J.skip | (apply Lq.store; rfl; rfl; exact bsP; exact bsS; rfl; rfl) | (apply PRun.al; rfl) | (apply Lq.al; rfl; rfl; intro b) | (apply Open.cons; intro b) | apply Open.nil | (apply Lq.pass; rfl; rfl; rfl) | (apply PRun.pass; rfl; rfl) | (apply Lq.skip; rfl; rfl; rfl; exact bsB) | (apply PRun.skip; rfl; rfl; exact bsB) | (apply J.cond_t; rfl) | (apply J.cond_f; rfl) | apply J.exit | apply E.then_exit | apply E.in_exit | (apply E.in_other; rfl))
  revert b
  intro b2
  refine Lq.callS (Δf := [_]) ha rfl bsD (List.perm_append_comm (l₁ := [_])) ?_
  rintro _ _ ⟨A2, c2, rfl, rfl⟩
  refine Lq.freeze 13 rfl (List.Perm.refl _) ?_
  refine Lq.perm (List.perm_append_comm (l₂ := [_])) ?_
  rcases List.eq_nil_or_concat hs with rfl | ⟨init, x, rfl⟩
  · have hp0 : ([] : List Hash).length = 0 := rfl
    repeat (first | ((first | (apply Lq.s; rfl) | apply PRun.s | (apply Lq.run; rfl; rfl; rfl; exact bsB) | (apply PRun.run; rfl; rfl; exact bsB)); first | (apply op_len (xs := ([] : List Hash)); rfl) | (apply op_call emptyH_fn; exact bsD) | (exact bsO)) | apply J.seq | apply E.next | apply J.lq | apply Lq.nil | apply PRun.nil | apply J.block | apply E.in_normal | apply J.skip | (apply Lq.store; rfl; rfl; exact bsP; exact bsS; rfl; rfl) | (apply PRun.al; rfl) | (apply Lq.al; rfl; rfl; intro b) | (apply Open.cons; intro b) | apply Open.nil | (apply Lq.pass; rfl; rfl; rfl) | (apply PRun.pass; rfl; rfl) | (apply Lq.skip; rfl; rfl; rfl; exact bsB) | (apply PRun.skip; rfl; rfl; exact bsB) | (apply J.cond_t; rfl) | (apply J.cond_f; rfl) | apply J.exit | apply E.then_exit | apply E.in_exit | (apply E.in_other; rfl))
    refine Lq.storeE (φs' := hashT.cells emptyH) rfl rfl (List.Perm.refl _) (Seg.val hashT _) (hashT.len _) (Nat.le_refl 32) (splice_all (by rw [hashT.len]; rfl)) ?_
    repeat (first | ((first | (apply Lq.s; rfl) | apply PRun.s | (apply Lq.run; rfl; rfl; rfl; exact bsB) | (apply PRun.run; rfl; rfl; exact bsB)); first | (exact bsO)) | apply J.seq | apply E.next | apply J.lq | apply Lq.nil | apply PRun.nil | apply J.block | apply E.in_normal | apply J.skip | (apply Lq.store; rfl; rfl; exact bsP; exact bsS; rfl; rfl) | (apply PRun.al; rfl) | (apply Lq.al; rfl; rfl; intro b) | (apply Open.cons; intro b) | apply Open.nil | (apply Lq.pass; rfl; rfl; rfl) | (apply PRun.pass; rfl; rfl) | (apply Lq.skip; rfl; rfl; rfl; exact bsB) | (apply PRun.skip; rfl; rfl; exact bsB) | (apply J.cond_t; rfl) | (apply J.cond_f; rfl) | apply J.exit | apply E.then_exit | apply E.in_exit | (apply E.in_other; rfl))
    (refine J.ret ?_; (repeat (first | refine E.then_ret ?_ | refine E.in_ret ?_)))
    refine E.markNo ?_
    exact E.retRc hashT (x := emptyH) (G := [_]) rfl rfl List.mem_cons_self (take_hash _) ⟨by rw [rootE_nil], rfl⟩ (List.perm_append_comm (l₁ := [_]))
  · rw [List.concat_eq_append] at *
    have hll : (init ++ [x]).length = init.length + 1 := by rw [List.length_append]; rfl
    have hat : (init ++ [x])[init.length]? = some x := by rw [List.getElem?_append_right (Nat.le_refl _), Nat.sub_self]; rfl
    have htk : (init ++ [x]).take init.length = init := List.take_left' rfl
    have hr := rootE_snoc init x
    generalize rootE (init ++ [x]) = rt at hr ⊢
    generalize hq : init ++ [x] = hs at *
    repeat (first | ((first | (apply Lq.s; rfl) | apply PRun.s | (apply Lq.run; rfl; rfl; rfl; exact bsB) | (apply PRun.run; rfl; rfl; exact bsB)); first | (apply op_len (xs := hs); rfl) | (apply op_sub (c := (init.length : Int)); rfl; rfl; (rw [show (hs.length : Int) - 1 = (init.length : Int) by omega]; apply wrapi <;> omega)) | (apply op_iaddr hashT.toTy (x := x); rfl; rfl; exact Int.natCast_nonneg _; (rw [Int.toNat_natCast]; exact hat)) | (apply op_load hashT; rfl) | (exact bsO)) | apply J.seq | apply E.next | apply J.lq | apply Lq.nil | apply PRun.nil | apply J.block | apply E.in_normal | apply J.skip | (apply Lq.store; rfl; rfl; exact bsP; exact bsS; rfl; rfl) | (apply PRun.al; rfl) | (apply Lq.al; rfl; rfl; intro b) | (apply Open.cons; intro b) | apply Open.nil | (apply Lq.pass; rfl; rfl; rfl) | (apply PRun.pass; rfl; rfl) | (apply Lq.skip; rfl; rfl; rfl; exact bsB) | (apply PRun.skip; rfl; rfl; exact bsB) | (apply J.cond_t; rfl) | (apply J.cond_f; rfl) | apply J.exit | apply E.then_exit | apply E.in_exit | (apply E.in_other; rfl))
    revert b
    intro b4
    refine Lq.storeE (φs' := hashT.cells x) rfl rfl (List.Perm.refl _) (Seg.val hashT _) (hashT.len _) (Nat.le_refl 32) (splice_all (by rw [hashT.len]; rfl)) ?_
    repeat (first | ((first | (apply Lq.s; rfl) | apply PRun.s | (apply Lq.run; rfl; rfl; rfl; exact bsB) | (apply PRun.run; rfl; rfl; exact bsB)); first | (apply op_len (xs := hs); rfl) | (apply op_sub (c := (init.length : Int)); rfl; rfl; (rw [show (hs.length : Int) - 1 = (init.length : Int) by omega]; apply wrapi <;> omega)) | (apply op_ksl_hi' (T := hashT.toTy) (ys := init) (hi := init.length); rfl; rfl; omega; exact htk) | (exact bsO)) | apply J.seq | apply E.next | apply J.lq | apply Lq.nil | apply PRun.nil | apply J.block | apply E.in_normal | apply J.skip | (apply Lq.store; rfl; rfl; exact bsP; exact bsS; rfl; rfl) | (apply PRun.al; rfl) | (apply Lq.al; rfl; rfl; intro b) | (apply Open.cons; intro b) | apply Open.nil | (apply Lq.pass; rfl; rfl; rfl) | (apply PRun.pass; rfl; rfl) | (apply Lq.skip; rfl; rfl; rfl; exact bsB) | (apply PRun.skip; rfl; rfl; exact bsB) | (apply J.cond_t; rfl) | (apply J.cond_f; rfl) | apply J.exit | apply E.then_exit | apply E.in_exit | (apply E.in_other; rfl))
    refine Lq.callS (Δ0 := []) (Δf := own b4 23 (hashT.cells x) :: own b2 23 (hashT.cells zeroH) :: frL fb hs many fA fc) (backward_fnR init) rfl bsD (List.Perm.refl _) ?_
    rintro _ _ ⟨b1, rfl, rfl⟩
    repeat (first | ((first | (apply Lq.s; rfl) | apply PRun.s | (apply Lq.run; rfl; rfl; rfl; exact bsB) | (apply PRun.run; rfl; rfl; exact bsB)); first | (exact bsO)) | apply J.seq | apply E.next | apply J.lq | apply Lq.nil | apply PRun.nil | apply J.block | apply E.in_normal | apply J.skip | (apply Lq.store; rfl; rfl; exact bsP; exact bsS; rfl; rfl) | (apply PRun.al; rfl) | (apply Lq.al; rfl; rfl; intro b) | (apply Open.cons; intro b) | apply Open.nil | (apply Lq.pass; rfl; rfl; rfl) | (apply PRun.pass; rfl; rfl) | (apply Lq.skip; rfl; rfl; rfl; exact bsB) | (apply PRun.skip; rfl; rfl; exact bsB) | (apply J.cond_t; rfl) | (apply J.cond_f; rfl) | apply J.exit | apply E.then_exit | apply E.in_exit | (apply E.in_other; rfl))
    refine J.rangeF (lb := [_]) (Δ1 := [_]) (Δ0 := [own b4 23 (hashT.cells x)]) (Δf := own b2 23 (hashT.cells zeroH) :: frL fb hs many fA fc) (V := fun Δc => Δc = [own b4 23 (hashT.cells rt)]) rfl rfl rfl (List.Perm.refl _) ?_ ?_
    · intro fn lp D tm H1 htm hsnap
      rw [hr]
      refine back1_fnR (fun acc Δc => Δc = [own b4 23 (hashT.cells acc)]) lp _ H1 b1 init x _ (by omega) rfl ?_
      rintro i y acc _ rfl
      refine YR.ofM (fun _ : Nat => True) (fun b6 => [(6, is (.pointer (some ⟨b6, 0, none⟩))), (4, is (.pointer (some ⟨b4, 0, none⟩)))]) (fun b6 => [own b6 23 (hashT.cells y), own b4 23 (hashT.cells acc)]) htm (blt rfl) (blt rfl) hsnap ?_ ?_
      · intro w0 H0 X
        repeat (first | ((first | (apply Lq.s; rfl) | apply PRun.s | (apply Lq.run; rfl; rfl; rfl; exact bsB) | (apply PRun.run; rfl; rfl; exact bsB)); first | (exact bsO)) | apply J.seq | apply E.next | apply J.lq | apply Lq.nil | apply PRun.nil | apply J.block | apply E.in_normal | apply J.skip | (apply Lq.store; rfl; rfl; exact bsP; exact bsS; rfl; rfl) | (apply PRun.al; rfl) | (apply Lq.al; rfl; rfl; intro b) | (apply Open.cons; intro b) | apply Open.nil | (apply Lq.pass; rfl; rfl; rfl) | (apply PRun.pass; rfl; rfl) | (apply Lq.skip; rfl; rfl; rfl; exact bsB) | (apply PRun.skip; rfl; rfl; exact bsB) | (apply J.cond_t; rfl) | (apply J.cond_f; rfl) | apply J.exit | apply E.then_exit | apply E.in_exit | (apply E.in_other; rfl))
        refine Lq.storeE (φs' := hashT.cells y) rfl rfl (List.Perm.refl _) (Seg.val hashT _) (hashT.len _) (Nat.le_refl 32) (splice_all (by rw [hashT.len]; rfl)) ?_
        refine Lq.nil ?_
        exact E.mid b trivial (Sub.same (by repeat' (first | exact trivial | refine ⟨rfl, ?_⟩)))
      · intro b6 _ w0 H0 X
        repeat (first | ((first | (apply Lq.s; rfl) | apply PRun.s | (apply Lq.run; rfl; rfl; rfl; exact bsB) | (apply PRun.run; rfl; rfl; exact bsB)); first | (apply op_oload hashT (x := y); rfl; exact bsM; exact at_hash y) | (apply op_oload hashT (x := acc); rfl; exact bsM; exact at_hash acc) | (apply op_call (nodeH_fn y acc); exact bsD) | (exact bsO)) | apply J.seq | apply E.next | apply J.lq | apply Lq.nil | apply PRun.nil | apply J.block | apply E.in_normal | apply J.skip | (apply Lq.store; rfl; rfl; exact bsP; exact bsS; rfl; rfl) | (apply PRun.al; rfl) | (apply Lq.al; rfl; rfl; intro b) | (apply Open.cons; intro b) | apply Open.nil | (apply Lq.pass; rfl; rfl; rfl) | (apply PRun.pass; rfl; rfl) | (apply Lq.skip; rfl; rfl; rfl; exact bsB) | (apply PRun.skip; rfl; rfl; exact bsB) | (apply J.cond_t; rfl) | (apply J.cond_f; rfl) | apply J.exit | apply E.then_exit | apply E.in_exit | (apply E.in_other; rfl))
        refine Lq.storeE (φs' := hashT.cells (nodeH y acc)) rfl rfl (List.Perm.swap _ _ _) (Seg.val hashT _) (hashT.len _) (Nat.le_of_eq (hashT.len _).symm) (splice_all (by rw [hashT.len, hashT.len])) ?_
        repeat (first | ((first | (apply Lq.s; rfl) | apply PRun.s | (apply Lq.run; rfl; rfl; rfl; exact bsB) | (apply PRun.run; rfl; rfl; exact bsB)); first | (exact bsO)) | apply J.seq | apply E.next | apply J.lq | apply Lq.nil | apply PRun.nil | apply J.block | apply E.in_normal | apply J.skip | (apply Lq.store; rfl; rfl; exact bsP; exact bsS; rfl; rfl) | (apply PRun.al; rfl) | (apply Lq.al; rfl; rfl; intro b) | (apply Open.cons; intro b) | apply Open.nil | (apply Lq.pass; rfl; rfl; rfl) | (apply PRun.pass; rfl; rfl) | (apply Lq.skip; rfl; rfl; rfl; exact bsB) | (apply PRun.skip; rfl; rfl; exact bsB) | (apply J.cond_t; rfl) | (apply J.cond_f; rfl) | apply J.exit | apply E.then_exit | apply E.in_exit | (apply E.in_other; rfl))
        exact E.mid [own b4 23 (hashT.cells (nodeH y acc))] rfl ⟨trivial, [_], List.Perm.refl _⟩
    · rintro D _ rfl
      repeat (first | ((first | (apply Lq.s; rfl) | apply PRun.s | (apply Lq.run; rfl; rfl; rfl; exact bsB) | (apply PRun.run; rfl; rfl; exact bsB)); first | (apply op_oload hashT (x := rt); rfl; exact bsM; exact at_hash rt) | (exact bsO)) | apply J.seq | apply E.next | apply J.lq | apply Lq.nil | apply PRun.nil | apply J.block | apply E.in_normal | apply J.skip | (apply Lq.store; rfl; rfl; exact bsP; exact bsS; rfl; rfl) | (apply PRun.al; rfl) | (apply Lq.al; rfl; rfl; intro b) | (apply Open.cons; intro b) | apply Open.nil | (apply Lq.pass; rfl; rfl; rfl) | (apply PRun.pass; rfl; rfl) | (apply Lq.skip; rfl; rfl; rfl; exact bsB) | (apply PRun.skip; rfl; rfl; exact bsB) | (apply J.cond_t; rfl) | (apply J.cond_f; rfl) | apply J.exit | apply E.then_exit | apply E.in_exit | (apply E.in_other; rfl))
      refine Lq.storeE (φs' := hashT.cells rt) rfl rfl (List.perm_middle (l₁ := [_, _])) (Seg.val hashT _) (hashT.len _) (Nat.le_of_eq (hashT.len _).symm) (splice_all (by rw [hashT.len, hashT.len])) ?_
      repeat (first | ((first | (apply Lq.s; rfl) | apply PRun.s | (apply Lq.run; rfl; rfl; rfl; exact bsB) | (apply PRun.run; rfl; rfl; exact bsB)); first | (exact bsO)) | apply J.seq | apply E.next | apply J.lq | apply Lq.nil | apply PRun.nil | apply J.block | apply E.in_normal | apply J.skip | (apply Lq.store; rfl; rfl; exact bsP; exact bsS; rfl; rfl) | (apply PRun.al; rfl) | (apply Lq.al; rfl; rfl; intro b) | (apply Open.cons; intro b) | apply Open.nil | (apply Lq.pass; rfl; rfl; rfl) | (apply PRun.pass; rfl; rfl) | (apply Lq.skip; rfl; rfl; rfl; exact bsB) | (apply PRun.skip; rfl; rfl; exact bsB) | (apply J.cond_t; rfl) | (apply J.cond_f; rfl) | apply J.exit | apply E.then_exit | apply E.in_exit | (apply E.in_other; rfl))
      (refine J.ret ?_; (repeat (first | refine E.then_ret ?_ | refine E.in_ret ?_)))
      refine E.mark (List.Perm.swap _ _ _) ?_
      exact E.retRc hashT (x := rt) (G := [_, _]) rfl rfl List.mem_cons_self (take_hash _) ⟨rfl, rfl⟩ (List.perm_append_comm (l₁ := [_, _]))
theorem fload_bad (n : Int) (k : Nat) (hk : k ≤ 100000) (h0 : -9223372036854775808 ≤ n ∧ n ≤ 9223372036854775807) (h : n < 0 ∨ pop n.toNat ≠ k) : Fn Tryd.prog 23 [is (.int .i64 n), anySl k] (tup [is (.pointer none), is (.int .i64 2)]) := by
  by_cases h1 : n < 0
  · refine Fn.mk' 22 Tryd.func23 rfl rfl rfl rfl fun w0 H0 => ?_
    repeat (first | ((first | (apply Lq.s; rfl) | apply PRun.s | (apply Lq.run; rfl; rfl; rfl; exact bsB) | (apply PRun.run; rfl; rfl; exact bsB)); first | (exact bsO)) | apply J.seq | apply E.next | apply J.lq | apply Lq.nil | apply PRun.nil | apply J.block | apply E.in_normal | apply J.skip | (apply Lq.store; rfl; rfl; exact bsP; exact bsS; rfl; rfl) | (apply PRun.al; rfl) | (apply Lq.al; rfl; rfl; intro b) | (apply Open.cons; intro b) | apply Open.nil | (apply Lq.pass; rfl; rfl; rfl) | (apply PRun.pass; rfl; rfl) | (apply Lq.skip; rfl; rfl; rfl; exact bsB) | (apply PRun.skip; rfl; rfl; exact bsB) | (apply J.drawN; exact mixed; kernel_rfl) | (apply J.cond_t; rfl) | (apply J.cond_f; rfl) | apply J.exit | apply E.then_exit | apply E.in_exit | (apply E.in_other; rfl))
    (refine J.ret ?_; (repeat (first | refine E.then_ret ?_ | refine E.in_ret ?_)))
    exact E.ret2 rfl rfl rfl
  · obtain ⟨m, rfl⟩ : ∃ m : Nat, n = m := ⟨n.toNat, by omega⟩
    rw [Int.toNat_natCast] at h
    have ho := ones_fn m (by omega)
    have hne : pop m ≠ k := by
      rcases h with h | h
      · omega
      · exact h
    generalize pop m = r at *
    refine Fn.mk' 22 Tryd.func23 rfl rfl rfl rfl fun w0 H0 => ?_
    repeat (first | ((first | (apply Lq.s; rfl) | apply PRun.s | (apply Lq.run; rfl; rfl; rfl; exact bsB) | (apply PRun.run; rfl; rfl; exact bsB)); first | (apply op_conv (c := (m : Int)); rfl; exact wrapu' (by omega)) | (apply op_call ho; exact bsD) | (apply op_anylen; rfl) | (exact bsO)) | apply J.seq | apply E.next | apply J.lq | apply Lq.nil | apply PRun.nil | apply J.block | apply E.in_normal | apply J.skip | (apply Lq.store; rfl; rfl; exact bsP; exact bsS; rfl; rfl) | (apply PRun.al; rfl) | (apply Lq.al; rfl; rfl; intro b) | (apply Open.cons; intro b) | apply Open.nil | (apply Lq.pass; rfl; rfl; rfl) | (apply PRun.pass; rfl; rfl) | (apply Lq.skip; rfl; rfl; rfl; exact bsB) | (apply PRun.skip; rfl; rfl; exact bsB) | (apply J.drawN; exact mixed; kernel_rfl) | (apply J.cond_t; rfl) | (apply J.cond_f; rfl) | apply J.exit | apply E.then_exit | apply E.in_exit | (apply E.in_other; rfl))
    (refine J.ret ?_; (repeat (first | refine E.then_ret ?_ | refine E.in_ret ?_)))
    exact E.ret2 rfl rfl rfl
theorem fload_fnR (n : Nat) (hs : List Hash) (hl : hs.length ≤ 90000) (hn : n ≤ 9223372036854775807) (hp : hs.length = pop n) (fA : Option Addr) (fc e : Nat) : FnR Tryd.prog 23 [is (.int .i64 (n : Int)), is (.slice fA hs.length fc)] [row (.slice fA hs.length fc) e hashT.toTy hs]
    (fun ψ Δ => ∃ fb A' c', ψ = tup [is (.pointer (some ⟨fb, 0, none⟩)), is (.int .i64 0)] ∧ Δ = frL fb hs n A' c' ++ [row (.slice fA hs.length fc) e hashT.toTy hs]) := by
  have ho := ones_fn n (by omega)
  rw [← hp] at ho
  refine FnR.mk' 22 Tryd.func23 rfl rfl rfl rfl fun w0 H0 => ?_
  repeat (first | ((first | (apply Lq.s; rfl) | apply PRun.s | (apply Lq.run; rfl; rfl; rfl; exact bsB) | (apply PRun.run; rfl; rfl; exact bsB)); first | (apply op_conv (c := (n : Int)); rfl; exact wrapu' (by omega)) | (apply op_call ho; exact bsD) | (apply op_slen; rfl) | (exact bsO)) | apply J.seq | apply E.next | apply J.lq | apply Lq.nil | apply PRun.nil | apply J.block | apply E.in_normal | apply J.skip | (apply Lq.store; rfl; rfl; exact bsP; exact bsS; rfl; rfl) | (apply PRun.al; rfl) | (apply Lq.al; rfl; rfl; intro b) | (apply Open.cons; intro b) | apply Open.nil | (apply Lq.pass; rfl; rfl; rfl) | (apply PRun.pass; rfl; rfl) | (apply Lq.skip; rfl; rfl; rfl; exact bsB) | (apply PRun.skip; rfl; rfl; exact bsB) | (apply J.drawN; exact mixed; kernel_rfl) | (apply J.cond_t; rfl) | (apply J.cond_f; rfl) | apply J.exit | apply E.then_exit | apply E.in_exit | (apply E.in_other; rfl))
  refine Lq.callS (Δf := []) (clone_fnR hs (by omega) fA fc e) rfl bsD (List.Perm.refl _) ?_
  rintro _ _ ⟨A2, c2, rfl, rfl⟩
  repeat (first | ((first | (apply Lq.s; rfl) | apply PRun.s | (apply Lq.run; rfl; rfl; rfl; exact bsB) | (apply PRun.run; rfl; rfl; exact bsB)); first | (exact bsO)) | apply J.seq | apply E.next | apply J.lq | apply Lq.nil | apply PRun.nil | apply J.block | apply E.in_normal | apply J.skip | (apply Lq.store; rfl; rfl; exact bsP; exact bsS; rfl; rfl) | (apply PRun.al; rfl) | (apply Lq.al; rfl; rfl; intro b) | (apply Open.cons; intro b) | apply Open.nil | (apply Lq.pass; rfl; rfl; rfl) | (apply PRun.pass; rfl; rfl) | (apply Lq.skip; rfl; rfl; rfl; exact bsB) | (apply PRun.skip; rfl; rfl; exact bsB) | (apply J.drawN; exact mixed; kernel_rfl) | (apply J.cond_t; rfl) | (apply J.cond_f; rfl) | apply J.exit | apply E.then_exit | apply E.in_exit | (apply E.in_other; rfl))
  refine Lq.box rfl rfl Seg.agg ?_
  intro fb
  repeat (first | ((first | (apply Lq.s; rfl) | apply PRun.s | (apply Lq.run; rfl; rfl; rfl; exact bsB) | (apply PRun.run; rfl; rfl; exact bsB)); first | (exact bsO)) | apply J.seq | apply E.next | apply J.lq | apply Lq.nil | apply PRun.nil | apply J.block | apply E.in_normal | apply J.skip | (apply Lq.store; rfl; rfl; exact bsP; exact bsS; rfl; rfl) | (apply PRun.al; rfl) | (apply Lq.al; rfl; rfl; intro b) | (apply Open.cons; intro b) | apply Open.nil | (apply Lq.pass; rfl; rfl; rfl) | (apply PRun.pass; rfl; rfl) | (apply Lq.skip; rfl; rfl; rfl; exact bsB) | (apply PRun.skip; rfl; rfl; exact bsB) | (apply J.drawN; exact mixed; kernel_rfl) | (apply J.cond_t; rfl) | (apply J.cond_f; rfl) | apply J.exit | apply E.then_exit | apply E.in_exit | (apply E.in_other; rfl))
  (refine J.ret ?_; (repeat (first | refine E.then_ret ?_ | refine E.in_ret ?_)))
  exact E.retR2 (Δ' := frL fb hs n A2 c2 ++ [row (.slice fA hs.length fc) e hashT.toTy hs]) (G := []) rfl rfl rfl ⟨fb, A2, c2, rfl, rfl⟩ (List.Perm.refl _)
end Go.Proofs.YtljdjagackdplaaDoor.L
