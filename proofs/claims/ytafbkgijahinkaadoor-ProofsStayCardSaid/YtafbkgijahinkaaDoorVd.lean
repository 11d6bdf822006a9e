import Derived.Test.YtafbkgijahinkaaDoorSj
/-
  The document's numbers, rotations and padded texts, walked.
-/
namespace Go.Proofs.YtafbkgijahinkaaDoor.L
open Go
set_option linter.unusedSectionVars false
variable [Globs] [Has_sha_table] [Has_sha_begin]
theorem ofNat_mod (x : Nat) : UInt8.ofNat (x % 256) = UInt8.ofNat x := by
  apply UInt8.toNat_inj.1
  rw [UInt8.toNat_ofNat', UInt8.toNat_ofNat']
  omega
theorem be_succ (n k : Nat) : be n (k + 1) = [UInt8.ofNat (n / 2 ^ (8 * k))] ++ be n k := by
  unfold be
  rw [List.range_succ_eq_map, List.map_cons, List.map_map]
  show UInt8.ofNat (n / 2 ^ (8 * (k + 1 - 1 - 0))) :: _ = UInt8.ofNat (n / 2 ^ (8 * k)) :: _
  rw [show k + 1 - 1 - 0 = k by omega]
  congr 1
  apply List.map_congr_left
  intro j hj
  show UInt8.ofNat (n / 2 ^ (8 * (k + 1 - 1 - (j + 1)))) = _
  rw [show k + 1 - 1 - (j + 1) = k - 1 - j by omega]
theorem be_0 (n : Nat) : be n 0 = [] := rfl
theorem be_length (n k : Nat) : (be n k).length = k := by simp [be]
theorem div_256 (n i : Nat) : n / 2 ^ (8 * i) / 256 = n / 2 ^ (8 * (i + 1)) := by
  rw [Nat.div_div_eq_div_mul, show (256 : Nat) = 2 ^ 8 from rfl, ← Nat.pow_add, show 8 * i + 8 = 8 * (i + 1) by omega]
def zer (n : Nat) : Nat := (119 - n % 64) % 64
theorem pad_of (s : List UInt8) : s ++ [128] ++ List.replicate (zer s.length) 0 ++ be (8 * s.length) 8 = s ++ pad s.length := by
  unfold pad zer
  simp
set_option linter.unusedVariables false
set_option linter.unusedSimpArgs false
attribute [local irreducible] J Lq E OpP PRun is any agg tup ptr sl
attribute [local irreducible] be pad zer
theorem refhash_step (p : Hash) {i : Nat} {c : UInt8} (hc : p.1[i]? = some c) : p.1.take i ++ [c] = p.1.take (i + 1) := by
  rw [List.take_add_one, hc]; rfl
end Go.Proofs.YtafbkgijahinkaaDoor.L
/-
  The document's words of a block, walked.
-/
namespace Go.Proofs.YtafbkgijahinkaaDoor.L
open Go
set_option linter.unusedSectionVars false
variable [Globs] [Has_sha_table] [Has_sha_begin]
/-- A word's bytes taken in, i of them. -/
def acc (bs : List UInt8) (t : Nat) : Nat → UInt32
  | 0 => 0
  | i + 1 => acc bs t i * 256 + UInt32.ofNat (bs.getD (4 * t + i) 0).toNat
theorem acc_toNat (bs : List UInt8) (t : Nat) : (acc bs t 4).toNat = (bs.getD (4 * t) 0).toNat * 2 ^ 24 + (bs.getD (4 * t + 1) 0).toNat * 2 ^ 16 + (bs.getD (4 * t + 2) 0).toNat * 2 ^ 8 + (bs.getD (4 * t + 3) 0).toNat := by
  have h0 := (bs.getD (4 * t) 0).toNat_lt
  have h1 := (bs.getD (4 * t + 1) 0).toNat_lt
  have h2 := (bs.getD (4 * t + 2) 0).toNat_lt
  have h3 := (bs.getD (4 * t + 3) 0).toNat_lt
  simp only [acc, UInt32.toNat_add, UInt32.toNat_mul, UInt32.toNat_ofNat', Nat.add_zero]
  have e : (256 : UInt32).toNat = 256 := rfl
  have e0 : (0 : UInt32).toNat = 0 := rfl
  rw [e, e0]
  omega
theorem or_low (a b i : Nat) (h : b < 2 ^ i) : a * 2 ^ i ||| b = a * 2 ^ i + b := by
  rw [← Nat.shiftLeft_eq, Nat.shiftLeft_add_eq_or_of_lt h]
theorem acc_word (bs : List UInt8) (t : Nat) : acc bs t 4 = word4 bs t := by
  apply UInt32.toNat_inj.1
  rw [acc_toNat]
  unfold word4 wb shl32
  have h0 := (bs.getD (4 * t) 0).toNat_lt
  have h1 := (bs.getD (4 * t + 1) 0).toNat_lt
  have h2 := (bs.getD (4 * t + 2) 0).toNat_lt
  have h3 := (bs.getD (4 * t + 3) 0).toNat_lt
  generalize (bs.getD (4 * t) 0).toNat = a at *
  generalize (bs.getD (4 * t + 1) 0).toNat = b at *
  generalize (bs.getD (4 * t + 2) 0).toNat = c at *
  generalize (bs.getD (4 * t + 3) 0).toNat = d at *
  simp only [UInt32.toNat_or, UInt32.toNat_ofNat']
  rw [Nat.mod_eq_of_lt (show a < 2 ^ 32 by omega), Nat.mod_eq_of_lt (show b < 2 ^ 32 by omega), Nat.mod_eq_of_lt (show c < 2 ^ 32 by omega), Nat.mod_eq_of_lt (show d < 2 ^ 32 by omega),
    Nat.mod_eq_of_lt (show a * 2 ^ 24 < 2 ^ 32 by omega), Nat.mod_eq_of_lt (show b * 2 ^ 16 < 2 ^ 32 by omega), Nat.mod_eq_of_lt (show c * 2 ^ 8 < 2 ^ 32 by omega)]
  rw [or_low a (b * 2 ^ 16) 24 (by omega)]
  rw [show a * 2 ^ 24 + b * 2 ^ 16 = (a * 2 ^ 8 + b) * 2 ^ 16 by omega, or_low _ (c * 2 ^ 8) 16 (by omega)]
  rw [show (a * 2 ^ 8 + b) * 2 ^ 16 + c * 2 ^ 8 = (a * 2 ^ 16 + b * 2 ^ 8 + c) * 2 ^ 8 by omega, or_low _ d 8 (by omega)]
def part4 (bs : List UInt8) (t i : Nat) : List UInt32 := sched bs t ++ [acc bs t i] ++ List.replicate (63 - t) 0
theorem part4_len (bs : List UInt8) {t i : Nat} (h : t < 64) : (part4 bs t i).length = 64 := by
  unfold part4
  rw [List.length_append, List.length_append, sched_len, List.length_replicate]
  show t + 1 + (63 - t) = 64
  omega
theorem part4_0 (bs : List UInt8) {t : Nat} (h : t < 64) : part4 bs t 0 = sched bs t ++ List.replicate (64 - t) 0 := by
  unfold part4 acc
  rw [show 64 - t = (63 - t) + 1 by omega, List.replicate_succ, List.append_assoc]
  rfl
theorem part4_set (bs : List UInt8) (t i : Nat) : (part4 bs t i).set t (acc bs t i * 256 + UInt32.ofNat (bs.getD (4 * t + i) 0).toNat) = part4 bs t (i + 1) := by
  unfold part4
  rw [List.append_assoc, List.set_append, if_neg (by rw [sched_len]; omega), sched_len, Nat.sub_self]
  show sched bs t ++ (acc bs t (i + 1) :: _) = _
  rw [List.append_assoc]
  rfl
theorem part4_4 (bs : List UInt8) {t : Nat} (h : t < 16) : part4 bs t 4 = sched bs (t + 1) ++ List.replicate (64 - (t + 1)) 0 := by
  unfold part4
  have e : nextW bs (sched bs t) t = word4 bs t := by unfold nextW; rw [if_pos h]
  show _ = sched bs t ++ [nextW bs (sched bs t) t] ++ _
  rw [e, acc_word, show 64 - (t + 1) = 63 - t by omega]
theorem part4_at (bs : List UInt8) {t i : Nat} : ((flat u32W.toTy (part4 bs t i)).drop (0 + ((t : Nat) : Int).toNat * 1)).take 1 = u32W.cells (acc bs t i) := by
  rw [Int.toNat_natCast]
  refine at_flat0 u32W.toTy ?_
  unfold part4
  rw [List.append_assoc, List.getElem?_append_right (by rw [sched_len]; exact Nat.le_refl _), sched_len, Nat.sub_self]
  rfl
theorem nextW_ref {bs : List UInt8} {l : List UInt32} {t : Nat} (h : ¬ t < 16) : nextW bs l t = (rotr (l.getD (t - 2) 0) 17 ^^^ rotr (l.getD (t - 2) 0) 19 ^^^ shr32 (l.getD (t - 2) 0) 10) + l.getD (t - 7) 0 + (rotr (l.getD (t - 15) 0) 7 ^^^ rotr (l.getD (t - 15) 0) 18 ^^^ shr32 (l.getD (t - 15) 0) 3) + l.getD (t - 16) 0 := by
  rw [nextW_hi h]
  generalize rotr _ _ ^^^ _ ^^^ _ = a
  generalize rotr (l.getD (t - 2) 0) 17 ^^^ _ ^^^ _ = b
  ac_rfl
set_option linter.unusedVariables false
set_option linter.unusedSimpArgs false
attribute [local irreducible] J Lq E OpP PRun is any agg tup ptr sl
attribute [local irreducible] nextW word4 sched acc part4
end Go.Proofs.YtafbkgijahinkaaDoor.L
/-
  The document's hash, walked.
-/
namespace Go.Proofs.YtafbkgijahinkaaDoor.L
open Go
set_option linter.unusedSectionVars false
variable [Globs] [Has_sha_table] [Has_sha_begin]
theorem choose_eq (e f g : UInt32) : (e &&& f) ^^^ (~~~e &&& g) = g ^^^ (e &&& (f ^^^ g)) := by
  apply UInt32.toBitVec_inj.1
  simp only [UInt32.toBitVec_xor, UInt32.toBitVec_and, UInt32.toBitVec_not]
  apply BitVec.eq_of_getLsbD_eq
  intro i hi
  simp only [BitVec.getLsbD_xor, BitVec.getLsbD_and, BitVec.getLsbD_not, hi, decide_true, Bool.true_and]
  cases e.toBitVec.getLsbD i <;> cases f.toBitVec.getLsbD i <;> cases g.toBitVec.getLsbD i <;> rfl
theorem major_eq (a b c : UInt32) : (a &&& b) ^^^ (a &&& c) ^^^ (b &&& c) = (a &&& (b ||| c)) ||| (b &&& c) := by
  apply UInt32.toBitVec_inj.1
  simp only [UInt32.toBitVec_xor, UInt32.toBitVec_and, UInt32.toBitVec_or]
  apply BitVec.eq_of_getLsbD_eq
  intro i hi
  simp only [BitVec.getLsbD_xor, BitVec.getLsbD_and, BitVec.getLsbD_or]
  cases a.toBitVec.getLsbD i <;> cases b.toBitVec.getLsbD i <;> cases c.toBitVec.getLsbD i <;> rfl
/-- The state behind k blocks of a text. -/
def stK (m : List UInt8) : Nat → List UInt32
  | 0 => bgn
  | k + 1 => block (stK m k) ((m.drop (64 * k)).take 64)
theorem stK_len (m : List UInt8) : ∀ k, (stK m k).length = 8
  | 0 => rfl
  | k + 1 => block_len (stK_len m k)
theorem absorb_stK (m : List UInt8) : ∀ (n k : Nat), 64 * (k + n) ≤ m.length → (absorb n (stK m k) (m.drop (64 * k))).1 = stK m (k + n)
  | 0, k, _ => rfl
  | n + 1, k, h => by
    have hl : 64 ≤ (m.drop (64 * k)).length := by rw [List.length_drop]; omega
    have e : absorb (n + 1) (stK m k) (m.drop (64 * k)) = absorb n (block (stK m k) ((m.drop (64 * k)).take 64)) ((m.drop (64 * k)).drop 64) := by rw [absorb, if_pos hl]
    have e2 : (m.drop (64 * k)).drop 64 = m.drop (64 * (k + 1)) := by rw [List.drop_drop]; congr 1
    have := absorb_stK m n (k + 1) (by omega)
    rw [e, e2, show k + (n + 1) = k + 1 + n by omega]
    exact this
theorem sha_stK (s : List UInt8) : sha s = digest (stK (s ++ pad s.length) ((s ++ pad s.length).length / 64)) := by
  have := absorb_stK (s ++ pad s.length) ((s ++ pad s.length).length / 64) 0 (by omega)
  unfold sha run
  rw [Nat.zero_add, Nat.mul_zero, List.drop_zero] at this
  exact congrArg digest this
theorem pad_len (n : Nat) : (n + (pad n).length) % 64 = 0 ∧ (pad n).length ≤ 80 := by
  have : (pad n).length = 1 + (119 - n % 64) % 64 + 8 := by unfold pad; simp [be]; omega
  omega
/-- A digest's byte. -/
theorem digest_eq (a b c d e f g h : UInt32) : digest [a, b, c, d, e, f, g, h] = be a.toNat 4 ++ (be b.toNat 4 ++ (be c.toNat 4 ++ (be d.toNat 4 ++ (be e.toNat 4 ++ (be f.toNat 4 ++ (be g.toNat 4 ++ (be h.toNat 4 ++ []))))))) := rfl
theorem digest_at {st : List UInt32} (hst : st.length = 8) {i : Nat} (hi : i < 32) : (digest st)[i]? = some (UInt8.ofNat ((st.getD (i / 4) 0).toNat / 2 ^ (24 - 8 * (i % 4)))) := by
  have hbe : ∀ (n j : Nat), j < 4 → (be n 4)[j]? = some (UInt8.ofNat (n / 2 ^ (24 - 8 * j))) := by
    intro n j hj
    unfold be
    rw [List.getElem?_map, List.getElem?_range (by omega)]
    show some (UInt8.ofNat (n / 2 ^ (8 * (4 - 1 - j)))) = _
    rw [show 8 * (4 - 1 - j) = 24 - 8 * j by omega]
  have gen : ∀ (l : List UInt32) (i : Nat), i < 4 * l.length → (digest l)[i]? = some (UInt8.ofNat ((l.getD (i / 4) 0).toNat / 2 ^ (24 - 8 * (i % 4)))) := by
    intro l
    induction l with
    | nil => intro i hi; simp at hi
    | cons x l ih =>
      intro i hi
      have e : digest (x :: l) = be x.toNat 4 ++ digest l := rfl
      have hl : (be x.toNat 4).length = 4 := be_length _ _
      rw [e]
      by_cases h4 : i < 4
      · rw [List.getElem?_append_left (by omega), hbe _ i h4, show i / 4 = 0 by omega, show i % 4 = i by omega]
        rfl
      · rw [List.getElem?_append_right (by omega), hl, ih (i - 4) (by simp only [List.length_cons] at hi; omega), show (i - 4) % 4 = i % 4 by omega, show i / 4 = (i - 4) / 4 + 1 by omega]
        rfl
  exact gen st i (by omega)
theorem round_ref (e f g h x k : UInt32) : (h + (rotr e 6 ^^^ rotr e 11 ^^^ rotr e 25) + (e &&& f ^^^ ~~~e &&& g) + k + x) = x + (h + bs1 e + (g ^^^ (e &&& (f ^^^ g))) + k) := by
  rw [choose_eq]
  unfold bs1
  generalize rotr e 6 ^^^ _ ^^^ _ = p
  generalize g ^^^ _ = q
  ac_rfl
theorem round_ref2 (a b c d e f g h x k : UInt32) : round [a, b, c, d, e, f, g, h] x k = [(h + (rotr e 6 ^^^ rotr e 11 ^^^ rotr e 25) + (e &&& f ^^^ ~~~e &&& g) + k + x) + ((rotr a 2 ^^^ rotr a 13 ^^^ rotr a 22) + (a &&& b ^^^ a &&& c ^^^ b &&& c)), a, b, c, d + (h + (rotr e 6 ^^^ rotr e 11 ^^^ rotr e 25) + (e &&& f ^^^ ~~~e &&& g) + k + x), e, f, g] := by
  rw [round_ref e f g h x k, major_eq]
  rfl
set_option linter.unusedVariables false
set_option linter.unusedSimpArgs false
attribute [local irreducible] J Lq E OpP PRun is any agg tup ptr sl
attribute [local irreducible] nextW word4 sched rounds rotr stK digest pad sha shaH
theorem whole_store {n : Nat} {φs seg : List Pr} (h : φs.length = n) (h2 : seg.length = n) : splice φs 0 seg = seg := by
  unfold splice
  rw [List.take_zero, List.nil_append, Nat.zero_add, h2, ← h, List.drop_length, List.append_nil]
theorem shr_toNat (x : UInt32) (n : Nat) : (shr32 x n).toNat = x.toNat / 2 ^ n := by
  unfold shr32
  rw [UInt32.toNat_ofNat']
  have hlt : x.toNat / 2 ^ n < 2 ^ 32 := Nat.lt_of_le_of_lt (Nat.div_le_self _ _) x.toBitVec.isLt
  exact Nat.mod_eq_of_lt hlt
theorem op_sslice' {P : Program} {Γ : Env} {Δ : List Res} {d : Option Nat} {ty t : Nat} {pos : String} {af : Array Edge} {g : Option (Nat × Bool)} {x y z : Operand} {s : List UInt8} {k k2 : IntKind} {lo hi n : Nat} [ht : TStr P t] (h : opd Γ x = some (is (str s))) (h1 : opd Γ y = some (is (.int k (lo : Int)))) (h2 : opd Γ z = some (is (.int k2 (hi : Int)))) (hn : hi = lo + n) (hhl : hi ≤ s.length) : OpP P Γ Δ ⟨d, .slice t x (some y) (some z) none, ty, pos, af, g⟩ (is (str ((s.drop lo).take n))) := by
  have := op_sslice (P := P) (Δ := Δ) (d := d) (ty := ty) (pos := pos) (af := af) (g := g) (t := t) h h1 h2 (by omega) hhl
  rwa [show hi - lo = n by omega] at this
def hb (l : List UInt8) (i : Nat) : List UInt8 := l.take i ++ List.replicate (32 - i) 0
theorem hb_len {l : List UInt8} {i : Nat} (hl : l.length = 32) (hi : i ≤ 32) : (hb l i).length = 32 := by
  unfold hb
  rw [List.length_append, List.length_take, List.length_replicate]; omega
theorem hb_set {l : List UInt8} {i : Nat} {c : UInt8} (hl : l.length = 32) (hc : l[i]? = some c) : (hb l i).set i c = hb l (i + 1) := by
  have hi : i < 32 := by rw [← hl]; exact (List.getElem?_eq_some_iff.1 hc).1
  have h1 : (l.take i).length = i := by rw [List.length_take]; omega
  unfold hb
  rw [List.set_append_right _ _ (by omega), h1, Nat.sub_self, show 32 - i = (32 - (i + 1)) + 1 by omega, List.replicate_succ, List.set_cons_zero, List.take_add_one, hc]
  simp
end Go.Proofs.YtafbkgijahinkaaDoor.L
/-
  The document's leaves and nodes, walked.
-/
namespace Go.Proofs.YtafbkgijahinkaaDoor.L
open Go
set_option linter.unusedSectionVars false
variable [Globs] [Has_sha_table] [Has_sha_begin]
set_option linter.unusedVariables false
set_option linter.unusedSimpArgs false
attribute [local irreducible] J Lq E OpP PRun is any agg tup ptr sl
attribute [local irreducible] shaH ownAt row
end Go.Proofs.YtafbkgijahinkaaDoor.L
