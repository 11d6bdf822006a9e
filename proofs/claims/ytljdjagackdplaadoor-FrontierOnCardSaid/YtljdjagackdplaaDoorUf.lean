/-
  The edge of a tree to which leaves come one by one: no program in sight.
-/
import Derived.Test.YtljdjagackdplaaDoorTm
import Derived.Test.YtljdjagackdplaaDoorUe
namespace Go.Proofs.YtljdjagackdplaaDoor.L
open Go
set_option linter.unusedSectionVars false
variable [Globs] [Has_sha_table] [Has_sha_begin]
/-- The last two made one. -/
def join2 (hs : List Hash) : List Hash := match hs.reverse with
  | b :: a :: r => (nodeH a b :: r).reverse
  | _ => hs
theorem join2_of (xs : List Hash) (a b : Hash) : join2 (xs ++ [a, b]) = xs ++ [nodeH a b] := by
  unfold join2
  simp
/-- As often as a number ends in 1 bits. -/
def joins (n : Nat) (hs : List Hash) : List Hash := if n % 2 = 1 then joins (n / 2) (join2 hs) else hs
termination_by n
decreasing_by omega
theorem joins_odd {n : Nat} (h : n % 2 = 1) (hs : List Hash) : joins n hs = joins (n / 2) (join2 hs) := by rw [joins, if_pos h]
theorem joins_even {n : Nat} (h : n % 2 = 0) (hs : List Hash) : joins n hs = hs := by rw [joins, if_neg (by omega)]
/-- The sizes of full trees, the smallest first. -/
def asc (n i : Nat) : List Nat := if n = 0 then [] else if n % 2 = 1 then 2 ^ i :: asc (n / 2) (i + 1) else asc (n / 2) (i + 1)
termination_by n
decreasing_by all_goals omega
theorem asc_0 (i : Nat) : asc 0 i = [] := by rw [asc, if_pos rfl]
theorem asc_odd {n : Nat} (h : n % 2 = 1) (i : Nat) : asc n i = 2 ^ i :: asc (n / 2) (i + 1) := by rw [asc, if_neg (by omega), if_pos h]
theorem asc_even {n : Nat} (h : n % 2 = 0) (i : Nat) : asc n i = asc (n / 2) (i + 1) := by
  by_cases h0 : n = 0
  · subst h0; rw [asc_0, show 0 / 2 = 0 from rfl, asc_0]
  · rw [asc, if_neg h0, if_neg (by omega)]
def szs (n : Nat) : List Nat := (asc n 0).reverse
theorem asc_len : ∀ (k n i : Nat), n ≤ k → (asc n i).length = pop n
  | 0, n, i, h => by
    obtain rfl : n = 0 := by omega
    rw [asc_0, pop_0]; rfl
  | k + 1, n, i, h => by
    by_cases h0 : n = 0
    · subst h0; rw [asc_0, pop_0]; rfl
    · rcases Nat.mod_two_eq_zero_or_one n with h2 | h2
      · rw [asc_even h2, asc_len k (n / 2) (i + 1) (by omega), pop_s n, h2, Nat.zero_add]
      · rw [asc_odd h2, List.length_cons, asc_len k (n / 2) (i + 1) (by omega), pop_s n, h2]; omega
theorem szs_len (n : Nat) : (szs n).length = pop n := by unfold szs; rw [List.length_reverse, asc_len n n 0 (Nat.le_refl _)]
theorem asc_sum : ∀ (k n i : Nat), n ≤ k → (asc n i).sum = n * 2 ^ i
  | 0, n, i, h => by
    obtain rfl : n = 0 := by omega
    rw [asc_0, Nat.zero_mul]; rfl
  | k + 1, n, i, h => by
    by_cases h0 : n = 0
    · subst h0; rw [asc_0, Nat.zero_mul]; rfl
    · have hp : 2 ^ (i + 1) = 2 * 2 ^ i := by rw [Nat.pow_succ]; omega
      rcases Nat.mod_two_eq_zero_or_one n with h2 | h2
      · rw [asc_even h2, asc_sum k (n / 2) (i + 1) (by omega), hp, ← Nat.mul_assoc, show n / 2 * 2 = n by omega]
      · rw [asc_odd h2, List.sum_cons, asc_sum k (n / 2) (i + 1) (by omega), hp, ← Nat.mul_assoc]
        conv => rhs; rw [show n = n / 2 * 2 + 1 by omega, Nat.add_mul, Nat.one_mul]
        omega
theorem szs_sum (n : Nat) : (szs n).sum = n := by unfold szs; rw [List.sum_reverse, asc_sum n n 0 (Nat.le_refl _)]; simp
theorem asc_ge : ∀ (k n i : Nat), n ≤ k → ∀ s ∈ asc n i, 2 ^ i ≤ s
  | 0, n, i, h, s, hs => by
    obtain rfl : n = 0 := by omega
    rw [asc_0] at hs; cases hs
  | k + 1, n, i, h, s, hs => by
    by_cases h0 : n = 0
    · subst h0; rw [asc_0] at hs; cases hs
    · have hp : 2 ^ (i + 1) = 2 * 2 ^ i := by rw [Nat.pow_succ]; omega
      rcases Nat.mod_two_eq_zero_or_one n with h2 | h2
      · rw [asc_even h2] at hs
        have := asc_ge k (n / 2) (i + 1) (by omega) s hs
        omega
      · rw [asc_odd h2] at hs
        rcases List.mem_cons.1 hs with rfl | hs
        · exact Nat.le_refl _
        · have := asc_ge k (n / 2) (i + 1) (by omega) s hs
          omega
theorem asc_top : ∀ (j n i : Nat), 2 ^ j ≤ n → n < 2 ^ (j + 1) → asc n i = asc (n - 2 ^ j) i ++ [2 ^ (i + j)]
  | 0, n, i, h1, h2 => by
    obtain rfl : n = 1 := by simp at h1 h2; omega
    rw [asc_odd rfl, show 1 / 2 = 0 from rfl, asc_0, show 1 - 2 ^ 0 = 0 from rfl, asc_0]; rfl
  | j + 1, n, i, h1, h2 => by
    have p1 : 2 ^ (j + 1) = 2 * 2 ^ j := by rw [Nat.pow_succ]; omega
    have p2 : 2 ^ (j + 1 + 1) = 2 * 2 ^ (j + 1) := by rw [Nat.pow_succ]; omega
    have ih := asc_top j (n / 2) (i + 1) (by omega) (by omega)
    have e : (n - 2 ^ (j + 1)) / 2 = n / 2 - 2 ^ j := by omega
    have e2 : i + 1 + j = i + (j + 1) := by omega
    rcases Nat.mod_two_eq_zero_or_one n with h | h
    · rw [asc_even h, ih, asc_even (n := n - 2 ^ (j + 1)) (by omega), e, e2]
    · rw [asc_odd h, ih, asc_odd (n := n - 2 ^ (j + 1)) (by omega), e, e2]; rfl
theorem szs_top {j n : Nat} (h1 : 2 ^ j ≤ n) (h2 : n < 2 ^ (j + 1)) : szs n = 2 ^ j :: szs (n - 2 ^ j) := by
  unfold szs
  rw [asc_top j n 0 h1 h2, List.reverse_append, Nat.zero_add]
  rfl
theorem szs_0 : szs 0 = [] := by unfold szs; rw [asc_0]; rfl
theorem szs_pow (j : Nat) : szs (2 ^ j) = [2 ^ j] := by
  rw [szs_top (Nat.le_refl _) (by rw [Nat.pow_succ]; have := Nat.one_le_two_pow (n := j); omega), Nat.sub_self, szs_0]
theorem pop_ones : ∀ j, pop (2 ^ j - 1) = j
  | 0 => pop_0
  | j + 1 => by
    have p1 : 2 ^ (j + 1) = 2 * 2 ^ j := by rw [Nat.pow_succ]; omega
    have p0 : 1 ≤ 2 ^ j := Nat.one_le_two_pow
    rw [pop_s, show (2 ^ (j + 1) - 1) % 2 = 1 by omega, show (2 ^ (j + 1) - 1) / 2 = 2 ^ j - 1 by omega, pop_ones j]
    omega
/-- The roots of full trees, one behind the other. -/
def edgeC : List Nat → List Hash → List Hash
  | [], _ => []
  | s :: r, l => mroot (l.take s) :: edgeC r (l.drop s)
theorem edgeC_len : ∀ (ss : List Nat) (l : List Hash), (edgeC ss l).length = ss.length
  | [], _ => rfl
  | s :: r, l => by show (edgeC r _).length + 1 = _; rw [edgeC_len]; rfl
theorem edgeC_app : ∀ (ss : List Nat) (s : Nat) (l x : List Hash), l.length = ss.sum → x.length = s → edgeC (ss ++ [s]) (l ++ x) = edgeC ss l ++ [mroot x]
  | [], s, l, x, hl, hx => by
    obtain rfl : l = [] := List.eq_nil_of_length_eq_zero hl
    show mroot (([] ++ x).take s) :: [] = _
    rw [List.nil_append, List.take_of_length_le (by omega)]; rfl
  | t :: ss, s, l, x, hl, hx => by
    rw [List.sum_cons] at hl
    show mroot ((l ++ x).take t) :: edgeC (ss ++ [s]) ((l ++ x).drop t) = mroot (l.take t) :: (edgeC ss (l.drop t) ++ [mroot x])
    rw [List.take_append_of_le_length (by omega), List.drop_append_of_le_length (by omega), edgeC_app ss s (l.drop t) x (by rw [List.length_drop]; omega) hx]
def edge (l : List Hash) : List Hash := edgeC (szs l.length) l
theorem edge_nil : edge [] = [] := by
  show edgeC (szs 0) [] = []
  rw [szs_0]; rfl
theorem edge_len (l : List Hash) : (edge l).length = pop l.length := by unfold edge; rw [edgeC_len, szs_len]
theorem mroot_two {x y : List Hash} {i : Nat} (hx : x.length = 2 ^ i) (hy : y.length = 2 ^ i) : mroot (x ++ y) = nodeH (mroot x) (mroot y) := by
  have p0 : 1 ≤ 2 ^ i := Nat.one_le_two_pow
  have hl : (x ++ y).length = 2 ^ i + 2 ^ i := by rw [List.length_append, hx, hy]
  have hs : split (x ++ y).length = 2 ^ i := by rw [hl]; exact split_of (by omega) (by rw [Nat.pow_succ]; omega)
  rw [mroot_split (by omega), hs, List.take_left' hx, List.drop_left' hx]
theorem joins_edge : ∀ (k m i : Nat) (l x : List Hash), m ≤ k → l.length = m * 2 ^ i → x.length = 2 ^ i → joins m (edgeC (asc m i).reverse l ++ [mroot x]) = edgeC (asc (m + 1) i).reverse (l ++ x)
  | k, m, i, l, x, hk, hl, hx => by
    have hp : 2 ^ (i + 1) = 2 * 2 ^ i := by rw [Nat.pow_succ]; omega
    have p0 : 1 ≤ 2 ^ i := Nat.one_le_two_pow
    rcases Nat.mod_two_eq_zero_or_one m with h2 | h2
    · rw [joins_even h2, asc_odd (n := m + 1) (by omega), show (m + 1) / 2 = m / 2 by omega, ← asc_even h2, List.reverse_cons, edgeC_app _ _ _ _ (by rw [List.sum_reverse, asc_sum m m i (Nat.le_refl _)]; exact hl) hx]
    · match k, hk with
      | 0, hk => omega
      | k + 1, hk =>
        have hm : m = m / 2 * 2 + 1 := by omega
        have hl2 : l.length = (m / 2) * 2 ^ (i + 1) + 2 ^ i := by
          rw [hl, hp, ← Nat.mul_assoc]
          conv => lhs; rw [hm, Nat.add_mul, Nat.one_mul]
        have e1 : (l.take ((m / 2) * 2 ^ (i + 1))).length = (m / 2) * 2 ^ (i + 1) := by rw [List.length_take]; omega
        have e2 : (l.drop ((m / 2) * 2 ^ (i + 1))).length = 2 ^ i := by rw [List.length_drop]; omega
        have hsp : edgeC (asc m i).reverse l = edgeC (asc (m / 2) (i + 1)).reverse (l.take ((m / 2) * 2 ^ (i + 1))) ++ [mroot (l.drop ((m / 2) * 2 ^ (i + 1)))] := by
          rw [asc_odd h2, List.reverse_cons]
          conv => lhs; rw [← List.take_append_drop ((m / 2) * 2 ^ (i + 1)) l]
          exact edgeC_app _ _ _ _ (by rw [List.sum_reverse, asc_sum (m / 2) (m / 2) (i + 1) (Nat.le_refl _)]; exact e1) e2
        rw [joins_odd h2, hsp, List.append_assoc, show [mroot (l.drop ((m / 2) * 2 ^ (i + 1)))] ++ [mroot x] = [mroot (l.drop ((m / 2) * 2 ^ (i + 1))), mroot x] from rfl, join2_of, ← mroot_two e2 hx,
          joins_edge k (m / 2) (i + 1) _ _ (by omega) e1 (by rw [List.length_append, e2, hx]; omega), ← List.append_assoc, List.take_append_drop, asc_even (n := m + 1) (by omega), show (m + 1) / 2 = m / 2 + 1 by omega]
/-- One more leaf. -/
theorem edge_snoc (l : List Hash) (h : Hash) : edge (l ++ [h]) = joins l.length (edge l ++ [h]) := by
  have := joins_edge l.length l.length 0 l [h] (Nat.le_refl _) (by simp) rfl
  unfold edge szs
  rw [List.length_append]
  exact this.symm
/-- What the edge's root is. -/
def rootE (hs : List Hash) : Hash := match hs.reverse with
  | [] => emptyH
  | x :: r => r.foldl (fun acc h => nodeH h acc) x
theorem rootE_nil : rootE [] = emptyH := rfl
theorem rootE_snoc (hs : List Hash) (x : Hash) : rootE (hs ++ [x]) = hs.reverse.foldl (fun acc h => nodeH h acc) x := by
  unfold rootE
  rw [List.reverse_append]
  rfl
theorem rootE_one (x : Hash) : rootE [x] = x := rfl
theorem rootE_cons {hs : List Hash} (a : Hash) (h : hs ≠ []) : rootE (a :: hs) = nodeH a (rootE hs) := by
  rcases List.eq_nil_or_concat hs with rfl | ⟨r, x, rfl⟩
  · exact absurd rfl h
  · rw [List.concat_eq_append, ← List.cons_append, rootE_snoc, rootE_snoc, List.reverse_cons, List.foldl_append]
    rfl
theorem szs_ne {n : Nat} (h : 0 < n) : szs n ≠ [] := fun e => by
  have := szs_sum n
  rw [e] at this
  have : 0 = n := this
  omega
theorem rootE_edge : ∀ (k : Nat) (l : List Hash), l.length ≤ k → rootE (edge l) = mroot l
  | k, l, hk => by
    by_cases h0 : l.length = 0
    · obtain rfl := List.eq_nil_of_length_eq_zero h0
      rw [edge_nil]; rfl
    · obtain ⟨j, h1, h2⟩ : ∃ j, 2 ^ j ≤ l.length ∧ l.length < 2 ^ (j + 1) := ⟨Nat.log2 l.length, Nat.log2_self_le h0, Nat.lt_log2_self⟩
      have p0 : 1 ≤ 2 ^ j := Nat.one_le_two_pow
      have e : edge l = mroot (l.take (2 ^ j)) :: edge (l.drop (2 ^ j)) := by
        unfold edge
        rw [szs_top h1 h2, List.length_drop]
        rfl
      rw [e]
      by_cases he : l.length = 2 ^ j
      · rw [show l.drop (2 ^ j) = [] from List.drop_eq_nil_of_le (by omega), edge_nil, rootE_one, List.take_of_length_le (by omega)]
      · have hs : split l.length = 2 ^ j := split_of (by omega) (by omega)
        have hne : edge (l.drop (2 ^ j)) ≠ [] := fun h => by
          have := edge_len (l.drop (2 ^ j))
          rw [h, List.length_drop, ← szs_len] at this
          exact szs_ne (n := l.length - 2 ^ j) (by omega) (List.eq_nil_of_length_eq_zero this.symm)
        rw [rootE_cons _ hne]
        match k, hk with
        | 0, hk => omega
        | k + 1, hk =>
        rw [rootE_edge k (l.drop (2 ^ j)) (by rw [List.length_drop]; omega)]
        have := mroot_split (l := l) (by omega)
        rw [hs] at this
        exact this.symm
/-- A loop over sizes from the greatest one on. -/
theorem edge_at {l : List Hash} {j : Nat} (h1 : 2 ^ j ≤ l.length) (h2 : l.length < 2 ^ (j + 1)) : edge l = mroot (l.take (2 ^ j)) :: edge (l.drop (2 ^ j)) := by
  unfold edge
  rw [szs_top h1 h2, List.length_drop]
  rfl
theorem pop_pos {n : Nat} (h : n % 2 = 1) : 1 ≤ pop n := by rw [pop_s, h]; omega
theorem join2_len {hs : List Hash} (h : 2 ≤ hs.length) : (join2 hs).length + 1 = hs.length := by
  rcases List.eq_nil_or_concat hs with rfl | ⟨r, b, rfl⟩
  · simp at h
  · rw [List.concat_eq_append] at h ⊢
    rcases List.eq_nil_or_concat r with rfl | ⟨q, a, rfl⟩
    · simp at h
    · rw [List.concat_eq_append, List.append_assoc]
      show (join2 (q ++ [a, b])).length + 1 = (q ++ [a, b]).length
      rw [join2_of]; simp
theorem joins_len : ∀ (k n : Nat) (hs : List Hash), n ≤ k → hs.length = pop n + 1 → (joins n hs).length = pop (n + 1)
  | k, n, hs, hk, hl => by
    rcases Nat.mod_two_eq_zero_or_one n with h2 | h2
    · rw [joins_even h2, hl, pop_s n, pop_s (n + 1), h2, show (n + 1) % 2 = 1 by omega, show (n + 1) / 2 = n / 2 by omega]; omega
    · match k, hk with
      | 0, hk => omega
      | k + 1, hk =>
      have hp := pop_s n
      rw [h2] at hp
      have hj := join2_len (hs := hs) (by omega)
      rw [joins_odd h2, joins_len k (n / 2) (join2 hs) (by omega) (by omega), pop_s (n + 1), show (n + 1) % 2 = 0 by omega, show (n + 1) / 2 = n / 2 + 1 by omega]; omega
end Go.Proofs.YtljdjagackdplaaDoor.L
