/-
  Ways in a tree, from a place's bits: no program in sight.
-/
import Derived.Test.YtljdjagackdplaaDoorTm
namespace Go.Proofs.YtljdjagackdplaaDoor.L
open Go
set_option linter.unusedSectionVars false
variable [Globs] [Has_sha_table] [Has_sha_begin]
/-- From place i of a level of last place l up to the root: true: the sibling is the left one. -/
def way (i l : Nat) : List Bool :=
  if h : l = 0 then []
  else if i % 2 = 1 then true :: way (i / 2) (l / 2)
  else if i = l then way (i / 2) (l / 2)
  else false :: way (i / 2) (l / 2)
termination_by l
decreasing_by all_goals omega
theorem way_zero (i : Nat) : way i 0 = [] := by rw [way, dif_pos rfl]
theorem way_odd {i l : Nat} (h : i % 2 = 1) (hl : l ≠ 0) : way i l = true :: way (i / 2) (l / 2) := by rw [way, dif_neg hl, if_pos h]
theorem way_eq {i l : Nat} (h : i % 2 = 0) (he : i = l) (hl : l ≠ 0) : way i l = way (i / 2) (l / 2) := by rw [way, dif_neg hl, if_neg (by omega), if_pos he]
theorem way_lt {i l : Nat} (h : i % 2 = 0) (he : i ≠ l) (hl : l ≠ 0) : way i l = false :: way (i / 2) (l / 2) := by rw [way, dif_neg hl, if_neg (by omega), if_neg he]
theorem way_left : ∀ (j i l : Nat), i < 2 ^ j → 2 ^ j ≤ l → l < 2 ^ (j + 1) → way i l = way i (2 ^ j - 1) ++ [false]
  | 0, i, l, h1, h2, h3 => by
    obtain rfl : i = 0 := by simpa using h1
    obtain rfl : l = 1 := by simp at h2 h3; omega
    rw [way_lt rfl (by decide) (by decide), way_zero]
    rfl
  | j + 1, i, l, h1, h2, h3 => by
    have p1 : 2 ^ (j + 1) = 2 * 2 ^ j := by rw [Nat.pow_succ]; omega
    have p2 : 2 ^ (j + 1 + 1) = 2 * 2 ^ (j + 1) := by rw [Nat.pow_succ]; omega
    have p0 : 1 ≤ 2 ^ j := Nat.one_le_two_pow
    have ih := way_left j (i / 2) (l / 2) (by omega) (by omega) (by omega)
    have e : (2 ^ (j + 1) - 1) / 2 = 2 ^ j - 1 := by omega
    rcases Nat.mod_two_eq_zero_or_one i with h | h
    · rw [way_lt h (by omega) (by omega), ih, way_lt (i := i) (l := 2 ^ (j + 1) - 1) h (by omega) (by omega), e]; rfl
    · rw [way_odd h (by omega), ih, way_odd (i := i) (l := 2 ^ (j + 1) - 1) h (by omega), e]; rfl
theorem way_right : ∀ (j i l : Nat), i ≤ l → l < 2 ^ j → way (2 ^ j + i) (2 ^ j + l) = way i l ++ [true]
  | 0, i, l, h1, h2 => by
    obtain rfl : l = 0 := by simpa using h2
    obtain rfl : i = 0 := by omega
    show way 1 1 = way 0 0 ++ [true]
    rw [way_odd rfl (by decide), way_zero]
    rfl
  | j + 1, i, l, h1, h2 => by
    have p1 : 2 ^ (j + 1) = 2 * 2 ^ j := by rw [Nat.pow_succ]; omega
    have p0 : 1 ≤ 2 ^ j := Nat.one_le_two_pow
    have ih := way_right j (i / 2) (l / 2) (by omega) (by omega)
    have e1 : (2 ^ (j + 1) + i) / 2 = 2 ^ j + i / 2 := by omega
    have e2 : (2 ^ (j + 1) + l) / 2 = 2 ^ j + l / 2 := by omega
    rcases Nat.mod_two_eq_zero_or_one i with h | h
    · by_cases he : i = l
      · rw [way_eq (by omega) (by omega) (by omega), e1, e2, ih]
        by_cases hl : l = 0
        · subst hl; subst he
          rw [show 0 / 2 = 0 from rfl]
        · rw [way_eq h he hl]
      · rw [way_lt (by omega) (by omega) (by omega), e1, e2, ih, way_lt h he (by omega)]; rfl
    · rw [way_odd (by omega) (by omega), e1, e2, ih, way_odd h (by omega)]; rfl
/-- The same, the first merges of a whole beginning left out. -/
def wl (i l : Nat) : List Bool := if i % 2 = 1 then wl (i / 2) (l / 2) else way i l
termination_by i
decreasing_by omega
theorem wl_odd {i l : Nat} (h : i % 2 = 1) : wl i l = wl (i / 2) (l / 2) := by rw [wl, if_pos h]
theorem wl_even {i l : Nat} (h : i % 2 = 0) : wl i l = way i l := by rw [wl, if_neg (by omega)]
theorem wl_left : ∀ (j i l : Nat), i < 2 ^ j → 2 ^ j ≤ l → l < 2 ^ (j + 1) → wl i l = wl i (2 ^ j - 1) ++ [false]
  | 0, i, l, h1, h2, h3 => by
    have : i = 0 := by simpa using h1
    rw [wl_even (by omega), wl_even (by omega), way_left 0 i l h1 h2 h3]
  | j + 1, i, l, h1, h2, h3 => by
    have p1 : 2 ^ (j + 1) = 2 * 2 ^ j := by rw [Nat.pow_succ]; omega
    have p2 : 2 ^ (j + 1 + 1) = 2 * 2 ^ (j + 1) := by rw [Nat.pow_succ]; omega
    have p0 : 1 ≤ 2 ^ j := Nat.one_le_two_pow
    have e : (2 ^ (j + 1) - 1) / 2 = 2 ^ j - 1 := by omega
    rcases Nat.mod_two_eq_zero_or_one i with h | h
    · rw [wl_even h, wl_even h, way_left (j + 1) i l h1 h2 h3]
    · rw [wl_odd h, wl_odd (l := 2 ^ (j + 1) - 1) h, e]
      exact wl_left j (i / 2) (l / 2) (by omega) (by omega) (by omega)
theorem wl_right : ∀ (j i l : Nat), i < l → l < 2 ^ j → wl (2 ^ j + i) (2 ^ j + l) = wl i l ++ [true]
  | 0, i, l, h1, h2 => by simp at h2; omega
  | j + 1, i, l, h1, h2 => by
    have p1 : 2 ^ (j + 1) = 2 * 2 ^ j := by rw [Nat.pow_succ]; omega
    have p0 : 1 ≤ 2 ^ j := Nat.one_le_two_pow
    have e1 : (2 ^ (j + 1) + i) / 2 = 2 ^ j + i / 2 := by omega
    have e2 : (2 ^ (j + 1) + l) / 2 = 2 ^ j + l / 2 := by omega
    rcases Nat.mod_two_eq_zero_or_one i with h | h
    · rw [wl_even (by omega), wl_even h, way_right (j + 1) i l (by omega) h2]
    · rw [wl_odd (by omega), wl_odd h, e1, e2]
      exact wl_right j (i / 2) (l / 2) (by omega) (by omega)
theorem wl_full : ∀ j, wl (2 ^ j - 1) (2 ^ j - 1) = []
  | 0 => by
    show wl 0 0 = []
    rw [wl_even rfl, way_zero]
  | j + 1 => by
    have p1 : 2 ^ (j + 1) = 2 * 2 ^ j := by rw [Nat.pow_succ]; omega
    have p0 : 1 ≤ 2 ^ j := Nat.one_le_two_pow
    have e : (2 ^ (j + 1) - 1) / 2 = 2 ^ j - 1 := by omega
    rw [wl_odd (by omega), e]
    exact wl_full j
/-- Of a beginning of m of n leaves: from where its last whole tree stands up to the root. -/
def ways (m n : Nat) : List Bool := if m = n then [] else wl (m - 1) (n - 1)
theorem ways_left {m n : Nat} (h1 : 1 ≤ m) (hn : 2 ≤ n) (h : m ≤ split n) : ways m n = ways m (split n) ++ [false] := by
  obtain ⟨j, hs, hj1, hj2⟩ := split_spec hn
  rw [hs] at h ⊢
  have p0 : 1 ≤ 2 ^ j := Nat.one_le_two_pow
  have := wl_left j (m - 1) (n - 1) (by omega) (by omega) (by omega)
  unfold ways
  rw [if_neg (by omega), this]
  by_cases he : m = 2 ^ j
  · rw [if_pos he, he, wl_full]
  · rw [if_neg he]
theorem ways_right {m n : Nat} (hn : 2 ≤ n) (hm : m < n) (h : split n < m) : ways m n = ways (m - split n) (n - split n) ++ [true] := by
  obtain ⟨j, hs, hj1, hj2⟩ := split_spec hn
  rw [hs] at h ⊢
  rw [Nat.pow_succ] at hj2
  have := wl_right j (m - 1 - 2 ^ j) (n - 1 - 2 ^ j) (by omega) (by omega)
  unfold ways
  rw [if_neg (by omega), if_neg (by omega), show m - 1 = 2 ^ j + (m - 1 - 2 ^ j) by omega, show n - 1 = 2 ^ j + (n - 1 - 2 ^ j) by omega, this]
  congr 2 <;> omega
/-- A step up, of a beginning's root and of the whole one's. -/
def stepC (x : Hash × Hash) (d : Bool × Hash) : Hash × Hash := match d.1 with | true => (nodeH d.2 x.1, nodeH d.2 x.2) | false => (x.1, nodeH x.2 d.2)
def foldC (x : Hash × Hash) (ds : List (Bool × Hash)) : Hash × Hash := ds.foldl stepC x
theorem foldC_snoc (x : Hash × Hash) (ds : List Bool) (hs : List Hash) (d : Bool) (h : Hash) (hl : ds.length = hs.length) : foldC x ((ds ++ [d]).zip (hs ++ [h])) = stepC (foldC x (ds.zip hs)) (d, h) := by
  rw [List.zip_append hl]
  unfold foldC
  rw [List.foldl_append]
  rfl
/-- Is it a power of two? -/
def pw (m : Nat) : Bool := (m &&& (m - 1)) == 0
theorem way_pos : ∀ (n i l : Nat), l ≤ n → l ≠ 0 → 1 ≤ (way i l).length
  | 0, i, l, hn, hl => by omega
  | n + 1, i, l, hn, hl => by
    rcases Nat.mod_two_eq_zero_or_one i with h | h
    · by_cases he : i = l
      · rw [way_eq h he hl]
        exact way_pos n (i / 2) (l / 2) (by omega) (by omega)
      · rw [way_lt h he hl]; simp
    · rw [way_odd h hl]; simp
theorem and_one (n : Nat) : n &&& 1 = n % 2 := Nat.and_one_is_mod n
theorem zip_snoc {α β : Type} {D : List α} {tl : List β} {k : Nat} {d : α} {h : β} (hk : D.length = k) (hx : tl[k]? = some h) : (D ++ [d]).zip tl = D.zip tl ++ [(d, h)] := by
  have e : tl = tl.take k ++ h :: tl.drop (k + 1) := by
    obtain ⟨hl, hh⟩ := List.getElem?_eq_some_iff.1 hx
    rw [← hh, ← List.drop_eq_getElem_cons hl, List.take_append_drop]
  have hl := (List.getElem?_eq_some_iff.1 hx).1
  have hlt : (tl.take k).length = D.length := by rw [List.length_take]; omega
  rw [e, List.zip_append hlt.symm]
  conv => rhs; rw [← List.append_nil D, List.zip_append hlt.symm]
  simp
end Go.Proofs.YtljdjagackdplaaDoor.L
