/-
  Proofs of consistency, as functions on lists: no program in sight.
-/
import Derived.Test.YtljdjagackdplaaDoorTp
namespace Go.Proofs.YtljdjagackdplaaDoor.L
open Go
set_option linter.unusedSectionVars false
variable [Globs] [Has_sha_table] [Has_sha_begin]
theorem pw_pow (j : Nat) : pw (2 ^ j) = true := by
  unfold pw
  rw [Nat.and_two_pow_sub_one_eq_mod, Nat.mod_self]
  rfl
theorem pw_not {m j : Nat} (h1 : 2 ^ j < m) (h2 : m < 2 ^ (j + 1)) : pw m = false := by
  have p0 : 1 ≤ 2 ^ j := Nat.one_le_two_pow
  have hb : ∀ x, 2 ^ j ≤ x → x < 2 ^ (j + 1) → x.testBit j = true := by
    intro x hx1 hx2
    rw [Nat.testBit_eq_decide_div_mod_eq, decide_eq_true_iff]
    have h3 : x / 2 ^ j = 1 := by
      rw [Nat.pow_succ] at hx2
      rw [Nat.div_eq_iff (by omega)]
      omega
    rw [h3]
  cases h : pw m with
  | false => rfl
  | true =>
    unfold pw at h
    have h0 : m &&& (m - 1) = 0 := by simpa using h
    have : (m &&& (m - 1)).testBit j = true := by rw [Nat.testBit_and, hb m (by omega) h2, hb (m - 1) (by omega) (by omega)]; rfl
    rw [h0, Nat.zero_testBit] at this
    cases this
theorem ways_self (m : Nat) : ways m m = [] := if_pos rfl
theorem pw_split {n : Nat} (h : 2 ≤ n) : pw (split n) = true := by
  obtain ⟨j, hs, _, _⟩ := split_spec h
  rw [hs]; exact pw_pow j
theorem pw_over {m n : Nat} (h : 2 ≤ n) (h1 : split n < m) (h2 : m < n) : pw m = false := by
  obtain ⟨j, hs, _, hj⟩ := split_spec h
  rw [hs] at h1
  exact pw_not h1 (by omega)
/-- What a proof leads to, its hashes from the last one on. -/
def leadsR : List Hash → Nat → Nat → Bool → Hash → (Hash × Hash) × Bool
  | [], m, n, yes, a => ((a, a), decide (m = n) && yes)
  | h :: r, m, n, yes, a =>
    if m = n then (if yes = true then ((a, a), false) else ((h, h), r.isEmpty))
    else if m ≤ split n then (((leadsR r m (split n) yes a).1.1, nodeH (leadsR r m (split n) yes a).1.2 h), (leadsR r m (split n) yes a).2)
    else ((nodeH h (leadsR r (m - split n) (n - split n) false a).1.1, nodeH h (leadsR r (m - split n) (n - split n) false a).1.2), (leadsR r (m - split n) (n - split n) false a).2)
/-- What a proof begins with: the first root, where it is that of a whole tree. -/
def startC (yes : Bool) (m : Nat) (a : Hash) (pr : List Hash) : List Hash := if (yes && pw m) = true then a :: pr else pr
theorem startC_snoc (yes : Bool) (m : Nat) (a : Hash) (pr : List Hash) (h : Hash) : startC yes m a (pr ++ [h]) = startC yes m a pr ++ [h] := by
  unfold startC
  split <;> rfl
theorem startC_no {m : Nat} (h : pw m = false) (yes : Bool) (m' : Nat) (a : Hash) (pr : List Hash) : startC yes m a pr = startC false m' a pr := by
  unfold startC
  rw [h, Bool.and_false]
  rfl
theorem ways_pos {m n : Nat} (h1 : 1 ≤ m) (hm : m < n) : 1 ≤ (ways m n).length := by
  by_cases h : m ≤ split n
  · rw [ways_left h1 (by omega) h]; simp
  · rw [ways_right (by omega) hm (by omega)]; simp
theorem leadsR_spec : ∀ (r : List Hash) (m n : Nat) (yes : Bool) (a : Hash), 1 ≤ m → m ≤ n → (m = n → pw m = true) →
    (leadsR r m n yes a).2 = decide ((startC yes m a r.reverse).length = (ways m n).length + 1) ∧ ∀ x t, startC yes m a r.reverse = x :: t → t.length = (ways m n).length → (leadsR r m n yes a).1 = foldC (x, x) ((ways m n).zip t)
  | [], m, n, yes, a, h1, hmn, hp => by
    by_cases he : m = n
    · subst he
      have hpm := hp rfl
      unfold leadsR startC
      rw [ways_self, hpm, Bool.and_true]
      cases yes with
      | true => exact ⟨by simp, fun x t hx ht => by simp at hx; obtain ⟨rfl, rfl⟩ := hx; rfl⟩
      | false => exact ⟨by simp, fun x t hx ht => by simp at hx⟩
    · have hw := ways_pos h1 (show m < n by omega)
      have hl : (startC yes m a ([] : List Hash).reverse).length ≤ 1 := by
        unfold startC
        split <;> simp
      refine ⟨?_, fun x t hx ht => ?_⟩
      · rw [decide_eq_false (by omega)]
        unfold leadsR
        rw [decide_eq_false he]; rfl
      · rw [hx, List.length_cons] at hl; omega
  | h :: r, m, n, yes, a, h1, hmn, hp => by
    have hs := startC_snoc yes m a r.reverse h
    rw [List.reverse_cons, hs]
    by_cases he : m = n
    · subst he
      have hpm := hp rfl
      rw [ways_self]
      cases yes with
      | true =>
        have : startC true m a r.reverse = a :: r.reverse := by unfold startC; rw [hpm]; rfl
        rw [this]
        refine ⟨?_, fun x t hx ht => ?_⟩
        · unfold leadsR
          rw [if_pos rfl, if_pos rfl]
          simp
        · have := congrArg List.length hx
          simp only [List.length_cons, List.length_append, List.length_reverse, List.length_nil] at this ht; omega
      | false =>
        have : startC false m a r.reverse = r.reverse := by unfold startC; rfl
        rw [this]
        unfold leadsR
        rw [if_pos rfl, if_neg (by decide)]
        cases r with
        | nil => exact ⟨rfl, fun x t hx ht => by simp at hx; obtain ⟨rfl, rfl⟩ := hx; rfl⟩
        | cons y r => exact ⟨by simp, fun x t hx ht => by have := congrArg List.length hx; simp only [List.length_cons, List.length_append, List.length_reverse, List.length_nil] at this ht; omega⟩
    · have hn2 : 2 ≤ n := by omega
      obtain ⟨k1, k2, k3⟩ := split_lt hn2
      have hE : leadsR (h :: r) m n yes a = if m ≤ split n then (((leadsR r m (split n) yes a).1.1, nodeH (leadsR r m (split n) yes a).1.2 h), (leadsR r m (split n) yes a).2)
          else ((nodeH h (leadsR r (m - split n) (n - split n) false a).1.1, nodeH h (leadsR r (m - split n) (n - split n) false a).1.2), (leadsR r (m - split n) (n - split n) false a).2) := by
        conv => lhs; unfold leadsR
        rw [if_neg he]
      by_cases hk : m ≤ split n
      · obtain ⟨i1, i2⟩ := leadsR_spec r m (split n) yes a h1 hk (fun e => by rw [e]; exact pw_split hn2)
        rw [hE, if_pos hk, ways_left h1 hn2 hk]
        refine ⟨?_, fun x t hx ht => ?_⟩
        · rw [i1, List.length_append, List.length_append]
          simp
        · rw [List.length_append] at ht
          generalize hst : startC yes m a r.reverse = s at *
          cases s with
          | nil =>
            simp at hx
            obtain ⟨_, rfl⟩ := hx
            simp at ht
          | cons y t' =>
            simp only [List.cons_append, List.cons.injEq] at hx
            obtain ⟨rfl, rfl⟩ := hx
            have hl : t'.length = (ways m (split n)).length := by simp at ht; omega
            rw [foldC_snoc _ _ _ _ _ hl.symm, ← i2 y t' rfl hl]
            rfl
      · obtain ⟨i1, i2⟩ := leadsR_spec r (m - split n) (n - split n) false a (by omega) (by omega) (fun e => by omega)
        rw [hE, if_neg hk, ways_right hn2 (by omega) (by omega), startC_no (pw_over hn2 (by omega) (by omega)) yes (m - split n)]
        refine ⟨?_, fun x t hx ht => ?_⟩
        · rw [i1, List.length_append, List.length_append]
          simp
        · rw [List.length_append] at ht
          generalize hst : startC false (m - split n) a r.reverse = s at *
          cases s with
          | nil =>
            simp at hx
            obtain ⟨_, rfl⟩ := hx
            simp at ht
          | cons y t' =>
            simp only [List.cons_append, List.cons.injEq] at hx
            obtain ⟨rfl, rfl⟩ := hx
            have hl : t'.length = (ways (m - split n) (n - split n)).length := by simp at ht; omega
            rw [foldC_snoc _ _ _ _ _ hl.symm, ← i2 y t' rfl hl]
            rfl
/-- What a check tells: 0, or 2 (no such numbers), or another number (no proof). -/
def okC (m n : Nat) (a b : Hash) (pr : List Hash) : Bool :=
  if m = n then pr.isEmpty && decide (a = b)
  else match startC true m a pr with
    | [] => false
    | x :: t => decide (t.length = (ways m n).length) && decide (foldC (x, x) ((ways m n).zip t) = (a, b))
theorem okC_ref {m n : Nat} (h1 : 1 ≤ m) (hm : m < n) (a b : Hash) (pr : List Hash) : okC m n a b pr = ((leadsR pr.reverse m n true a).2 && decide ((leadsR pr.reverse m n true a).1 = (a, b))) := by
  obtain ⟨i1, i2⟩ := leadsR_spec pr.reverse m n true a h1 (by omega) (fun e => by omega)
  rw [List.reverse_reverse] at i1 i2
  unfold okC
  rw [if_neg (by omega), i1]
  generalize startC true m a pr = s at *
  cases s with
  | nil => simp
  | cons x t =>
    by_cases hl : t.length = (ways m n).length
    · rw [i2 x t rfl hl]
      simp [hl]
    · simp [hl]
/-! ### Proofs that are given -/
def cpartN : Nat → List Hash → Nat → Bool → List Hash
  | 0, _, _, _ => []
  | f + 1, l, m, yes =>
    if m = l.length then (if yes = true then [] else [mroot l])
    else if m ≤ split l.length then cpartN f (l.take (split l.length)) m yes ++ [mroot (l.drop (split l.length))]
    else cpartN f (l.drop (split l.length)) (m - split l.length) false ++ [mroot (l.take (split l.length))]
def cpart (l : List Hash) (m : Nat) (yes : Bool) : List Hash := cpartN l.length l m yes
theorem cpartN_fuel : ∀ (n f g : Nat) (l : List Hash) (m : Nat) (yes : Bool), l.length ≤ n → l.length ≤ f → l.length ≤ g → 1 ≤ m → m ≤ l.length → cpartN f l m yes = cpartN g l m yes := by
  intro n
  induction n using Nat.strongRecOn with
  | _ n ih =>
    intro f g l m yes hn hf hg h1 hm
    obtain ⟨f, rfl⟩ : ∃ k, f = k + 1 := ⟨f - 1, by omega⟩
    obtain ⟨g, rfl⟩ : ∃ k, g = k + 1 := ⟨g - 1, by omega⟩
    unfold cpartN
    by_cases he : m = l.length
    · rw [if_pos he, if_pos he]
    · obtain ⟨s1, s2, s3⟩ := split_lt (n := l.length) (by omega)
      have e1 : (l.take (split l.length)).length = split l.length := by rw [List.length_take]; omega
      have e2 : (l.drop (split l.length)).length = l.length - split l.length := List.length_drop
      rw [if_neg he, if_neg he]
      by_cases hk : m ≤ split l.length
      · rw [if_pos hk, if_pos hk, ih (n - 1) (by omega) f g (l.take (split l.length)) m yes (by omega) (by omega) (by omega) h1 (by omega)]
      · rw [if_neg hk, if_neg hk, ih (n - 1) (by omega) f g (l.drop (split l.length)) (m - split l.length) false (by omega) (by omega) (by omega) (by omega) (by omega)]
theorem cpart_all {l : List Hash} {m : Nat} (h1 : 1 ≤ m) (h : m = l.length) (yes : Bool) : cpart l m yes = if yes = true then [] else [mroot l] := by
  obtain ⟨n, hn⟩ : ∃ n, l.length = n + 1 := ⟨l.length - 1, by omega⟩
  unfold cpart
  rw [hn]
  unfold cpartN
  rw [if_pos h]
theorem cpart_left {l : List Hash} {m : Nat} (h1 : 1 ≤ m) (hm : m < l.length) (hk : m ≤ split l.length) (yes : Bool) : cpart l m yes = cpart (l.take (split l.length)) m yes ++ [mroot (l.drop (split l.length))] := by
  obtain ⟨n, hn⟩ : ∃ n, l.length = n + 1 := ⟨l.length - 1, by omega⟩
  obtain ⟨s1, s2, s3⟩ := split_lt (n := l.length) (by omega)
  have e1 : (l.take (split l.length)).length = split l.length := by rw [List.length_take]; omega
  have key : cpartN (n + 1) l m yes = cpartN n (l.take (split l.length)) m yes ++ [mroot (l.drop (split l.length))] := by
    conv => lhs; unfold cpartN
    rw [if_neg (by omega), if_pos hk]
  have k2 : cpart l m yes = cpartN (n + 1) l m yes := by unfold cpart; rw [hn]
  rw [k2, key]
  unfold cpart
  rw [cpartN_fuel _ n _ _ m yes (Nat.le_refl _) (by omega) (Nat.le_refl _) h1 (by omega)]
theorem cpart_right {l : List Hash} {m : Nat} (hm : m < l.length) (hk : split l.length < m) (yes : Bool) : cpart l m yes = cpart (l.drop (split l.length)) (m - split l.length) false ++ [mroot (l.take (split l.length))] := by
  obtain ⟨n, hn⟩ : ∃ n, l.length = n + 1 := ⟨l.length - 1, by omega⟩
  obtain ⟨s1, s2, s3⟩ := split_lt (n := l.length) (by omega)
  have e2 : (l.drop (split l.length)).length = l.length - split l.length := List.length_drop
  have key : cpartN (n + 1) l m yes = cpartN n (l.drop (split l.length)) (m - split l.length) false ++ [mroot (l.take (split l.length))] := by
    conv => lhs; unfold cpartN
    rw [if_neg (by omega), if_neg (by omega)]
  have k2 : cpart l m yes = cpartN (n + 1) l m yes := by unfold cpart; rw [hn]
  rw [k2, key]
  unfold cpart
  rw [cpartN_fuel _ n _ _ (m - split l.length) false (Nat.le_refl _) (by omega) (Nat.le_refl _) (by omega) (by omega)]
theorem split_mid {m n : Nat} (hn : 2 ≤ n) (h1 : split n < m) (h2 : m ≤ n) : split m = split n := by
  obtain ⟨j, hs, hj1, hj2⟩ := split_spec hn
  rw [hs] at h1 ⊢
  exact split_of h1 (by omega)
/-- A proof that was given leads to both roots. -/
theorem leads_cpart : ∀ (n : Nat) (l : List Hash) (m : Nat) (yes : Bool) (a : Hash), l.length = n → 1 ≤ m → m ≤ n → (yes = true → a = mroot (l.take m)) → leadsR (cpart l m yes).reverse m n yes a = ((mroot (l.take m), mroot l), true) := by
  intro n
  induction n using Nat.strongRecOn with
  | _ n ih =>
    intro l m yes a hn h1 hm ha
    by_cases he : m = n
    · rw [cpart_all h1 (by omega)]
      have ht : l.take m = l := List.take_of_length_le (by omega)
      cases yes with
      | true =>
        rw [if_pos rfl]
        unfold leadsR
        rw [List.reverse_nil]
        simp only [he, decide_true, Bool.and_true]
        have := ha rfl
        rw [ht] at this
        rw [← he, ht, this]
      | false =>
        rw [if_neg (by decide)]
        show leadsR [mroot l] m n false a = _
        unfold leadsR
        rw [if_pos he, if_neg (by decide), ht]
        rfl
    · obtain ⟨s1, s2, s3⟩ := split_lt (n := l.length) (by omega)
      have e1 : (l.take (split l.length)).length = split l.length := by rw [List.length_take]; omega
      have e2 : (l.drop (split l.length)).length = l.length - split l.length := List.length_drop
      have hroot := mroot_split (l := l) (by omega)
      by_cases hk : m ≤ split l.length
      · have htt : (l.take (split l.length)).take m = l.take m := by rw [List.take_take, Nat.min_eq_left hk]
        have i := ih (split l.length) (by omega) (l.take (split l.length)) m yes a e1 h1 hk (fun h => by rw [htt]; exact ha h)
        rw [cpart_left h1 (by omega) hk, List.reverse_append]
        show leadsR (mroot (l.drop (split l.length)) :: (cpart (l.take (split l.length)) m yes).reverse) m n yes a = _
        have hn' : split l.length = split n := by rw [hn]
        conv => lhs; unfold leadsR
        rw [if_neg he, if_pos (by rw [← hn']; exact hk), ← hn', i, htt, hroot]
      · have htd : (l.drop (split l.length)).take (m - split l.length) = (l.take m).drop (split l.length) := by rw [List.drop_take]
        have i := ih (l.length - split l.length) (by omega) (l.drop (split l.length)) (m - split l.length) false a e2 (by omega) (by omega) (fun h => by cases h)
        rw [cpart_right (by omega) (by omega), List.reverse_append]
        show leadsR (mroot (l.take (split l.length)) :: (cpart (l.drop (split l.length)) (m - split l.length) false).reverse) m n yes a = _
        have hn' : split l.length = split n := by rw [hn]
        conv => lhs; unfold leadsR
        rw [if_neg he, if_neg (by rw [← hn']; exact hk), ← hn', show n - split l.length = l.length - split l.length by omega, i, htd]
        have hlm : (l.take m).length = m := by rw [List.length_take]; omega
        have hsm : split (l.take m).length = split l.length := by rw [hlm]; exact split_mid (by omega) (by omega) (by omega)
        have hrm := mroot_split (l := l.take m) (by omega)
        rw [hsm, List.take_take, Nat.min_eq_left (by omega)] at hrm
        rw [hrm, ← hroot]
end Go.Proofs.YtljdjagackdplaaDoor.L
