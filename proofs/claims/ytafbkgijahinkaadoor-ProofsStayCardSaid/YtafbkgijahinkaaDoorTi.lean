/-
  Proofs of inclusion, as functions on lists: no program in sight.
-/
import Derived.Test.YtafbkgijahinkaaDoorTp
namespace Go.Proofs.YtafbkgijahinkaaDoor.L
open Go
set_option linter.unusedSectionVars false
variable [Globs] [Has_sha_table] [Has_sha_begin]
/-! ### Proofs that are given -/
def incN : Nat → List Hash → Nat → List Hash
  | 0, _, _ => []
  | f + 1, l, i =>
    if l.length ≤ 1 then []
    else if i < split l.length then incN f (l.take (split l.length)) i ++ [mroot (l.drop (split l.length))]
    else incN f (l.drop (split l.length)) (i - split l.length) ++ [mroot (l.take (split l.length))]
def inc (l : List Hash) (i : Nat) : List Hash := incN l.length l i
theorem incN_fuel : ∀ (n f g : Nat) (l : List Hash) (i : Nat), l.length ≤ n → l.length ≤ f → l.length ≤ g → incN f l i = incN g l i := by
  intro n
  induction n using Nat.strongRecOn with
  | _ n ih =>
    intro f g l i hn hf hg
    by_cases h1 : l.length ≤ 1
    · have : ∀ f, incN f l i = [] := fun f => by
        cases f with
        | zero => rfl
        | succ f => unfold incN; rw [if_pos h1]
      rw [this, this]
    · obtain ⟨f, rfl⟩ : ∃ k, f = k + 1 := ⟨f - 1, by omega⟩
      obtain ⟨g, rfl⟩ : ∃ k, g = k + 1 := ⟨g - 1, by omega⟩
      obtain ⟨s1, s2, s3⟩ := split_lt (n := l.length) (by omega)
      have e1 : (l.take (split l.length)).length = split l.length := by rw [List.length_take]; omega
      have e2 : (l.drop (split l.length)).length = l.length - split l.length := List.length_drop
      unfold incN
      rw [if_neg h1, if_neg h1, ih (n - 1) (by omega) f g (l.take (split l.length)) i (by omega) (by omega) (by omega), ih (n - 1) (by omega) f g (l.drop (split l.length)) (i - split l.length) (by omega) (by omega) (by omega)]
theorem inc_one {l : List Hash} (h : l.length ≤ 1) (i : Nat) : inc l i = [] := by
  unfold inc
  cases l.length with
  | zero => rfl
  | succ f => unfold incN; rw [if_pos h]
theorem inc_step {l : List Hash} {i : Nat} (h : 2 ≤ l.length) : inc l i = if i < split l.length then inc (l.take (split l.length)) i ++ [mroot (l.drop (split l.length))] else inc (l.drop (split l.length)) (i - split l.length) ++ [mroot (l.take (split l.length))] := by
  obtain ⟨n, hn⟩ : ∃ n, l.length = n + 1 := ⟨l.length - 1, by omega⟩
  obtain ⟨s1, s2, s3⟩ := split_lt (n := l.length) (by omega)
  have e1 : (l.take (split l.length)).length = split l.length := by rw [List.length_take]; omega
  have e2 : (l.drop (split l.length)).length = l.length - split l.length := List.length_drop
  have k2 : inc l i = incN (n + 1) l i := by unfold inc; rw [hn]
  have key : incN (n + 1) l i = if l.length ≤ 1 then [] else if i < split l.length then incN n (l.take (split l.length)) i ++ [mroot (l.drop (split l.length))] else incN n (l.drop (split l.length)) (i - split l.length) ++ [mroot (l.take (split l.length))] := rfl
  rw [k2, key, if_neg (by omega)]
  unfold inc
  rw [incN_fuel _ n _ (l.take (split l.length)) i (Nat.le_refl _) (by omega) (Nat.le_refl _), incN_fuel _ n _ (l.drop (split l.length)) (i - split l.length) (Nat.le_refl _) (by omega) (Nat.le_refl _)]
theorem inc_left {l : List Hash} {i : Nat} (h : 2 ≤ l.length) (hi : i < split l.length) : inc l i = inc (l.take (split l.length)) i ++ [mroot (l.drop (split l.length))] := by
  rw [inc_step h, if_pos hi]
theorem inc_right {l : List Hash} {i : Nat} (h : 2 ≤ l.length) (hi : split l.length ≤ i) : inc l i = inc (l.drop (split l.length)) (i - split l.length) ++ [mroot (l.take (split l.length))] := by
  rw [inc_step h, if_neg (by omega)]
/-! ### Ways from a leaf -/
theorem wayI_left {i n : Nat} (hn : 2 ≤ n) (h : i < split n) : way i (n - 1) = way i (split n - 1) ++ [false] := by
  obtain ⟨j, hs, hj1, hj2⟩ := split_spec hn
  rw [hs] at h ⊢
  exact way_left j i (n - 1) h (by omega) (by omega)
theorem wayI_right {i n : Nat} (hn : 2 ≤ n) (hi : i < n) (h : split n ≤ i) : way i (n - 1) = way (i - split n) (n - split n - 1) ++ [true] := by
  obtain ⟨j, hs, hj1, hj2⟩ := split_spec hn
  rw [hs] at h ⊢
  rw [Nat.pow_succ] at hj2
  have := way_right j (i - 2 ^ j) (n - 1 - 2 ^ j) (by omega) (by omega)
  rw [show 2 ^ j + (i - 2 ^ j) = i by omega, show 2 ^ j + (n - 1 - 2 ^ j) = n - 1 by omega] at this
  rw [this]
  congr 2; omega
theorem way_le : ∀ (j i l : Nat), l < 2 ^ j → (way i l).length ≤ j
  | 0, i, l, h => by
    obtain rfl : l = 0 := by simpa using h
    rw [way_zero]; exact Nat.le_refl _
  | j + 1, i, l, h => by
    have p1 : 2 ^ (j + 1) = 2 * 2 ^ j := by rw [Nat.pow_succ]; omega
    have ih := way_le j (i / 2) (l / 2) (by omega)
    by_cases h0 : l = 0
    · subst h0; rw [way_zero]; exact Nat.zero_le _
    · rcases Nat.mod_two_eq_zero_or_one i with h | h
      · by_cases he : i = l
        · rw [way_eq h he h0]; omega
        · rw [way_lt h he h0, List.length_cons]; omega
      · rw [way_odd h h0, List.length_cons]; omega
def stepI (x : Hash) (d : Bool × Hash) : Hash := match d.1 with | true => nodeH d.2 x | false => nodeH x d.2
def foldI (x : Hash) (ds : List (Bool × Hash)) : Hash := ds.foldl stepI x
theorem foldI_snoc (x : Hash) (ds : List Bool) (hs : List Hash) (d : Bool) (h : Hash) (hl : ds.length = hs.length) : foldI x ((ds ++ [d]).zip (hs ++ [h])) = stepI (foldI x (ds.zip hs)) (d, h) := by
  rw [List.zip_append hl]
  unfold foldI
  rw [List.foldl_append]
  rfl
theorem foldI_one (x : Hash) (ds : List (Bool × Hash)) (d : Bool × Hash) : foldI x (ds ++ [d]) = stepI (foldI x ds) d := by
  unfold foldI
  rw [List.foldl_append]
  rfl
/-- What a proof leads to, its hashes from the last one on. -/
def leadsI : List Hash → Nat → Nat → Hash → Hash × Bool
  | [], _, n, x => if n = 1 then (x, true) else (zeroH, false)
  | h :: r, i, n, x =>
    if n = 1 then (x, false)
    else if i < split n then (nodeH (leadsI r i (split n) x).1 h, (leadsI r i (split n) x).2)
    else (nodeH h (leadsI r (i - split n) (n - split n) x).1, (leadsI r (i - split n) (n - split n) x).2)
theorem leadsI_one (r : List Hash) (i : Nat) (x : Hash) : leadsI r i 1 x = (x, decide (r.length = 0)) := by
  cases r with
  | nil => rfl
  | cons h r => rfl
theorem leadsI_nil {n : Nat} (h : n ≠ 1) (i : Nat) (x : Hash) : leadsI [] i n x = (zeroH, false) := by unfold leadsI; rw [if_neg h]
theorem leadsI_left {n i : Nat} (hn : n ≠ 1) (hi : i < split n) (h : Hash) (r : List Hash) (x : Hash) : leadsI (h :: r) i n x = (nodeH (leadsI r i (split n) x).1 h, (leadsI r i (split n) x).2) := by
  conv => lhs; unfold leadsI
  rw [if_neg hn, if_pos hi]
theorem leadsI_right {n i : Nat} (hn : n ≠ 1) (hi : ¬ i < split n) (h : Hash) (r : List Hash) (x : Hash) : leadsI (h :: r) i n x = (nodeH h (leadsI r (i - split n) (n - split n) x).1, (leadsI r (i - split n) (n - split n) x).2) := by
  conv => lhs; unfold leadsI
  rw [if_neg hn, if_neg hi]
theorem leadsI_spec : ∀ (r : List Hash) (i n : Nat) (x : Hash), i < n → (leadsI r i n x).2 = decide (r.length = (way i (n - 1)).length) ∧ (r.length = (way i (n - 1)).length → (leadsI r i n x).1 = foldI x ((way i (n - 1)).zip r.reverse))
  | [], i, n, x, hi => by
    by_cases h1 : n = 1
    · subst h1
      rw [leadsI_one, show 1 - 1 = 0 from rfl, way_zero]
      exact ⟨rfl, fun _ => rfl⟩
    · rw [leadsI_nil h1]
      have hw : (way i (n - 1)).length ≠ 0 := by
        by_cases hs : i < split n
        · rw [wayI_left (by omega) hs]; simp
        · rw [wayI_right (by omega) hi (by omega)]; simp
      exact ⟨(decide_eq_false (fun h => hw h.symm)).symm, fun h => absurd h.symm hw⟩
  | h :: r, i, n, x, hi => by
    by_cases h1 : n = 1
    · subst h1
      rw [leadsI_one, show 1 - 1 = 0 from rfl, way_zero]
      exact ⟨rfl, fun h => by cases h⟩
    · obtain ⟨s1, s2, s3⟩ := split_lt (n := n) (by omega)
      by_cases hs : i < split n
      · obtain ⟨i1, i2⟩ := leadsI_spec r i (split n) x hs
        rw [leadsI_left h1 hs, wayI_left (by omega) hs, i1]
        refine ⟨by simp, fun hl => ?_⟩
        have hl : r.length = (way i (split n - 1)).length := by simpa using hl
        rw [List.reverse_cons, foldI_snoc _ _ _ _ _ (by rw [List.length_reverse]; exact hl.symm), ← i2 hl]
        rfl
      · obtain ⟨i1, i2⟩ := leadsI_spec r (i - split n) (n - split n) x (by omega)
        rw [leadsI_right h1 hs, wayI_right (by omega) hi (by omega), i1]
        refine ⟨by simp, fun hl => ?_⟩
        have hl : r.length = (way (i - split n) (n - split n - 1)).length := by simpa using hl
        rw [List.reverse_cons, foldI_snoc _ _ _ _ _ (by rw [List.length_reverse]; exact hl.symm), ← i2 hl]
        rfl
/-- Does a proof lead from a leaf to a root? -/
def okI (i n : Nat) (x : Hash) (pr : List Hash) (r : Hash) : Bool := decide (pr.length = (way i (n - 1)).length) && decide (foldI x ((way i (n - 1)).zip pr) = r)
theorem okI_ref {i n : Nat} (hi : i < n) (x : Hash) (pr : List Hash) (r : Hash) : okI i n x pr r = ((leadsI pr.reverse i n x).2 && decide ((leadsI pr.reverse i n x).1 = r)) := by
  obtain ⟨i1, i2⟩ := leadsI_spec pr.reverse i n x hi
  rw [List.length_reverse] at i1 i2
  rw [List.reverse_reverse] at i2
  unfold okI
  rw [i1]
  by_cases hl : pr.length = (way i (n - 1)).length
  · rw [i2 hl]
  · rw [decide_eq_false hl, Bool.false_and, Bool.false_and]
/-- What a check tells. -/
def chkI (x : Hash) (i n : Int) (pr : List Hash) (r : Hash) : Int := if i < 0 ∨ n ≤ i then 2 else if okI i.toNat n.toNat x pr r = true then 0 else 110
theorem chkI_bad {i n : Int} (h : i < 0 ∨ n ≤ i) (x : Hash) (pr : List Hash) (r : Hash) : chkI x i n pr r = 2 := if_pos h
theorem chkI_ok {i n : Nat} (h : i < n) (x : Hash) (pr : List Hash) (r : Hash) : chkI x i n pr r = if okI i n x pr r = true then 0 else 110 := by
  unfold chkI
  rw [if_neg (by omega), Int.toNat_natCast, Int.toNat_natCast]
/-- A proof that was given leads to the root. -/
theorem leads_inc : ∀ (n : Nat) (l : List Hash) (i : Nat) (x : Hash), l.length = n → l[i]? = some x → leadsI (inc l i).reverse i n x = (mroot l, true) := by
  intro n
  induction n using Nat.strongRecOn with
  | _ n ih =>
    intro l i x hn hx
    obtain ⟨hi, hxx⟩ := List.getElem?_eq_some_iff.1 hx
    by_cases h1 : n = 1
    · subst h1
      obtain ⟨a, rfl⟩ := List.length_eq_one_iff.1 hn
      rw [inc_one (Nat.le_of_eq hn), leadsI_one, mroot_one]
      obtain rfl : i = 0 := by simpa using hi
      have : a = x := by simpa using hx
      rw [this]; rfl
    · obtain ⟨s1, s2, s3⟩ := split_lt (n := n) (by omega)
      have e1 : (l.take (split l.length)).length = split l.length := by rw [List.length_take, hn]; omega
      have e2 : (l.drop (split l.length)).length = l.length - split l.length := List.length_drop
      by_cases hs : i < split n
      · rw [inc_left (by omega) (by rw [hn]; exact hs), List.reverse_append, List.reverse_singleton, List.singleton_append, leadsI_left h1 hs]
        have := ih (split n) s2 (l.take (split l.length)) i x (by rw [e1, hn]) (by rw [List.getElem?_take_of_lt (by rw [hn]; exact hs)]; exact hx)
        rw [this, mroot_split (l := l) (by omega)]
      · rw [inc_right (by omega) (by rw [hn]; omega), List.reverse_append, List.reverse_singleton, List.singleton_append, leadsI_right h1 hs]
        have := ih (n - split n) (by omega) (l.drop (split l.length)) (i - split n) x (by rw [e2, hn]) (by rw [List.getElem?_drop, hn, show split n + (i - split n) = i by omega]; exact hx)
        rw [hn] at this ⊢
        rw [this]
        rw [mroot_split (l := l) (by omega), hn]
theorem okI_inc {l : List Hash} {n i : Nat} {x r : Hash} (hn : l.length = n) (hx : l[i]? = some x) : okI i n x (inc l i) r = decide (mroot l = r) := by
  have hi := (List.getElem?_eq_some_iff.1 hx).1
  rw [okI_ref (by omega), leads_inc n l i x hn hx]
  rfl
theorem inc_len : ∀ (n : Nat) (l : List Hash) (i : Nat), l.length = n → i < n → (inc l i).length = (way i (n - 1)).length := by
  intro n
  induction n using Nat.strongRecOn with
  | _ n ih =>
    intro l i hn hi
    by_cases h1 : n = 1
    · subst h1
      rw [inc_one (Nat.le_of_eq hn), show 1 - 1 = 0 from rfl, way_zero]
      rfl
    · obtain ⟨s1, s2, s3⟩ := split_lt (n := n) (by omega)
      have e1 : (l.take (split l.length)).length = split l.length := by rw [List.length_take, hn]; omega
      have e2 : (l.drop (split l.length)).length = l.length - split l.length := List.length_drop
      by_cases hs : i < split n
      · rw [inc_left (by omega) (by rw [hn]; exact hs), wayI_left (by omega) hs, List.length_append, List.length_append, ih (split n) s2 _ i (by rw [e1, hn]) hs]
        rfl
      · rw [inc_right (by omega) (by rw [hn]; omega), wayI_right (by omega) hi (by omega), List.length_append, List.length_append, hn, ih (n - split n) (by omega) _ (i - split n) (by rw [← hn, e2]) (by omega)]
        rfl
/-! ### Two proofs that lead to one root -/
/-- What a proof's hashes are nodes of, from the leaf up. -/
def pairsL (x : Hash) : List (Bool × Hash) → List (Hash × Hash)
  | [] => []
  | (d, h) :: r => (match d with | true => (h, x) | false => (x, h)) :: pairsL (stepI x (d, h)) r
theorem pairsL_len : ∀ (x : Hash) (ds : List (Bool × Hash)), (pairsL x ds).length = ds.length
  | _, [] => rfl
  | x, (d, h) :: r => by show (pairsL _ r).length + 1 = _; rw [pairsL_len]; rfl
theorem pairsL_snoc : ∀ (x : Hash) (ds : List (Bool × Hash)) (d : Bool × Hash), pairsL x (ds ++ [d]) = pairsL x ds ++ [match d.1 with | true => (d.2, foldI x ds) | false => (foldI x ds, d.2)]
  | _, [], (true, h) => rfl
  | _, [], (false, h) => rfl
  | x, (d, h) :: r, e => by
    show _ :: pairsL _ (r ++ [e]) = _ :: pairsL _ r ++ _
    rw [pairsL_snoc _ r e]
    rfl
/-- Both ways lead to one root from unlike leaves, or over unlike hashes: some pair is another one, whose node is the same. -/
theorem apart : ∀ (ds : List Bool) (p q : List Hash) (x y : Hash), p.length = ds.length → q.length = ds.length → (x ≠ y ∨ p ≠ q) → foldI x (ds.zip p) = foldI y (ds.zip q) →
    ∃ (j : Nat) (a b : Hash × Hash), (pairsL x (ds.zip p))[j]? = some a ∧ (pairsL y (ds.zip q))[j]? = some b ∧ a ≠ b ∧ nodeH a.1 a.2 = nodeH b.1 b.2
  | [], p, q, x, y, hp, hq, hne, hf => by
    obtain rfl := List.eq_nil_of_length_eq_zero hp
    obtain rfl := List.eq_nil_of_length_eq_zero hq
    rcases hne with h | h
    · exact absurd hf h
    · exact absurd rfl h
  | d :: ds, g :: p, h :: q, x, y, hp, hq, hne, hf => by
    by_cases hn : stepI x (d, g) ≠ stepI y (d, h) ∨ p ≠ q
    · obtain ⟨j, a, b, h1, h2, h3, h4⟩ := apart ds p q (stepI x (d, g)) (stepI y (d, h)) (by simpa using hp) (by simpa using hq) hn hf
      exact ⟨j + 1, a, b, h1, h2, h3, h4⟩
    · have h1 : stepI x (d, g) = stepI y (d, h) := Classical.byContradiction fun h => hn (.inl h)
      have h2 : p = q := Classical.byContradiction fun h => hn (.inr h)
      have h3 : x ≠ y ∨ g ≠ h := by
        rcases hne with k | k
        · exact .inl k
        · exact .inr fun e => k (by rw [e, h2])
      cases d with
      | true => exact ⟨0, (g, x), (h, y), rfl, rfl, fun e => by have := Prod.mk.inj e; rcases h3 with k | k; exact k this.2; exact k this.1, h1⟩
      | false => exact ⟨0, (x, g), (y, h), rfl, rfl, fun e => by have := Prod.mk.inj e; rcases h3 with k | k; exact k this.1; exact k this.2, h1⟩
theorem okI_apart {i n : Nat} {x y : Hash} {p q : List Hash} {r : Hash} (h1 : okI i n x p r = true) (h2 : okI i n y q r = true) (hne : x ≠ y ∨ p ≠ q) : ∃ (j : Nat) (a b : Hash × Hash), (pairsL x ((way i (n - 1)).zip p))[j]? = some a ∧ (pairsL y ((way i (n - 1)).zip q))[j]? = some b ∧ a ≠ b ∧ nodeH a.1 a.2 = nodeH b.1 b.2 := by
  unfold okI at h1 h2
  rw [Bool.and_eq_true] at h1 h2
  have a1 := of_decide_eq_true h1.1
  have a2 := of_decide_eq_true h2.1
  exact apart _ p q x y a1 a2 hne ((of_decide_eq_true h1.2).trans (of_decide_eq_true h2.2).symm)
/-- What the law's own pairs are, a proof's hashes from the last one on. -/
def pairsR : List Hash → Nat → Nat → Hash → List (Hash × Hash)
  | [], _, _, _ => []
  | h :: r, i, n, x =>
    if n = 1 then []
    else if i < split n then pairsR r i (split n) x ++ [((match (pairsR r i (split n) x).getLast? with | some c => nodeH c.1 c.2 | none => x), h)]
    else pairsR r (i - split n) (n - split n) x ++ [(h, (match (pairsR r (i - split n) (n - split n) x).getLast? with | some c => nodeH c.1 c.2 | none => x))]
theorem pairs_last : ∀ (x : Hash) (ds : List (Bool × Hash)), (match (pairsL x ds).getLast? with | some c => nodeH c.1 c.2 | none => x) = foldI x ds := by
  intro x ds
  rcases List.eq_nil_or_concat ds with rfl | ⟨r, d, rfl⟩
  · rfl
  · rw [List.concat_eq_append, pairsL_snoc, foldI_one, List.getLast?_append]
    obtain ⟨d, h⟩ := d
    cases d <;> rfl
theorem pairsR_spec : ∀ (r : List Hash) (i n : Nat) (x : Hash), i < n → r.length = (way i (n - 1)).length → pairsR r i n x = pairsL x ((way i (n - 1)).zip r.reverse)
  | [], i, n, x, hi, hl => by
    rw [List.eq_nil_of_length_eq_zero hl.symm]; rfl
  | h :: r, i, n, x, hi, hl => by
    by_cases h1 : n = 1
    · subst h1
      rw [show 1 - 1 = 0 from rfl, way_zero] at hl; cases hl
    · obtain ⟨s1, s2, s3⟩ := split_lt (n := n) (by omega)
      unfold pairsR
      rw [if_neg h1]
      by_cases hs : i < split n
      · rw [wayI_left (by omega) hs] at hl ⊢
        have hl : r.length = (way i (split n - 1)).length := by simpa using hl
        rw [if_pos hs, pairsR_spec r i (split n) x hs hl, List.reverse_cons, List.zip_append (by rw [List.length_reverse]; exact hl.symm)]
        show _ = pairsL x (_ ++ [(false, h)])
        rw [pairsL_snoc, pairs_last]
      · rw [wayI_right (by omega) hi (by omega)] at hl ⊢
        have hl : r.length = (way (i - split n) (n - split n - 1)).length := by simpa using hl
        rw [if_neg hs, pairsR_spec r (i - split n) (n - split n) x (by omega) hl, List.reverse_cons, List.zip_append (by rw [List.length_reverse]; exact hl.symm)]
        show _ = pairsL x (_ ++ [(true, h)])
        rw [pairsL_snoc, pairs_last]
end Go.Proofs.YtafbkgijahinkaaDoor.L
