/-
  What grows: the plain laws.
-/
import Derived.Test.YtbemcehcipkliaaOh
namespace Go.Proofs.Ytbemcehcipkliaa.L
open Go
set_option linter.unusedSectionVars false
variable [Globs]
set_option linter.unusedVariables false
theorem recLe_iff {r q : Rec} : recLe r q = true ↔ (r.shredded = true → q.shredded = true) ∧ cover r = cover q := by
  unfold recLe
  rw [Bool.and_eq_true, decide_eq_true_eq]
  refine and_congr ?_ Iff.rfl
  cases r.shredded <;> cases q.shredded <;> simp
theorem recLe_refl (r : Rec) : recLe r r = true := recLe_iff.2 ⟨id, rfl⟩
theorem recLe_trans (a b c : Rec) (h1 : recLe a b = true) (h2 : recLe b c = true) : recLe a c = true :=
  recLe_iff.2 ⟨fun h => (recLe_iff.1 h2).1 ((recLe_iff.1 h1).1 h), (recLe_iff.1 h1).2.trans (recLe_iff.1 h2).2⟩
theorem all2B_refl {α : Type} {p : α → α → Bool} (h : ∀ x, p x x = true) (l : List α) : all2B p l l = true :=
  all2B_iff.2 fun i x y hx hy => by rw [hx] at hy; injection hy with hy; subst hy; exact h x
theorem all2B_trans {α : Type} {p : α → α → Bool} (h : ∀ x y z, p x y = true → p y z = true → p x z = true) {l m n : List α} (hl : l.length ≤ m.length) (h1 : all2B p l m = true) (h2 : all2B p m n = true) : all2B p l n = true :=
  all2B_iff.2 fun i x z hx hz => by
    have hi : i < m.length := Nat.lt_of_lt_of_le (List.getElem?_eq_some_iff.1 hx).1 hl
    have hm : m[i]? = some m[i] := List.getElem?_eq_getElem hi
    exact h x _ z (all2B_iff.1 h1 i x _ hx hm) (all2B_iff.1 h2 i _ z hm hz)
theorem longerS_iff {a b : StreamS} : longerS a b = true ↔ a.name = b.name ∧ a.retain ≤ b.retain ∧ a.recs.length ≤ b.recs.length ∧ all2B recLe a.recs b.recs = true := by
  unfold longerS
  rw [Bool.and_eq_true, Bool.and_eq_true, Bool.and_eq_true, decide_eq_true_eq, decide_eq_true_eq, decide_eq_true_eq, and_assoc, and_assoc]
theorem grownM_iff {a b : StateS} : grownM a b = true ↔ a.clock ≤ b.clock ∧ a.streams.length ≤ b.streams.length ∧ all2B longerS a.streams b.streams = true := by
  unfold grownM
  rw [Bool.and_eq_true, Bool.and_eq_true, decide_eq_true_eq, decide_eq_true_eq, and_assoc]
theorem longerS_refl (a : StreamS) : longerS a a = true := longerS_iff.2 ⟨rfl, Int.le_refl _, Nat.le_refl _, all2B_refl recLe_refl _⟩
theorem longerS_trans (a b c : StreamS) (h1 : longerS a b = true) (h2 : longerS b c = true) : longerS a c = true := by
  obtain ⟨a1, a2, a3, a4⟩ := longerS_iff.1 h1
  obtain ⟨b1, b2, b3, b4⟩ := longerS_iff.1 h2
  exact longerS_iff.2 ⟨a1.trans b1, Int.le_trans a2 b2, Nat.le_trans a3 b3, all2B_trans recLe_trans a3 a4 b4⟩
theorem grownM_refl (a : StateS) : grownM a a = true := grownM_iff.2 ⟨Int.le_refl _, Nat.le_refl _, all2B_refl longerS_refl _⟩
theorem grownM_trans (a b c : StateS) (h1 : grownM a b = true) (h2 : grownM b c = true) : grownM a c = true := by
  obtain ⟨a2, a3, a4⟩ := grownM_iff.1 h1
  obtain ⟨b2, b3, b4⟩ := grownM_iff.1 h2
  exact grownM_iff.2 ⟨Int.le_trans a2 b2, Nat.le_trans a3 b3, all2B_trans longerS_trans a3 a4 b4⟩
theorem res_recLe {s : StreamS} {e : EntryS} {k : Nat} {r : Rec} (h : s.recs[k]? = some r) : ∃ q, (resM s e).recs[k]? = some q ∧ recLe r q = true := by
  have hl := (List.getElem?_eq_some_iff.1 h).1
  unfold resM
  by_cases k2 : e.kind = 2
  · rw [if_pos k2]
    exact ⟨r, by show (s.recs ++ [mkRec e])[k]? = _; rw [List.getElem?_append_left hl, h], recLe_refl r⟩
  rw [if_neg k2]
  by_cases k3 : e.kind = 3
  · rw [if_pos k3]; exact ⟨r, h, recLe_refl r⟩
  rw [if_neg k3]
  by_cases k4 : e.kind = 4
  · rw [if_pos k4]; exact ⟨r, h, recLe_refl r⟩
  rw [if_neg k4]
  by_cases k5 : e.kind = 5
  · rw [if_pos k5]; exact ⟨r, h, recLe_refl r⟩
  rw [if_neg k5]
  by_cases k6 : e.kind = 6
  · rw [if_pos k6]
    exact ⟨_, shredM_at h, recLe_iff.2 ⟨fun h => by simp [h], rfl⟩⟩
  · rw [if_neg k6]; exact ⟨r, h, recLe_refl r⟩
theorem longer_res {s : StreamS} {e : EntryS} (he : errM s e = 0) : longerS s (resM s e) = true := by
  refine longerS_iff.2 ⟨(res_name s e).symm, res_retain he, by rw [res_len]; omega, all2B_iff.2 fun i x y hx hy => ?_⟩
  obtain ⟨q, hq, hr⟩ := res_recLe (e := e) hx
  rw [hq] at hy; injection hy with hy; subst hy; exact hr
theorem grown_apply {t : StateS} {e : EntryS} (h : (applyS t e).2 = 0) : grownM t (applyS t e).1 = true := by
  obtain ⟨_, ⟨_, _, _, h1⟩ | ⟨_, _, _, x, hx, hx0, h1⟩⟩ := applyS_ok h
  · rw [h1]
    refine grownM_iff.2 ⟨Int.le_refl _, by show _ ≤ (t.streams ++ [_]).length; rw [List.length_append]; omega, all2B_iff.2 fun i x y hx hy => ?_⟩
    have hy : (t.streams ++ [_])[i]? = some y := hy
    rw [List.getElem?_append_left (List.getElem?_eq_some_iff.1 hx).1, hx] at hy
    injection hy with hy; subst hy; exact longerS_refl _
  · rw [h1]
    obtain ⟨_, he, hr⟩ := applyM_ok hx0
    refine grownM_iff.2 ⟨Int.le_refl _, by show _ ≤ (t.streams.set _ _).length; rw [List.length_set]; omega, all2B_iff.2 fun i a y ha hy => ?_⟩
    have hy : (t.streams.set e.stream.toNat (applyM x e).1)[i]? = some y := hy
    by_cases hi : e.stream.toNat = i
    · subst hi
      rw [List.getElem?_set_self (List.getElem?_eq_some_iff.1 ha).1] at hy
      injection hy with hy; subst hy
      rw [hx] at ha; injection ha with ha; subst ha
      rw [hr]; exact longer_res he
    · rw [List.getElem?_set_ne hi, ha] at hy
      injection hy with hy; subst hy; exact longerS_refl _
theorem grown_fold : ∀ (l : List EntryS) (t : StateS), (foldS t l).2 = 0 → grownM t (foldS t l).1 = true
  | [], t, _ => grownM_refl t
  | e :: l, t, h => by
    unfold foldS at h ⊢
    split
    · rename_i h0; rw [if_pos h0] at h; exact grownM_trans _ _ _ (grown_apply h0) (grown_fold l _ h)
    · rename_i h0; rw [if_neg h0] at h; exact absurd h h0
theorem grown_all {t : StateS} {l : List EntryS} {c : Int} (h : (allS t l c).2 = 0) : grownM t (allS t l c).1 = true := by
  obtain ⟨_, h2, _, h4, _⟩ := allS_check h
  rw [h4] at h ⊢
  exact grownM_trans _ { t with clock := c } _ (grownM_iff.2 ⟨h2, Nat.le_refl _, all2B_refl longerS_refl _⟩) (grown_fold l _ h)
theorem sum_step {l : List StreamS} {i : Nat} {x : StreamS} (h : l[i]? = some x) : ((l.take (i + 1)).map fun x => x.recs.length).sum = ((l.take i).map fun x => x.recs.length).sum + x.recs.length := by
  rw [List.take_add_one, h, List.map_append, List.sum_append]
  simp
theorem sum_le {l : List StreamS} (h : ∀ x ∈ l, x.recs.length ≤ 64) : ∀ i, ((l.take i).map fun x => x.recs.length).sum ≤ 64 * i
  | 0 => by simp
  | i + 1 => by
    have ih := sum_le h i
    cases hx : l[i]? with
    | none =>
      have hl := List.getElem?_eq_none_iff.1 hx
      rw [List.take_of_length_le (by omega)]
      rw [List.take_of_length_le hl] at ih
      omega
    | some x =>
      rw [sum_step hx]
      have := h x (List.mem_of_getElem? hx)
      omega
theorem checkS_small {t : StateS} (h : checkS t = true) : t.streams.length ≤ 8 ∧ (∀ x ∈ t.streams, x.recs.length ≤ 64) ∧ 0 ≤ t.clock ∧ t.clock ≤ 1073741824 := by
  obtain ⟨h1, h2, h3⟩ := checkS_iff.1 h
  unfold tB at h1
  simp only [Bool.and_eq_true, decide_eq_true_eq] at h1
  refine ⟨h2, fun x hx => ?_, h1⟩
  obtain ⟨i, hi⟩ := List.getElem?_of_mem hx
  exact (check_ok (stOk_iff.1 (h3 i x hi)).1).2.1
theorem checkS_zero : checkS zeroT = true := by decide +kernel
end Go.Proofs.Ytbemcehcipkliaa.L
