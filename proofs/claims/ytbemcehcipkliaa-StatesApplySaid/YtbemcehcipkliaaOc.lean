/-
  States behind entries, plain: they may be.
-/
import Derived.Test.YtbemcehcipkliaaOa
namespace Go.Proofs.Ytbemcehcipkliaa.L
open Go
set_option linter.unusedSectionVars false
variable [Globs]
set_option linter.unusedVariables false
theorem lastT_res {s : StreamS} {e : EntryS} {c : Int} (he : errM s e = 0) (h : lastT s.recs c = true) (hk : e.kind = 2 → e.n ≤ c) : lastT (resM s e).recs c = true := by
  unfold resM
  by_cases k2 : e.kind = 2
  · rw [if_pos k2]
    refine lastT_iff.2 fun r hr => ?_
    have hr : (s.recs ++ [mkRec e]).getLast? = some r := hr
    simp at hr
    subst hr
    exact hk k2
  rw [if_neg k2]
  split
  · exact h
  split
  · exact h
  split
  · exact h
  split
  · refine lastT_iff.2 fun r hr => ?_
    have hr : (shredM s.recs e.n.toNat).getLast? = some r := hr
    rw [List.getLast?_eq_getElem?, shredM_len] at hr
    have hl := (List.getElem?_eq_some_iff.1 hr).1
    rw [shredM_len] at hl
    have hg : s.recs[s.recs.length - 1]? = some s.recs[s.recs.length - 1] := List.getElem?_eq_getElem hl
    rw [shredM_at hg] at hr
    injection hr with hr; subst hr
    have h9 := lastT_iff.1 h s.recs[s.recs.length - 1] (by rw [List.getLast?_eq_getElem?]; exact hg)
    exact h9
  · exact h
theorem findI_app {l m : List StreamS} {x : Str} (h : 0 ≤ findI l x) : findI (l ++ m) x = findI l x := by
  rcases findI_cases l x with ⟨h1, _⟩ | ⟨i, y, h1, hy, hn, hb⟩
  · rw [h1] at h; exact absurd h (by decide)
  · rw [h1]
    have hl := (List.getElem?_eq_some_iff.1 hy).1
    exact findI_t (by rw [List.getElem?_append_left hl]; exact hy) hn fun j z hj hz => hb j z hj (by rw [List.getElem?_append_left (by omega)] at hz; exact hz)
theorem findI_new {l : List StreamS} {s : StreamS} (h : findI l s.name < 0) : findI (l ++ [s]) s.name = l.length := by
  rcases findI_cases l s.name with ⟨_, h2⟩ | ⟨i, y, h1, _⟩
  · refine findI_t (y := s) ?_ rfl fun j z hj hz => ?_
    · rw [List.getElem?_append_right (Nat.le_refl _), Nat.sub_self]; rfl
    · rw [List.getElem?_append_left hj] at hz
      exact h2 z (List.mem_of_getElem? hz)
  · omega
theorem findI_set {l : List StreamS} {k : Nat} {y q : StreamS} (hy : l[k]? = some y) (hn : q.name = y.name) (x : Str) : findI (l.set k q) x = findI l x := by
  have hk := (List.getElem?_eq_some_iff.1 hy).1
  have hat : ∀ (j : Nat) (z : StreamS), (l.set k q)[j]? = some z → ∃ w, l[j]? = some w ∧ z.name = w.name := fun j z hz => by
    rw [List.getElem?_set] at hz
    split at hz
    · rename_i hkj; subst hkj
      try rw [if_pos hk] at hz
      injection hz with hz; subst hz
      exact ⟨y, hy, hn⟩
    · exact ⟨z, hz, rfl⟩
  rcases findI_cases l x with ⟨h1, h2⟩ | ⟨i, w, h1, hw, hwn, hb⟩
  · rw [h1]
    exact findI_f fun j z hz => by
      obtain ⟨w, hw, e⟩ := hat j z hz
      rw [e]; exact h2 w (List.mem_of_getElem? hw)
  · rw [h1]
    have hil := (List.getElem?_eq_some_iff.1 hw).1
    obtain ⟨z, hz⟩ : ∃ z, (l.set k q)[i]? = some z := ⟨_, List.getElem?_eq_getElem (by rw [List.length_set]; exact hil)⟩
    obtain ⟨w', hw', e⟩ := hat i z hz
    rw [hw] at hw'; injection hw' with hw'; subst hw'
    exact findI_t hz (e.trans hwn) fun j u hj hu => by
      obtain ⟨v, hv, e⟩ := hat j u hu
      rw [e]; exact hb j v hj hv
theorem checkS_clock {t : StateS} {c : Int} (h : checkS t = true) (h1 : t.clock ≤ c) (h2 : c ≤ 1073741824) : checkS { t with clock := c } = true := by
  obtain ⟨a1, a2, a3⟩ := checkS_iff.1 h
  unfold tB at a1
  simp only [Bool.and_eq_true, decide_eq_true_eq] at a1
  refine checkS_iff.2 ⟨?_, a2, fun i x hx => ?_⟩
  · unfold tB; simp; omega
  · obtain ⟨b1, b2, b3⟩ := stOk_iff.1 (a3 i x hx)
    refine stOk_iff.2 ⟨b1, lastT_iff.2 fun r hr => ?_, b3⟩
    have := lastT_iff.1 b2 r hr
    show r.time ≤ c
    omega
theorem create_check {t : StateS} {x : Str} (h : checkS t = true) (he : (createM t x).2 = 0) : nameOk x = true ∧ findI t.streams x < 0 ∧ (createM t x).1 = { t with streams := t.streams ++ [{ zeroS with name := x }] } ∧ checkS (createM t x).1 = true := by
  unfold createM at he ⊢
  split at he
  · rename_i hn
    rw [if_pos hn]
    split at he
    · cases he
    rename_i hf
    rw [if_neg hf]
    split at he
    · cases he
    rename_i hl
    rw [if_neg hl]
    refine ⟨hn, by omega, rfl, ?_⟩
    obtain ⟨a1, a2, a3⟩ := checkS_iff.1 h
    refine checkS_iff.2 ⟨a1, ?_, fun i y hy => ?_⟩
    · show (t.streams ++ [_]).length ≤ 8
      rw [List.length_append]
      show t.streams.length + 1 ≤ 8
      omega
    · have hy : (t.streams ++ [{ zeroS with name := x }])[i]? = some y := hy
      by_cases hi : i < t.streams.length
      · rw [List.getElem?_append_left hi] at hy
        obtain ⟨b1, b2, b3⟩ := stOk_iff.1 (a3 i y hy)
        exact stOk_iff.2 ⟨b1, b2, (findI_app (by rw [b3]; omega)).trans b3⟩
      · have hil := (List.getElem?_eq_some_iff.1 hy).1
        rw [List.length_append] at hil
        have hil : i < t.streams.length + 1 := hil
        obtain rfl : i = t.streams.length := by omega
        rw [List.getElem?_append_right (Nat.le_refl _), Nat.sub_self] at hy
        injection hy with hy; subst hy
        refine stOk_iff.2 ⟨checkM_iff.2 ⟨hn, rfl, ⟨rfl, rfl, Nat.zero_le _⟩, rfl, rfl, Nat.zero_le _⟩, rfl, ?_⟩
        exact findI_new (s := { zeroS with name := x }) (by show findI t.streams x < 0; omega)
  · cases he
/-- What an entry that is done does. -/
theorem applyS_ok {t : StateS} {e : EntryS} (h : (applyS t e).2 = 0) : checkS t = true ∧ ((e.kind = 1 ∧ nameOk e.name = true ∧ findI t.streams e.name < 0 ∧ (applyS t e).1 = { t with streams := t.streams ++ [{ zeroS with name := e.name }] }) ∨
    (e.kind ≠ 1 ∧ 0 ≤ e.stream ∧ (e.kind = 2 → e.n ≤ t.clock) ∧ ∃ x, t.streams[e.stream.toNat]? = some x ∧ (applyM x e).2 = 0 ∧ (applyS t e).1 = { t with streams := t.streams.set e.stream.toNat (applyM x e).1 })) := by
  unfold applyS at h ⊢
  split at h
  · rename_i hc
    rw [if_pos hc]
    refine ⟨hc, ?_⟩
    split at h
    · rename_i k1
      rw [if_pos k1]
      obtain ⟨h1, h2, h3, _⟩ := create_check hc h
      exact .inl ⟨k1, h1, h2, h3⟩
    rename_i k1
    rw [if_neg k1]
    split at h
    · cases h
    rename_i hs
    rw [if_neg hs]
    split at h
    · cases h
    rename_i hn
    rw [if_neg hn]
    cases hx : t.streams[e.stream.toNat]? with
    | none => rw [hx] at h; cases h
    | some x =>
      rw [hx] at h
      simp only [] at h ⊢
      unfold putS at h ⊢
      split at h
      · rename_i hq
        rw [if_pos hq]
        exact .inr ⟨k1, by omega, fun k2 => by omega, x, rfl, hq, rfl⟩
      · rename_i hq
        exact absurd h hq
  · cases h
theorem applyS_err {t : StateS} {e : EntryS} (h : (applyS t e).2 ≠ 0) : (applyS t e).1 = zeroT := by
  unfold applyS at h ⊢
  split
  · rename_i hc
    rw [if_pos hc] at h
    split
    · rename_i k1
      rw [if_pos k1] at h
      unfold createM at h ⊢
      repeat' split
      all_goals first | rfl | (exfalso; simp_all)
    rename_i k1
    rw [if_neg k1] at h
    split
    · rfl
    rename_i hs
    rw [if_neg hs] at h
    split
    · rfl
    rename_i hn
    rw [if_neg hn] at h
    cases hx : t.streams[e.stream.toNat]? with
    | none => rfl
    | some x =>
      rw [hx] at h
      simp only [] at h ⊢
      unfold putS at h ⊢
      split
      · rename_i hq; rw [if_pos hq] at h; exact absurd rfl h
      · rfl
  · rfl
theorem applyS_check {t : StateS} {e : EntryS} (h : (applyS t e).2 = 0) : checkS (applyS t e).1 = true := by
  obtain ⟨hc, h1 | ⟨k1, hs, hn, x, hx, hq, hr⟩⟩ := applyS_ok h
  · have e1 : applyS t e = createM t e.name := by unfold applyS; rw [if_pos hc, if_pos h1.1]
    rw [e1] at h ⊢
    exact (create_check hc h).2.2.2
  · rw [hr]
    obtain ⟨a1, a2, a3⟩ := checkS_iff.1 hc
    obtain ⟨hcx, he, hrx⟩ := applyM_ok hq
    have hxl := (List.getElem?_eq_some_iff.1 hx).1
    have hnm : (applyM x e).1.name = x.name := by rw [hrx, res_name]
    refine checkS_iff.2 ⟨a1, by rw [List.length_set]; exact a2, fun i y hy => ?_⟩
    have hy : (t.streams.set e.stream.toNat (applyM x e).1)[i]? = some y := hy
    rw [List.getElem?_set] at hy
    split at hy
    · rename_i hki
      try rw [if_pos hxl] at hy
      injection hy with hy; subst hy
      subst hki
      obtain ⟨b1, b2, b3⟩ := stOk_iff.1 (a3 _ x hx)
      refine stOk_iff.2 ⟨by rw [hrx]; exact check_res hcx he, by rw [hrx]; exact lastT_res he b2 hn, ?_⟩
      exact (findI_set hx hnm _).trans (by rw [hnm]; exact b3)
    · obtain ⟨b1, b2, b3⟩ := stOk_iff.1 (a3 i y hy)
      exact stOk_iff.2 ⟨b1, b2, (findI_set hx hnm _).trans b3⟩
theorem foldS_err : ∀ (l : List EntryS) (t : StateS), (foldS t l).2 ≠ 0 → (foldS t l).1 = zeroT
  | [], t, h => absurd rfl h
  | e :: l, t, h => by
    unfold foldS at h ⊢
    split
    · rename_i h0; rw [if_pos h0] at h; exact foldS_err l _ h
    · rfl
theorem foldS_check : ∀ (l : List EntryS) (t : StateS), checkS t = true → (foldS t l).2 = 0 → checkS (foldS t l).1 = true
  | [], t, h, _ => h
  | e :: l, t, h, h2 => by
    unfold foldS at h2 ⊢
    split
    · rename_i h0; rw [if_pos h0] at h2; exact foldS_check l _ (applyS_check h0) h2
    · rename_i h0; rw [if_neg h0] at h2; exact absurd h2 h0
theorem allS_err {t : StateS} {l : List EntryS} {c : Int} (h : (allS t l c).2 ≠ 0) : (allS t l c).1 = zeroT := by
  unfold allS at h ⊢
  split
  · rename_i h0; rw [if_pos h0] at h; exact foldS_err l _ h
  · rfl
theorem allS_check {t : StateS} {l : List EntryS} {c : Int} (h : (allS t l c).2 = 0) : checkS t = true ∧ t.clock ≤ c ∧ c ≤ 1073741824 ∧ allS t l c = foldS { t with clock := c } l ∧ checkS (allS t l c).1 = true := by
  unfold allS at h ⊢
  split at h
  · rename_i h0
    rw [if_pos h0]
    exact ⟨h0.1, h0.2.1, h0.2.2, rfl, foldS_check l _ (checkS_clock h0.1 h0.2.1 h0.2.2) h⟩
  · cases h
theorem foldS_app : ∀ (l m : List EntryS) (t : StateS), foldS t (l ++ m) = if (foldS t l).2 = 0 then foldS (foldS t l).1 m else (zeroT, (foldS t l).2)
  | [], m, t => rfl
  | e :: l, m, t => by
    have e1 : foldS t (e :: (l ++ m)) = if (applyS t e).2 = 0 then foldS (applyS t e).1 (l ++ m) else (zeroT, (applyS t e).2) := rfl
    have e2 : foldS t (e :: l) = if (applyS t e).2 = 0 then foldS (applyS t e).1 l else (zeroT, (applyS t e).2) := rfl
    rw [List.cons_append, e1, e2]
    by_cases h0 : (applyS t e).2 = 0
    · rw [if_pos h0, if_pos h0]; exact foldS_app l m _
    · rw [if_neg h0, if_neg h0, if_neg h0]
theorem goodZ : GoodT zeroT := ⟨Nat.zero_le _, fun x hx => by cases hx⟩
theorem applyS_good (t : StateS) (e : EntryS) : GoodT (applyS t e).1 := by
  by_cases h : (applyS t e).2 = 0
  · exact goodS (applyS_check h)
  · rw [applyS_err h]; exact goodZ
theorem allS_good (t : StateS) (l : List EntryS) (c : Int) : GoodT (allS t l c).1 := by
  by_cases h : (allS t l c).2 = 0
  · exact goodS (allS_check h).2.2.2.2
  · rw [allS_err h]; exact goodZ
end Go.Proofs.Ytbemcehcipkliaa.L
