/-
  The law of proofs that stay: ProofsStay.
-/
import Derived.Test.YtafbkgijahinkaaDoorUq
import Derived.Test.YtafbkgijahinkaaDoorNh
namespace Go.Proofs.YtafbkgijahinkaaDoor.L
open Go
set_option linter.unusedSectionVars false
variable [Globs] [Has_sha_table] [Has_sha_begin]
set_option linter.unusedVariables false
theorem res_hash {s : StreamS} {e : EntryS} {k : Nat} {r : Rec} (h : s.recs[k]? = some r) : ∃ q, (resM s e).recs[k]? = some q ∧ q.hash = r.hash  := by
  have hl := (List.getElem?_eq_some_iff.1 h).1
  unfold resM
  by_cases k2 : e.kind = 2
  · rw [if_pos k2]
    exact ⟨r, by show (s.recs ++ [mkRec e])[k]? = _; rw [List.getElem?_append_left hl, h], rfl⟩
  rw [if_neg k2]
  by_cases k3 : e.kind = 3
  · rw [if_pos k3]; exact ⟨r, h, rfl⟩
  rw [if_neg k3]
  by_cases k4 : e.kind = 4
  · rw [if_pos k4]; exact ⟨r, h, rfl⟩
  rw [if_neg k4]
  by_cases k5 : e.kind = 5
  · rw [if_pos k5]; exact ⟨r, h, rfl⟩
  rw [if_neg k5]
  by_cases k6 : e.kind = 6
  · rw [if_pos k6]
    exact ⟨_, shredM_at h, rfl⟩
  · rw [if_neg k6]; exact ⟨r, h, rfl⟩
theorem chk_len {s : StreamS} (h : checkM s = true) : s.recs.length ≤ 64 ∧ s.holds.length ≤ 4 := by
  obtain ⟨_, _, ⟨_, _, h4⟩, _, _, h8⟩ := checkM_iff.1 h
  exact ⟨h8, h4⟩
theorem inc_le : ∀ (n : Nat) (l : List Hash) (i : Nat), l.length = n → (inc l i).length ≤ n := by
  intro n
  induction n using Nat.strongRecOn with
  | _ n ih =>
    intro l i hn
    by_cases h1 : n ≤ 1
    · rw [inc_one (by omega)]; exact Nat.zero_le _
    · obtain ⟨s1, s2, s3⟩ := split_lt (n := l.length) (by omega)
      have l1 : (l.take (split l.length)).length = split l.length := by rw [List.length_take]; omega
      have l2 : (l.drop (split l.length)).length = l.length - split l.length := List.length_drop
      by_cases hk : i < split l.length
      · rw [inc_left (by omega) hk, List.length_append]
        have := ih (split l.length) (by omega) _ i l1
        show _ + 1 ≤ n
        omega
      · rw [inc_right (by omega) (by omega), List.length_append]
        have := ih (l.length - split l.length) (by omega) _ (i - split l.length) l2
        show _ + 1 ≤ n
        omega
def Pre (s t : StreamS) : Prop := ∀ (k : Nat) (r : Rec), s.recs[k]? = some r → ∃ q, t.recs[k]? = some q ∧ q.hash = r.hash
theorem Pre.refl (s : StreamS) : Pre s s := fun k r h => ⟨r, h, rfl⟩
theorem Pre.step {s t : StreamS} (h : Pre s t) (e : EntryS) : Pre s (resM t e) := fun k r hr => by
  obtain ⟨q, hq, hh⟩ := h k r hr
  obtain ⟨p, hp, hg⟩ := res_hash (e := e) hq
  exact ⟨p, hp, hg.trans hh⟩
theorem pre_len {s t : StreamS} (h : Pre s t) : s.recs.length ≤ t.recs.length := by
  cases hs : s.recs.length with
  | zero => exact Nat.zero_le _
  | succ m =>
    obtain ⟨q, hq, _⟩ := h m _ (List.getElem?_eq_getElem (by omega))
    exact (List.getElem?_eq_some_iff.1 hq).1
theorem pre_take {s t : StreamS} {n : Nat} (h : Pre s t) (hn : n ≤ s.recs.length) : (lvs t).take n = (lvs s).take n := by
  refine List.ext_getElem? fun i => ?_
  rw [List.getElem?_take, List.getElem?_take]
  split
  · rename_i hi
    have hs : s.recs[i]? = some (s.recs[i]'(by omega)) := List.getElem?_eq_getElem (by omega)
    obtain ⟨q, hq, hh⟩ := h i _ hs
    rw [lvs_at hq, lvs_at hs, hh]
  · rfl
set_option linter.unusedVariables false
set_option linter.unusedSimpArgs false
attribute [local irreducible] J Lq E OpP PRun is any agg tup ptr sl PRunW OpE
attribute [local irreducible] slt nameE lowerN cntM recOk row tB applyM errM resM up2 mroot nodeH leafH emptyH shaH ownAt someL leafOf splitZ split rv join2 edge rootE frV inc cpart lvs
theorem holds_fnL (l : List Str) (hl : l.length ≤ maxLen) : Fn Tryd.prog 11 [sl strT.toTy l] (is (.bool (holdsOk l))) := by
  unfold maxLen at hl
  refine Fn.mk' 32 Tryd.func11 rfl rfl rfl rfl fun w0 H0 => ?_
  repeat (first | ((first | (apply Lq.s; rfl) | apply PRun.s | (apply Lq.run; rfl; rfl; rfl; exact bsB) | (apply PRun.run; rfl; rfl; exact bsB)); first | (exact bsO)) | apply J.seq | apply E.next | apply J.lq | apply Lq.nil | apply PRun.nil | apply J.block | apply E.in_normal | apply J.skip | (apply Lq.store; rfl; rfl; exact bsP; exact bsS; rfl; rfl) | (apply PRun.al; rfl) | (apply Lq.al; rfl; rfl; intro b) | (apply Open.cons; intro b) | apply Open.nil | (apply Lq.pass; rfl; rfl; rfl) | (apply PRun.pass; rfl; rfl) | (apply Lq.skip; rfl; rfl; rfl; exact bsB) | (apply PRun.skip; rfl; rfl; exact bsB) | (apply J.drawN; exact mixed; kernel_rfl) | (apply J.cond_t; rfl) | (apply J.cond_f; rfl) | apply J.exit | apply E.then_exit | apply E.in_exit | (apply E.in_other; rfl))
  refine J.loop (fun i : Nat => i ≤ l.length ∧ (∀ (j : Nat) (a : Str), j < i → l[j]? = some a → nameOk a = true) ∧ ∀ (j : Nat) (a b : Str), j + 1 < i → l[j]? = some a → l[j + 1]? = some b → slt a b = true) (fun i => [(0, sl strT.toTy l), (5, sl strT.toTy l), (6, is (.int .i64 (l.length : Int))), (7, is (.int .i64 (i : Int)))]) (fun _ => []) (fun i => l.length - i) 0 ⟨Nat.zero_le _, fun j a hj => by omega, fun j a b hj => by omega⟩ (Sub.same (by repeat' (first | exact trivial | refine ⟨rfl, ?_⟩))) ?_
  rintro i ⟨hi, hn, hp⟩
  by_cases hlt : i < l.length
  · obtain ⟨q, hq⟩ : ∃ q, l[i]? = some q := ⟨_, List.getElem?_eq_getElem hlt⟩
    have hnq := ncheck_fn q
    cases ho : nameOk q
    · rw [nameE_bad ho] at hnq
      repeat (first | ((first | (apply Lq.s; rfl) | apply PRun.s | (apply Lq.run; rfl; rfl; rfl; exact bsB) | (apply PRun.run; rfl; rfl; exact bsB)); first | (apply op_iaddr strT.toTy (x := q); rfl; rfl; exact Int.natCast_nonneg _; (rw [Int.toNat_natCast]; exact hq)) | (apply op_load strT; rfl) | (apply op_call hnq; exact bsD) | (exact bsO)) | apply J.seq | apply E.next | apply J.lq | apply Lq.nil | apply PRun.nil | apply J.block | apply E.in_normal | apply J.skip | (apply Lq.store; rfl; rfl; exact bsP; exact bsS; rfl; rfl) | (apply PRun.al; rfl) | (apply Lq.al; rfl; rfl; intro b) | (apply Open.cons; intro b) | apply Open.nil | (apply Lq.pass; rfl; rfl; rfl) | (apply PRun.pass; rfl; rfl) | (apply Lq.skip; rfl; rfl; rfl; exact bsB) | (apply PRun.skip; rfl; rfl; exact bsB) | (apply J.drawN; exact mixed; kernel_rfl) | (apply J.cond_t; rfl) | (apply J.cond_f; rfl) | apply J.exit | apply E.then_exit | apply E.in_exit | (apply E.in_other; rfl))
      (refine J.ret ?_; (repeat (first | refine E.then_ret ?_ | refine E.in_ret ?_)))
      rw [holdsOk_name i q hq ho]
      exact E.ret1 rfl rfl
    rw [nameE_ok ho] at hnq
    have hn' : ∀ (j : Nat) (a : Str), j < i + 1 → l[j]? = some a → nameOk a = true := fun j a hj ha => by
      rcases Nat.lt_or_eq_of_le (Nat.le_of_lt_succ hj) with h | rfl
      · exact hn j a h ha
      · rw [hq] at ha; injection ha with ha; subst ha; exact ho
    cases i with
    | zero =>
      repeat (first | ((first | (apply Lq.s; rfl) | apply PRun.s | (apply Lq.run; rfl; rfl; rfl; exact bsB) | (apply PRun.run; rfl; rfl; exact bsB)); first | (apply op_iaddr strT.toTy (x := q); rfl; rfl; exact Int.natCast_nonneg _; (rw [Int.toNat_natCast]; exact hq)) | (apply op_load strT; rfl) | (apply op_call hnq; exact bsD) | (exact bsO)) | apply J.seq | apply E.next | apply J.lq | apply Lq.nil | apply PRun.nil | apply J.block | apply E.in_normal | apply J.skip | (apply Lq.store; rfl; rfl; exact bsP; exact bsS; rfl; rfl) | (apply PRun.al; rfl) | (apply Lq.al; rfl; rfl; intro b) | (apply Open.cons; intro b) | apply Open.nil | (apply Lq.pass; rfl; rfl; rfl) | (apply PRun.pass; rfl; rfl) | (apply Lq.skip; rfl; rfl; rfl; exact bsB) | (apply PRun.skip; rfl; rfl; exact bsB) | (apply J.drawN; exact mixed; kernel_rfl) | (apply J.cond_t; rfl) | (apply J.cond_f; rfl) | apply J.exit | apply E.then_exit | apply E.in_exit | (apply E.in_other; rfl))
      exact E.again 1 (by omega) ⟨by omega, hn', fun j a b hj => by omega⟩ (Sub.same (by repeat' (first | exact trivial | refine ⟨rfl, ?_⟩)))
    | succ k =>
      obtain ⟨a, ha⟩ : ∃ a, l[k]? = some a := ⟨_, List.getElem?_eq_getElem (by omega)⟩
      cases hs : slt a q
      · repeat (first | ((first | (apply Lq.s; rfl) | apply PRun.s | (apply Lq.run; rfl; rfl; rfl; exact bsB) | (apply PRun.run; rfl; rfl; exact bsB)); first | (apply op_sub (c := (k : Int)); rfl; rfl; (rw [show ((k + 1 : Nat) : Int) - 1 = (k : Int) by omega]; apply wrapi <;> omega)) | (apply op_iaddr strT.toTy (x := a); rfl; rfl; exact Int.natCast_nonneg _; (rw [Int.toNat_natCast]; exact ha)) | (apply op_iaddr strT.toTy (x := q); rfl; rfl; exact Int.natCast_nonneg _; (rw [Int.toNat_natCast]; exact hq)) | (apply op_load strT; rfl) | (apply op_call hnq; exact bsD) | (apply op_sleq (a := q) (b := a); rfl; rfl) | (exact bsO)) | apply J.seq | apply E.next | apply J.lq | apply Lq.nil | apply PRun.nil | apply J.block | apply E.in_normal | apply J.skip | (apply Lq.store; rfl; rfl; exact bsP; exact bsS; rfl; rfl) | (apply PRun.al; rfl) | (apply Lq.al; rfl; rfl; intro b) | (apply Open.cons; intro b) | apply Open.nil | (apply Lq.pass; rfl; rfl; rfl) | (apply PRun.pass; rfl; rfl) | (apply Lq.skip; rfl; rfl; rfl; exact bsB) | (apply PRun.skip; rfl; rfl; exact bsB) | (apply J.drawN; exact mixed; kernel_rfl) | (apply J.cond_t; rfl) | (apply J.cond_f; rfl) | apply J.exit | apply E.then_exit | apply E.in_exit | (apply E.in_other; rfl))
        rw [hs]
        repeat (first | ((first | (apply Lq.s; rfl) | apply PRun.s | (apply Lq.run; rfl; rfl; rfl; exact bsB) | (apply PRun.run; rfl; rfl; exact bsB)); first | (exact bsO)) | apply J.seq | apply E.next | apply J.lq | apply Lq.nil | apply PRun.nil | apply J.block | apply E.in_normal | apply J.skip | (apply Lq.store; rfl; rfl; exact bsP; exact bsS; rfl; rfl) | (apply PRun.al; rfl) | (apply Lq.al; rfl; rfl; intro b) | (apply Open.cons; intro b) | apply Open.nil | (apply Lq.pass; rfl; rfl; rfl) | (apply PRun.pass; rfl; rfl) | (apply Lq.skip; rfl; rfl; rfl; exact bsB) | (apply PRun.skip; rfl; rfl; exact bsB) | (apply J.drawN; exact mixed; kernel_rfl) | (apply J.cond_t; rfl) | (apply J.cond_f; rfl) | apply J.exit | apply E.then_exit | apply E.in_exit | (apply E.in_other; rfl))
        (refine J.ret ?_; (repeat (first | refine E.then_ret ?_ | refine E.in_ret ?_)))
        rw [holdsOk_asc k a q ha hq hs]
        exact E.ret1 rfl rfl
      · repeat (first | ((first | (apply Lq.s; rfl) | apply PRun.s | (apply Lq.run; rfl; rfl; rfl; exact bsB) | (apply PRun.run; rfl; rfl; exact bsB)); first | (apply op_sub (c := (k : Int)); rfl; rfl; (rw [show ((k + 1 : Nat) : Int) - 1 = (k : Int) by omega]; apply wrapi <;> omega)) | (apply op_iaddr strT.toTy (x := a); rfl; rfl; exact Int.natCast_nonneg _; (rw [Int.toNat_natCast]; exact ha)) | (apply op_iaddr strT.toTy (x := q); rfl; rfl; exact Int.natCast_nonneg _; (rw [Int.toNat_natCast]; exact hq)) | (apply op_load strT; rfl) | (apply op_call hnq; exact bsD) | (apply op_sleq (a := q) (b := a); rfl; rfl) | (exact bsO)) | apply J.seq | apply E.next | apply J.lq | apply Lq.nil | apply PRun.nil | apply J.block | apply E.in_normal | apply J.skip | (apply Lq.store; rfl; rfl; exact bsP; exact bsS; rfl; rfl) | (apply PRun.al; rfl) | (apply Lq.al; rfl; rfl; intro b) | (apply Open.cons; intro b) | apply Open.nil | (apply Lq.pass; rfl; rfl; rfl) | (apply PRun.pass; rfl; rfl) | (apply Lq.skip; rfl; rfl; rfl; exact bsB) | (apply PRun.skip; rfl; rfl; exact bsB) | (apply J.drawN; exact mixed; kernel_rfl) | (apply J.cond_t; rfl) | (apply J.cond_f; rfl) | apply J.exit | apply E.then_exit | apply E.in_exit | (apply E.in_other; rfl))
        rw [hs]
        repeat (first | ((first | (apply Lq.s; rfl) | apply PRun.s | (apply Lq.run; rfl; rfl; rfl; exact bsB) | (apply PRun.run; rfl; rfl; exact bsB)); first | (exact bsO)) | apply J.seq | apply E.next | apply J.lq | apply Lq.nil | apply PRun.nil | apply J.block | apply E.in_normal | apply J.skip | (apply Lq.store; rfl; rfl; exact bsP; exact bsS; rfl; rfl) | (apply PRun.al; rfl) | (apply Lq.al; rfl; rfl; intro b) | (apply Open.cons; intro b) | apply Open.nil | (apply Lq.pass; rfl; rfl; rfl) | (apply PRun.pass; rfl; rfl) | (apply Lq.skip; rfl; rfl; rfl; exact bsB) | (apply PRun.skip; rfl; rfl; exact bsB) | (apply J.drawN; exact mixed; kernel_rfl) | (apply J.cond_t; rfl) | (apply J.cond_f; rfl) | apply J.exit | apply E.then_exit | apply E.in_exit | (apply E.in_other; rfl))
        refine E.again (k + 1 + 1) (by omega) ⟨by omega, hn', fun j x y hj hx hy => ?_⟩ (Sub.same (by repeat' (first | exact trivial | refine ⟨rfl, ?_⟩)))
        rcases Nat.lt_or_eq_of_le (Nat.le_of_lt_succ hj) with h | h
        · exact hp j x y h hx hy
        · obtain rfl : j = k := by omega
          rw [ha] at hx; injection hx with hx; subst hx
          rw [hq] at hy; injection hy with hy; subst hy
          exact hs
  · obtain rfl : i = l.length := by omega
    repeat (first | ((first | (apply Lq.s; rfl) | apply PRun.s | (apply Lq.run; rfl; rfl; rfl; exact bsB) | (apply PRun.run; rfl; rfl; exact bsB)); first | (exact bsO)) | apply J.seq | apply E.next | apply J.lq | apply Lq.nil | apply PRun.nil | apply J.block | apply E.in_normal | apply J.skip | (apply Lq.store; rfl; rfl; exact bsP; exact bsS; rfl; rfl) | (apply PRun.al; rfl) | (apply Lq.al; rfl; rfl; intro b) | (apply Open.cons; intro b) | apply Open.nil | (apply Lq.pass; rfl; rfl; rfl) | (apply PRun.pass; rfl; rfl) | (apply Lq.skip; rfl; rfl; rfl; exact bsB) | (apply PRun.skip; rfl; rfl; exact bsB) | (apply J.drawN; exact mixed; kernel_rfl) | (apply J.cond_t; rfl) | (apply J.cond_f; rfl) | apply J.exit | apply E.then_exit | apply E.in_exit | (apply E.in_other; rfl))
    (refine J.ret ?_; (repeat (first | refine E.then_ret ?_ | refine E.in_ret ?_)))
    have e : holdsOk l = decide (l.length ≤ 4) := by
      unfold holdsOk
      rw [all_at.2 fun j a ha => hn j a (List.getElem?_eq_some_iff.1 ha).1 ha, adj_iff.2 fun j a b ha hb => hp j a b (List.getElem?_eq_some_iff.1 hb).1 ha hb]
      rfl
    rw [e]
    refine E.ret1 rfl ?_
    rw [show decide (l.length ≤ 4) = decide ((l.length : Int) ≤ 4) from decide_eq_decide.2 (by omega)]
    rfl
theorem scheck_fnL (s : StreamS) (hh : s.holds.length ≤ maxLen) (hr : s.recs.length ≤ 1000000) : Fn Tryd.prog 4 [streamT.val s] (is (.bool (checkM s))) := by
  have hnq := ncheck_fn s.name
  have hhf := holds_fnL s.holds hh
  cases h1 : nameOk s.name
  · rw [nameE_bad h1] at hnq
    rw [checkM_name h1]
    refine Fn.mk' 59 Tryd.func4 rfl rfl rfl rfl fun w0 H0 => ?_
    repeat (first | ((first | (apply Lq.s; rfl) | apply PRun.s | (apply Lq.run; rfl; rfl; rfl; exact bsB) | (apply PRun.run; rfl; rfl; exact bsB)); first | (apply op_box streamT; rfl) | (apply op_faddr stream_name; rfl; decide) | (apply op_faddr stream_retain; rfl; decide) | (apply op_faddr stream_holds; rfl; decide) | (apply op_faddr stream_recs; rfl; decide) | (apply op_load strT; rfl) | (apply op_load (intT .i64); rfl) | (apply op_load (slT strT); rfl) | (apply op_load (slT recT); rfl) | (apply op_load streamT; rfl) | (apply op_call hnq; exact bsD) | (exact bsO)) | apply J.seq | apply E.next | apply J.lq | apply Lq.nil | apply PRun.nil | apply J.block | apply E.in_normal | apply J.skip | (apply Lq.store; rfl; rfl; exact bsP; exact bsS; rfl; rfl) | (apply PRun.al; rfl) | (apply Lq.al; rfl; rfl; intro b) | (apply Open.cons; intro b) | apply Open.nil | (apply Lq.pass; rfl; rfl; rfl) | (apply PRun.pass; rfl; rfl) | (apply Lq.skip; rfl; rfl; rfl; exact bsB) | (apply PRun.skip; rfl; rfl; exact bsB) | (apply J.drawN; exact mixed; kernel_rfl) | (apply J.cond_t; rfl) | (apply J.cond_f; rfl) | apply J.exit | apply E.then_exit | apply E.in_exit | (apply E.in_other; rfl))
    (refine J.ret ?_; (repeat (first | refine E.then_ret ?_ | refine E.in_ret ?_)))
    exact E.ret1 rfl rfl
  rw [nameE_ok h1] at hnq
  by_cases h2 : 0 ≤ s.retain
  case neg =>
    rw [checkM_ret (by omega)]
    refine Fn.mk' 59 Tryd.func4 rfl rfl rfl rfl fun w0 H0 => ?_
    repeat (first | ((first | (apply Lq.s; rfl) | apply PRun.s | (apply Lq.run; rfl; rfl; rfl; exact bsB) | (apply PRun.run; rfl; rfl; exact bsB)); first | (apply op_box streamT; rfl) | (apply op_faddr stream_name; rfl; decide) | (apply op_faddr stream_retain; rfl; decide) | (apply op_faddr stream_holds; rfl; decide) | (apply op_faddr stream_recs; rfl; decide) | (apply op_load strT; rfl) | (apply op_load (intT .i64); rfl) | (apply op_load (slT strT); rfl) | (apply op_load (slT recT); rfl) | (apply op_load streamT; rfl) | (apply op_call hnq; exact bsD) | (exact bsO)) | apply J.seq | apply E.next | apply J.lq | apply Lq.nil | apply PRun.nil | apply J.block | apply E.in_normal | apply J.skip | (apply Lq.store; rfl; rfl; exact bsP; exact bsS; rfl; rfl) | (apply PRun.al; rfl) | (apply Lq.al; rfl; rfl; intro b) | (apply Open.cons; intro b) | apply Open.nil | (apply Lq.pass; rfl; rfl; rfl) | (apply PRun.pass; rfl; rfl) | (apply Lq.skip; rfl; rfl; rfl; exact bsB) | (apply PRun.skip; rfl; rfl; exact bsB) | (apply J.drawN; exact mixed; kernel_rfl) | (apply J.cond_t; rfl) | (apply J.cond_f; rfl) | apply J.exit | apply E.then_exit | apply E.in_exit | (apply E.in_other; rfl))
    (refine J.ret ?_; (repeat (first | refine E.then_ret ?_ | refine E.in_ret ?_)))
    exact E.ret1 rfl rfl
  by_cases h3 : s.retain ≤ 1073741824
  case neg =>
    rw [checkM_ret (by omega)]
    refine Fn.mk' 59 Tryd.func4 rfl rfl rfl rfl fun w0 H0 => ?_
    repeat (first | ((first | (apply Lq.s; rfl) | apply PRun.s | (apply Lq.run; rfl; rfl; rfl; exact bsB) | (apply PRun.run; rfl; rfl; exact bsB)); first | (apply op_box streamT; rfl) | (apply op_faddr stream_name; rfl; decide) | (apply op_faddr stream_retain; rfl; decide) | (apply op_faddr stream_holds; rfl; decide) | (apply op_faddr stream_recs; rfl; decide) | (apply op_load strT; rfl) | (apply op_load (intT .i64); rfl) | (apply op_load (slT strT); rfl) | (apply op_load (slT recT); rfl) | (apply op_load streamT; rfl) | (apply op_call hnq; exact bsD) | (exact bsO)) | apply J.seq | apply E.next | apply J.lq | apply Lq.nil | apply PRun.nil | apply J.block | apply E.in_normal | apply J.skip | (apply Lq.store; rfl; rfl; exact bsP; exact bsS; rfl; rfl) | (apply PRun.al; rfl) | (apply Lq.al; rfl; rfl; intro b) | (apply Open.cons; intro b) | apply Open.nil | (apply Lq.pass; rfl; rfl; rfl) | (apply PRun.pass; rfl; rfl) | (apply Lq.skip; rfl; rfl; rfl; exact bsB) | (apply PRun.skip; rfl; rfl; exact bsB) | (apply J.drawN; exact mixed; kernel_rfl) | (apply J.cond_t; rfl) | (apply J.cond_f; rfl) | apply J.exit | apply E.then_exit | apply E.in_exit | (apply E.in_other; rfl))
    (refine J.ret ?_; (repeat (first | refine E.then_ret ?_ | refine E.in_ret ?_)))
    exact E.ret1 rfl rfl
  cases h4 : holdsOk s.holds
  · rw [h4] at hhf
    rw [checkM_holds h4]
    refine Fn.mk' 59 Tryd.func4 rfl rfl rfl rfl fun w0 H0 => ?_
    repeat (first | ((first | (apply Lq.s; rfl) | apply PRun.s | (apply Lq.run; rfl; rfl; rfl; exact bsB) | (apply PRun.run; rfl; rfl; exact bsB)); first | (apply op_box streamT; rfl) | (apply op_faddr stream_name; rfl; decide) | (apply op_faddr stream_retain; rfl; decide) | (apply op_faddr stream_holds; rfl; decide) | (apply op_faddr stream_recs; rfl; decide) | (apply op_load strT; rfl) | (apply op_load (intT .i64); rfl) | (apply op_load (slT strT); rfl) | (apply op_load (slT recT); rfl) | (apply op_load streamT; rfl) | (apply op_call hnq; exact bsD) | (apply op_call hhf; exact bsD) | (exact bsO)) | apply J.seq | apply E.next | apply J.lq | apply Lq.nil | apply PRun.nil | apply J.block | apply E.in_normal | apply J.skip | (apply Lq.store; rfl; rfl; exact bsP; exact bsS; rfl; rfl) | (apply PRun.al; rfl) | (apply Lq.al; rfl; rfl; intro b) | (apply Open.cons; intro b) | apply Open.nil | (apply Lq.pass; rfl; rfl; rfl) | (apply PRun.pass; rfl; rfl) | (apply Lq.skip; rfl; rfl; rfl; exact bsB) | (apply PRun.skip; rfl; rfl; exact bsB) | (apply J.drawN; exact mixed; kernel_rfl) | (apply J.cond_t; rfl) | (apply J.cond_f; rfl) | apply J.exit | apply E.then_exit | apply E.in_exit | (apply E.in_other; rfl))
    (refine J.ret ?_; (repeat (first | refine E.then_ret ?_ | refine E.in_ret ?_)))
    exact E.ret1 rfl rfl
  rw [h4] at hhf
  by_cases h5 : s.recs.length ≤ 64
  case neg =>
    rw [checkM_recs (by unfold recsOk; rw [decide_eq_false h5]; simp)]
    refine Fn.mk' 59 Tryd.func4 rfl rfl rfl rfl fun w0 H0 => ?_
    repeat (first | ((first | (apply Lq.s; rfl) | apply PRun.s | (apply Lq.run; rfl; rfl; rfl; exact bsB) | (apply PRun.run; rfl; rfl; exact bsB)); first | (apply op_box streamT; rfl) | (apply op_faddr stream_name; rfl; decide) | (apply op_faddr stream_retain; rfl; decide) | (apply op_faddr stream_holds; rfl; decide) | (apply op_faddr stream_recs; rfl; decide) | (apply op_load strT; rfl) | (apply op_load (intT .i64); rfl) | (apply op_load (slT strT); rfl) | (apply op_load (slT recT); rfl) | (apply op_load streamT; rfl) | (apply op_call hnq; exact bsD) | (apply op_call hhf; exact bsD) | (apply op_len (xs := s.recs); rfl) | (exact bsO)) | apply J.seq | apply E.next | apply J.lq | apply Lq.nil | apply PRun.nil | apply J.block | apply E.in_normal | apply J.skip | (apply Lq.store; rfl; rfl; exact bsP; exact bsS; rfl; rfl) | (apply PRun.al; rfl) | (apply Lq.al; rfl; rfl; intro b) | (apply Open.cons; intro b) | apply Open.nil | (apply Lq.pass; rfl; rfl; rfl) | (apply PRun.pass; rfl; rfl) | (apply Lq.skip; rfl; rfl; rfl; exact bsB) | (apply PRun.skip; rfl; rfl; exact bsB) | (apply J.drawN; exact mixed; kernel_rfl) | (apply J.cond_t; rfl) | (apply J.cond_f; rfl) | apply J.exit | apply E.then_exit | apply E.in_exit | (apply E.in_other; rfl))
    (refine J.ret ?_; (repeat (first | refine E.then_ret ?_ | refine E.in_ret ?_)))
    exact E.ret1 rfl rfl
  refine Fn.mk' 59 Tryd.func4 rfl rfl rfl rfl fun w0 H0 => ?_
  repeat (first | ((first | (apply Lq.s; rfl) | apply PRun.s | (apply Lq.run; rfl; rfl; rfl; exact bsB) | (apply PRun.run; rfl; rfl; exact bsB)); first | (apply op_box streamT; rfl) | (apply op_faddr stream_name; rfl; decide) | (apply op_faddr stream_retain; rfl; decide) | (apply op_faddr stream_holds; rfl; decide) | (apply op_faddr stream_recs; rfl; decide) | (apply op_load strT; rfl) | (apply op_load (intT .i64); rfl) | (apply op_load (slT strT); rfl) | (apply op_load (slT recT); rfl) | (apply op_load streamT; rfl) | (apply op_call hnq; exact bsD) | (apply op_call hhf; exact bsD) | (apply op_len (xs := s.recs); rfl) | (exact bsO)) | apply J.seq | apply E.next | apply J.lq | apply Lq.nil | apply PRun.nil | apply J.block | apply E.in_normal | apply J.skip | (apply Lq.store; rfl; rfl; exact bsP; exact bsS; rfl; rfl) | (apply PRun.al; rfl) | (apply Lq.al; rfl; rfl; intro b) | (apply Open.cons; intro b) | apply Open.nil | (apply Lq.pass; rfl; rfl; rfl) | (apply PRun.pass; rfl; rfl) | (apply Lq.skip; rfl; rfl; rfl; exact bsB) | (apply PRun.skip; rfl; rfl; exact bsB) | (apply J.drawN; exact mixed; kernel_rfl) | (apply J.cond_t; rfl) | (apply J.cond_f; rfl) | apply J.exit | apply E.then_exit | apply E.in_exit | (apply E.in_other; rfl))
  refine J.loop (fun i : Nat => i ≤ s.recs.length ∧ (∀ (j : Nat) (a : Rec), j < i → s.recs[j]? = some a → recOk a = true) ∧ ∀ (j : Nat) (a b : Rec), j + 1 < i → s.recs[j]? = some a → s.recs[j + 1]? = some b → a.time ≤ b.time) (fun i => [(1, ptr (streamT.cells s)), (32, sl recT.toTy s.recs), (33, is (.int .i64 (s.recs.length : Int))), (34, is (.int .i64 (i : Int)))]) (fun _ => []) (fun i => s.recs.length - i) 0 ⟨Nat.zero_le _, fun j a hj => by omega, fun j a b hj => by omega⟩ (Sub.same (by repeat' (first | exact trivial | refine ⟨rfl, ?_⟩))) ?_
  rintro i ⟨hi, hn, hp⟩
  by_cases hlt : i < s.recs.length
  · obtain ⟨q, hq⟩ : ∃ q, s.recs[i]? = some q := ⟨_, List.getElem?_eq_getElem hlt⟩
    have hrq := record_fn q
    cases ho : recOk q
    · rw [ho] at hrq
      repeat (first | ((first | (apply Lq.s; rfl) | apply PRun.s | (apply Lq.run; rfl; rfl; rfl; exact bsB) | (apply PRun.run; rfl; rfl; exact bsB)); first | (apply op_iaddr recT.toTy (x := q); rfl; rfl; exact Int.natCast_nonneg _; (rw [Int.toNat_natCast]; exact hq)) | (apply op_load recT; rfl) | (exact bsO)) | apply J.seq | apply E.next | apply J.lq | apply Lq.nil | apply PRun.nil | apply J.block | apply E.in_normal | apply J.skip | (apply Lq.store; rfl; rfl; exact bsP; exact bsS; rfl; rfl) | (apply PRun.al; rfl) | (apply Lq.al; rfl; rfl; intro b) | (apply Open.cons; intro b) | apply Open.nil | (apply Lq.pass; rfl; rfl; rfl) | (apply PRun.pass; rfl; rfl) | (apply Lq.skip; rfl; rfl; rfl; exact bsB) | (apply PRun.skip; rfl; rfl; exact bsB) | (apply J.drawN; exact mixed; kernel_rfl) | (apply J.cond_t; rfl) | (apply J.cond_f; rfl) | apply J.exit | apply E.then_exit | apply E.in_exit | (apply E.in_other; rfl))
      revert b
      intro b4
      (apply Lq.storeE (φs' := recT.cells q); rfl; rfl; exact List.Perm.refl _; exact Seg.val _ _; exact recT.len _; exact Nat.le_refl 37; exact splice_all (by rw [recT.len]; rfl)); refine Lq.frzB 4 rfl (List.Perm.refl _) ?_
      repeat (first | ((first | (apply Lq.s; rfl) | apply PRun.s | (apply Lq.run; rfl; rfl; rfl; exact bsB) | (apply PRun.run; rfl; rfl; exact bsB)); first | (apply op_box streamT; rfl) | (apply op_faddr stream_name; rfl; decide) | (apply op_faddr stream_retain; rfl; decide) | (apply op_faddr stream_holds; rfl; decide) | (apply op_faddr stream_recs; rfl; decide) | (apply op_load strT; rfl) | (apply op_load (intT .i64); rfl) | (apply op_load (slT strT); rfl) | (apply op_load (slT recT); rfl) | (apply op_load streamT; rfl) | (apply op_load recT; rfl) | (apply op_call hrq; exact bsD) | (exact bsO)) | apply J.seq | apply E.next | apply J.lq | apply Lq.nil | apply PRun.nil | apply J.block | apply E.in_normal | apply J.skip | (apply Lq.store; rfl; rfl; exact bsP; exact bsS; rfl; rfl) | (apply PRun.al; rfl) | (apply Lq.al; rfl; rfl; intro b) | (apply Open.cons; intro b) | apply Open.nil | (apply Lq.pass; rfl; rfl; rfl) | (apply PRun.pass; rfl; rfl) | (apply Lq.skip; rfl; rfl; rfl; exact bsB) | (apply PRun.skip; rfl; rfl; exact bsB) | (apply J.drawN; exact mixed; kernel_rfl) | (apply J.cond_t; rfl) | (apply J.cond_f; rfl) | apply J.exit | apply E.then_exit | apply E.in_exit | (apply E.in_other; rfl))
      (refine J.ret ?_; (repeat (first | refine E.then_ret ?_ | refine E.in_ret ?_)))
      rw [checkM_recs (recsOk_rec i q hq ho)]
      exact E.ret1 rfl rfl
    rw [ho] at hrq
    have hn' : ∀ (j : Nat) (a : Rec), j < i + 1 → s.recs[j]? = some a → recOk a = true := fun j a hj ha => by
      rcases Nat.lt_or_eq_of_le (Nat.le_of_lt_succ hj) with h | rfl
      · exact hn j a h ha
      · rw [hq] at ha; injection ha with ha; subst ha; exact ho
    cases i with
    | zero =>
      repeat (first | ((first | (apply Lq.s; rfl) | apply PRun.s | (apply Lq.run; rfl; rfl; rfl; exact bsB) | (apply PRun.run; rfl; rfl; exact bsB)); first | (apply op_iaddr recT.toTy (x := q); rfl; rfl; exact Int.natCast_nonneg _; (rw [Int.toNat_natCast]; exact hq)) | (apply op_load recT; rfl) | (exact bsO)) | apply J.seq | apply E.next | apply J.lq | apply Lq.nil | apply PRun.nil | apply J.block | apply E.in_normal | apply J.skip | (apply Lq.store; rfl; rfl; exact bsP; exact bsS; rfl; rfl) | (apply PRun.al; rfl) | (apply Lq.al; rfl; rfl; intro b) | (apply Open.cons; intro b) | apply Open.nil | (apply Lq.pass; rfl; rfl; rfl) | (apply PRun.pass; rfl; rfl) | (apply Lq.skip; rfl; rfl; rfl; exact bsB) | (apply PRun.skip; rfl; rfl; exact bsB) | (apply J.drawN; exact mixed; kernel_rfl) | (apply J.cond_t; rfl) | (apply J.cond_f; rfl) | apply J.exit | apply E.then_exit | apply E.in_exit | (apply E.in_other; rfl))
      revert b
      intro b4
      (apply Lq.storeE (φs' := recT.cells q); rfl; rfl; exact List.Perm.refl _; exact Seg.val _ _; exact recT.len _; exact Nat.le_refl 37; exact splice_all (by rw [recT.len]; rfl)); refine Lq.frzB 4 rfl (List.Perm.refl _) ?_
      repeat (first | ((first | (apply Lq.s; rfl) | apply PRun.s | (apply Lq.run; rfl; rfl; rfl; exact bsB) | (apply PRun.run; rfl; rfl; exact bsB)); first | (apply op_box streamT; rfl) | (apply op_faddr stream_name; rfl; decide) | (apply op_faddr stream_retain; rfl; decide) | (apply op_faddr stream_holds; rfl; decide) | (apply op_faddr stream_recs; rfl; decide) | (apply op_load strT; rfl) | (apply op_load (intT .i64); rfl) | (apply op_load (slT strT); rfl) | (apply op_load (slT recT); rfl) | (apply op_load streamT; rfl) | (apply op_load recT; rfl) | (apply op_call hrq; exact bsD) | (exact bsO)) | apply J.seq | apply E.next | apply J.lq | apply Lq.nil | apply PRun.nil | apply J.block | apply E.in_normal | apply J.skip | (apply Lq.store; rfl; rfl; exact bsP; exact bsS; rfl; rfl) | (apply PRun.al; rfl) | (apply Lq.al; rfl; rfl; intro b) | (apply Open.cons; intro b) | apply Open.nil | (apply Lq.pass; rfl; rfl; rfl) | (apply PRun.pass; rfl; rfl) | (apply Lq.skip; rfl; rfl; rfl; exact bsB) | (apply PRun.skip; rfl; rfl; exact bsB) | (apply J.drawN; exact mixed; kernel_rfl) | (apply J.cond_t; rfl) | (apply J.cond_f; rfl) | apply J.exit | apply E.then_exit | apply E.in_exit | (apply E.in_other; rfl))
      exact E.again 1 (by omega) ⟨by omega, hn', fun j a b hj => by omega⟩ (Sub.same (by repeat' (first | exact trivial | refine ⟨rfl, ?_⟩)))
    | succ k =>
      obtain ⟨a, ha⟩ : ∃ a, s.recs[k]? = some a := ⟨_, List.getElem?_eq_getElem (by omega)⟩
      by_cases hs : a.time ≤ q.time
      · repeat (first | ((first | (apply Lq.s; rfl) | apply PRun.s | (apply Lq.run; rfl; rfl; rfl; exact bsB) | (apply PRun.run; rfl; rfl; exact bsB)); first | (apply op_iaddr recT.toTy (x := q); rfl; rfl; exact Int.natCast_nonneg _; (rw [Int.toNat_natCast]; exact hq)) | (apply op_load recT; rfl) | (exact bsO)) | apply J.seq | apply E.next | apply J.lq | apply Lq.nil | apply PRun.nil | apply J.block | apply E.in_normal | apply J.skip | (apply Lq.store; rfl; rfl; exact bsP; exact bsS; rfl; rfl) | (apply PRun.al; rfl) | (apply Lq.al; rfl; rfl; intro b) | (apply Open.cons; intro b) | apply Open.nil | (apply Lq.pass; rfl; rfl; rfl) | (apply PRun.pass; rfl; rfl) | (apply Lq.skip; rfl; rfl; rfl; exact bsB) | (apply PRun.skip; rfl; rfl; exact bsB) | (apply J.drawN; exact mixed; kernel_rfl) | (apply J.cond_t; rfl) | (apply J.cond_f; rfl) | apply J.exit | apply E.then_exit | apply E.in_exit | (apply E.in_other; rfl))
        revert b
        intro b4
        (apply Lq.storeE (φs' := recT.cells q); rfl; rfl; exact List.Perm.refl _; exact Seg.val _ _; exact recT.len _; exact Nat.le_refl 37; exact splice_all (by rw [recT.len]; rfl)); refine Lq.frzB 4 rfl (List.Perm.refl _) ?_
        repeat (first | ((first | (apply Lq.s; rfl) | apply PRun.s | (apply Lq.run; rfl; rfl; rfl; exact bsB) | (apply PRun.run; rfl; rfl; exact bsB)); first | (apply op_box streamT; rfl) | (apply op_faddr stream_name; rfl; decide) | (apply op_faddr stream_retain; rfl; decide) | (apply op_faddr stream_holds; rfl; decide) | (apply op_faddr stream_recs; rfl; decide) | (apply op_load strT; rfl) | (apply op_load (intT .i64); rfl) | (apply op_load (slT strT); rfl) | (apply op_load (slT recT); rfl) | (apply op_load streamT; rfl) | (apply op_load recT; rfl) | (apply op_call hrq; exact bsD) | (apply op_sub (c := (k : Int)); rfl; rfl; (rw [show ((k + 1 : Nat) : Int) - 1 = (k : Int) by omega]; apply wrapi <;> omega)) | (apply op_iaddr recT.toTy (x := a); rfl; rfl; exact Int.natCast_nonneg _; (rw [Int.toNat_natCast]; exact ha)) | (apply op_faddr rec_time; rfl; decide) | (apply op_load (intT .i64); rfl) | (exact bsO)) | apply J.seq | apply E.next | apply J.lq | apply Lq.nil | apply PRun.nil | apply J.block | apply E.in_normal | apply J.skip | (apply Lq.store; rfl; rfl; exact bsP; exact bsS; rfl; rfl) | (apply PRun.al; rfl) | (apply Lq.al; rfl; rfl; intro b) | (apply Open.cons; intro b) | apply Open.nil | (apply Lq.pass; rfl; rfl; rfl) | (apply PRun.pass; rfl; rfl) | (apply Lq.skip; rfl; rfl; rfl; exact bsB) | (apply PRun.skip; rfl; rfl; exact bsB) | (apply J.drawN; exact mixed; kernel_rfl) | (apply J.cond_t; rfl) | (apply J.cond_f; rfl) | apply J.exit | apply E.then_exit | apply E.in_exit | (apply E.in_other; rfl))
        refine E.again (k + 1 + 1) (by omega) ⟨by omega, hn', fun j x y hj hx hy => ?_⟩ (Sub.same (by repeat' (first | exact trivial | refine ⟨rfl, ?_⟩)))
        rcases Nat.lt_or_eq_of_le (Nat.le_of_lt_succ hj) with h | h
        · exact hp j x y h hx hy
        · obtain rfl : j = k := by omega
          rw [ha] at hx; injection hx with hx; subst hx
          rw [hq] at hy; injection hy with hy; subst hy
          exact hs
      · repeat (first | ((first | (apply Lq.s; rfl) | apply PRun.s | (apply Lq.run; rfl; rfl; rfl; exact bsB) | (apply PRun.run; rfl; rfl; exact bsB)); first | (apply op_iaddr recT.toTy (x := q); rfl; rfl; exact Int.natCast_nonneg _; (rw [Int.toNat_natCast]; exact hq)) | (apply op_load recT; rfl) | (exact bsO)) | apply J.seq | apply E.next | apply J.lq | apply Lq.nil | apply PRun.nil | apply J.block | apply E.in_normal | apply J.skip | (apply Lq.store; rfl; rfl; exact bsP; exact bsS; rfl; rfl) | (apply PRun.al; rfl) | (apply Lq.al; rfl; rfl; intro b) | (apply Open.cons; intro b) | apply Open.nil | (apply Lq.pass; rfl; rfl; rfl) | (apply PRun.pass; rfl; rfl) | (apply Lq.skip; rfl; rfl; rfl; exact bsB) | (apply PRun.skip; rfl; rfl; exact bsB) | (apply J.drawN; exact mixed; kernel_rfl) | (apply J.cond_t; rfl) | (apply J.cond_f; rfl) | apply J.exit | apply E.then_exit | apply E.in_exit | (apply E.in_other; rfl))
        revert b
        intro b4
        (apply Lq.storeE (φs' := recT.cells q); rfl; rfl; exact List.Perm.refl _; exact Seg.val _ _; exact recT.len _; exact Nat.le_refl 37; exact splice_all (by rw [recT.len]; rfl)); refine Lq.frzB 4 rfl (List.Perm.refl _) ?_
        repeat (first | ((first | (apply Lq.s; rfl) | apply PRun.s | (apply Lq.run; rfl; rfl; rfl; exact bsB) | (apply PRun.run; rfl; rfl; exact bsB)); first | (apply op_box streamT; rfl) | (apply op_faddr stream_name; rfl; decide) | (apply op_faddr stream_retain; rfl; decide) | (apply op_faddr stream_holds; rfl; decide) | (apply op_faddr stream_recs; rfl; decide) | (apply op_load strT; rfl) | (apply op_load (intT .i64); rfl) | (apply op_load (slT strT); rfl) | (apply op_load (slT recT); rfl) | (apply op_load streamT; rfl) | (apply op_load recT; rfl) | (apply op_call hrq; exact bsD) | (apply op_sub (c := (k : Int)); rfl; rfl; (rw [show ((k + 1 : Nat) : Int) - 1 = (k : Int) by omega]; apply wrapi <;> omega)) | (apply op_iaddr recT.toTy (x := a); rfl; rfl; exact Int.natCast_nonneg _; (rw [Int.toNat_natCast]; exact ha)) | (apply op_faddr rec_time; rfl; decide) | (apply op_load (intT .i64); rfl) | (exact bsO)) | apply J.seq | apply E.next | apply J.lq | apply Lq.nil | apply PRun.nil | apply J.block | apply E.in_normal | apply J.skip | (apply Lq.store; rfl; rfl; exact bsP; exact bsS; rfl; rfl) | (apply PRun.al; rfl) | (apply Lq.al; rfl; rfl; intro b) | (apply Open.cons; intro b) | apply Open.nil | (apply Lq.pass; rfl; rfl; rfl) | (apply PRun.pass; rfl; rfl) | (apply Lq.skip; rfl; rfl; rfl; exact bsB) | (apply PRun.skip; rfl; rfl; exact bsB) | (apply J.drawN; exact mixed; kernel_rfl) | (apply J.cond_t; rfl) | (apply J.cond_f; rfl) | apply J.exit | apply E.then_exit | apply E.in_exit | (apply E.in_other; rfl))
        (refine J.ret ?_; (repeat (first | refine E.then_ret ?_ | refine E.in_ret ?_)))
        rw [checkM_recs (recsOk_asc k a q ha hq (by omega))]
        exact E.ret1 rfl rfl
  · obtain rfl : i = s.recs.length := by omega
    repeat (first | ((first | (apply Lq.s; rfl) | apply PRun.s | (apply Lq.run; rfl; rfl; rfl; exact bsB) | (apply PRun.run; rfl; rfl; exact bsB)); first | (exact bsO)) | apply J.seq | apply E.next | apply J.lq | apply Lq.nil | apply PRun.nil | apply J.block | apply E.in_normal | apply J.skip | (apply Lq.store; rfl; rfl; exact bsP; exact bsS; rfl; rfl) | (apply PRun.al; rfl) | (apply Lq.al; rfl; rfl; intro b) | (apply Open.cons; intro b) | apply Open.nil | (apply Lq.pass; rfl; rfl; rfl) | (apply PRun.pass; rfl; rfl) | (apply Lq.skip; rfl; rfl; rfl; exact bsB) | (apply PRun.skip; rfl; rfl; exact bsB) | (apply J.drawN; exact mixed; kernel_rfl) | (apply J.cond_t; rfl) | (apply J.cond_f; rfl) | apply J.exit | apply E.then_exit | apply E.in_exit | (apply E.in_other; rfl))
    (refine J.ret ?_; (repeat (first | refine E.then_ret ?_ | refine E.in_ret ?_)))
    have e : recsOk s.recs = true := by
      unfold recsOk
      rw [all_at.2 fun j a ha => hn j a (List.getElem?_eq_some_iff.1 ha).1 ha, adj_iff.2 fun j a b ha hb => decide_eq_true (hp j a b (List.getElem?_eq_some_iff.1 hb).1 ha hb), decide_eq_true h5]
      rfl
    rw [checkM_t h1 ⟨h2, h3⟩ h4 e]
    exact E.ret1 rfl rfl
attribute [local irreducible] checkM
set_option maxHeartbeats 4000000 in
theorem proofsStay (s : StreamS) (l : List EntryS) (x : UInt8) (hx : StreamOkF s) (hx2 : l.length ≤ maxLen ∧ ∀ e ∈ l, EntryOk e) (hx3 : True) : Fn Tryd.prog 3 [streamT.val s, sl entryT.toTy l, is (.int .u8 (x.toNat : Int))] (is (.bool true)) := by
  have hu : x.toNat < 256 := x.toBitVec.isLt
  by_cases hb : 64 < s.recs.length
  · have hm := hx.1.2.2.2
    unfold maxLen at hm
    refine Fn.mk' 117 Tryd.func3 rfl rfl rfl rfl fun w0 H0 => ?_
    repeat (first | ((first | (apply Lq.s; rfl) | apply PRun.s | (apply Lq.run; rfl; rfl; rfl; exact bsB) | (apply PRun.run; rfl; rfl; exact bsB)); first | (apply op_box streamT; rfl) | (apply op_faddr stream_recs; rfl; decide) | (apply op_load (slT recT); rfl) | (apply op_load streamT; rfl) | (apply op_len (xs := s.recs); rfl) | (apply op_len (xs := l); rfl) | (apply op_call lives_fn; exact bsD) | (exact bsO)) | apply J.seq | apply E.next | apply J.lq | apply Lq.nil | apply PRun.nil | apply J.block | apply E.in_normal | apply J.skip | (apply Lq.store; rfl; rfl; exact bsP; exact bsS; rfl; rfl) | (apply PRun.al; rfl) | (apply Lq.al; rfl; rfl; intro b) | (apply Open.cons; intro b) | apply Open.nil | (apply Lq.pass; rfl; rfl; rfl) | (apply PRun.pass; rfl; rfl) | (apply Lq.skip; rfl; rfl; rfl; exact bsB) | (apply PRun.skip; rfl; rfl; exact bsB) | (apply J.drawN; exact mixed; kernel_rfl) | (apply J.cond_t; rfl) | (apply J.cond_f; rfl) | apply J.exit | apply E.then_exit | apply E.in_exit | (apply E.in_other; rfl))
    (refine J.ret ?_; (repeat (first | refine E.then_ret ?_ | refine E.in_ret ?_)))
    exact E.ret1 rfl rfl
  by_cases hb2 : 20 < l.length
  · have hm := hx2.1
    unfold maxLen at hm
    refine Fn.mk' 117 Tryd.func3 rfl rfl rfl rfl fun w0 H0 => ?_
    repeat (first | ((first | (apply Lq.s; rfl) | apply PRun.s | (apply Lq.run; rfl; rfl; rfl; exact bsB) | (apply PRun.run; rfl; rfl; exact bsB)); first | (apply op_box streamT; rfl) | (apply op_faddr stream_recs; rfl; decide) | (apply op_load (slT recT); rfl) | (apply op_load streamT; rfl) | (apply op_len (xs := s.recs); rfl) | (apply op_len (xs := l); rfl) | (apply op_call lives_fn; exact bsD) | (exact bsO)) | apply J.seq | apply E.next | apply J.lq | apply Lq.nil | apply PRun.nil | apply J.block | apply E.in_normal | apply J.skip | (apply Lq.store; rfl; rfl; exact bsP; exact bsS; rfl; rfl) | (apply PRun.al; rfl) | (apply Lq.al; rfl; rfl; intro b) | (apply Open.cons; intro b) | apply Open.nil | (apply Lq.pass; rfl; rfl; rfl) | (apply PRun.pass; rfl; rfl) | (apply Lq.skip; rfl; rfl; rfl; exact bsB) | (apply PRun.skip; rfl; rfl; exact bsB) | (apply J.drawN; exact mixed; kernel_rfl) | (apply J.cond_t; rfl) | (apply J.cond_f; rfl) | apply J.exit | apply E.then_exit | apply E.in_exit | (apply E.in_other; rfl))
    (refine J.ret ?_; (repeat (first | refine E.then_ret ?_ | refine E.in_ret ?_)))
    exact E.ret1 rfl rfl
  have hck := scheck_fnL s hx.1.2.2.1 (by omega)
  cases hc : checkM s
  · rw [hc] at hck
    refine Fn.mk' 117 Tryd.func3 rfl rfl rfl rfl fun w0 H0 => ?_
    repeat (first | ((first | (apply Lq.s; rfl) | apply PRun.s | (apply Lq.run; rfl; rfl; rfl; exact bsB) | (apply PRun.run; rfl; rfl; exact bsB)); first | (apply op_box streamT; rfl) | (apply op_faddr stream_recs; rfl; decide) | (apply op_load (slT recT); rfl) | (apply op_load streamT; rfl) | (apply op_len (xs := s.recs); rfl) | (apply op_len (xs := l); rfl) | (apply op_call lives_fn; exact bsD) | (apply op_call hck; exact bsD) | (exact bsO)) | apply J.seq | apply E.next | apply J.lq | apply Lq.nil | apply PRun.nil | apply J.block | apply E.in_normal | apply J.skip | (apply Lq.store; rfl; rfl; exact bsP; exact bsS; rfl; rfl) | (apply PRun.al; rfl) | (apply Lq.al; rfl; rfl; intro b) | (apply Open.cons; intro b) | apply Open.nil | (apply Lq.pass; rfl; rfl; rfl) | (apply PRun.pass; rfl; rfl) | (apply Lq.skip; rfl; rfl; rfl; exact bsB) | (apply PRun.skip; rfl; rfl; exact bsB) | (apply J.drawN; exact mixed; kernel_rfl) | (apply J.cond_t; rfl) | (apply J.cond_f; rfl) | apply J.exit | apply E.then_exit | apply E.in_exit | (apply E.in_other; rfl))
    (refine J.ret ?_; (repeat (first | refine E.then_ret ?_ | refine E.in_ret ?_)))
    exact E.ret1 rfl rfl
  rw [hc] at hck
  obtain ⟨hsr, hsh⟩ := chk_len hc
  refine Fn.mk' 117 Tryd.func3 rfl rfl rfl rfl fun w0 H0 => ?_
  repeat (first | ((first | (apply Lq.s; rfl) | apply PRun.s | (apply Lq.run; rfl; rfl; rfl; exact bsB) | (apply PRun.run; rfl; rfl; exact bsB)); first | (apply op_box streamT; rfl) | (apply op_faddr stream_recs; rfl; decide) | (apply op_load (slT recT); rfl) | (apply op_load streamT; rfl) | (apply op_len (xs := s.recs); rfl) | (apply op_len (xs := l); rfl) | (apply op_call lives_fn; exact bsD) | (apply op_call hck; exact bsD) | (exact bsO)) | apply J.seq | apply E.next | apply J.lq | apply Lq.nil | apply PRun.nil | apply J.block | apply E.in_normal | apply J.skip | (apply Lq.store; rfl; rfl; exact bsP; exact bsS; rfl; rfl) | (apply PRun.al; rfl) | (apply Lq.al; rfl; rfl; intro b) | (apply Open.cons; intro b) | apply Open.nil | (apply Lq.pass; rfl; rfl; rfl) | (apply PRun.pass; rfl; rfl) | (apply Lq.skip; rfl; rfl; rfl; exact bsB) | (apply PRun.skip; rfl; rfl; exact bsB) | (apply J.cond_t; rfl) | (apply J.cond_f; rfl) | apply J.exit | apply E.then_exit | apply E.in_exit | (apply E.in_other; rfl))
  revert b
  intro b7
  refine J.res1 (r' := own b7 25 (streamT.cells s)) (by exact bsP) (fun H w h => ⟨h, rfl⟩) ?_
  refine J.loop (fun p : Nat × StreamS => p.1 ≤ l.length ∧ checkM p.2 = true ∧ Pre s p.2) (fun p => [(1, sl entryT.toTy l), (2, is (.int .u8 (x.toNat : Int))), (3, ptr (streamT.cells s)), (7, is (.pointer (some ⟨b7, 0, none⟩))), (8, is (.int .i64 (p.1 : Int)))]) (fun p => [own b7 25 (streamT.cells p.2)]) (fun p => l.length - p.1) (0, s) ⟨Nat.zero_le _, hc, Pre.refl s⟩ ⟨(by repeat' (first | exact trivial | refine ⟨rfl, ?_⟩)), [], List.Perm.refl _⟩ ?_
  rintro ⟨i, t⟩ ⟨hi, ht, hp⟩
  dsimp only at hi ht hp ⊢
  by_cases hlt : i < l.length
  · obtain ⟨e, hq⟩ : ∃ e, l[i]? = some e := ⟨_, List.getElem?_eq_getElem hlt⟩
    obtain ⟨htr, hth⟩ := chk_len ht
    have ha := apply_fn t e (by omega) (by omega)
    repeat (first | ((first | (apply Lq.s; rfl) | apply PRun.s | (apply Lq.run; rfl; rfl; rfl; exact bsB) | (apply PRun.run; rfl; rfl; exact bsB)); first | (apply op_box streamT; rfl) | (apply op_faddr stream_recs; rfl; decide) | (apply op_load (slT recT); rfl) | (apply op_load streamT; rfl) | (apply op_len (xs := s.recs); rfl) | (apply op_len (xs := l); rfl) | (apply op_call lives_fn; exact bsD) | (exact bsO)) | apply J.seq | apply E.next | apply J.lq | apply Lq.nil | apply PRun.nil | apply J.block | apply E.in_normal | apply J.skip | (apply Lq.store; rfl; rfl; exact bsP; exact bsS; rfl; rfl) | (apply PRun.al; rfl) | (apply Lq.al; rfl; rfl; intro b) | (apply Open.cons; intro b) | apply Open.nil | (apply Lq.pass; rfl; rfl; rfl) | (apply PRun.pass; rfl; rfl) | (apply Lq.skip; rfl; rfl; rfl; exact bsB) | (apply PRun.skip; rfl; rfl; exact bsB) | (apply J.cond_t; rfl) | (apply J.cond_f; rfl) | apply J.exit | apply E.then_exit | apply E.in_exit | (apply E.in_other; rfl))
    by_cases h0 : (applyM t e).2 = 0
    case neg =>
      have hz := applyM_err h0
      rw [hz] at ha
      generalize (applyM t e).2 = z at *
      refine J.drawW 11 [(none, none), (none, none), (none, none), (none, none), (none, none), (none, none), (none, none), (none, none), (none, none), (none, some 9), (some 9, some 9)] mixed (by kernel_rfl) ?_
      repeat (first | ((first | apply PRunW.s | (apply PRunW.run; rfl; rfl; exact bsB) | (apply Lq.s; rfl) | apply PRun.s | (apply Lq.run; rfl; rfl; rfl; exact bsB) | (apply PRun.run; rfl; rfl; exact bsB)); first | (apply op_box streamT; rfl) | (apply op_faddr stream_recs; rfl; decide) | (apply op_load (slT recT); rfl) | (apply op_load streamT; rfl) | (apply op_len (xs := s.recs); rfl) | (apply op_len (xs := l); rfl) | (apply op_call lives_fn; exact bsD) | (apply op_iaddr entryT.toTy (x := e); rfl; rfl; exact Int.natCast_nonneg _; (rw [Int.toNat_natCast]; exact hq)) | (apply op_load entryT; rfl) | (apply op_call ha; exact bsD) | (apply op_oload streamT (x := t); rfl; exact bsM; rfl) | (exact bsO)) | apply J.seq | apply E.next | apply J.lq | apply Lq.nil | apply PRun.nil | apply J.block | apply E.in_normal | apply J.skip | (apply Lq.store; rfl; rfl; exact bsP; exact bsS; rfl; rfl) | (apply PRun.al; rfl) | (apply Lq.al; rfl; rfl; intro b) | (apply Open.cons; intro b) | apply Open.nil | (apply Lq.pass; rfl; rfl; rfl) | (apply PRun.pass; rfl; rfl) | (apply Lq.skip; rfl; rfl; rfl; exact bsB) | (apply PRun.skip; rfl; rfl; exact bsB) | (apply J.cond_t; rfl) | (apply J.cond_f; rfl) | apply J.exit | apply E.then_exit | apply E.in_exit | (apply E.in_other; rfl) | apply PRunW.nil | (apply PRunW.al; rfl) | (apply PRunW.pass; rfl; rfl) | (apply PRunW.skip; rfl; rfl; exact bsB) | (apply Open.pv; intro b) | apply Open.av | (apply Open.rv; intro A c))
      (apply PRunW.st (φs' := streamT.cells zeroS); rfl; rfl; exact Seg.val streamT _; rfl; exact Nat.le_refl 4; rfl)
      repeat (first | ((first | apply PRunW.s | (apply PRunW.run; rfl; rfl; exact bsB) | (apply Lq.s; rfl) | apply PRun.s | (apply Lq.run; rfl; rfl; rfl; exact bsB) | (apply PRun.run; rfl; rfl; exact bsB)); first | (apply op_box streamT; rfl) | (apply op_faddr stream_recs; rfl; decide) | (apply op_load (slT recT); rfl) | (apply op_load streamT; rfl) | (apply op_len (xs := s.recs); rfl) | (apply op_len (xs := l); rfl) | (apply op_call lives_fn; exact bsD) | (apply op_add (c := ((i + 1 : Nat) : Int)); rfl; rfl; (rw [show (i : Int) + 1 = ((i + 1 : Nat) : Int) by omega]; apply wrapi <;> omega)) | (exact bsO)) | apply J.seq | apply E.next | apply J.lq | apply Lq.nil | apply PRun.nil | apply J.block | apply E.in_normal | apply J.skip | (apply Lq.store; rfl; rfl; exact bsP; exact bsS; rfl; rfl) | (apply PRun.al; rfl) | (apply Lq.al; rfl; rfl; intro b) | (apply Open.cons; intro b) | apply Open.nil | (apply Lq.pass; rfl; rfl; rfl) | (apply PRun.pass; rfl; rfl) | (apply Lq.skip; rfl; rfl; rfl; exact bsB) | (apply PRun.skip; rfl; rfl; exact bsB) | (apply J.cond_t; rfl) | (apply J.cond_f; rfl) | apply J.exit | apply E.then_exit | apply E.in_exit | (apply E.in_other; rfl) | apply PRunW.nil | (apply PRunW.al; rfl) | (apply PRunW.pass; rfl; rfl) | (apply PRunW.skip; rfl; rfl; exact bsB) | (apply Open.pv; intro b) | apply Open.av | (apply Open.rv; intro A c))
      exact E.again (i + 1, t) (by dsimp only; omega) ⟨by dsimp only; omega, ht, hp⟩ ⟨(by repeat' (first | exact trivial | refine ⟨rfl, ?_⟩)), [_], bsP⟩
    obtain ⟨_, he, hr⟩ := applyM_ok h0
    have hres := check_res ht he
    have hp2 := hp.step e
    rw [h0, hr] at ha
    clear h0 hr
    generalize resM t e = q at *
    refine J.drawW 11 [(none, none), (none, none), (none, none), (none, none), (none, none), (none, none), (none, none), (none, none), (none, none), (none, some 9), (some 9, some 9)] mixed (by kernel_rfl) ?_
    repeat (first | ((first | apply PRunW.s | (apply PRunW.run; rfl; rfl; exact bsB) | (apply Lq.s; rfl) | apply PRun.s | (apply Lq.run; rfl; rfl; rfl; exact bsB) | (apply PRun.run; rfl; rfl; exact bsB)); first | (apply op_box streamT; rfl) | (apply op_faddr stream_recs; rfl; decide) | (apply op_load (slT recT); rfl) | (apply op_load streamT; rfl) | (apply op_len (xs := s.recs); rfl) | (apply op_len (xs := l); rfl) | (apply op_call lives_fn; exact bsD) | (apply op_iaddr entryT.toTy (x := e); rfl; rfl; exact Int.natCast_nonneg _; (rw [Int.toNat_natCast]; exact hq)) | (apply op_load entryT; rfl) | (apply op_call ha; exact bsD) | (apply op_oload streamT (x := t); rfl; exact bsM; rfl) | (exact bsO)) | apply J.seq | apply E.next | apply J.lq | apply Lq.nil | apply PRun.nil | apply J.block | apply E.in_normal | apply J.skip | (apply Lq.store; rfl; rfl; exact bsP; exact bsS; rfl; rfl) | (apply PRun.al; rfl) | (apply Lq.al; rfl; rfl; intro b) | (apply Open.cons; intro b) | apply Open.nil | (apply Lq.pass; rfl; rfl; rfl) | (apply PRun.pass; rfl; rfl) | (apply Lq.skip; rfl; rfl; rfl; exact bsB) | (apply PRun.skip; rfl; rfl; exact bsB) | (apply J.cond_t; rfl) | (apply J.cond_f; rfl) | apply J.exit | apply E.then_exit | apply E.in_exit | (apply E.in_other; rfl) | apply PRunW.nil | (apply PRunW.al; rfl) | (apply PRunW.pass; rfl; rfl) | (apply PRunW.skip; rfl; rfl; exact bsB) | (apply Open.pv; intro b) | apply Open.av | (apply Open.rv; intro A c))
    (apply PRunW.st (φs' := streamT.cells q); rfl; rfl; exact Seg.val streamT _; rfl; exact Nat.le_refl 4; rfl)
    repeat (first | ((first | apply PRunW.s | (apply PRunW.run; rfl; rfl; exact bsB) | (apply Lq.s; rfl) | apply PRun.s | (apply Lq.run; rfl; rfl; rfl; exact bsB) | (apply PRun.run; rfl; rfl; exact bsB)); first | (apply op_box streamT; rfl) | (apply op_faddr stream_recs; rfl; decide) | (apply op_load (slT recT); rfl) | (apply op_load streamT; rfl) | (apply op_len (xs := s.recs); rfl) | (apply op_len (xs := l); rfl) | (apply op_call lives_fn; exact bsD) | (apply op_oload streamT (x := q); rfl; exact bsM; rfl) | (apply op_add (c := ((i + 1 : Nat) : Int)); rfl; rfl; (rw [show (i : Int) + 1 = ((i + 1 : Nat) : Int) by omega]; apply wrapi <;> omega)) | (exact bsO)) | apply J.seq | apply E.next | apply J.lq | apply Lq.nil | apply PRun.nil | apply J.block | apply E.in_normal | apply J.skip | (apply Lq.store; rfl; rfl; exact bsP; exact bsS; rfl; rfl) | (apply PRun.al; rfl) | (apply Lq.al; rfl; rfl; intro b) | (apply Open.cons; intro b) | apply Open.nil | (apply Lq.pass; rfl; rfl; rfl) | (apply PRun.pass; rfl; rfl) | (apply Lq.skip; rfl; rfl; rfl; exact bsB) | (apply PRun.skip; rfl; rfl; exact bsB) | (apply J.cond_t; rfl) | (apply J.cond_f; rfl) | apply J.exit | apply E.then_exit | apply E.in_exit | (apply E.in_other; rfl) | apply PRunW.nil | (apply PRunW.al; rfl) | (apply PRunW.pass; rfl; rfl) | (apply PRunW.skip; rfl; rfl; exact bsB) | (apply Open.pv; intro b) | apply Open.av | (apply Open.rv; intro A c))
    exact E.again (i + 1, q) (by dsimp only; omega) ⟨by dsimp only; omega, hres, hp2⟩ ⟨(by repeat' (first | exact trivial | refine ⟨rfl, ?_⟩)), [_], bsP⟩
  have hk : x.toNat % (s.recs.length + 1) ≤ s.recs.length := Nat.le_of_lt_succ (Nat.mod_lt _ (Nat.succ_pos _))
  obtain ⟨htr, hth⟩ := chk_len ht
  repeat (first | ((first | (apply Lq.s; rfl) | apply PRun.s | (apply Lq.run; rfl; rfl; rfl; exact bsB) | (apply PRun.run; rfl; rfl; exact bsB)); first | (apply op_box streamT; rfl) | (apply op_faddr stream_recs; rfl; decide) | (apply op_load (slT recT); rfl) | (apply op_load streamT; rfl) | (apply op_len (xs := s.recs); rfl) | (apply op_len (xs := l); rfl) | (apply op_call lives_fn; exact bsD) | (apply op_conv (c := (x.toNat : Int)); rfl; (apply wrapi <;> omega)) | (apply op_add (c := ((s.recs.length + 1 : Nat) : Int)); rfl; rfl; (rw [show (s.recs.length : Int) + 1 = ((s.recs.length + 1 : Nat) : Int) by omega]; apply wrapi <;> omega)) | (apply op_remn (m := x.toNat) (n := s.recs.length + 1); rfl; rfl; exact Nat.succ_ne_zero _) | (exact bsO)) | apply J.seq | apply E.next | apply J.lq | apply Lq.nil | apply PRun.nil | apply J.block | apply E.in_normal | apply J.skip | (apply Lq.store; rfl; rfl; exact bsP; exact bsS; rfl; rfl) | (apply PRun.al; rfl) | (apply Lq.al; rfl; rfl; intro b) | (apply Open.cons; intro b) | apply Open.nil | (apply Lq.pass; rfl; rfl; rfl) | (apply PRun.pass; rfl; rfl) | (apply Lq.skip; rfl; rfl; rfl; exact bsB) | (apply PRun.skip; rfl; rfl; exact bsB) | (apply J.cond_t; rfl) | (apply J.cond_f; rfl) | apply J.exit | apply E.then_exit | apply E.in_exit | (apply E.in_other; rfl))
  revert hk
  generalize x.toNat % (s.recs.length + 1) = k
  intro hk
  have hkt := Nat.le_trans hk (pre_len hp)
  have r1 := proot_ok s k (by omega) hk
  have r2 := proot_ok t k (by omega) hkt
  have hpt := pre_take hp hk
  rw [hpt] at r2
  generalize mroot ((lvs s).take k) = h at *
  refine Lq.res1 (r' := own b7 25 (streamT.cells t)) (by exact bsP) (fun H w h => ⟨h, rfl⟩) ?_
  refine Lq.frzB 7 rfl (List.Perm.refl _) ?_
  repeat (first | ((first | (apply Lq.s; rfl) | apply PRun.s | (apply Lq.run; rfl; rfl; rfl; exact bsB) | (apply PRun.run; rfl; rfl; exact bsB)); first | (apply op_box streamT; rfl) | (apply op_faddr stream_recs; rfl; decide) | (apply op_load (slT recT); rfl) | (apply op_load streamT; rfl) | (apply op_len (xs := s.recs); rfl) | (apply op_len (xs := l); rfl) | (apply op_call lives_fn; exact bsD) | (apply op_call r1; exact bsD) | (exact bsO)) | apply J.seq | apply E.next | apply J.lq | apply Lq.nil | apply PRun.nil | apply J.block | apply E.in_normal | apply J.skip | (apply Lq.store; rfl; rfl; exact bsP; exact bsS; rfl; rfl) | (apply PRun.al; rfl) | (apply Lq.al; rfl; rfl; intro b) | (apply Open.cons; intro b) | apply Open.nil | (apply Lq.pass; rfl; rfl; rfl) | (apply PRun.pass; rfl; rfl) | (apply Lq.skip; rfl; rfl; rfl; exact bsB) | (apply PRun.skip; rfl; rfl; exact bsB) | (apply J.cond_t; rfl) | (apply J.cond_f; rfl) | apply J.exit | apply E.then_exit | apply E.in_exit | (apply E.in_other; rfl))
  (apply Lq.storeE (φs' := hashT.cells h); rfl; rfl; exact List.Perm.refl _; exact Seg.val _ _; exact hashT.len _; exact Nat.le_refl 32; exact splice_all (by rw [hashT.len]; rfl))
  repeat (first | ((first | (apply Lq.s; rfl) | apply PRun.s | (apply Lq.run; rfl; rfl; rfl; exact bsB) | (apply PRun.run; rfl; rfl; exact bsB)); first | (apply op_box streamT; rfl) | (apply op_faddr stream_recs; rfl; decide) | (apply op_load (slT recT); rfl) | (apply op_load streamT; rfl) | (apply op_len (xs := s.recs); rfl) | (apply op_len (xs := l); rfl) | (apply op_call lives_fn; exact bsD) | (apply op_call r2; exact bsD) | (exact bsO)) | apply J.seq | apply E.next | apply J.lq | apply Lq.nil | apply PRun.nil | apply J.block | apply E.in_normal | apply J.skip | (apply Lq.store; rfl; rfl; exact bsP; exact bsS; rfl; rfl) | (apply PRun.al; rfl) | (apply Lq.al; rfl; rfl; intro b) | (apply Open.cons; intro b) | apply Open.nil | (apply Lq.pass; rfl; rfl; rfl) | (apply PRun.pass; rfl; rfl) | (apply Lq.skip; rfl; rfl; rfl; exact bsB) | (apply PRun.skip; rfl; rfl; exact bsB) | (apply J.cond_t; rfl) | (apply J.cond_f; rfl) | apply J.exit | apply E.then_exit | apply E.in_exit | (apply E.in_other; rfl))
  (apply Lq.storeE (φs' := hashT.cells h); rfl; rfl; exact List.Perm.refl _; exact Seg.val _ _; exact hashT.len _; exact Nat.le_refl 32; exact splice_all (by rw [hashT.len]; rfl))
  repeat (first | ((first | (apply Lq.s; rfl) | apply PRun.s | (apply Lq.run; rfl; rfl; rfl; exact bsB) | (apply PRun.run; rfl; rfl; exact bsB)); first | (apply op_box streamT; rfl) | (apply op_faddr stream_recs; rfl; decide) | (apply op_load (slT recT); rfl) | (apply op_load streamT; rfl) | (apply op_len (xs := s.recs); rfl) | (apply op_len (xs := l); rfl) | (apply op_call lives_fn; exact bsD) | (apply op_oload hashT (x := h); rfl; exact bsM; exact at_hash h) | (apply op_neA_f (T := hashT) (m := 2) (eqd_arr eqd_u8) rfl rfl; rfl; rfl; rfl) | (exact bsO)) | apply J.seq | apply E.next | apply J.lq | apply Lq.nil | apply PRun.nil | apply J.block | apply E.in_normal | apply J.skip | (apply Lq.store; rfl; rfl; exact bsP; exact bsS; rfl; rfl) | (apply PRun.al; rfl) | (apply Lq.al; rfl; rfl; intro b) | (apply Open.cons; intro b) | apply Open.nil | (apply Lq.pass; rfl; rfl; rfl) | (apply PRun.pass; rfl; rfl) | (apply Lq.skip; rfl; rfl; rfl; exact bsB) | (apply PRun.skip; rfl; rfl; exact bsB) | (apply J.cond_t; rfl) | (apply J.cond_f; rfl) | apply J.exit | apply E.then_exit | apply E.in_exit | (apply E.in_other; rfl))
  refine J.loop (fun j : Nat => j ≤ k) (fun j => [(3, ptr (streamT.cells s)), (7, ptr (streamT.cells t)), (11, is (.int .i64 (k : Int))), (16, is (.int .i64 (j : Int)))]) (fun _ => []) (fun j => k - j) 0 (Nat.zero_le _) ⟨(by repeat' (first | exact trivial | refine ⟨rfl, ?_⟩)), [_, _], List.Perm.refl _⟩ ?_
  rintro j hj
  by_cases hjk : j < k
  · have i1 := pinc_ok s j k (by omega) hk hjk
    have i2 := pinc_ok t j k (by omega) hkt hjk
    rw [hpt] at i2
    have hil := inc_le k ((lvs s).take k) j (by rw [List.length_take, lvs_len]; omega)
    generalize inc ((lvs s).take k) j = p at *
    have sf := same25_fn p (by omega)
    repeat (first | ((first | (apply Lq.s; rfl) | apply PRun.s | (apply Lq.run; rfl; rfl; rfl; exact bsB) | (apply PRun.run; rfl; rfl; exact bsB)); first | (apply op_box streamT; rfl) | (apply op_faddr stream_recs; rfl; decide) | (apply op_load (slT recT); rfl) | (apply op_load streamT; rfl) | (apply op_len (xs := s.recs); rfl) | (apply op_len (xs := l); rfl) | (apply op_call lives_fn; exact bsD) | (apply op_call i1; exact bsD) | (apply op_call i2; exact bsD) | (apply op_call sf; exact bsD) | (apply op_add (c := ((j + 1 : Nat) : Int)); rfl; rfl; (rw [show (j : Int) + 1 = ((j + 1 : Nat) : Int) by omega]; apply wrapi <;> omega)) | (exact bsO)) | apply J.seq | apply E.next | apply J.lq | apply Lq.nil | apply PRun.nil | apply J.block | apply E.in_normal | apply J.skip | (apply Lq.store; rfl; rfl; exact bsP; exact bsS; rfl; rfl) | (apply PRun.al; rfl) | (apply Lq.al; rfl; rfl; intro b) | (apply Open.cons; intro b) | apply Open.nil | (apply Lq.pass; rfl; rfl; rfl) | (apply PRun.pass; rfl; rfl) | (apply Lq.skip; rfl; rfl; rfl; exact bsB) | (apply PRun.skip; rfl; rfl; exact bsB) | (apply J.cond_t; rfl) | (apply J.cond_f; rfl) | apply J.exit | apply E.then_exit | apply E.in_exit | (apply E.in_other; rfl))
    exact E.again (j + 1) (by omega) (by omega) ⟨(by repeat' (first | exact trivial | refine ⟨rfl, ?_⟩)), [], List.Perm.refl _⟩
  · repeat (first | ((first | (apply Lq.s; rfl) | apply PRun.s | (apply Lq.run; rfl; rfl; rfl; exact bsB) | (apply PRun.run; rfl; rfl; exact bsB)); first | (apply op_box streamT; rfl) | (apply op_faddr stream_recs; rfl; decide) | (apply op_load (slT recT); rfl) | (apply op_load streamT; rfl) | (apply op_len (xs := s.recs); rfl) | (apply op_len (xs := l); rfl) | (apply op_call lives_fn; exact bsD) | (exact bsO)) | apply J.seq | apply E.next | apply J.lq | apply Lq.nil | apply PRun.nil | apply J.block | apply E.in_normal | apply J.skip | (apply Lq.store; rfl; rfl; exact bsP; exact bsS; rfl; rfl) | (apply PRun.al; rfl) | (apply Lq.al; rfl; rfl; intro b) | (apply Open.cons; intro b) | apply Open.nil | (apply Lq.pass; rfl; rfl; rfl) | (apply PRun.pass; rfl; rfl) | (apply Lq.skip; rfl; rfl; rfl; exact bsB) | (apply PRun.skip; rfl; rfl; exact bsB) | (apply J.cond_t; rfl) | (apply J.cond_f; rfl) | apply J.exit | apply E.then_exit | apply E.in_exit | (apply E.in_other; rfl))
    (refine J.ret ?_; (repeat (first | refine E.then_ret ?_ | refine E.in_ret ?_)))
    exact E.ret1 rfl rfl
end Go.Proofs.YtafbkgijahinkaaDoor.L
