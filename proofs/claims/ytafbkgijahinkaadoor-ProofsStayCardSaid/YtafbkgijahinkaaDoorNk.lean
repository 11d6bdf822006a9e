/-
  The leaves of a stream, walked.
-/
import Derived.Test.YtafbkgijahinkaaDoorNs
import Derived.Test.YtafbkgijahinkaaDoorLu
import Derived.Test.YtafbkgijahinkaaDoorLz
namespace Go.Proofs.YtafbkgijahinkaaDoor.L
open Go
set_option linter.unusedSectionVars false
variable [Globs]
set_option linter.unusedVariables false
/-- The leaves of a stream. -/
def lvs (s : StreamS) : List Hash := s.recs.map Rec.hash
theorem lvs_len (s : StreamS) : (lvs s).length = s.recs.length := List.length_map _
theorem lvs_at {s : StreamS} {i : Nat} {r : Rec} (h : s.recs[i]? = some r) : (lvs s)[i]? = some r.hash := by unfold lvs; rw [List.getElem?_map, h]; rfl
theorem lvs_take {s : StreamS} {i : Nat} {r : Rec} (h : s.recs[i]? = some r) : (lvs s).take i ++ [r.hash] = (lvs s).take (i + 1) := by rw [List.take_add_one, lvs_at h]; rfl
theorem at_rec (r : Rec) : ((recT.cells r).drop (0 + 2)).take hashT.sz = hashT.cells r.hash := by
  show (hashT.cells r.hash ++ _).take 32 = _
  exact List.take_left' (hashT.len _)
theorem wrap_le {i n : Nat} (h : i < n) (hn : n ≤ 100000) : IntKind.i64.wrap ((i : Int) + 1) = ((i + 1 : Nat) : Int) := by
  rw [show (i : Int) + 1 = ((i + 1 : Nat) : Int) by omega]; apply wrapi <;> omega
set_option linter.unusedVariables false
set_option linter.unusedSimpArgs false
attribute [local irreducible] J Lq E OpP PRun is any agg tup ptr sl PRunW OpE
attribute [local irreducible] ownAt row lvs
theorem hashes_fn (s : StreamS) (hl : s.recs.length ≤ 90000) : Fn Tryd.prog 34 [streamT.val s] (sl hashT.toTy (lvs s)) := by
  have hll := lvs_len s
  refine Fn.mk' 20 Tryd.func34 rfl rfl rfl rfl fun w0 H0 => ?_
  repeat (first | ((first | (apply Lq.s; rfl) | apply PRun.s | (apply Lq.run; rfl; rfl; rfl; exact bsB) | (apply PRun.run; rfl; rfl; exact bsB)); first | (apply op_box streamT; rfl) | (apply op_faddr stream_recs; rfl; decide) | (apply op_load (slT recT); rfl) | (apply op_load streamT; rfl) | (apply op_len (xs := s.recs); rfl) | (exact bsO)) | apply J.seq | apply E.next | apply J.lq | apply Lq.nil | apply PRun.nil | apply J.block | apply E.in_normal | apply J.skip | (apply Lq.store; rfl; rfl; exact bsP; exact bsS; rfl; rfl) | (apply PRun.al; rfl) | (apply Lq.al; rfl; rfl; intro b) | (apply Open.cons; intro b) | apply Open.nil | (apply Lq.pass; rfl; rfl; rfl) | (apply PRun.pass; rfl; rfl) | (apply Lq.skip; rfl; rfl; rfl; exact bsB) | (apply PRun.skip; rfl; rfl; exact bsB) | (apply J.cond_t; rfl) | (apply J.cond_f; rfl) | apply J.exit | apply E.then_exit | apply E.in_exit | (apply E.in_other; rfl))
  refine J.nilrow 32 hashT.toTy ?_
  refine J.loop (fun p : Nat × Option Addr × Nat => p.1 ≤ s.recs.length) (fun p => [(1, ptr (streamT.cells s)), (7, sl recT.toTy s.recs), (8, is (.int .i64 (s.recs.length : Int))), (9, is (.int .i64 (p.1 : Int))), (3, is (.slice p.2.1 ((lvs s).take p.1).length p.2.2))])
    (fun p => [row (.slice p.2.1 ((lvs s).take p.1).length p.2.2) 32 hashT.toTy ((lvs s).take p.1)]) (fun p => s.recs.length - p.1) (0, none, 0) (Nat.zero_le _) ?_ ?_
  · dsimp only
    rw [List.take_zero]
    exact (Sub.same (by repeat' (first | exact trivial | refine ⟨rfl, ?_⟩)))
  rintro ⟨i, A, c⟩ hi
  dsimp only at hi ⊢
  have htl : ((lvs s).take i).length = i := by rw [List.length_take]; omega
  by_cases hlt : i < s.recs.length
  · obtain ⟨r, hr⟩ : ∃ r, s.recs[i]? = some r := ⟨_, List.getElem?_eq_getElem hlt⟩
    have hts := lvs_take hr
    repeat (first | ((first | (apply Lq.s; rfl) | apply PRun.s | (apply Lq.run; rfl; rfl; rfl; exact bsB) | (apply PRun.run; rfl; rfl; exact bsB)); first | (apply op_iaddr recT.toTy (x := r); rfl; rfl; exact Int.natCast_nonneg _; (rw [Int.toNat_natCast]; exact hr)) | (apply op_load recT; rfl) | (exact bsO)) | apply J.seq | apply E.next | apply J.lq | apply Lq.nil | apply PRun.nil | apply J.block | apply E.in_normal | apply J.skip | (apply Lq.store; rfl; rfl; exact bsP; exact bsS; rfl; rfl) | (apply PRun.al; rfl) | (apply Lq.al; rfl; rfl; intro b) | (apply Open.cons; intro b) | apply Open.nil | (apply Lq.pass; rfl; rfl; rfl) | (apply PRun.pass; rfl; rfl) | (apply Lq.skip; rfl; rfl; rfl; exact bsB) | (apply PRun.skip; rfl; rfl; exact bsB) | (apply J.cond_t; rfl) | (apply J.cond_f; rfl) | apply J.exit | apply E.then_exit | apply E.in_exit | (apply E.in_other; rfl))
    revert b
    intro b4
    (apply Lq.storeE (φs' := recT.cells r); rfl; rfl; exact List.Perm.refl _; exact Seg.val _ _; exact recT.len _; exact Nat.le_refl 37; exact splice_all (by rw [recT.len]; rfl))
    repeat (first | ((first | (apply Lq.s; rfl) | apply PRun.s | (apply Lq.run; rfl; rfl; rfl; exact bsB) | (apply PRun.run; rfl; rfl; exact bsB)); first | (apply op_oload hashT (x := r.hash); rfl; exact bsM; exact at_rec r) | (apply op_bslice hashT (xs := [r.hash]); (repeat (first | exact PO.nil _ | (apply PO.cons; rfl))); rfl; rfl; rfl) | (exact bsO)) | apply J.seq | apply E.next | apply J.lq | apply Lq.nil | apply PRun.nil | apply J.block | apply E.in_normal | apply J.skip | (apply Lq.store; rfl; rfl; exact bsP; exact bsS; rfl; rfl) | (apply PRun.al; rfl) | (apply Lq.al; rfl; rfl; intro b) | (apply Open.cons; intro b) | apply Open.nil | (apply Lq.pass; rfl; rfl; rfl) | (apply PRun.pass; rfl; rfl) | (apply Lq.skip; rfl; rfl; rfl; exact bsB) | (apply PRun.skip; rfl; rfl; exact bsB) | (apply J.cond_t; rfl) | (apply J.cond_f; rfl) | apply J.exit | apply E.then_exit | apply E.in_exit | (apply E.in_other; rfl))
    (apply Lq.append (T := hashT) (xs := (lvs s).take i) (ys := [r.hash]); rfl; exact List.Perm.swap _ _ _; (apply From.sl; rfl); rfl; rfl; rfl; (show _ + 1 ≤ maxLen; unfold maxLen; omega); (show (_ + 1) * 32 ≤ _; omega))
    intro A1 c1
    rw [hts]
    repeat (first | ((first | (apply Lq.s; rfl) | apply PRun.s | (apply Lq.run; rfl; rfl; rfl; exact bsB) | (apply PRun.run; rfl; rfl; exact bsB)); first | (apply op_add (c := ((i + 1 : Nat) : Int)); rfl; rfl; exact wrap_le hlt (by omega)) | (exact bsO)) | apply J.seq | apply E.next | apply J.lq | apply Lq.nil | apply PRun.nil | apply J.block | apply E.in_normal | apply J.skip | (apply Lq.store; rfl; rfl; exact bsP; exact bsS; rfl; rfl) | (apply PRun.al; rfl) | (apply Lq.al; rfl; rfl; intro b) | (apply Open.cons; intro b) | apply Open.nil | (apply Lq.pass; rfl; rfl; rfl) | (apply PRun.pass; rfl; rfl) | (apply Lq.skip; rfl; rfl; rfl; exact bsB) | (apply PRun.skip; rfl; rfl; exact bsB) | (apply J.cond_t; rfl) | (apply J.cond_f; rfl) | apply J.exit | apply E.then_exit | apply E.in_exit | (apply E.in_other; rfl))
    exact E.again (i + 1, A1, c1) (by dsimp only; omega) (by dsimp only; omega) ⟨(by repeat' (first | exact trivial | refine ⟨rfl, ?_⟩)), [_], List.Perm.refl _⟩
  · obtain rfl : i = s.recs.length := by omega
    rw [List.take_of_length_le (by omega)]
    repeat (first | ((first | (apply Lq.s; rfl) | apply PRun.s | (apply Lq.run; rfl; rfl; rfl; exact bsB) | (apply PRun.run; rfl; rfl; exact bsB)); first | (exact bsO)) | apply J.seq | apply E.next | apply J.lq | apply Lq.nil | apply PRun.nil | apply J.block | apply E.in_normal | apply J.skip | (apply Lq.store; rfl; rfl; exact bsP; exact bsS; rfl; rfl) | (apply PRun.al; rfl) | (apply Lq.al; rfl; rfl; intro b) | (apply Open.cons; intro b) | apply Open.nil | (apply Lq.pass; rfl; rfl; rfl) | (apply PRun.pass; rfl; rfl) | (apply Lq.skip; rfl; rfl; rfl; exact bsB) | (apply PRun.skip; rfl; rfl; exact bsB) | (apply J.cond_t; rfl) | (apply J.cond_f; rfl) | apply J.exit | apply E.then_exit | apply E.in_exit | (apply E.in_other; rfl))
    (refine J.ret ?_; (repeat (first | refine E.then_ret ?_ | refine E.in_ret ?_)))
    refine E.freeze 2 rfl (List.Perm.refl _) ?_
    exact E.ret1 rfl rfl
end Go.Proofs.YtafbkgijahinkaaDoor.L
