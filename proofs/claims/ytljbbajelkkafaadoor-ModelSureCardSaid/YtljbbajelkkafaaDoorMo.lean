/-
  Grown, and the law ModelSure.
-/
import Derived.Test.YtljbbajelkkafaaDoorMl
import Derived.Test.YtljbbajelkkafaaDoorMq
namespace Go.Proofs.YtljbbajelkkafaaDoor.L
open Go
set_option linter.unusedSectionVars false
variable [Globs] [Has_sha_table] [Has_sha_begin]
set_option linter.unusedVariables false
def gR (p q : RecV) : Prop := p.time = q.time ∧ (p.shred = true → q.shred = true) ∧ (q.shred = false → p.text = q.text)
def gS (x y : SeenV) : Prop := x.name = y.name ∧ x.retain ≤ y.retain ∧ x.recs.length ≤ y.recs.length ∧ ∀ (k : Nat) (p : RecV), x.recs[k]? = some p → ∃ q, y.recs[k]? = some q ∧ gR p q
def gV (x y : ViewV) : Prop := x.clock ≤ y.clock ∧ x.streams.length ≤ y.streams.length ∧ ∀ (k : Nat) (p : SeenV), x.streams[k]? = some p → ∃ q, y.streams[k]? = some q ∧ gS p q
theorem len_of {α β : Type} {l : List α} {m : List β} (h : ∀ (k : Nat) (p : α), l[k]? = some p → ∃ q, m[k]? = some q) : l.length ≤ m.length := by
  rcases Nat.lt_or_ge m.length l.length with hlt | h1
  · obtain ⟨q, hq⟩ := h m.length _ (List.getElem?_eq_getElem hlt)
    rw [List.getElem?_eq_none (Nat.le_refl _)] at hq
    cases hq
  · exact h1
theorem gV_of {x y : MSt} (h : growT x y) : gV x.v y.v := by
  obtain ⟨h1, h2⟩ := h
  have key : ∀ (k : Nat) (p : SeenV), x.v.streams[k]? = some p → ∃ q, y.v.streams[k]? = some q ∧ gS p q := by
    intro k p hp
    have hp : (x.streams.map MStr.v)[k]? = some p := hp
    rw [List.getElem?_map] at hp
    cases hx : x.streams[k]? with
    | none => rw [hx] at hp; cases hp
    | some u =>
      rw [hx] at hp
      injection hp with hp; subst hp
      obtain ⟨w, hw, g1, g2, g3⟩ := h2 k u hx
      refine ⟨w.v, by show (y.streams.map MStr.v)[k]? = _; rw [List.getElem?_map, hw]; rfl, g1, g2, ?_⟩
      have key2 : ∀ (j : Nat) (p : RecV), u.v.recs[j]? = some p → ∃ q, w.v.recs[j]? = some q ∧ gR p q := by
        intro j p hp
        have hp : (u.recs.map MRec.v)[j]? = some p := hp
        rw [List.getElem?_map] at hp
        cases hu : u.recs[j]? with
        | none => rw [hu] at hp; cases hp
        | some r =>
          rw [hu] at hp
          injection hp with hp; subst hp
          obtain ⟨q, hq, k1, k2, k3⟩ := g3 j r hu
          exact ⟨q.v, by show (w.recs.map MRec.v)[j]? = _; rw [List.getElem?_map, hq]; rfl, k1, k2, k3⟩
      exact ⟨len_of fun j p hp => let ⟨q, hq, _⟩ := key2 j p hp; ⟨q, hq⟩, key2⟩
  exact ⟨h1, len_of fun k p hp => let ⟨q, hq, _⟩ := key k p hp; ⟨q, hq⟩, key⟩
set_option linter.unusedVariables false
set_option linter.unusedSimpArgs false
attribute [local irreducible] J Lq E OpP PRun is any agg tup ptr sl PRunW OpE
attribute [local irreducible] slt row leafH shaH recsR OpR stL mdl mdV mdC
set_option maxRecDepth 100000 in
set_option maxHeartbeats 16000000 in
theorem grown26_fn (a z : ViewV) (ha : GoodV a) (hz : GoodV z) (hg : gV a z) : Fn Tryd.prog 21 [viewT.val a, viewT.val z] (is (.bool true)) := by
  have hla := ha.1
  have hlz := hz.1
  obtain ⟨g1, g2, g3⟩ := hg
  refine Fn.mk' 106 Tryd.func21 rfl rfl rfl rfl fun w0 H0 => ?_
  repeat (first | ((first | (apply Lq.s; rfl) | apply PRun.s | (apply Lq.run; rfl; rfl; rfl; exact bsB) | (apply PRun.run; rfl; rfl; exact bsB)); first | (apply op_box viewT; rfl) | (apply op_faddr view_clock; rfl; decide) | (apply op_faddr view_streams; rfl; decide) | (apply op_load (intT .i64); rfl) | (apply op_load (slT seenT); rfl) | (apply op_load viewT; rfl) | (apply op_load seenT; rfl) | (apply op_len (xs := a.streams); rfl) | (apply op_len (xs := z.streams); rfl) | (exact bsO)) | apply J.seq | apply E.next | apply J.lq | apply Lq.nil | apply PRun.nil | apply J.block | apply E.in_normal | apply J.skip | (apply Lq.store; rfl; rfl; exact bsP; exact bsS; rfl; rfl) | (apply PRun.al; rfl) | (apply Lq.al; rfl; rfl; intro b) | (apply Open.cons; intro b) | apply Open.nil | (apply Lq.pass; rfl; rfl; rfl) | (apply PRun.pass; rfl; rfl) | (apply Lq.skip; rfl; rfl; rfl; exact bsB) | (apply PRun.skip; rfl; rfl; exact bsB) | (apply J.drawN; exact mixed; kernel_rfl) | (apply J.cond_t; rfl) | (apply J.cond_f; rfl) | apply J.exit | apply E.then_exit | apply E.in_exit | (apply E.in_other; rfl))
  refine J.loop (fun i : Nat => i ≤ a.streams.length) (fun i => [(2, ptr (viewT.cells a)), (3, ptr (viewT.cells z)), (5, is (.int .i64 (i : Int)))]) (fun _ => []) (fun i => a.streams.length - i) 0 (Nat.zero_le _) (Sub.same (by repeat' (first | exact trivial | refine ⟨rfl, ?_⟩))) ?_
  intro i hi
  by_cases hlt : i < a.streams.length
  · obtain ⟨x, hx⟩ : ∃ x, a.streams[i]? = some x := ⟨_, List.getElem?_eq_getElem hlt⟩
    obtain ⟨y, hy, k1, k2, k3, k4⟩ := g3 i x hx
    have hgx := ha.2 x (List.mem_of_getElem? hx)
    have hgy := hz.2 y (List.mem_of_getElem? hy)
    repeat (first | ((first | (apply Lq.s; rfl) | apply PRun.s | (apply Lq.run; rfl; rfl; rfl; exact bsB) | (apply PRun.run; rfl; rfl; exact bsB)); first | (apply op_box viewT; rfl) | (apply op_faddr view_clock; rfl; decide) | (apply op_faddr view_streams; rfl; decide) | (apply op_load (intT .i64); rfl) | (apply op_load (slT seenT); rfl) | (apply op_load viewT; rfl) | (apply op_load seenT; rfl) | (apply op_len (xs := a.streams); rfl) | (exact bsO)) | apply J.seq | apply E.next | apply J.lq | apply Lq.nil | apply PRun.nil | apply J.block | apply E.in_normal | apply J.skip | (apply Lq.store; rfl; rfl; exact bsP; exact bsS; rfl; rfl) | (apply PRun.al; rfl) | (apply Lq.al; rfl; rfl; intro b) | (apply Open.cons; intro b) | apply Open.nil | (apply Lq.pass; rfl; rfl; rfl) | (apply PRun.pass; rfl; rfl) | (apply Lq.skip; rfl; rfl; rfl; exact bsB) | (apply PRun.skip; rfl; rfl; exact bsB) | (apply J.cond_t; rfl) | (apply J.cond_f; rfl) | apply J.exit | apply E.then_exit | apply E.in_exit | (apply E.in_other; rfl))
    refine J.drawW 14 [(none, none), (none, none), (none, none), (none, none), (none, none), (none, none), (none, none), (none, none), (none, none), (none, none), (none, some 6), (none, some 7), (some 6, some 6), (some 7, some 7)] mixed (by kernel_rfl) ?_
    repeat (first | ((first | apply PRunW.s | (apply PRunW.run; rfl; rfl; exact bsB) | (apply Lq.s; rfl) | apply PRun.s | (apply Lq.run; rfl; rfl; rfl; exact bsB) | (apply PRun.run; rfl; rfl; exact bsB)); first | (apply op_box viewT; rfl) | (apply op_faddr view_clock; rfl; decide) | (apply op_faddr view_streams; rfl; decide) | (apply op_load (intT .i64); rfl) | (apply op_load (slT seenT); rfl) | (apply op_load viewT; rfl) | (apply op_load seenT; rfl) | (apply op_iaddr seenT.toTy (x := x); rfl; rfl; exact Int.natCast_nonneg _; (rw [Int.toNat_natCast]; exact hx)) | (apply op_iaddr seenT.toTy (x := y); rfl; rfl; exact Int.natCast_nonneg _; (rw [Int.toNat_natCast]; exact hy)) | (exact bsO)) | apply J.seq | apply E.next | apply J.lq | apply Lq.nil | apply PRun.nil | apply J.block | apply E.in_normal | apply J.skip | (apply Lq.store; rfl; rfl; exact bsP; exact bsS; rfl; rfl) | (apply PRun.al; rfl) | (apply Lq.al; rfl; rfl; intro b) | (apply Open.cons; intro b) | apply Open.nil | (apply Lq.pass; rfl; rfl; rfl) | (apply PRun.pass; rfl; rfl) | (apply Lq.skip; rfl; rfl; rfl; exact bsB) | (apply PRun.skip; rfl; rfl; exact bsB) | (apply J.cond_t; rfl) | (apply J.cond_f; rfl) | apply J.exit | apply E.then_exit | apply E.in_exit | (apply E.in_other; rfl) | apply PRunW.nil | (apply PRunW.al; rfl) | (apply PRunW.pass; rfl; rfl) | (apply PRunW.skip; rfl; rfl; exact bsB) | (apply Open.pv; intro b) | apply Open.av | (apply Open.rv; intro A c))
    (apply PRunW.st (φs' := seenT.cells x); rfl; rfl; exact Seg.val seenT _; rfl; exact Nat.le_refl 4; rfl)
    (apply PRunW.st (φs' := seenT.cells y); rfl; rfl; exact Seg.val seenT _; rfl; exact Nat.le_refl 4; rfl)
    apply PRunW.nil; (apply Open.pv; intro bp); (apply Open.pv; intro bq); apply Open.nil
    (repeat (first | apply J.seq | apply E.next | apply J.lq | apply Lq.nil | apply J.block | apply E.in_normal | apply J.skip | (apply J.cond_t; rfl) | (apply J.cond_f; rfl)))
    refine Lq.frzB 6 rfl (List.Perm.refl _) ?_
    refine Lq.frzB 7 rfl (List.Perm.refl _) ?_
    have hrx : x.recs.length ≤ 1000000 := hgx.1
    have hry : y.recs.length ≤ 1000000 := hgy.1
    repeat (first | ((first | (apply Lq.s; rfl) | apply PRun.s | (apply Lq.run; rfl; rfl; rfl; exact bsB) | (apply PRun.run; rfl; rfl; exact bsB)); first | (apply op_sneF (a := x.name) (b := y.name); rfl; rfl; exact k1) | (apply op_box seenT; rfl) | (apply op_faddr seen_name; rfl; decide) | (apply op_faddr seen_retain; rfl; decide) | (apply op_faddr seen_holds; rfl; decide) | (apply op_faddr seen_recs; rfl; decide) | (apply op_load strT; rfl) | (apply op_load (intT .i64); rfl) | (apply op_load (slT strT); rfl) | (apply op_load (slT recVT); rfl) | (apply op_load seenT; rfl) | (apply op_len (xs := x.recs); rfl) | (apply op_len (xs := y.recs); rfl) | (exact bsO)) | apply J.seq | apply E.next | apply J.lq | apply Lq.nil | apply PRun.nil | apply J.block | apply E.in_normal | apply J.skip | (apply Lq.store; rfl; rfl; exact bsP; exact bsS; rfl; rfl) | (apply PRun.al; rfl) | (apply Lq.al; rfl; rfl; intro b) | (apply Open.cons; intro b) | apply Open.nil | (apply Lq.pass; rfl; rfl; rfl) | (apply PRun.pass; rfl; rfl) | (apply Lq.skip; rfl; rfl; rfl; exact bsB) | (apply PRun.skip; rfl; rfl; exact bsB) | (apply J.drawN; exact mixed; kernel_rfl) | (apply J.cond_t; rfl) | (apply J.cond_f; rfl) | apply J.exit | apply E.then_exit | apply E.in_exit | (apply E.in_other; rfl))
    refine J.loop (fun j : Nat => j ≤ x.recs.length) (fun j => [(2, ptr (viewT.cells a)), (3, ptr (viewT.cells z)), (5, is (.int .i64 (i : Int))), (6, ptr (seenT.cells x)), (7, ptr (seenT.cells y)), (8, is (.int .i64 (j : Int)))]) (fun _ => []) (fun j => x.recs.length - j) 0 (Nat.zero_le _) (Sub.same (by repeat' (first | exact trivial | refine ⟨rfl, ?_⟩))) ?_
    intro j hj
    by_cases hlj : j < x.recs.length
    · obtain ⟨p, hp⟩ : ∃ p, x.recs[j]? = some p := ⟨_, List.getElem?_eq_getElem hlj⟩
      obtain ⟨q, hq, l1, l2, l3⟩ := k4 j p hp
      have hqj := (List.getElem?_eq_some_iff.1 hq).1
      repeat (first | ((first | (apply Lq.s; rfl) | apply PRun.s | (apply Lq.run; rfl; rfl; rfl; exact bsB) | (apply PRun.run; rfl; rfl; exact bsB)); first | (apply op_box seenT; rfl) | (apply op_faddr seen_name; rfl; decide) | (apply op_faddr seen_retain; rfl; decide) | (apply op_faddr seen_holds; rfl; decide) | (apply op_faddr seen_recs; rfl; decide) | (apply op_load strT; rfl) | (apply op_load (intT .i64); rfl) | (apply op_load (slT strT); rfl) | (apply op_load (slT recVT); rfl) | (apply op_load seenT; rfl) | (apply op_len (xs := x.recs); rfl) | (exact bsO)) | apply J.seq | apply E.next | apply J.lq | apply Lq.nil | apply PRun.nil | apply J.block | apply E.in_normal | apply J.skip | (apply Lq.store; rfl; rfl; exact bsP; exact bsS; rfl; rfl) | (apply PRun.al; rfl) | (apply Lq.al; rfl; rfl; intro b) | (apply Open.cons; intro b) | apply Open.nil | (apply Lq.pass; rfl; rfl; rfl) | (apply PRun.pass; rfl; rfl) | (apply Lq.skip; rfl; rfl; rfl; exact bsB) | (apply PRun.skip; rfl; rfl; exact bsB) | (apply J.cond_t; rfl) | (apply J.cond_f; rfl) | apply J.exit | apply E.then_exit | apply E.in_exit | (apply E.in_other; rfl))
      refine J.drawW 14 [(none, none), (none, none), (none, none), (none, none), (none, none), (none, none), (none, none), (none, none), (none, none), (none, none), (none, some 9), (none, some 10), (some 9, some 9), (some 10, some 10)] mixed (by kernel_rfl) ?_
      repeat (first | ((first | apply PRunW.s | (apply PRunW.run; rfl; rfl; exact bsB) | (apply Lq.s; rfl) | apply PRun.s | (apply Lq.run; rfl; rfl; rfl; exact bsB) | (apply PRun.run; rfl; rfl; exact bsB)); first | (apply op_box seenT; rfl) | (apply op_faddr seen_name; rfl; decide) | (apply op_faddr seen_retain; rfl; decide) | (apply op_faddr seen_holds; rfl; decide) | (apply op_faddr seen_recs; rfl; decide) | (apply op_load strT; rfl) | (apply op_load (intT .i64); rfl) | (apply op_load (slT strT); rfl) | (apply op_load (slT recVT); rfl) | (apply op_load seenT; rfl) | (apply op_iaddr recVT.toTy (x := p); rfl; rfl; exact Int.natCast_nonneg _; (rw [Int.toNat_natCast]; exact hp)) | (apply op_iaddr recVT.toTy (x := q); rfl; rfl; exact Int.natCast_nonneg _; (rw [Int.toNat_natCast]; exact hq)) | (apply op_load recVT; rfl) | (exact bsO)) | apply J.seq | apply E.next | apply J.lq | apply Lq.nil | apply PRun.nil | apply J.block | apply E.in_normal | apply J.skip | (apply Lq.store; rfl; rfl; exact bsP; exact bsS; rfl; rfl) | (apply PRun.al; rfl) | (apply Lq.al; rfl; rfl; intro b) | (apply Open.cons; intro b) | apply Open.nil | (apply Lq.pass; rfl; rfl; rfl) | (apply PRun.pass; rfl; rfl) | (apply Lq.skip; rfl; rfl; rfl; exact bsB) | (apply PRun.skip; rfl; rfl; exact bsB) | (apply J.cond_t; rfl) | (apply J.cond_f; rfl) | apply J.exit | apply E.then_exit | apply E.in_exit | (apply E.in_other; rfl) | apply PRunW.nil | (apply PRunW.al; rfl) | (apply PRunW.pass; rfl; rfl) | (apply PRunW.skip; rfl; rfl; exact bsB) | (apply Open.pv; intro b) | apply Open.av | (apply Open.rv; intro A c))
      (apply PRunW.st (φs' := recVT.cells p); rfl; rfl; exact Seg.val recVT _; rfl; exact Nat.le_refl 3; rfl)
      (apply PRunW.st (φs' := recVT.cells q); rfl; rfl; exact Seg.val recVT _; rfl; exact Nat.le_refl 3; rfl)
      apply PRunW.nil; (apply Open.pv; intro bp); (apply Open.pv; intro bq); apply Open.nil
      (repeat (first | apply J.seq | apply E.next | apply J.lq | apply Lq.nil | apply J.block | apply E.in_normal | apply J.skip | (apply J.cond_t; rfl) | (apply J.cond_f; rfl)))
      refine Lq.frzB 9 rfl (List.Perm.refl _) ?_
      refine Lq.frzB 10 rfl (List.Perm.refl _) ?_
      clear hp hq
      obtain ⟨pt, px, ps⟩ := p
      obtain ⟨qt, qx, qs⟩ := q
      have l1 : pt = qt := l1
      subst l1
      by_cases hxq : px = qx
      · cases qs with
        | true =>
          cases ps <;>
          · repeat (first | ((first | (apply Lq.s; rfl) | apply PRun.s | (apply Lq.run; rfl; rfl; rfl; exact bsB) | (apply PRun.run; rfl; rfl; exact bsB)); first | (apply op_faddr recv_time; rfl; decide) | (apply op_faddr recv_text; rfl; decide) | (apply op_faddr recv_shred; rfl; decide) | (apply op_load (intT .i64) (x := pt); rfl) | (apply op_load strT (x := px); rfl) | (apply op_load strT (x := qx); rfl) | (apply op_load boolT (x := true); rfl) | (apply op_load boolT (x := false); rfl) | (apply op_neq_f (m := pt) (n := pt); rfl; rfl; rfl) | (apply op_sneF (a := px) (b := qx); rfl; rfl; exact hxq) | (exact bsO)) | apply J.seq | apply E.next | apply J.lq | apply Lq.nil | apply PRun.nil | apply J.block | apply E.in_normal | apply J.skip | (apply Lq.store; rfl; rfl; exact bsP; exact bsS; rfl; rfl) | (apply PRun.al; rfl) | (apply Lq.al; rfl; rfl; intro b) | (apply Open.cons; intro b) | apply Open.nil | (apply Lq.pass; rfl; rfl; rfl) | (apply PRun.pass; rfl; rfl) | (apply Lq.skip; rfl; rfl; rfl; exact bsB) | (apply PRun.skip; rfl; rfl; exact bsB) | (apply J.drawN; exact mixed; kernel_rfl) | (apply J.cond_t; rfl) | (apply J.cond_f; rfl) | apply J.exit | apply E.then_exit | apply E.in_exit | (apply E.in_other; rfl))
            exact E.again (j + 1) (by omega) (by omega) (Sub.same (by repeat' (first | exact trivial | refine ⟨rfl, ?_⟩)))
        | false =>
          cases ps with
          | true => exact absurd (l2 rfl) (by show ¬ (false = true); decide)
          | false =>
            repeat (first | ((first | (apply Lq.s; rfl) | apply PRun.s | (apply Lq.run; rfl; rfl; rfl; exact bsB) | (apply PRun.run; rfl; rfl; exact bsB)); first | (apply op_faddr recv_time; rfl; decide) | (apply op_faddr recv_text; rfl; decide) | (apply op_faddr recv_shred; rfl; decide) | (apply op_load (intT .i64) (x := pt); rfl) | (apply op_load strT (x := px); rfl) | (apply op_load strT (x := qx); rfl) | (apply op_load boolT (x := true); rfl) | (apply op_load boolT (x := false); rfl) | (apply op_neq_f (m := pt) (n := pt); rfl; rfl; rfl) | (apply op_sneF (a := px) (b := qx); rfl; rfl; exact hxq) | (exact bsO)) | apply J.seq | apply E.next | apply J.lq | apply Lq.nil | apply PRun.nil | apply J.block | apply E.in_normal | apply J.skip | (apply Lq.store; rfl; rfl; exact bsP; exact bsS; rfl; rfl) | (apply PRun.al; rfl) | (apply Lq.al; rfl; rfl; intro b) | (apply Open.cons; intro b) | apply Open.nil | (apply Lq.pass; rfl; rfl; rfl) | (apply PRun.pass; rfl; rfl) | (apply Lq.skip; rfl; rfl; rfl; exact bsB) | (apply PRun.skip; rfl; rfl; exact bsB) | (apply J.drawN; exact mixed; kernel_rfl) | (apply J.cond_t; rfl) | (apply J.cond_f; rfl) | apply J.exit | apply E.then_exit | apply E.in_exit | (apply E.in_other; rfl))
            exact E.again (j + 1) (by omega) (by omega) (Sub.same (by repeat' (first | exact trivial | refine ⟨rfl, ?_⟩)))
      · cases qs with
        | true =>
          cases ps <;>
          · repeat (first | ((first | (apply Lq.s; rfl) | apply PRun.s | (apply Lq.run; rfl; rfl; rfl; exact bsB) | (apply PRun.run; rfl; rfl; exact bsB)); first | (apply op_faddr recv_time; rfl; decide) | (apply op_faddr recv_text; rfl; decide) | (apply op_faddr recv_shred; rfl; decide) | (apply op_load (intT .i64) (x := pt); rfl) | (apply op_load strT (x := px); rfl) | (apply op_load strT (x := qx); rfl) | (apply op_load boolT (x := true); rfl) | (apply op_load boolT (x := false); rfl) | (apply op_neq_f (m := pt) (n := pt); rfl; rfl; rfl) | (apply op_sneT (a := px) (b := qx); rfl; rfl; exact hxq) | (exact bsO)) | apply J.seq | apply E.next | apply J.lq | apply Lq.nil | apply PRun.nil | apply J.block | apply E.in_normal | apply J.skip | (apply Lq.store; rfl; rfl; exact bsP; exact bsS; rfl; rfl) | (apply PRun.al; rfl) | (apply Lq.al; rfl; rfl; intro b) | (apply Open.cons; intro b) | apply Open.nil | (apply Lq.pass; rfl; rfl; rfl) | (apply PRun.pass; rfl; rfl) | (apply Lq.skip; rfl; rfl; rfl; exact bsB) | (apply PRun.skip; rfl; rfl; exact bsB) | (apply J.drawN; exact mixed; kernel_rfl) | (apply J.cond_t; rfl) | (apply J.cond_f; rfl) | apply J.exit | apply E.then_exit | apply E.in_exit | (apply E.in_other; rfl))
            exact E.again (j + 1) (by omega) (by omega) (Sub.same (by repeat' (first | exact trivial | refine ⟨rfl, ?_⟩)))
        | false => exact absurd (l3 rfl) hxq
    · obtain rfl : j = x.recs.length := by omega
      repeat (first | ((first | (apply Lq.s; rfl) | apply PRun.s | (apply Lq.run; rfl; rfl; rfl; exact bsB) | (apply PRun.run; rfl; rfl; exact bsB)); first | (apply op_box seenT; rfl) | (apply op_faddr seen_name; rfl; decide) | (apply op_faddr seen_retain; rfl; decide) | (apply op_faddr seen_holds; rfl; decide) | (apply op_faddr seen_recs; rfl; decide) | (apply op_load strT; rfl) | (apply op_load (intT .i64); rfl) | (apply op_load (slT strT); rfl) | (apply op_load (slT recVT); rfl) | (apply op_load seenT; rfl) | (apply op_len (xs := x.recs); rfl) | (exact bsO)) | apply J.seq | apply E.next | apply J.lq | apply Lq.nil | apply PRun.nil | apply J.block | apply E.in_normal | apply J.skip | (apply Lq.store; rfl; rfl; exact bsP; exact bsS; rfl; rfl) | (apply PRun.al; rfl) | (apply Lq.al; rfl; rfl; intro b) | (apply Open.cons; intro b) | apply Open.nil | (apply Lq.pass; rfl; rfl; rfl) | (apply PRun.pass; rfl; rfl) | (apply Lq.skip; rfl; rfl; rfl; exact bsB) | (apply PRun.skip; rfl; rfl; exact bsB) | (apply J.drawN; exact mixed; kernel_rfl) | (apply J.cond_t; rfl) | (apply J.cond_f; rfl) | apply J.exit | apply E.then_exit | apply E.in_exit | (apply E.in_other; rfl))
      exact E.again (i + 1) (by omega) (by omega) (Sub.same (by repeat' (first | exact trivial | refine ⟨rfl, ?_⟩)))
  · obtain rfl : i = a.streams.length := by omega
    repeat (first | ((first | (apply Lq.s; rfl) | apply PRun.s | (apply Lq.run; rfl; rfl; rfl; exact bsB) | (apply PRun.run; rfl; rfl; exact bsB)); first | (apply op_box viewT; rfl) | (apply op_faddr view_clock; rfl; decide) | (apply op_faddr view_streams; rfl; decide) | (apply op_load (intT .i64); rfl) | (apply op_load (slT seenT); rfl) | (apply op_load viewT; rfl) | (apply op_load seenT; rfl) | (apply op_len (xs := a.streams); rfl) | (exact bsO)) | apply J.seq | apply E.next | apply J.lq | apply Lq.nil | apply PRun.nil | apply J.block | apply E.in_normal | apply J.skip | (apply Lq.store; rfl; rfl; exact bsP; exact bsS; rfl; rfl) | (apply PRun.al; rfl) | (apply Lq.al; rfl; rfl; intro b) | (apply Open.cons; intro b) | apply Open.nil | (apply Lq.pass; rfl; rfl; rfl) | (apply PRun.pass; rfl; rfl) | (apply Lq.skip; rfl; rfl; rfl; exact bsB) | (apply PRun.skip; rfl; rfl; exact bsB) | (apply J.drawN; exact mixed; kernel_rfl) | (apply J.cond_t; rfl) | (apply J.cond_f; rfl) | apply J.exit | apply E.then_exit | apply E.in_exit | (apply E.in_other; rfl))
    (refine J.ret ?_; (repeat (first | refine E.then_ret ?_ | refine E.in_ret ?_)))
    exact E.ret1 rfl rfl
theorem do_fmt {m : MM} (x : StepS) (full : Bool) (h : m.fmt = true) : (doM m x full).1.fmt = true := by
  rcases do_cases m x full with ⟨e, _⟩ | ⟨_, _, e⟩ | ⟨_, _, _, e⟩ | ⟨_, _, _, _, e⟩ | ⟨_, _, e⟩ | ⟨_, _, _, e⟩ | ⟨_, _, _, _, _, e⟩
  · rw [e]; exact h
  · rw [e]; show (m.fmt || _) = true; rw [h]; rfl
  · rw [e]; exact h
  · rw [e]; exact h
  · rw [e]; exact h
  · rw [e]; exact h
  · rw [e]
    unfold resOf
    split <;> exact h
theorem do_gV {m : MM} (h : MGr m) (x : StepS) (full : Bool) : gV (sureM m) (sureM (doM m x full).1) := by
  have hg := do_growT h x full
  have hc := (do_gr h x full).c0
  cases hf : m.fmt with
  | true =>
    rw [sureM_t hf, sureM_t (do_fmt x full hf)]
    exact gV_of hg
  | false =>
    rw [sureM_f hf]
    cases hf2 : (doM m x full).1.fmt with
    | true =>
      rw [sureM_t hf2]
      exact ⟨hc, Nat.zero_le _, fun k p hp => by cases hp⟩
    | false =>
      rw [sureM_f hf2]
      exact ⟨Int.le_refl _, Nat.zero_le _, fun k p hp => by cases hp⟩
theorem Lq.cutM {C : Cx} {Γ : Env} {Δ : List Res} {Q : Exit → Act → World → Prop} {ops : Array Oper} {rest : List Oper} {V : VS} (h : star V top Δ) (k : ∀ Δ', V Δ' → Lq C Γ Δ' ops rest Q) : Lq C Γ Δ ops rest Q := let ⟨D1, D2, h1, _, hp⟩ := h; Lq.sub hp (k D1 h1)
theorem same_fn (v : ViewV) (h : GoodV v) : Fn Tryd.prog 20 [viewT.val v, viewT.val v] (is (.bool true)) := by
  have := sameView_fn v v h h
  rwa [decide_eq_true rfl] at this
theorem op_bneM {P : Program} {Γ : Env} {Δ : List Res} {d : Option Nat} {ty t yt : Nat} {pos : String} {af : Array Edge} {g : Option (Nat × Bool)} {x y : Operand} {a : Bool} [hb : TBool P t] (h1 : opd Γ x = some (is (.bool a))) (h2 : opd Γ y = some (is (.bool a))) : OpP P Γ Δ ⟨d, .binOp .neq t x y yt, ty, pos, af, g⟩ (is (.bool false)) := by
  have := op_bne (P := P) (Δ := Δ) (d := d) (ty := ty) (pos := pos) (af := af) (g := g) (t := t) (yt := yt) h1 h2
  rwa [show (!(a == a)) = false by cases a <;> rfl] at this
set_option maxRecDepth 100000 in
set_option maxHeartbeats 32000000 in
theorem modelSure (l : List StepS) (full : List Bool) (_h : l.length ≤ maxLen ∧ ∀ x ∈ l, StepOk x) (_h2 : full.length ≤ maxLen ∧ ∀ x ∈ full, True) : Fn Tryd.prog 4 [sl stepT.toTy l, sl boolT.toTy full] (is (.bool true)) := by
  have hlen := _h.1
  have hflen := _h2.1
  unfold maxLen at hlen hflen
  have hbf := beyond_fn l 50 _h.1
  refine Fn.mk' 159 Tryd.func4 rfl rfl rfl rfl fun w0 H0 => ?_
  cases hbb : beyondL l 50 with
  | true =>
    rw [hbb] at hbf
    repeat (first | ((first | (apply Lq.s; rfl) | apply PRun.s | (apply Lq.run; rfl; rfl; rfl; exact bsB) | (apply PRun.run; rfl; rfl; exact bsB)); first | (apply op_call hbf; exact bsD) | (apply op_call lives26_fn; exact bsD) | (exact bsO)) | apply J.seq | apply E.next | apply J.lq | apply Lq.nil | apply PRun.nil | apply J.block | apply E.in_normal | apply J.skip | (apply Lq.store; rfl; rfl; exact bsP; exact bsS; rfl; rfl) | (apply PRun.al; rfl) | (apply Lq.al; rfl; rfl; intro b) | (apply Open.cons; intro b) | apply Open.nil | (apply Lq.pass; rfl; rfl; rfl) | (apply PRun.pass; rfl; rfl) | (apply Lq.skip; rfl; rfl; rfl; exact bsB) | (apply PRun.skip; rfl; rfl; exact bsB) | (apply J.drawN; exact mixed; kernel_rfl) | (apply J.cond_t; rfl) | (apply J.cond_f; rfl) | apply J.exit | apply E.then_exit | apply E.in_exit | (apply E.in_other; rfl))
    (refine J.ret ?_; (repeat (first | refine E.then_ret ?_ | refine E.in_ret ?_)))
    exact E.ret1 rfl rfl
  | false =>
  rw [hbb] at hbf
  obtain ⟨hl50, hall⟩ := beyond_ok hbb
  by_cases hf1 : 100 < full.length
  · repeat (first | ((first | (apply Lq.s; rfl) | apply PRun.s | (apply Lq.run; rfl; rfl; rfl; exact bsB) | (apply PRun.run; rfl; rfl; exact bsB)); first | (apply op_call hbf; exact bsD) | (apply op_len (xs := full); rfl) | (apply op_call lives26_fn; exact bsD) | (exact bsO)) | apply J.seq | apply E.next | apply J.lq | apply Lq.nil | apply PRun.nil | apply J.block | apply E.in_normal | apply J.skip | (apply Lq.store; rfl; rfl; exact bsP; exact bsS; rfl; rfl) | (apply PRun.al; rfl) | (apply Lq.al; rfl; rfl; intro b) | (apply Open.cons; intro b) | apply Open.nil | (apply Lq.pass; rfl; rfl; rfl) | (apply PRun.pass; rfl; rfl) | (apply Lq.skip; rfl; rfl; rfl; exact bsB) | (apply PRun.skip; rfl; rfl; exact bsB) | (apply J.drawN; exact mixed; kernel_rfl) | (apply J.cond_t; rfl) | (apply J.cond_f; rfl) | apply J.exit | apply E.then_exit | apply E.in_exit | (apply E.in_other; rfl))
    (refine J.ret ?_; (repeat (first | refine E.then_ret ?_ | refine E.in_ret ?_)))
    exact E.ret1 rfl rfl
  repeat (first | ((first | (apply Lq.s; rfl) | apply PRun.s | (apply Lq.run; rfl; rfl; rfl; exact bsB) | (apply PRun.run; rfl; rfl; exact bsB)); first | (apply op_call hbf; exact bsD) | (apply op_len (xs := full); rfl) | (exact bsO)) | apply J.seq | apply E.next | apply J.lq | apply Lq.nil | apply PRun.nil | apply J.block | apply E.in_normal | apply J.skip | (apply Lq.store; rfl; rfl; exact bsP; exact bsS; rfl; rfl) | (apply PRun.al; rfl) | (apply Lq.al; rfl; rfl; intro b) | (apply Open.cons; intro b) | apply Open.nil | (apply Lq.pass; rfl; rfl; rfl) | (apply PRun.pass; rfl; rfl) | (apply Lq.skip; rfl; rfl; rfl; exact bsB) | (apply PRun.skip; rfl; rfl; exact bsB) | (apply J.cond_t; rfl) | (apply J.cond_f; rfl) | apply J.exit | apply E.then_exit | apply E.in_exit | (apply E.in_other; rfl))
  refine Lq.callS (Δ0 := []) (Δf := []) mnew_fnR rfl bsD (List.Perm.refl _) ?_
  rintro _ D ⟨B, rfl, hV⟩
  rw [List.append_nil]
  repeat (first | ((first | (apply Lq.s; rfl) | apply PRun.s | (apply Lq.run; rfl; rfl; rfl; exact bsB) | (apply PRun.run; rfl; rfl; exact bsB)); first | (exact bsO)) | apply J.seq | apply E.next | apply J.lq | apply Lq.nil | apply PRun.nil | apply J.block | apply E.in_normal | apply J.skip | (apply Lq.store; rfl; rfl; exact bsP; exact bsS; rfl; rfl) | (apply PRun.al; rfl) | (apply Lq.al; rfl; rfl; intro b) | (apply Open.cons; intro b) | apply Open.nil | (apply Lq.pass; rfl; rfl; rfl) | (apply PRun.pass; rfl; rfl) | (apply Lq.skip; rfl; rfl; rfl; exact bsB) | (apply PRun.skip; rfl; rfl; exact bsB) | (apply J.cond_t; rfl) | (apply J.cond_f; rfl) | apply J.exit | apply E.then_exit | apply E.in_exit | (apply E.in_other; rfl))
  refine J.loop (fun p : Nat × MM × List Res => p.1 ≤ l.length ∧ mdV B p.2.1 p.2.2 ∧ MOk p.2.1 ∧ MGr p.2.1) (fun p => [(0, sl stepT.toTy l), (1, sl boolT.toTy full), (5, is (.pointer (some ⟨B, 0, none⟩))), (6, is (.int .i64 (p.1 : Int)))]) (fun p => p.2.2) (fun p => l.length - p.1) (0, newMM, D) ⟨Nat.zero_le _, hV, new_ok, new_gr⟩ (Sub.same (by repeat' (first | exact trivial | refine ⟨rfl, ?_⟩))) ?_
  clear hV
  rintro ⟨i, m, D⟩ ⟨hi, hV, hok, hgr⟩
  dsimp only at hi hV hok hgr ⊢
  by_cases hlt : i < l.length
  · obtain ⟨s, hs⟩ : ∃ x, l[i]? = some x := ⟨_, List.getElem?_eq_getElem hlt⟩
    obtain ⟨w1, hw1e⟩ : ∃ w, w = viewM m := ⟨_, rfl⟩
    have hw1 : GoodV w1 := by rw [hw1e]; exact good_viewM hok
    obtain ⟨s1, hs1e⟩ : ∃ w, w = sureM m := ⟨_, rfl⟩
    have hs1 : GoodV s1 := by rw [hs1e]; exact good_sureM hok
    have P1 := fun D hV => mviewV (B := B) hok D hV
    rw [← hw1e] at P1
    have P2 := fun D hV => msureV (B := B) hok D hV
    rw [← hs1e] at P2
    repeat (first | ((first | (apply Lq.s; rfl) | apply PRun.s | (apply Lq.run; rfl; rfl; rfl; exact bsB) | (apply PRun.run; rfl; rfl; exact bsB)); first | (apply op_len (xs := l); rfl) | (exact bsO)) | apply J.seq | apply E.next | apply J.lq | apply Lq.nil | apply PRun.nil | apply J.block | apply E.in_normal | apply J.skip | (apply Lq.store; rfl; rfl; exact bsP; exact bsS; rfl; rfl) | (apply PRun.al; rfl) | (apply Lq.al; rfl; rfl; intro b) | (apply Open.cons; intro b) | apply Open.nil | (apply Lq.pass; rfl; rfl; rfl) | (apply PRun.pass; rfl; rfl) | (apply Lq.skip; rfl; rfl; rfl; exact bsB) | (apply PRun.skip; rfl; rfl; exact bsB) | (apply J.cond_t; rfl) | (apply J.cond_f; rfl) | apply J.exit | apply E.then_exit | apply E.in_exit | (apply E.in_other; rfl))
    refine Lq.callS (Δ0 := D) (Δf := []) (P1 D hV) rfl bsD (by rw [List.append_nil]) ?_
    rintro _ D1 ⟨rfl, hV⟩
    rw [List.append_nil]
    repeat (first | ((first | (apply Lq.s; rfl) | apply PRun.s | (apply Lq.run; rfl; rfl; rfl; exact bsB) | (apply PRun.run; rfl; rfl; exact bsB)); first | (exact bsO)) | apply J.seq | apply E.next | apply J.lq | apply Lq.nil | apply PRun.nil | apply J.block | apply E.in_normal | apply J.skip | (apply Lq.store; rfl; rfl; exact bsP; exact bsS; rfl; rfl) | (apply PRun.al; rfl) | (apply Lq.al; rfl; rfl; intro b) | (apply Open.cons; intro b) | apply Open.nil | (apply Lq.pass; rfl; rfl; rfl) | (apply PRun.pass; rfl; rfl) | (apply Lq.skip; rfl; rfl; rfl; exact bsB) | (apply PRun.skip; rfl; rfl; exact bsB) | (apply J.cond_t; rfl) | (apply J.cond_f; rfl) | apply J.exit | apply E.then_exit | apply E.in_exit | (apply E.in_other; rfl))
    revert b
    intro b7
    refine Lq.res1 (r' := own b7 45 (viewT.cells w1)) (List.Perm.refl _) (fun H w h => ⟨h, rfl⟩) ?_
    refine Lq.frzB 7 rfl (List.Perm.refl _) ?_
    refine Lq.callS (Δ0 := D1) (Δf := []) (P2 D1 hV) rfl bsD (by rw [List.append_nil]) ?_
    rintro _ D2 ⟨rfl, hV⟩
    rw [List.append_nil]
    repeat (first | ((first | (apply Lq.s; rfl) | apply PRun.s | (apply Lq.run; rfl; rfl; rfl; exact bsB) | (apply PRun.run; rfl; rfl; exact bsB)); first | (exact bsO)) | apply J.seq | apply E.next | apply J.lq | apply Lq.nil | apply PRun.nil | apply J.block | apply E.in_normal | apply J.skip | (apply Lq.store; rfl; rfl; exact bsP; exact bsS; rfl; rfl) | (apply PRun.al; rfl) | (apply Lq.al; rfl; rfl; intro b) | (apply Open.cons; intro b) | apply Open.nil | (apply Lq.pass; rfl; rfl; rfl) | (apply PRun.pass; rfl; rfl) | (apply Lq.skip; rfl; rfl; rfl; exact bsB) | (apply PRun.skip; rfl; rfl; exact bsB) | (apply J.cond_t; rfl) | (apply J.cond_f; rfl) | apply J.exit | apply E.then_exit | apply E.in_exit | (apply E.in_other; rfl))
    revert b
    intro b9
    refine J.res1 (r' := own b9 45 (viewT.cells s1)) (List.Perm.refl _) (fun H w h => ⟨h, rfl⟩) ?_
    refine J.frzB 9 rfl (List.Perm.refl _) ?_
    refine J.mid (fun p : Bool × List Res => mdV B (doM m s p.1).1 p.2) (fun p => [(0, sl stepT.toTy l), (1, sl boolT.toTy full), (5, is (.pointer (some ⟨B, 0, none⟩))), (6, is (.int .i64 (i : Int))), (7, ptr (viewT.cells w1)), (8, is (.bool m.mnt)), (9, ptr (viewT.cells s1)), (10, is (.bool m.fmt)), (13, is (.int .i64 (doM m s p.1).2.2))]) (fun p => p.2) ?_ ?_
    · by_cases hif : i < full.length
      · obtain ⟨f, hf⟩ : ∃ x, full[i]? = some x := ⟨_, List.getElem?_eq_getElem hif⟩
        have P3 := mdoV (B := B) s f hok
        generalize hdm : doM m s f = q at P3
        refine J.drawV 23 [false, false, false, false, false, false, false, false, false, false, false, false, false, false, false, true, false, false, false, false, false, false, false] _ (star_topM hV) mixed (by kernel_rfl) ?_
        repeat (first | ((first | apply PRunV.s | (apply PRunV.run; rfl; rfl; exact bsB) | (apply Lq.s; rfl) | apply PRun.s | (apply Lq.run; rfl; rfl; rfl; exact bsB) | (apply PRun.run; rfl; rfl; exact bsB)); first | (apply op_iaddr stepT.toTy (x := s); rfl; rfl; exact Int.natCast_nonneg _; (rw [Int.toNat_natCast]; exact hs)) | (apply op_load stepT; rfl) | (apply op_len (xs := full); rfl) | (apply op_iaddr boolT.toTy (x := f); rfl; rfl; exact Int.natCast_nonneg _; (rw [Int.toNat_natCast]; exact hf)) | (apply op_load boolT; rfl) | (exact bsO)) | apply J.seq | apply E.next | apply J.lq | apply Lq.nil | apply PRun.nil | apply J.block | apply E.in_normal | apply J.skip | (apply Lq.store; rfl; rfl; exact bsP; exact bsS; rfl; rfl) | (apply PRun.al; rfl) | (apply Lq.al; rfl; rfl; intro b) | (apply Open.cons; intro b) | apply Open.nil | (apply Lq.pass; rfl; rfl; rfl) | (apply PRun.pass; rfl; rfl) | (apply Lq.skip; rfl; rfl; rfl; exact bsB) | (apply PRun.skip; rfl; rfl; exact bsB) | (apply J.cond_t; rfl) | (apply J.cond_f; rfl) | apply J.exit | apply E.then_exit | apply E.in_exit | (apply E.in_other; rfl) | (apply PRunV.pass; rfl; rfl) | (apply PRunV.skip; rfl; rfl; exact bsB))
        refine PRunV.e (opV_call P3 bsD) ?_
        repeat (first | ((first | apply PRunV.s | (apply PRunV.run; rfl; rfl; exact bsB) | (apply Lq.s; rfl) | apply PRun.s | (apply Lq.run; rfl; rfl; rfl; exact bsB) | (apply PRun.run; rfl; rfl; exact bsB)); first | (exact bsO)) | apply J.seq | apply E.next | apply J.lq | apply Lq.nil | apply PRun.nil | apply J.block | apply E.in_normal | apply J.skip | (apply Lq.store; rfl; rfl; exact bsP; exact bsS; rfl; rfl) | (apply PRun.al; rfl) | (apply Lq.al; rfl; rfl; intro b) | (apply Open.cons; intro b) | apply Open.nil | (apply Lq.pass; rfl; rfl; rfl) | (apply PRun.pass; rfl; rfl) | (apply Lq.skip; rfl; rfl; rfl; exact bsB) | (apply PRun.skip; rfl; rfl; exact bsB) | (apply J.cond_t; rfl) | (apply J.cond_f; rfl) | apply J.exit | apply E.then_exit | apply E.in_exit | (apply E.in_other; rfl) | (apply PRunV.pass; rfl; rfl) | (apply PRunV.skip; rfl; rfl; exact bsB))
        refine PRunV.nil ?_
        intro D3 hV3
        refine Lq.cutM hV3 fun D4 hV4 => ?_
        repeat (first | ((first | (apply Lq.s; rfl) | apply PRun.s | (apply Lq.run; rfl; rfl; rfl; exact bsB) | (apply PRun.run; rfl; rfl; exact bsB)); first | (exact bsO)) | apply J.seq | apply E.next | apply J.lq | apply Lq.nil | apply PRun.nil | apply J.block | apply E.in_normal | apply J.skip | (apply Lq.store; rfl; rfl; exact bsP; exact bsS; rfl; rfl) | (apply PRun.al; rfl) | (apply Lq.al; rfl; rfl; intro b) | (apply Open.cons; intro b) | apply Open.nil | (apply Lq.pass; rfl; rfl; rfl) | (apply PRun.pass; rfl; rfl) | (apply Lq.skip; rfl; rfl; rfl; exact bsB) | (apply PRun.skip; rfl; rfl; exact bsB) | (apply J.cond_t; rfl) | (apply J.cond_f; rfl) | apply J.exit | apply E.then_exit | apply E.in_exit | (apply E.in_other; rfl))
        exact E.mid (f, D4) (by rw [hdm]; exact hV4) (by rw [hdm]; exact (Sub.same (by repeat' (first | exact trivial | refine ⟨rfl, ?_⟩))))
      · have P3 := mdoV (B := B) s false hok
        generalize hdm : doM m s false = q at P3
        refine J.drawV 23 [false, false, false, false, false, false, false, false, false, false, false, false, false, false, false, true, false, false, false, false, false, false, false] _ (star_topM hV) mixed (by kernel_rfl) ?_
        repeat (first | ((first | apply PRunV.s | (apply PRunV.run; rfl; rfl; exact bsB) | (apply Lq.s; rfl) | apply PRun.s | (apply Lq.run; rfl; rfl; rfl; exact bsB) | (apply PRun.run; rfl; rfl; exact bsB)); first | (apply op_iaddr stepT.toTy (x := s); rfl; rfl; exact Int.natCast_nonneg _; (rw [Int.toNat_natCast]; exact hs)) | (apply op_load stepT; rfl) | (apply op_len (xs := full); rfl) | (exact bsO)) | apply J.seq | apply E.next | apply J.lq | apply Lq.nil | apply PRun.nil | apply J.block | apply E.in_normal | apply J.skip | (apply Lq.store; rfl; rfl; exact bsP; exact bsS; rfl; rfl) | (apply PRun.al; rfl) | (apply Lq.al; rfl; rfl; intro b) | (apply Open.cons; intro b) | apply Open.nil | (apply Lq.pass; rfl; rfl; rfl) | (apply PRun.pass; rfl; rfl) | (apply Lq.skip; rfl; rfl; rfl; exact bsB) | (apply PRun.skip; rfl; rfl; exact bsB) | (apply J.cond_t; rfl) | (apply J.cond_f; rfl) | apply J.exit | apply E.then_exit | apply E.in_exit | (apply E.in_other; rfl) | (apply PRunV.pass; rfl; rfl) | (apply PRunV.skip; rfl; rfl; exact bsB))
        refine PRunV.e (opV_call P3 bsD) ?_
        repeat (first | ((first | apply PRunV.s | (apply PRunV.run; rfl; rfl; exact bsB) | (apply Lq.s; rfl) | apply PRun.s | (apply Lq.run; rfl; rfl; rfl; exact bsB) | (apply PRun.run; rfl; rfl; exact bsB)); first | (exact bsO)) | apply J.seq | apply E.next | apply J.lq | apply Lq.nil | apply PRun.nil | apply J.block | apply E.in_normal | apply J.skip | (apply Lq.store; rfl; rfl; exact bsP; exact bsS; rfl; rfl) | (apply PRun.al; rfl) | (apply Lq.al; rfl; rfl; intro b) | (apply Open.cons; intro b) | apply Open.nil | (apply Lq.pass; rfl; rfl; rfl) | (apply PRun.pass; rfl; rfl) | (apply Lq.skip; rfl; rfl; rfl; exact bsB) | (apply PRun.skip; rfl; rfl; exact bsB) | (apply J.cond_t; rfl) | (apply J.cond_f; rfl) | apply J.exit | apply E.then_exit | apply E.in_exit | (apply E.in_other; rfl) | (apply PRunV.pass; rfl; rfl) | (apply PRunV.skip; rfl; rfl; exact bsB))
        refine PRunV.nil ?_
        intro D3 hV3
        refine Lq.cutM hV3 fun D4 hV4 => ?_
        repeat (first | ((first | (apply Lq.s; rfl) | apply PRun.s | (apply Lq.run; rfl; rfl; rfl; exact bsB) | (apply PRun.run; rfl; rfl; exact bsB)); first | (exact bsO)) | apply J.seq | apply E.next | apply J.lq | apply Lq.nil | apply PRun.nil | apply J.block | apply E.in_normal | apply J.skip | (apply Lq.store; rfl; rfl; exact bsP; exact bsS; rfl; rfl) | (apply PRun.al; rfl) | (apply Lq.al; rfl; rfl; intro b) | (apply Open.cons; intro b) | apply Open.nil | (apply Lq.pass; rfl; rfl; rfl) | (apply PRun.pass; rfl; rfl) | (apply Lq.skip; rfl; rfl; rfl; exact bsB) | (apply PRun.skip; rfl; rfl; exact bsB) | (apply J.cond_t; rfl) | (apply J.cond_f; rfl) | apply J.exit | apply E.then_exit | apply E.in_exit | (apply E.in_other; rfl))
        exact E.mid (false, D4) (by rw [hdm]; exact hV4) (by rw [hdm]; exact (Sub.same (by repeat' (first | exact trivial | refine ⟨rfl, ?_⟩))))
    clear hV
    rintro ⟨f, D5⟩ hV
    dsimp only at hV ⊢
    have hok2 := do_ok hok s f
    have hgr2 := do_gr hgr s f
    have hgs := do_gV hgr s f
    have hA : (doM m s f).2.2 ≠ 0 → (doM m s f).1 = m := do_err
    have hB : s.kind ≠ 6 → s.kind ≠ 10 → s.kind ≠ 1 → (doM m s f).1.fmt = m.fmt ∧ sureM (doM m s f).1 = sureM m := fun k1 k2 k3 => by
      have := do_sure (m := m) (x := s) (full := f) k1 k2 k3
      exact ⟨this.2, by unfold sureM; rw [this.1, this.2]⟩
    have hC : (doM m s f).2.2 = 0 → s.kind = 2 ∨ s.kind = 6 ∨ s.kind = 10 → viewM (doM m s f).1 = sureM (doM m s f).1 := fun k1 k2 => by
      obtain ⟨h1, h2, h3⟩ := do_same hgr k1 k2
      rw [sureM_t h2, viewM_t h1, h3]
    generalize doM m s f = q at *
    obtain ⟨m2, nn, er⟩ := q
    dsimp only at hV hok2 hgr2 hgs hA hB hC ⊢
    obtain ⟨w2, hw2e⟩ : ∃ w, w = viewM m2 := ⟨_, rfl⟩
    have hw2 : GoodV w2 := by rw [hw2e]; exact good_viewM hok2
    obtain ⟨s2, hs2e⟩ : ∃ w, w = sureM m2 := ⟨_, rfl⟩
    have hs2 : GoodV s2 := by rw [hs2e]; exact good_sureM hok2
    have P1 := fun D hV => mviewV (B := B) hok2 D hV
    rw [← hw2e] at P1
    have P2 := fun D hV => msureV (B := B) hok2 D hV
    rw [← hs2e] at P2
    rw [← hs1e, ← hs2e] at hgs
    rw [← hs1e, ← hs2e] at hB
    rw [← hw2e, ← hs2e] at hC
    repeat (first | ((first | (apply Lq.s; rfl) | apply PRun.s | (apply Lq.run; rfl; rfl; rfl; exact bsB) | (apply PRun.run; rfl; rfl; exact bsB)); first | (exact bsO)) | apply J.seq | apply E.next | apply J.lq | apply Lq.nil | apply PRun.nil | apply J.block | apply E.in_normal | apply J.skip | (apply Lq.store; rfl; rfl; exact bsP; exact bsS; rfl; rfl) | (apply PRun.al; rfl) | (apply Lq.al; rfl; rfl; intro b) | (apply Open.cons; intro b) | apply Open.nil | (apply Lq.pass; rfl; rfl; rfl) | (apply PRun.pass; rfl; rfl) | (apply Lq.skip; rfl; rfl; rfl; exact bsB) | (apply PRun.skip; rfl; rfl; exact bsB) | (apply J.cond_t; rfl) | (apply J.cond_f; rfl) | apply J.exit | apply E.then_exit | apply E.in_exit | (apply E.in_other; rfl))
    refine Lq.callS (Δ0 := D5) (Δf := []) (P1 D5 hV) rfl bsD (by rw [List.append_nil]) ?_
    rintro _ D6 ⟨rfl, hV⟩
    rw [List.append_nil]
    repeat (first | ((first | (apply Lq.s; rfl) | apply PRun.s | (apply Lq.run; rfl; rfl; rfl; exact bsB) | (apply PRun.run; rfl; rfl; exact bsB)); first | (exact bsO)) | apply J.seq | apply E.next | apply J.lq | apply Lq.nil | apply PRun.nil | apply J.block | apply E.in_normal | apply J.skip | (apply Lq.store; rfl; rfl; exact bsP; exact bsS; rfl; rfl) | (apply PRun.al; rfl) | (apply Lq.al; rfl; rfl; intro b) | (apply Open.cons; intro b) | apply Open.nil | (apply Lq.pass; rfl; rfl; rfl) | (apply PRun.pass; rfl; rfl) | (apply Lq.skip; rfl; rfl; rfl; exact bsB) | (apply PRun.skip; rfl; rfl; exact bsB) | (apply J.cond_t; rfl) | (apply J.cond_f; rfl) | apply J.exit | apply E.then_exit | apply E.in_exit | (apply E.in_other; rfl))
    revert b
    intro b14
    refine Lq.res1 (r' := own b14 45 (viewT.cells w2)) (List.Perm.refl _) (fun H w h => ⟨h, rfl⟩) ?_
    refine Lq.frzB 14 rfl (List.Perm.refl _) ?_
    refine Lq.callS (Δ0 := D6) (Δf := []) (P2 D6 hV) rfl bsD (by rw [List.append_nil]) ?_
    rintro _ D7 ⟨rfl, hV⟩
    rw [List.append_nil]
    repeat (first | ((first | (apply Lq.s; rfl) | apply PRun.s | (apply Lq.run; rfl; rfl; rfl; exact bsB) | (apply PRun.run; rfl; rfl; exact bsB)); first | (exact bsO)) | apply J.seq | apply E.next | apply J.lq | apply Lq.nil | apply PRun.nil | apply J.block | apply E.in_normal | apply J.skip | (apply Lq.store; rfl; rfl; exact bsP; exact bsS; rfl; rfl) | (apply PRun.al; rfl) | (apply Lq.al; rfl; rfl; intro b) | (apply Open.cons; intro b) | apply Open.nil | (apply Lq.pass; rfl; rfl; rfl) | (apply PRun.pass; rfl; rfl) | (apply Lq.skip; rfl; rfl; rfl; exact bsB) | (apply PRun.skip; rfl; rfl; exact bsB) | (apply J.cond_t; rfl) | (apply J.cond_f; rfl) | apply J.exit | apply E.then_exit | apply E.in_exit | (apply E.in_other; rfl))
    revert b
    intro b16
    refine Lq.res1 (r' := own b16 45 (viewT.cells s2)) (List.Perm.refl _) (fun H w h => ⟨h, rfl⟩) ?_
    refine Lq.frzB 16 rfl (List.Perm.refl _) ?_
    have hVn := hV
    by_cases he : er = 0
    · subst he
      have hC := hC rfl
      by_cases k6 : s.kind = 6
      · have hC := hC (.inr (.inl k6))
        subst hC
        repeat (first | ((first | (apply Lq.s; rfl) | apply PRun.s | (apply Lq.run; rfl; rfl; rfl; exact bsB) | (apply PRun.run; rfl; rfl; exact bsB)); first | (apply op_load viewT; rfl) | (apply op_call (same_fn w1 hw1); exact bsD) | (apply op_call (same_fn s1 hs1); exact bsD) | (apply op_call (same_fn s2 hs2); exact bsD) | (apply op_call (same_fn w2 hw2); exact bsD) | (apply op_bneM; rfl; rfl) | (apply op_call (grown26_fn s1 s2 hs1 hs2 hgs); exact bsD) | (apply op_call (grown26_fn s1 w2 hs1 hw2 hgs); exact bsD) | (apply op_call (grown26_fn w2 w2 hw2 hw2 hgs); exact bsD) | (apply op_call (grown26_fn s2 s2 hs2 hs2 hgs); exact bsD) | (apply op_call (grown26_fn s1 s1 hs1 hs1 hgs); exact bsD) | (apply op_iaddr stepT.toTy (x := s); rfl; rfl; exact Int.natCast_nonneg _; (rw [Int.toNat_natCast]; exact hs)) | (apply op_faddr step_kind; rfl; decide) | (apply op_load (intT .i64); rfl) | (exact bsO)) | apply J.seq | apply E.next | apply J.lq | apply Lq.nil | apply PRun.nil | apply J.block | apply E.in_normal | apply J.skip | (apply Lq.store; rfl; rfl; exact bsP; exact bsS; rfl; rfl) | (apply PRun.al; rfl) | (apply Lq.al; rfl; rfl; intro b) | (apply Open.cons; intro b) | apply Open.nil | (apply Lq.pass; rfl; rfl; rfl) | (apply PRun.pass; rfl; rfl) | (apply Lq.skip; rfl; rfl; rfl; exact bsB) | (apply PRun.skip; rfl; rfl; exact bsB) | (apply J.drawN; exact mixed; kernel_rfl) | (apply J.cond_t; rfl) | (apply J.cond_f; rfl) | apply J.exit | apply E.then_exit | apply E.in_exit | (apply E.in_other; rfl))
        exact E.again (i + 1, m2, D7) (by dsimp only; omega) ⟨by dsimp only; omega, hVn, hok2, hgr2⟩ (Sub.same (by repeat' (first | exact trivial | refine ⟨rfl, ?_⟩)))
      by_cases k10 : s.kind = 10
      · have hC := hC (.inr (.inr k10))
        subst hC
        repeat (first | ((first | (apply Lq.s; rfl) | apply PRun.s | (apply Lq.run; rfl; rfl; rfl; exact bsB) | (apply PRun.run; rfl; rfl; exact bsB)); first | (apply op_load viewT; rfl) | (apply op_call (same_fn w1 hw1); exact bsD) | (apply op_call (same_fn s1 hs1); exact bsD) | (apply op_call (same_fn s2 hs2); exact bsD) | (apply op_call (same_fn w2 hw2); exact bsD) | (apply op_bneM; rfl; rfl) | (apply op_call (grown26_fn s1 s2 hs1 hs2 hgs); exact bsD) | (apply op_call (grown26_fn s1 w2 hs1 hw2 hgs); exact bsD) | (apply op_call (grown26_fn w2 w2 hw2 hw2 hgs); exact bsD) | (apply op_call (grown26_fn s2 s2 hs2 hs2 hgs); exact bsD) | (apply op_call (grown26_fn s1 s1 hs1 hs1 hgs); exact bsD) | (apply op_iaddr stepT.toTy (x := s); rfl; rfl; exact Int.natCast_nonneg _; (rw [Int.toNat_natCast]; exact hs)) | (apply op_faddr step_kind; rfl; decide) | (apply op_load (intT .i64); rfl) | (exact bsO)) | apply J.seq | apply E.next | apply J.lq | apply Lq.nil | apply PRun.nil | apply J.block | apply E.in_normal | apply J.skip | (apply Lq.store; rfl; rfl; exact bsP; exact bsS; rfl; rfl) | (apply PRun.al; rfl) | (apply Lq.al; rfl; rfl; intro b) | (apply Open.cons; intro b) | apply Open.nil | (apply Lq.pass; rfl; rfl; rfl) | (apply PRun.pass; rfl; rfl) | (apply Lq.skip; rfl; rfl; rfl; exact bsB) | (apply PRun.skip; rfl; rfl; exact bsB) | (apply J.drawN; exact mixed; kernel_rfl) | (apply J.cond_t; rfl) | (apply J.cond_f; rfl) | apply J.exit | apply E.then_exit | apply E.in_exit | (apply E.in_other; rfl))
        exact E.again (i + 1, m2, D7) (by dsimp only; omega) ⟨by dsimp only; omega, hVn, hok2, hgr2⟩ (Sub.same (by repeat' (first | exact trivial | refine ⟨rfl, ?_⟩)))
      by_cases k1 : s.kind = 1
      · repeat (first | ((first | (apply Lq.s; rfl) | apply PRun.s | (apply Lq.run; rfl; rfl; rfl; exact bsB) | (apply PRun.run; rfl; rfl; exact bsB)); first | (apply op_load viewT; rfl) | (apply op_call (same_fn w1 hw1); exact bsD) | (apply op_call (same_fn s1 hs1); exact bsD) | (apply op_call (same_fn s2 hs2); exact bsD) | (apply op_call (same_fn w2 hw2); exact bsD) | (apply op_bneM; rfl; rfl) | (apply op_call (grown26_fn s1 s2 hs1 hs2 hgs); exact bsD) | (apply op_call (grown26_fn s1 w2 hs1 hw2 hgs); exact bsD) | (apply op_call (grown26_fn w2 w2 hw2 hw2 hgs); exact bsD) | (apply op_call (grown26_fn s2 s2 hs2 hs2 hgs); exact bsD) | (apply op_call (grown26_fn s1 s1 hs1 hs1 hgs); exact bsD) | (apply op_iaddr stepT.toTy (x := s); rfl; rfl; exact Int.natCast_nonneg _; (rw [Int.toNat_natCast]; exact hs)) | (apply op_faddr step_kind; rfl; decide) | (apply op_load (intT .i64); rfl) | (exact bsO)) | apply J.seq | apply E.next | apply J.lq | apply Lq.nil | apply PRun.nil | apply J.block | apply E.in_normal | apply J.skip | (apply Lq.store; rfl; rfl; exact bsP; exact bsS; rfl; rfl) | (apply PRun.al; rfl) | (apply Lq.al; rfl; rfl; intro b) | (apply Open.cons; intro b) | apply Open.nil | (apply Lq.pass; rfl; rfl; rfl) | (apply PRun.pass; rfl; rfl) | (apply Lq.skip; rfl; rfl; rfl; exact bsB) | (apply PRun.skip; rfl; rfl; exact bsB) | (apply J.drawN; exact mixed; kernel_rfl) | (apply J.cond_t; rfl) | (apply J.cond_f; rfl) | apply J.exit | apply E.then_exit | apply E.in_exit | (apply E.in_other; rfl))
        exact E.again (i + 1, m2, D7) (by dsimp only; omega) ⟨by dsimp only; omega, hVn, hok2, hgr2⟩ (Sub.same (by repeat' (first | exact trivial | refine ⟨rfl, ?_⟩)))
      obtain ⟨q1, q2⟩ := hB k6 k10 k1
      rw [q1]
      by_cases k2 : s.kind = 2
      · have hC := hC (.inl k2)
        subst hC
        subst q2
        repeat (first | ((first | (apply Lq.s; rfl) | apply PRun.s | (apply Lq.run; rfl; rfl; rfl; exact bsB) | (apply PRun.run; rfl; rfl; exact bsB)); first | (apply op_load viewT; rfl) | (apply op_call (same_fn w1 hw1); exact bsD) | (apply op_call (same_fn s1 hs1); exact bsD) | (apply op_call (same_fn s2 hs2); exact bsD) | (apply op_call (same_fn w2 hw2); exact bsD) | (apply op_bneM; rfl; rfl) | (apply op_call (grown26_fn s1 s2 hs1 hs2 hgs); exact bsD) | (apply op_call (grown26_fn s1 w2 hs1 hw2 hgs); exact bsD) | (apply op_call (grown26_fn w2 w2 hw2 hw2 hgs); exact bsD) | (apply op_call (grown26_fn s2 s2 hs2 hs2 hgs); exact bsD) | (apply op_call (grown26_fn s1 s1 hs1 hs1 hgs); exact bsD) | (apply op_iaddr stepT.toTy (x := s); rfl; rfl; exact Int.natCast_nonneg _; (rw [Int.toNat_natCast]; exact hs)) | (apply op_faddr step_kind; rfl; decide) | (apply op_load (intT .i64); rfl) | (exact bsO)) | apply J.seq | apply E.next | apply J.lq | apply Lq.nil | apply PRun.nil | apply J.block | apply E.in_normal | apply J.skip | (apply Lq.store; rfl; rfl; exact bsP; exact bsS; rfl; rfl) | (apply PRun.al; rfl) | (apply Lq.al; rfl; rfl; intro b) | (apply Open.cons; intro b) | apply Open.nil | (apply Lq.pass; rfl; rfl; rfl) | (apply PRun.pass; rfl; rfl) | (apply Lq.skip; rfl; rfl; rfl; exact bsB) | (apply PRun.skip; rfl; rfl; exact bsB) | (apply J.drawN; exact mixed; kernel_rfl) | (apply J.cond_t; rfl) | (apply J.cond_f; rfl) | apply J.exit | apply E.then_exit | apply E.in_exit | (apply E.in_other; rfl))
        exact E.again (i + 1, m2, D7) (by dsimp only; omega) ⟨by dsimp only; omega, hVn, hok2, hgr2⟩ (Sub.same (by repeat' (first | exact trivial | refine ⟨rfl, ?_⟩)))
      · subst q2
        repeat (first | ((first | (apply Lq.s; rfl) | apply PRun.s | (apply Lq.run; rfl; rfl; rfl; exact bsB) | (apply PRun.run; rfl; rfl; exact bsB)); first | (apply op_load viewT; rfl) | (apply op_call (same_fn w1 hw1); exact bsD) | (apply op_call (same_fn s1 hs1); exact bsD) | (apply op_call (same_fn s2 hs2); exact bsD) | (apply op_call (same_fn w2 hw2); exact bsD) | (apply op_bneM; rfl; rfl) | (apply op_call (grown26_fn s1 s2 hs1 hs2 hgs); exact bsD) | (apply op_call (grown26_fn s1 w2 hs1 hw2 hgs); exact bsD) | (apply op_call (grown26_fn w2 w2 hw2 hw2 hgs); exact bsD) | (apply op_call (grown26_fn s2 s2 hs2 hs2 hgs); exact bsD) | (apply op_call (grown26_fn s1 s1 hs1 hs1 hgs); exact bsD) | (apply op_iaddr stepT.toTy (x := s); rfl; rfl; exact Int.natCast_nonneg _; (rw [Int.toNat_natCast]; exact hs)) | (apply op_faddr step_kind; rfl; decide) | (apply op_load (intT .i64); rfl) | (exact bsO)) | apply J.seq | apply E.next | apply J.lq | apply Lq.nil | apply PRun.nil | apply J.block | apply E.in_normal | apply J.skip | (apply Lq.store; rfl; rfl; exact bsP; exact bsS; rfl; rfl) | (apply PRun.al; rfl) | (apply Lq.al; rfl; rfl; intro b) | (apply Open.cons; intro b) | apply Open.nil | (apply Lq.pass; rfl; rfl; rfl) | (apply PRun.pass; rfl; rfl) | (apply Lq.skip; rfl; rfl; rfl; exact bsB) | (apply PRun.skip; rfl; rfl; exact bsB) | (apply J.drawN; exact mixed; kernel_rfl) | (apply J.cond_t; rfl) | (apply J.cond_f; rfl) | apply J.exit | apply E.then_exit | apply E.in_exit | (apply E.in_other; rfl))
        exact E.again (i + 1, m2, D7) (by dsimp only; omega) ⟨by dsimp only; omega, hVn, hok2, hgr2⟩ (Sub.same (by repeat' (first | exact trivial | refine ⟨rfl, ?_⟩)))
    · obtain rfl : m2 = m := hA he
      obtain rfl : w2 = w1 := by rw [hw2e, hw1e]
      obtain rfl : s2 = s1 := by rw [hs2e, hs1e]
      by_cases k6 : s.kind = 6
      · repeat (first | ((first | (apply Lq.s; rfl) | apply PRun.s | (apply Lq.run; rfl; rfl; rfl; exact bsB) | (apply PRun.run; rfl; rfl; exact bsB)); first | (apply op_load viewT; rfl) | (apply op_call (same_fn w1 hw1); exact bsD) | (apply op_call (same_fn s1 hs1); exact bsD) | (apply op_call (same_fn s2 hs2); exact bsD) | (apply op_call (same_fn w2 hw2); exact bsD) | (apply op_bneM; rfl; rfl) | (apply op_call (grown26_fn s1 s2 hs1 hs2 hgs); exact bsD) | (apply op_call (grown26_fn s1 w2 hs1 hw2 hgs); exact bsD) | (apply op_call (grown26_fn w2 w2 hw2 hw2 hgs); exact bsD) | (apply op_call (grown26_fn s2 s2 hs2 hs2 hgs); exact bsD) | (apply op_call (grown26_fn s1 s1 hs1 hs1 hgs); exact bsD) | (apply op_iaddr stepT.toTy (x := s); rfl; rfl; exact Int.natCast_nonneg _; (rw [Int.toNat_natCast]; exact hs)) | (apply op_faddr step_kind; rfl; decide) | (apply op_load (intT .i64); rfl) | (exact bsO)) | apply J.seq | apply E.next | apply J.lq | apply Lq.nil | apply PRun.nil | apply J.block | apply E.in_normal | apply J.skip | (apply Lq.store; rfl; rfl; exact bsP; exact bsS; rfl; rfl) | (apply PRun.al; rfl) | (apply Lq.al; rfl; rfl; intro b) | (apply Open.cons; intro b) | apply Open.nil | (apply Lq.pass; rfl; rfl; rfl) | (apply PRun.pass; rfl; rfl) | (apply Lq.skip; rfl; rfl; rfl; exact bsB) | (apply PRun.skip; rfl; rfl; exact bsB) | (apply J.drawN; exact mixed; kernel_rfl) | (apply J.cond_t; rfl) | (apply J.cond_f; rfl) | apply J.exit | apply E.then_exit | apply E.in_exit | (apply E.in_other; rfl))
        exact E.again (i + 1, m2, D7) (by dsimp only; omega) ⟨by dsimp only; omega, hVn, hok2, hgr2⟩ (Sub.same (by repeat' (first | exact trivial | refine ⟨rfl, ?_⟩)))
      by_cases k10 : s.kind = 10
      · repeat (first | ((first | (apply Lq.s; rfl) | apply PRun.s | (apply Lq.run; rfl; rfl; rfl; exact bsB) | (apply PRun.run; rfl; rfl; exact bsB)); first | (apply op_load viewT; rfl) | (apply op_call (same_fn w1 hw1); exact bsD) | (apply op_call (same_fn s1 hs1); exact bsD) | (apply op_call (same_fn s2 hs2); exact bsD) | (apply op_call (same_fn w2 hw2); exact bsD) | (apply op_bneM; rfl; rfl) | (apply op_call (grown26_fn s1 s2 hs1 hs2 hgs); exact bsD) | (apply op_call (grown26_fn s1 w2 hs1 hw2 hgs); exact bsD) | (apply op_call (grown26_fn w2 w2 hw2 hw2 hgs); exact bsD) | (apply op_call (grown26_fn s2 s2 hs2 hs2 hgs); exact bsD) | (apply op_call (grown26_fn s1 s1 hs1 hs1 hgs); exact bsD) | (apply op_iaddr stepT.toTy (x := s); rfl; rfl; exact Int.natCast_nonneg _; (rw [Int.toNat_natCast]; exact hs)) | (apply op_faddr step_kind; rfl; decide) | (apply op_load (intT .i64); rfl) | (exact bsO)) | apply J.seq | apply E.next | apply J.lq | apply Lq.nil | apply PRun.nil | apply J.block | apply E.in_normal | apply J.skip | (apply Lq.store; rfl; rfl; exact bsP; exact bsS; rfl; rfl) | (apply PRun.al; rfl) | (apply Lq.al; rfl; rfl; intro b) | (apply Open.cons; intro b) | apply Open.nil | (apply Lq.pass; rfl; rfl; rfl) | (apply PRun.pass; rfl; rfl) | (apply Lq.skip; rfl; rfl; rfl; exact bsB) | (apply PRun.skip; rfl; rfl; exact bsB) | (apply J.drawN; exact mixed; kernel_rfl) | (apply J.cond_t; rfl) | (apply J.cond_f; rfl) | apply J.exit | apply E.then_exit | apply E.in_exit | (apply E.in_other; rfl))
        exact E.again (i + 1, m2, D7) (by dsimp only; omega) ⟨by dsimp only; omega, hVn, hok2, hgr2⟩ (Sub.same (by repeat' (first | exact trivial | refine ⟨rfl, ?_⟩)))
      by_cases k1 : s.kind = 1
      · repeat (first | ((first | (apply Lq.s; rfl) | apply PRun.s | (apply Lq.run; rfl; rfl; rfl; exact bsB) | (apply PRun.run; rfl; rfl; exact bsB)); first | (apply op_load viewT; rfl) | (apply op_call (same_fn w1 hw1); exact bsD) | (apply op_call (same_fn s1 hs1); exact bsD) | (apply op_call (same_fn s2 hs2); exact bsD) | (apply op_call (same_fn w2 hw2); exact bsD) | (apply op_bneM; rfl; rfl) | (apply op_call (grown26_fn s1 s2 hs1 hs2 hgs); exact bsD) | (apply op_call (grown26_fn s1 w2 hs1 hw2 hgs); exact bsD) | (apply op_call (grown26_fn w2 w2 hw2 hw2 hgs); exact bsD) | (apply op_call (grown26_fn s2 s2 hs2 hs2 hgs); exact bsD) | (apply op_call (grown26_fn s1 s1 hs1 hs1 hgs); exact bsD) | (apply op_iaddr stepT.toTy (x := s); rfl; rfl; exact Int.natCast_nonneg _; (rw [Int.toNat_natCast]; exact hs)) | (apply op_faddr step_kind; rfl; decide) | (apply op_load (intT .i64); rfl) | (exact bsO)) | apply J.seq | apply E.next | apply J.lq | apply Lq.nil | apply PRun.nil | apply J.block | apply E.in_normal | apply J.skip | (apply Lq.store; rfl; rfl; exact bsP; exact bsS; rfl; rfl) | (apply PRun.al; rfl) | (apply Lq.al; rfl; rfl; intro b) | (apply Open.cons; intro b) | apply Open.nil | (apply Lq.pass; rfl; rfl; rfl) | (apply PRun.pass; rfl; rfl) | (apply Lq.skip; rfl; rfl; rfl; exact bsB) | (apply PRun.skip; rfl; rfl; exact bsB) | (apply J.drawN; exact mixed; kernel_rfl) | (apply J.cond_t; rfl) | (apply J.cond_f; rfl) | apply J.exit | apply E.then_exit | apply E.in_exit | (apply E.in_other; rfl))
        exact E.again (i + 1, m2, D7) (by dsimp only; omega) ⟨by dsimp only; omega, hVn, hok2, hgr2⟩ (Sub.same (by repeat' (first | exact trivial | refine ⟨rfl, ?_⟩)))
      · repeat (first | ((first | (apply Lq.s; rfl) | apply PRun.s | (apply Lq.run; rfl; rfl; rfl; exact bsB) | (apply PRun.run; rfl; rfl; exact bsB)); first | (apply op_load viewT; rfl) | (apply op_call (same_fn w1 hw1); exact bsD) | (apply op_call (same_fn s1 hs1); exact bsD) | (apply op_call (same_fn s2 hs2); exact bsD) | (apply op_call (same_fn w2 hw2); exact bsD) | (apply op_bneM; rfl; rfl) | (apply op_call (grown26_fn s1 s2 hs1 hs2 hgs); exact bsD) | (apply op_call (grown26_fn s1 w2 hs1 hw2 hgs); exact bsD) | (apply op_call (grown26_fn w2 w2 hw2 hw2 hgs); exact bsD) | (apply op_call (grown26_fn s2 s2 hs2 hs2 hgs); exact bsD) | (apply op_call (grown26_fn s1 s1 hs1 hs1 hgs); exact bsD) | (apply op_iaddr stepT.toTy (x := s); rfl; rfl; exact Int.natCast_nonneg _; (rw [Int.toNat_natCast]; exact hs)) | (apply op_faddr step_kind; rfl; decide) | (apply op_load (intT .i64); rfl) | (exact bsO)) | apply J.seq | apply E.next | apply J.lq | apply Lq.nil | apply PRun.nil | apply J.block | apply E.in_normal | apply J.skip | (apply Lq.store; rfl; rfl; exact bsP; exact bsS; rfl; rfl) | (apply PRun.al; rfl) | (apply Lq.al; rfl; rfl; intro b) | (apply Open.cons; intro b) | apply Open.nil | (apply Lq.pass; rfl; rfl; rfl) | (apply PRun.pass; rfl; rfl) | (apply Lq.skip; rfl; rfl; rfl; exact bsB) | (apply PRun.skip; rfl; rfl; exact bsB) | (apply J.drawN; exact mixed; kernel_rfl) | (apply J.cond_t; rfl) | (apply J.cond_f; rfl) | apply J.exit | apply E.then_exit | apply E.in_exit | (apply E.in_other; rfl))
        exact E.again (i + 1, m2, D7) (by dsimp only; omega) ⟨by dsimp only; omega, hVn, hok2, hgr2⟩ (Sub.same (by repeat' (first | exact trivial | refine ⟨rfl, ?_⟩)))
  · obtain rfl : i = l.length := by omega
    repeat (first | ((first | (apply Lq.s; rfl) | apply PRun.s | (apply Lq.run; rfl; rfl; rfl; exact bsB) | (apply PRun.run; rfl; rfl; exact bsB)); first | (apply op_len (xs := l); rfl) | (apply op_call lives26_fn; exact bsD) | (exact bsO)) | apply J.seq | apply E.next | apply J.lq | apply Lq.nil | apply PRun.nil | apply J.block | apply E.in_normal | apply J.skip | (apply Lq.store; rfl; rfl; exact bsP; exact bsS; rfl; rfl) | (apply PRun.al; rfl) | (apply Lq.al; rfl; rfl; intro b) | (apply Open.cons; intro b) | apply Open.nil | (apply Lq.pass; rfl; rfl; rfl) | (apply PRun.pass; rfl; rfl) | (apply Lq.skip; rfl; rfl; rfl; exact bsB) | (apply PRun.skip; rfl; rfl; exact bsB) | (apply J.drawN; exact mixed; kernel_rfl) | (apply J.cond_t; rfl) | (apply J.cond_f; rfl) | apply J.exit | apply E.then_exit | apply E.in_exit | (apply E.in_other; rfl))
    (refine J.ret ?_; (repeat (first | refine E.then_ret ?_ | refine E.in_ret ?_)))
    exact E.ret1 rfl rfl
end Go.Proofs.YtljbbajelkkafaaDoor.L
