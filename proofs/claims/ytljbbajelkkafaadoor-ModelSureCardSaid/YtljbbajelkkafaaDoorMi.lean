/-
  A model's shreds and steps, walked.
-/
import Derived.Test.YtljbbajelkkafaaDoorMh
namespace Go.Proofs.YtljbbajelkkafaaDoor.L
open Go
set_option linter.unusedSectionVars false
variable [Globs] [Has_sha_table] [Has_sha_begin]
set_option linter.unusedVariables false
theorem stepOf_seal {m : MM} {i : Nat} {s : MStr} {x : StepS} {full : Bool} (h : errS s m.cur.clock x = 0) (hd : errDone m.todo full = 0) (hk : x.kind = 10) : stepOf m i s x full = (sealM (updM m i (resS s m.cur.clock x)), 0, 0) := by
  unfold stepOf; rw [if_pos h, if_pos hd, if_pos hk, if_neg (by rw [hk]; decide)]
theorem rec_z (t : Int) (b : Bool) : agg (splice (splice (recT.cells (zRec 0 false)) 0 [is (.int .i64 t)]) 36 [is (.bool b)]) = recT.val (zRec t b) := rfl
set_option linter.unusedVariables false
set_option linter.unusedSimpArgs false
attribute [local irreducible] J Lq E OpP PRun is any agg tup ptr sl PRunW OpE
attribute [local irreducible] slt row leafH shaH recsR OpR stL mdl
set_option maxHeartbeats 8000000 in
theorem mshred_fnR {B : Nat} {m : MM} {A1 : Option Addr} {c1 : Nat} {xs1 : List MO} {nb no c2 : Nat} {xs2 : List MO} {K : Nat} {ss : MStr} {sa : Option Addr} {sc : Nat} (x : StepS) (full : Bool) (hf : fits m xs1 xs2) (hk : MOk m) (hs : xs2[K]? = some (ss, sa, sc)) (hkind : x.kind = 10) :
    FnR Tryd.prog 63 [is (.pointer (some ⟨B, 0, none⟩)), is (.pointer (some ⟨nb, no + K * 4, none⟩)), is (.int .i64 x.n), is (.bool full)] (mdl B m A1 c1 xs1 (some ⟨nb, no, none⟩) c2 xs2)
    (fun ψ Δ => ψ = is (.int .i64 (stepOf m K ss x full).2.2) ∧ mdV B (stepOf m K ss x full).1 Δ) := by
  have hmd : mdV B m (mdl B m A1 c1 xs1 (some ⟨nb, no, none⟩) c2 xs2) := ⟨A1, c1, xs1, _, c2, xs2, hf, rfl⟩
  obtain ⟨hl2, hg2⟩ := fits_g hf.2 hk.cur
  obtain ⟨hrl, hhl⟩ : ss.recs.length ≤ 1000 ∧ ss.holds.length ≤ 1000 := hg2 _ (List.mem_of_getElem? hs)
  have hKl := (List.getElem?_eq_some_iff.1 hs).1
  have hso : StrOk ss := hk.cur.2 ss (List.mem_of_getElem? (map_at hf.2 hs))
  have hES : errS ss m.cur.clock x = errShredM ss m.cur.clock x.n := by unfold errS; simp [hkind]
  have hrs : resS ss m.cur.clock x = { ss with recs := shredR ss.recs x.n.toNat } := by unfold resS; simp [hkind]
  generalize hxn : x.n = i at *
  refine FnR.mk' 74 Tryd.func63 rfl rfl rfl rfl fun w0 H0 => ?_
  refine J.perm (mdl_open hs) ?_; obtain ⟨D, hD⟩ : ∃ D, D = recsR (xs2.eraseIdx K) ++ stL A1 c1 xs1 := ⟨_, rfl⟩; rw [← hD]; refine J.open (List.Perm.swap _ _ _) (by intro h; rw [h] at hs; simp at hs) ?_; intro mb mo cap pre post hR; obtain ⟨hv, hpre, hle, hcap, hroom, _⟩ := hR; injection hv with hA _ hc; cases hA; cases hc
  by_cases hi0 : i < 0
  · rw [stepOf_err (hES.trans (errShred_range (.inl hi0))) (by decide)]
    repeat (first | ((first | (apply Lq.s; rfl) | apply PRun.s | (apply Lq.run; rfl; rfl; rfl; exact bsB) | (apply PRun.run; rfl; rfl; exact bsB)); first | (exact bsO)) | apply J.seq | apply E.next | apply J.lq | apply Lq.nil | apply PRun.nil | apply J.block | apply E.in_normal | apply J.skip | (apply Lq.store; rfl; rfl; exact bsP; exact bsS; rfl; rfl) | (apply PRun.al; rfl) | (apply Lq.al; rfl; rfl; intro b) | (apply Open.cons; intro b) | apply Open.nil | (apply Lq.pass; rfl; rfl; rfl) | (apply PRun.pass; rfl; rfl) | (apply Lq.skip; rfl; rfl; rfl; exact bsB) | (apply PRun.skip; rfl; rfl; exact bsB) | (apply J.cond_t; rfl) | (apply J.cond_f; rfl) | apply J.exit | apply E.then_exit | apply E.in_exit | (apply E.in_other; rfl))
    (refine J.ret ?_; (repeat (first | refine E.then_ret ?_ | refine E.in_ret ?_)))
    refine E.close mstrO.toTy xs2 (b := nb) (o := no) (cap := c2) (by first | exact List.Perm.refl _ | exact List.Perm.swap _ _ _) hroom hle hcap (take_rowT mstrO.toTy hpre) ?_
    exact E.retR1 (G := []) rfl rfl ⟨rfl, hmd⟩ (by rw [List.append_nil, hD]; exact (List.Perm.swap _ _ _).trans (mdl_open hs).symm)
  by_cases hi1 : (ss.recs.length : Int) ≤ i
  · rw [stepOf_err (hES.trans (errShred_range (.inr hi1))) (by decide)]
    repeat (first | ((first | (apply Lq.s; rfl) | apply PRun.s | (apply Lq.run; rfl; rfl; rfl; exact bsB) | (apply PRun.run; rfl; rfl; exact bsB)); first | (apply op_ocell (φ := is (str ss.name)); rfl; exact bsM; exact cell_rfld mstrO.toTy (k := 0) hpre hs (show 0 < 4 by decide)) | (apply op_ocell (φ := is (.int .i64 ss.retain)); rfl; exact bsM; exact cell_rfld mstrO.toTy (k := 1) hpre hs (show 1 < 4 by decide)) | (apply op_ocell (φ := sl strT.toTy ss.holds); rfl; exact bsM; exact cell_rfld mstrO.toTy (k := 2) hpre hs (show 2 < 4 by decide)) | (apply op_ocell (φ := is (.slice sa ss.recs.length sc)); rfl; exact bsM; exact cell_rfld mstrO.toTy (k := 3) hpre hs (show 3 < 4 by decide)) | (apply op_slen; rfl) | (exact bsO)) | apply J.seq | apply E.next | apply J.lq | apply Lq.nil | apply PRun.nil | apply J.block | apply E.in_normal | apply J.skip | (apply Lq.store; rfl; rfl; exact bsP; exact bsS; rfl; rfl) | (apply PRun.al; rfl) | (apply Lq.al; rfl; rfl; intro b) | (apply Open.cons; intro b) | apply Open.nil | (apply Lq.pass; rfl; rfl; rfl) | (apply PRun.pass; rfl; rfl) | (apply Lq.skip; rfl; rfl; rfl; exact bsB) | (apply PRun.skip; rfl; rfl; exact bsB) | (apply J.cond_t; rfl) | (apply J.cond_f; rfl) | apply J.exit | apply E.then_exit | apply E.in_exit | (apply E.in_other; rfl))
    (refine J.ret ?_; (repeat (first | refine E.then_ret ?_ | refine E.in_ret ?_)))
    refine E.close mstrO.toTy xs2 (b := nb) (o := no) (cap := c2) (by first | exact List.Perm.refl _ | exact List.Perm.swap _ _ _) hroom hle hcap (take_rowT mstrO.toTy hpre) ?_
    exact E.retR1 (G := []) rfl rfl ⟨rfl, hmd⟩ (by rw [List.append_nil, hD]; exact (List.Perm.swap _ _ _).trans (mdl_open hs).symm)
  obtain ⟨k, rfl⟩ : ∃ k : Nat, i = k := ⟨i.toNat, by omega⟩
  obtain ⟨r, hr⟩ : ∃ r, ss.recs[k]? = some r := ⟨_, List.getElem?_eq_getElem (by omega)⟩
  rw [errShred_in hr] at hES
  rw [Int.toNat_natCast, shredR_eq hr] at hrs
  have hmf := may_fn (zRec r.time r.shred) ss.retain ss.holds.length m.cur.clock
  refine J.open (Δ' := own nb 79 _ :: own B 66 _ :: D) (permP [[_], [_], [_], _] [0, 1, 2, 3] [2, 0, 1, 3] (by decide)) (by intro h; rw [h] at hr; simp at hr) ?_
  intro ob oo ocap pre2 post2 hR2
  obtain ⟨hv2, hpre2, hle2, hcap2, hroom2, _⟩ := hR2
  injection hv2 with hA2 _ hc2
  cases hA2; cases hc2
  unfold mdC
  repeat (first | ((first | (apply Lq.s; rfl) | apply PRun.s | (apply Lq.run; rfl; rfl; rfl; exact bsB) | (apply PRun.run; rfl; rfl; exact bsB)); first | (apply op_ocell (φ := is (.slice (some ⟨ob, oo, none⟩) ss.recs.length sc)); rfl; exact bsM; exact cell_rfld mstrO.toTy (k := 3) hpre hs (show 3 < 4 by decide)) | (apply op_ocell (φ := is (.int .i64 ss.retain)); rfl; exact bsM; exact cell_rfld mstrO.toTy (k := 1) hpre hs (show 1 < 4 by decide)) | (apply op_ocell (φ := sl strT.toTy ss.holds); rfl; exact bsM; exact cell_rfld mstrO.toTy (k := 2) hpre hs (show 2 < 4 by decide)) | (apply op_slen; rfl) | (apply op_siaddr; rfl; rfl; omega; omega) | (exact bsO)) | apply J.seq | apply E.next | apply J.lq | apply Lq.nil | apply PRun.nil | apply J.block | apply E.in_normal | apply J.skip | (apply Lq.store; rfl; rfl; exact bsP; exact bsS; rfl; rfl) | (apply PRun.al; rfl) | (apply Lq.al; rfl; rfl; intro b) | (apply Open.cons; intro b) | apply Open.nil | (apply Lq.pass; rfl; rfl; rfl) | (apply PRun.pass; rfl; rfl) | (apply Lq.skip; rfl; rfl; rfl; exact bsB) | (apply PRun.skip; rfl; rfl; exact bsB) | (apply J.cond_t; rfl) | (apply J.cond_f; rfl) | apply J.exit | apply E.then_exit | apply E.in_exit | (apply E.in_other; rfl))
  rw [Int.toNat_natCast]
  refine J.drawW 27 [(none, none), (none, none), (none, none), (none, none), (none, none), (none, none), (none, none), (none, none), (none, none), (none, none), (none, none), (none, none), (none, none), (none, none), (none, none), (none, none), (none, none), (none, none), (none, none), (none, none), (none, none), (none, none), (none, none), (none, none), (none, none), (none, none), (none, none)] mixed (by kernel_rfl) ?_
  by_cases hm0 : mayM (zRec r.time r.shred) ss.retain ss.holds.length m.cur.clock = 0
  · have hE0 : errS ss m.cur.clock x = 0 := by rw [hES, hm0]
    rw [hm0] at hmf
    repeat (first | ((first | apply PRunW.s | (apply PRunW.run; rfl; rfl; exact bsB) | (apply Lq.s; rfl) | apply PRun.s | (apply Lq.run; rfl; rfl; rfl; exact bsB) | (apply PRun.run; rfl; rfl; exact bsB)); first | (apply op_ocell (φ := is (.slice (some ⟨ob, oo, none⟩) ss.recs.length sc)); rfl; exact bsM; exact cell_rfld mstrO.toTy (k := 3) hpre hs (show 3 < 4 by decide)) | (apply op_ocell (φ := is (.int .i64 ss.retain)); rfl; exact bsM; exact cell_rfld mstrO.toTy (k := 1) hpre hs (show 1 < 4 by decide)) | (apply op_ocell (φ := sl strT.toTy ss.holds); rfl; exact bsM; exact cell_rfld mstrO.toTy (k := 2) hpre hs (show 2 < 4 by decide)) | (apply op_ocell (φ := is (.int .i64 r.time)); rfl; exact bsM; exact cell_rfld mrecT.toTy (k := 0) hpre2 hr (show 0 < 35 by decide)) | (apply op_ocell (φ := is (.bool r.shred)); rfl; exact bsM; exact cell_rfld mrecT.toTy (k := 2) hpre2 hr (show 2 < 35 by decide)) | (apply op_ocell; rfl; exact bsM; rfl) | (apply op_slen; rfl) | (apply op_len (xs := ss.holds); rfl) | (apply op_call hmf; exact bsD) | (exact bsO)) | apply J.seq | apply E.next | apply J.lq | apply Lq.nil | apply PRun.nil | apply J.block | apply E.in_normal | apply J.skip | (apply Lq.store; rfl; rfl; exact bsP; exact bsS; rfl; rfl) | (apply PRun.al; rfl) | (apply Lq.al; rfl; rfl; intro b) | (apply Open.cons; intro b) | apply Open.nil | (apply Lq.pass; rfl; rfl; rfl) | (apply PRun.pass; rfl; rfl) | (apply Lq.skip; rfl; rfl; rfl; exact bsB) | (apply PRun.skip; rfl; rfl; exact bsB) | (apply J.cond_t; rfl) | (apply J.cond_f; rfl) | apply J.exit | apply E.then_exit | apply E.in_exit | (apply E.in_other; rfl) | apply PRunW.nil | (apply PRunW.al; rfl) | (apply PRunW.pass; rfl; rfl) | (apply PRunW.skip; rfl; rfl; exact bsB) | (apply Open.pv; intro b) | apply Open.av | (apply Open.rv; intro A c))
    by_cases hd : errDone m.todo full = 0
    · rw [stepOf_seal hE0 hd hkind, hrs]
      refine Lq.callS (Δ0 := [_]) (Δf := own ob 81 _ :: own nb 79 _ :: D) (mdone_ok full hd) rfl bsD (permP [[_], [_], [_], _] [0, 1, 2, 3] [2, 0, 1, 3] (by decide)) ?_
      rintro _ _ ⟨rfl, rfl⟩
      obtain ⟨r1, hr1⟩ : ∃ r1 : MRec, r1 = { r with shred := true } := ⟨_, rfl⟩
      obtain ⟨r2, hr2⟩ : ∃ r2 : MRec, r2 = { r with shred := true, text := [] } := ⟨_, rfl⟩
      obtain ⟨S', hS'⟩ : ∃ S' : MStr, S' = { ss with recs := ss.recs.set k r2 } := ⟨_, rfl⟩
      rw [← hr2, ← hS']
      have hkl := (List.getElem?_eq_some_iff.1 hr).1
      have hx1 : (ss.recs.set k r1)[k]? = some r1 := List.getElem?_set_self hkl
      have hrec : S'.recs = ss.recs.set k r2 := by rw [hS']
      have hset : (ss.recs.set k r1).set k r2 = ss.recs.set k r2 := List.set_set ..
      have hrll : S'.recs.length = ss.recs.length := by rw [hrec, List.length_set]
      repeat (first | ((first | (apply Lq.s; rfl) | apply PRun.s | (apply Lq.run; rfl; rfl; rfl; exact bsB) | (apply PRun.run; rfl; rfl; exact bsB)); first | (exact bsO)) | apply J.seq | apply E.next | apply J.lq | apply Lq.nil | apply PRun.nil | apply J.block | apply E.in_normal | apply J.skip | (apply Lq.store; rfl; rfl; exact bsP; exact bsS; rfl; rfl) | (apply PRun.al; rfl) | (apply Lq.al; rfl; rfl; intro b) | (apply Open.cons; intro b) | apply Open.nil | (apply Lq.pass; rfl; rfl; rfl) | (apply PRun.pass; rfl; rfl) | (apply Lq.skip; rfl; rfl; rfl; exact bsB) | (apply PRun.skip; rfl; rfl; exact bsB) | (apply J.cond_t; rfl) | (apply J.cond_f; rfl) | apply J.exit | apply E.then_exit | apply E.in_exit | (apply E.in_other; rfl))
      refine Lq.storeE (φs' := pre2 ++ flat mrecT.toTy (ss.recs.set k r1) ++ post2) rfl rfl (List.Perm.swap _ _ _) (Seg.is rfl) rfl (room_rfld mrecT.toTy (k := 2) (n := 1) hpre2 hr (show 2 + 1 ≤ 35 by decide)) (set_rfld mrecT.toTy (post := post2) (v := r1) hpre2 hr (k := 2) (show 2 + 1 ≤ 35 by decide) (by rw [hr1]; rfl)) ?_
      repeat (first | ((first | (apply Lq.s; rfl) | apply PRun.s | (apply Lq.run; rfl; rfl; rfl; exact bsB) | (apply PRun.run; rfl; rfl; exact bsB)); first | (exact bsO)) | apply J.seq | apply E.next | apply J.lq | apply Lq.nil | apply PRun.nil | apply J.block | apply E.in_normal | apply J.skip | (apply Lq.store; rfl; rfl; exact bsP; exact bsS; rfl; rfl) | (apply PRun.al; rfl) | (apply Lq.al; rfl; rfl; intro b) | (apply Open.cons; intro b) | apply Open.nil | (apply Lq.pass; rfl; rfl; rfl) | (apply PRun.pass; rfl; rfl) | (apply Lq.skip; rfl; rfl; rfl; exact bsB) | (apply PRun.skip; rfl; rfl; exact bsB) | (apply J.cond_t; rfl) | (apply J.cond_f; rfl) | apply J.exit | apply E.then_exit | apply E.in_exit | (apply E.in_other; rfl))
      refine Lq.storeE (φs' := pre2 ++ flat mrecT.toTy S'.recs ++ post2) rfl rfl (List.Perm.refl _) (Seg.is rfl) rfl (room_rfld mrecT.toTy (k := 1) (n := 1) hpre2 hx1 (show 1 + 1 ≤ 35 by decide)) (by rw [hrec, ← hset]; exact set_rfld mrecT.toTy (post := post2) (seg := [is (.string ⟨#[]⟩)]) (v := r2) hpre2 hx1 (k := 1) (show 1 + 1 ≤ 35 by decide) (by rw [hr1, hr2]; rfl)) ?_
      repeat (first | ((first | (apply Lq.s; rfl) | apply PRun.s | (apply Lq.run; rfl; rfl; rfl; exact bsB) | (apply PRun.run; rfl; rfl; exact bsB)); first | (exact bsO)) | apply J.seq | apply E.next | apply J.lq | apply Lq.nil | apply PRun.nil | apply J.block | apply E.in_normal | apply J.skip | (apply Lq.store; rfl; rfl; exact bsP; exact bsS; rfl; rfl) | (apply PRun.al; rfl) | (apply Lq.al; rfl; rfl; intro b) | (apply Open.cons; intro b) | apply Open.nil | (apply Lq.pass; rfl; rfl; rfl) | (apply PRun.pass; rfl; rfl) | (apply Lq.skip; rfl; rfl; rfl; exact bsB) | (apply PRun.skip; rfl; rfl; exact bsB) | (apply J.cond_t; rfl) | (apply J.cond_f; rfl) | apply J.exit | apply E.then_exit | apply E.in_exit | (apply E.in_other; rfl))
      refine Lq.close mrecT.toTy S'.recs (b := ob) (o := oo) (cap := sc) (List.Perm.refl _) (by rw [hrec]; exact set_len' mrecT.toTy hroom2) (by rw [hrll]; exact hle2) hcap2 (take_rowT mrecT.toTy hpre2) ?_
      have hfs := flat_set_same mstrO.toTy (v := (S', some ⟨ob, oo, none⟩, sc)) hs (by
        show [is (str S'.name), is (.int .i64 S'.retain), sl strT.toTy S'.holds, is (.slice (some ⟨ob, oo, none⟩) S'.recs.length sc)] = _
        rw [hrll, hS']; rfl)
      refine Lq.close mstrO.toTy (xs2.set K (S', some ⟨ob, oo, none⟩, sc)) (b := nb) (o := no) (cap := c2) (Δ' := row _ _ _ _ :: own B 66 _ :: D) (permP [[_], [_], [_], _] [0, 1, 2, 3] [2, 0, 1, 3] (by decide)) hroom (by rw [List.length_set]; exact hle) hcap (by rw [List.length_set, hfs]; exact take_rowT mstrO.toTy hpre) ?_
      refine Lq.callS (Δ0 := mdl B (updM m K S') A1 c1 xs1 (some ⟨nb, no, none⟩) c2 (xs2.set K (S', some ⟨ob, oo, none⟩, sc))) (Δf := []) (mseal_fnR (fits_upd hf K (S', some ⟨ob, oo, none⟩, sc)) (by rw [List.length_set]; omega) (fun y hy => by
        rcases List.mem_or_eq_of_mem_set hy with h1 | h1
        · exact hg2 y h1
        · rw [h1]
          exact ⟨by show S'.recs.length ≤ 1000; omega, by show S'.holds.length ≤ 1000; rw [hS']; exact hhl⟩)) rfl bsD (by
        have := mdl_put (B := B) (m := updM m K S') (A1 := A1) (c1 := c1) (xs1 := xs1) (A2 := some ⟨nb, no, none⟩) (c2 := c2) (S', some ⟨ob, oo, none⟩, sc) hKl
        rw [List.append_nil]
        rw [List.length_set] at this ⊢
        refine List.Perm.trans ?_ this
        rw [hD]
        exact permP [[_], [_], [_], _] [0, 1, 2, 3] [2, 0, 1, 3] (by decide)) ?_
      rintro _ D2 ⟨rfl, hV⟩
      rw [List.append_nil]
      repeat (first | ((first | (apply Lq.s; rfl) | apply PRun.s | (apply Lq.run; rfl; rfl; rfl; exact bsB) | (apply PRun.run; rfl; rfl; exact bsB)); first | (exact bsO)) | apply J.seq | apply E.next | apply J.lq | apply Lq.nil | apply PRun.nil | apply J.block | apply E.in_normal | apply J.skip | (apply Lq.store; rfl; rfl; exact bsP; exact bsS; rfl; rfl) | (apply PRun.al; rfl) | (apply Lq.al; rfl; rfl; intro b) | (apply Open.cons; intro b) | apply Open.nil | (apply Lq.pass; rfl; rfl; rfl) | (apply PRun.pass; rfl; rfl) | (apply Lq.skip; rfl; rfl; rfl; exact bsB) | (apply PRun.skip; rfl; rfl; exact bsB) | (apply J.cond_t; rfl) | (apply J.cond_f; rfl) | apply J.exit | apply E.then_exit | apply E.in_exit | (apply E.in_other; rfl))
      (refine J.ret ?_; (repeat (first | refine E.then_ret ?_ | refine E.in_ret ?_)))
      exact E.retR1 (G := []) rfl rfl ⟨rfl, hV⟩ (by rw [List.append_nil])
    · rw [stepOf_done hE0 hd]
      have hdb := mdone_bad (B := B) (m := m) (A1 := A1) (n1 := xs1.length) (c1 := c1) (A2 := some ⟨nb, no, none⟩) (n2 := xs2.length) (c2 := c2) full hd
      refine Lq.callS (Δ0 := [_]) (Δf := own ob 81 _ :: own nb 79 _ :: D) hdb rfl bsD (permP [[_], [_], [_], _] [0, 1, 2, 3] [2, 0, 1, 3] (by decide)) ?_
      rintro _ _ ⟨rfl, rfl⟩
      generalize errDone m.todo full = ed at *
      repeat (first | ((first | (apply Lq.s; rfl) | apply PRun.s | (apply Lq.run; rfl; rfl; rfl; exact bsB) | (apply PRun.run; rfl; rfl; exact bsB)); first | (exact bsO)) | apply J.seq | apply E.next | apply J.lq | apply Lq.nil | apply PRun.nil | apply J.block | apply E.in_normal | apply J.skip | (apply Lq.store; rfl; rfl; exact bsP; exact bsS; rfl; rfl) | (apply PRun.al; rfl) | (apply Lq.al; rfl; rfl; intro b) | (apply Open.cons; intro b) | apply Open.nil | (apply Lq.pass; rfl; rfl; rfl) | (apply PRun.pass; rfl; rfl) | (apply Lq.skip; rfl; rfl; rfl; exact bsB) | (apply PRun.skip; rfl; rfl; exact bsB) | (apply J.cond_t; rfl) | (apply J.cond_f; rfl) | apply J.exit | apply E.then_exit | apply E.in_exit | (apply E.in_other; rfl))
      (refine J.ret ?_; (repeat (first | refine E.then_ret ?_ | refine E.in_ret ?_)))
      refine E.close mrecT.toTy ss.recs (b := ob) (o := oo) (cap := sc) (List.Perm.swap _ _ _) hroom2 hle2 hcap2 (take_rowT mrecT.toTy hpre2) ?_
      refine E.close mstrO.toTy xs2 (b := nb) (o := no) (cap := c2) (Δ' := row _ _ _ _ :: own B 66 _ :: D) (permP [[_], [_], [_], _] [0, 1, 2, 3] [2, 0, 1, 3] (by decide)) hroom hle hcap (take_rowT mstrO.toTy hpre) ?_
      exact E.retR1 (G := []) rfl rfl ⟨rfl, hmd⟩ (by rw [List.append_nil, hD]; exact (permP [[_], [_], [_], _] [0, 1, 2, 3] [2, 0, 1, 3] (by decide)).trans (mdl_open hs).symm)
  · rw [stepOf_err hES hm0]
    generalize mayM (zRec r.time r.shred) ss.retain ss.holds.length m.cur.clock = me at *
    repeat (first | ((first | apply PRunW.s | (apply PRunW.run; rfl; rfl; exact bsB) | (apply Lq.s; rfl) | apply PRun.s | (apply Lq.run; rfl; rfl; rfl; exact bsB) | (apply PRun.run; rfl; rfl; exact bsB)); first | (apply op_ocell (φ := is (.slice (some ⟨ob, oo, none⟩) ss.recs.length sc)); rfl; exact bsM; exact cell_rfld mstrO.toTy (k := 3) hpre hs (show 3 < 4 by decide)) | (apply op_ocell (φ := is (.int .i64 ss.retain)); rfl; exact bsM; exact cell_rfld mstrO.toTy (k := 1) hpre hs (show 1 < 4 by decide)) | (apply op_ocell (φ := sl strT.toTy ss.holds); rfl; exact bsM; exact cell_rfld mstrO.toTy (k := 2) hpre hs (show 2 < 4 by decide)) | (apply op_ocell (φ := is (.int .i64 r.time)); rfl; exact bsM; exact cell_rfld mrecT.toTy (k := 0) hpre2 hr (show 0 < 35 by decide)) | (apply op_ocell (φ := is (.bool r.shred)); rfl; exact bsM; exact cell_rfld mrecT.toTy (k := 2) hpre2 hr (show 2 < 35 by decide)) | (apply op_ocell; rfl; exact bsM; rfl) | (apply op_slen; rfl) | (apply op_len (xs := ss.holds); rfl) | (apply op_call hmf; exact bsD) | (exact bsO)) | apply J.seq | apply E.next | apply J.lq | apply Lq.nil | apply PRun.nil | apply J.block | apply E.in_normal | apply J.skip | (apply Lq.store; rfl; rfl; exact bsP; exact bsS; rfl; rfl) | (apply PRun.al; rfl) | (apply Lq.al; rfl; rfl; intro b) | (apply Open.cons; intro b) | apply Open.nil | (apply Lq.pass; rfl; rfl; rfl) | (apply PRun.pass; rfl; rfl) | (apply Lq.skip; rfl; rfl; rfl; exact bsB) | (apply PRun.skip; rfl; rfl; exact bsB) | (apply J.cond_t; rfl) | (apply J.cond_f; rfl) | apply J.exit | apply E.then_exit | apply E.in_exit | (apply E.in_other; rfl) | apply PRunW.nil | (apply PRunW.al; rfl) | (apply PRunW.pass; rfl; rfl) | (apply PRunW.skip; rfl; rfl; exact bsB) | (apply Open.pv; intro b) | apply Open.av | (apply Open.rv; intro A c))
    repeat (first | ((first | (apply Lq.s; rfl) | apply PRun.s | (apply Lq.run; rfl; rfl; rfl; exact bsB) | (apply PRun.run; rfl; rfl; exact bsB)); first | (exact bsO)) | apply J.seq | apply E.next | apply J.lq | apply Lq.nil | apply PRun.nil | apply J.block | apply E.in_normal | apply J.skip | (apply Lq.store; rfl; rfl; exact bsP; exact bsS; rfl; rfl) | (apply PRun.al; rfl) | (apply Lq.al; rfl; rfl; intro b) | (apply Open.cons; intro b) | apply Open.nil | (apply Lq.pass; rfl; rfl; rfl) | (apply PRun.pass; rfl; rfl) | (apply Lq.skip; rfl; rfl; rfl; exact bsB) | (apply PRun.skip; rfl; rfl; exact bsB) | (apply J.cond_t; rfl) | (apply J.cond_f; rfl) | apply J.exit | apply E.then_exit | apply E.in_exit | (apply E.in_other; rfl))
    (refine J.ret ?_; (repeat (first | refine E.then_ret ?_ | refine E.in_ret ?_)))
    refine E.close mrecT.toTy ss.recs (b := ob) (o := oo) (cap := sc) (List.Perm.refl _) hroom2 hle2 hcap2 (take_rowT mrecT.toTy hpre2) ?_
    refine E.close mstrO.toTy xs2 (b := nb) (o := no) (cap := c2) (List.Perm.swap _ _ _) hroom hle hcap (take_rowT mstrO.toTy hpre) ?_
    exact E.retR1 (G := []) rfl rfl ⟨rfl, hmd⟩ (by rw [List.append_nil, hD]; exact (permP [[_], [_], [_], _] [0, 1, 2, 3] [2, 0, 1, 3] (by decide)).trans (mdl_open hs).symm)
end Go.Proofs.YtljbbajelkkafaaDoor.L
