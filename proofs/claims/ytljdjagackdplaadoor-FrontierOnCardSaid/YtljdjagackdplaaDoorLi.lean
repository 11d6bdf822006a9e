/-
  Rules of the logic: rows that grow, made rows, bytes and texts, copies, equality of arrays.
-/
import Derived.Test.YtljdjagackdplaaDoorLh
set_option linter.unusedVariables false
set_option linter.unusedSimpArgs false
namespace Go.Proofs.YtljdjagackdplaaDoor.L
open Go
set_option linter.unusedSectionVars false
variable [Globs]

/-! ### Stores -/
section
variable {C : Cx} {Γ : Env} {Δ : List Res} {ops : Array Oper} {rest : List Oper} {Q : Exit → Act → World → Prop} {ty : Nat} {pos : String} {af : Array Edge}
/-- A store, what is behind it named by an equation. -/
theorem Lq.storeE {b o e t n : Nat} {φs φs' seg : List Pr} {φ : Pr} {Δ' : List Res} {p x : Operand} (h : opd Γ p = some (is (.pointer (some ⟨b, o, none⟩)))) (hv : opd Γ x = some φ) (hp : Δ.Perm (own b e φs :: Δ')) (hseg : Seg φ seg) [TSz C.P t n] (hl : seg.length = n)
    (hle : o + n ≤ φs.length) (he : splice φs o seg = φs') (k : Lq C Γ (own b e φs' :: Δ') ops rest Q) : Lq C Γ Δ ops (⟨none, .store t p x, ty, pos, af, none⟩ :: rest) Q := by
  subst he
  exact Lq.store h hv hp hseg hl (Nat.ble_eq_true_of_le hle) k
end

/-! ### Rows -/
theorem St.swap {C : Cx} {Γ : Env} {Δ Δ' : List Res} {r r' : Res} {H : IH} {a : Act} {w : World} (S : St C Γ Δ H a w) (hp : Δ.Perm (r :: Δ')) (hb : r'.blk = r.blk) (hok : r'.ok H w) : St C Γ (r' :: Δ') H a w := by
  have hf := hp.filterMap Res.blk
  have e1 : (r' :: Δ').filterMap Res.blk = (r :: Δ').filterMap Res.blk := by rw [List.filterMap_cons, List.filterMap_cons, hb]
  refine ⟨S.dfr, S.siz, S.env, S.sat, fun x hx => ?_, by rw [e1]; exact hf.nodup_iff.1 S.dis, fun b hb => ?_, S.le, S.fr, S.hk⟩
  · rcases List.mem_cons.1 hx with rfl | hx
    · exact hok
    · exact S.res x (hp.mem_iff.2 (by simp [hx]))
  · rw [e1] at hb
    exact S.own b (hf.mem_iff.2 hb)
theorem St.perm {C : Cx} {Γ : Env} {Δ Δ' : List Res} {H : IH} {a : Act} {w : World} (S : St C Γ Δ H a w) (hp : Δ.Perm Δ') : St C Γ Δ' H a w :=
  ⟨S.dfr, S.siz, S.env, S.sat, fun x hx => S.res x (hp.mem_iff.2 hx), (hp.filterMap Res.blk).nodup_iff.1 S.dis, fun b hb => S.own b ((hp.filterMap Res.blk).mem_iff.2 hb), S.le, S.fr, S.hk⟩
/-- What is no longer owned is lost. -/
theorem St.lose {C : Cx} {Γ : Env} {Δ Δ' : List Res} {r : Res} {H : IH} {a : Act} {w : World} (S : St C Γ Δ H a w) (hp : Δ.Perm (r :: Δ')) : St C Γ Δ' H a w := by
  have S2 := S.perm hp
  refine ⟨S2.dfr, S2.siz, S2.env, S2.sat, fun x hx => S2.res x (by simp [hx]), ?_, fun b hb => S2.own b ?_, S2.le, S2.fr, S2.hk⟩
  · have := S2.dis
    rw [List.filterMap_cons] at this
    cases h : r.blk with
    | none => rw [h] at this; exact this
    | some b => rw [h] at this; exact (List.nodup_cons.1 this).2
  · rw [List.filterMap_cons]
    cases h : r.blk with
    | none => exact hb
    | some b' => exact List.mem_cons_of_mem _ hb
/-- Something new is owned. -/
theorem St.gain {C : Cx} {Γ : Env} {Δ : List Res} {r : Res} {H : IH} {a : Act} {w : World} (S : St C Γ Δ H a w) (hok : r.ok H w) (hb : ∀ b, r.blk = some b → b < w.heap.size ∧ (b ∈ C.X ∨ C.w0.heap.size ≤ b) ∧ b ∉ Δ.filterMap Res.blk) : St C Γ (r :: Δ) H a w := by
  refine ⟨S.dfr, S.siz, S.env, S.sat, fun x hx => ?_, ?_, fun x hx => ?_, S.le, S.fr, S.hk⟩
  · rcases List.mem_cons.1 hx with rfl | hx
    · exact hok
    · exact S.res x hx
  · rw [List.filterMap_cons]
    cases h : r.blk with
    | none => exact S.dis
    | some b => exact List.nodup_cons.2 ⟨(hb b h).2.2, S.dis⟩
  · rw [List.filterMap_cons] at hx
    cases h : r.blk with
    | none => rw [h] at hx; exact S.own x hx
    | some b =>
      rw [h] at hx
      rcases List.mem_cons.1 hx with rfl | hx
      · exact ⟨(hb _ h).1, (hb _ h).2.1⟩
      · exact S.own x hx

/-- A row that is owned, spare room and all: by the slice's value. -/
def row {α : Type} (v : Value) (e : TypeId) (T : Ty α) (xs : List α) : Res where
  blk := match v with | .slice (some a) _ _ => some a.block | _ => none
  ok := fun H w => (v = .slice none 0 0 ∧ xs = []) ∨ ∃ b o cap cs, v = .slice (some ⟨b, o, none⟩) xs.length cap ∧ w.heap[b]? = some (.cells (List.toArray cs) e (0, 0)) ∧ o + cap * T.sz ≤ cs.length ∧ xs.length ≤ cap ∧ cap ≤ maxLen ∧
    All2 (fun φ c => φ.c H c) (flat T xs) ((cs.drop o).take (xs.length * T.sz)) ∧ (∀ c ∈ cs, c.oneCell' = true) ∧ ∀ i, H b i = none
  st := fun hle h hk => by
    rcases hk with hk | ⟨b, o, cap, cs, hv, h1, h2, h3, h4, h5, h6, h7⟩
    · exact .inl hk
    · obtain ⟨k1, k2⟩ := h b (by rw [hv])
      exact .inr ⟨b, o, cap, cs, hv, by rw [k1]; exact h1, h2, h3, h4, h5.imp fun _ _ k => Pr.c_mono hle k, h6, fun i => by rw [k2 i]; exact h7 i⟩
theorem row_nil {α : Type} {e : TypeId} {T : Ty α} {H : IH} {w : World} : (row (.slice none 0 0) e T []).ok H w := .inl ⟨rfl, rfl⟩
structure RowAt {α : Type} (T : Ty α) (v : Value) (xs : List α) (b o cap : Nat) (pre post : List Pr) : Prop where
  hv : v = .slice (some ⟨b, o, none⟩) xs.length cap
  hpre : pre.length = o
  le : xs.length ≤ cap
  hcap : cap ≤ maxLen
  room : o + cap * T.sz ≤ (pre ++ flat T xs ++ post).length
  one : ∀ φ ∈ pre ++ post, ∃ c : Value, φ = is c ∧ c.oneCell' = true
theorem St.open {α : Type} {C : Cx} {Γ : Env} {Δ Δ' : List Res} {v : Value} {e : TypeId} {T : Ty α} {xs : List α} {H : IH} {a : Act} {w : World} (S : St C Γ Δ H a w) (hp : Δ.Perm (row v e T xs :: Δ')) (hne : xs ≠ []) :
    ∃ b o cap pre post, RowAt T v xs b o cap pre post ∧ St C Γ (L.own b e (pre ++ flat T xs ++ post) :: Δ') H a w := by
  rcases S.res _ (hp.mem_iff.2 List.mem_cons_self) with ⟨_, h⟩ | ⟨b, o, cap, cs, hv, h1, h2, h3, h4, h5, h6, h7⟩
  · exact absurd h hne
  · have hm : xs.length * T.sz ≤ cap * T.sz := Nat.mul_le_mul_right _ h3
    refine ⟨b, o, cap, (cs.take o).map is, (cs.drop (o + xs.length * T.sz)).map is, ⟨hv, ?_, h3, h4, ?_, ?_⟩, S.swap hp (by rw [hv]; rfl) ⟨⟨cs, h1, ?_⟩, h7⟩⟩
    · rw [List.length_map, List.length_take]; omega
    · simp only [List.length_append, List.length_map, List.length_take, List.length_drop, flat_len]; omega
    · intro φ hφ
      rcases List.mem_append.1 hφ with hφ | hφ
      · obtain ⟨c, hc, rfl⟩ := List.mem_map.1 hφ
        exact ⟨c, rfl, h6 c (List.mem_of_mem_take hc)⟩
      · obtain ⟨c, hc, rfl⟩ := List.mem_map.1 hφ
        exact ⟨c, rfl, h6 c (List.mem_of_mem_drop hc)⟩
    · have hall : ∀ l : List Value, (∀ c ∈ l, c.oneCell' = true) → All2 (fun (φ : Pr) c => φ.c H c) (l.map is) l := fun l hl =>
        All2.of_get (by simp) fun i φ c hi hc => by
          rw [List.getElem?_map, hc] at hi
          injection hi with hi; subst hi
          exact ⟨rfl, hl c (List.mem_of_getElem? hc)⟩
      have := ((hall (cs.take o) fun c hc => h6 c (List.mem_of_mem_take hc)).append h5).append (hall (cs.drop (o + xs.length * T.sz)) fun c hc => h6 c (List.mem_of_mem_drop hc))
      have e1 : cs.take o ++ (cs.drop o).take (xs.length * T.sz) ++ cs.drop (o + xs.length * T.sz) = cs := by
        rw [List.append_assoc, ← List.drop_drop, List.take_append_drop, List.take_append_drop]
      rwa [e1] at this
theorem row_of {α : Type} {e : TypeId} {T : Ty α} {xs : List α} {H : IH} {w : World} {b o cap : Nat} {φs : List Pr} (ho : (own b e φs).ok H w) (h1 : o + cap * T.sz ≤ φs.length) (h2 : xs.length ≤ cap) (h3 : cap ≤ maxLen) (h4 : (φs.drop o).take (xs.length * T.sz) = flat T xs) : (row (.slice (some ⟨b, o, none⟩) xs.length cap) e T xs).ok H w := by
  obtain ⟨⟨cs, hh, hcs⟩, hn⟩ := ho
  refine .inr ⟨b, o, cap, cs, rfl, hh, by rw [← hcs.length]; exact h1, h2, h3, ?_, fun c hc => ?_, hn⟩
  · rw [← h4]; exact (hcs.drop o).take _
  · obtain ⟨i, hi, rfl⟩ := List.mem_iff_getElem.1 hc
    have hi2 : i < φs.length := by rw [hcs.length]; exact hi
    obtain ⟨c', hc', hφ⟩ := hcs.get i φs[i] (List.getElem?_eq_getElem hi2)
    rw [List.getElem?_eq_getElem hi] at hc'
    injection hc' with hc'; subst hc'
    exact hφ.2
theorem St.close {α : Type} {C : Cx} {Γ : Env} {Δ Δ' : List Res} {e : TypeId} (T : Ty α) (xs : List α) {b o cap : Nat} {φs : List Pr} {H : IH} {a : Act} {w : World} (S : St C Γ Δ H a w) (hp : Δ.Perm (L.own b e φs :: Δ')) (h1 : o + cap * T.sz ≤ φs.length) (h2 : xs.length ≤ cap) (h3 : cap ≤ maxLen) (h4 : (φs.drop o).take (xs.length * T.sz) = flat T xs) :
    St C Γ (row (.slice (some ⟨b, o, none⟩) xs.length cap) e T xs :: Δ') H a w :=
  S.swap hp rfl (row_of (S.res _ (hp.mem_iff.2 List.mem_cons_self)) h1 h2 h3 h4)

/-! What an append takes. -/
structure Src (P : Program) (H : IH) (w : World) (u : TypeId) (x : Value) (sz m : Nat) (φs : List Pr) : Prop where
  ty : ∃ d, P.underlying u = some d ∧ ∀ k, d ≠ .int k
  len : ∀ w, (Builtin.lenOf x).run P w = .ok m w
  cells : ∃ news : List Value, news.length = m * sz ∧ All2 (fun φ c => φ.c H c) φs news ∧ ∀ w', w'.heap = w.heap → (Builtin.firstCells sz m x).run P w' = .ok news.toArray w'
theorem cell_heap {w w' : World} (h : w'.heap = w.heap) (a : Addr) : w'.cell? a = w.cell? a := by
  unfold World.cell?; rw [h]
theorem src_sl {P : Program} {α : Type} {T : Ty α} {ys : List α} {H : IH} {w : World} {u e : Nat} {x : Value} [hu : TSl P u e] (hs : Sat H w) (h : (sl T ys).h H x) : Src P H w u x T.sz ys.length (flat T ys) := by
  obtain ⟨ad, cap, rfl, h1, h2, h3, h4⟩ := h
  refine ⟨⟨_, hu.h, fun k h => by cases h⟩, fun w => rfl, ?_⟩
  by_cases h0 : ys = []
  · subst h0
    refine ⟨[], by simp, trivial, fun w' hw => ?_⟩
    cases ad with
    | none => rfl
    | some a =>
      show (loadCells a (0 * T.sz)).run P w' = _
      have := run_loadCells_list (P := P) w' a [] (by simp)
      simpa using this
  · obtain ⟨b, o, rfl, hc⟩ := h4 (List.length_pos_iff.2 h0)
    obtain ⟨cs, hcs, hcell⟩ := known_cells hs hc
    have hl : cs.length = ys.length * T.sz := by rw [← hcs.length, flat_len]
    refine ⟨cs, hl, hcs, fun w' hw => ?_⟩
    show (loadCells ⟨b, o, none⟩ (ys.length * T.sz)).run P w' = _
    rw [← hl]
    exact run_loadCells_list w' ⟨b, o, none⟩ cs fun j v hj => by rw [add_at, cell_heap hw]; exact hcell j v hj
theorem src_str {P : Program} {s : List UInt8} {H : IH} {w : World} {u : Nat} [hu : TStr P u] : Src P H w u (str s) 1 s.length (flat u8T.toTy s) := by
  refine ⟨⟨_, hu.h, fun k h => by cases h⟩, fun w => ?_, s.map (fun b => .int .u8 (b.toNat : Int)), by simp, ?_, fun w' hw => ?_⟩
  · show Result.ok (s.toArray.size) w = _
    simp
  · refine All2.of_get (by simp [flat_len, u8T]) fun i φ c hi hc => ?_
    rw [List.getElem?_map] at hc
    obtain ⟨b, hb, rfl⟩ := Option.map_eq_some_iff.1 hc
    have := flat_get u8T.toTy s i 0 b hb (by decide)
    simp only [u8T, Nat.mul_one, Nat.add_zero] at this
    have h2 : φ = is (.int .u8 (b.toNat : Int)) := by
      have h3 := hi.symm.trans this
      simpa using h3
    subst h2
    exact ⟨rfl, rfl⟩
  · show Result.ok (((⟨s.toArray⟩ : ByteArray).extract 0 s.length).data.map fun b => Value.int .u8 (b.toNat : Int)) w' = _
    congr 1
    rw [ByteArray.data_extract]
    simp
theorem src_row {P : Program} {α : Type} {T : Ty α} {ys : List α} {H : IH} {w : World} {u e e' : Nat} {v : Value} [hu : TSl P u e] (h : (row v e' T ys).ok H w) : Src P H w u v T.sz ys.length (flat T ys) := by
  rcases h with ⟨rfl, rfl⟩ | ⟨b, o, cap, cs, rfl, h1, h2, h3, h4, h5, h6, h7⟩
  · exact ⟨⟨_, hu.h, fun k h => by cases h⟩, fun w => rfl, [], by simp, trivial, fun w' hw => rfl⟩
  · have hm : ys.length * T.sz ≤ cap * T.sz := Nat.mul_le_mul_right _ h3
    have hl : ((cs.drop o).take (ys.length * T.sz)).length = ys.length * T.sz := by rw [List.length_take, List.length_drop]; omega
    refine ⟨⟨_, hu.h, fun k h => by cases h⟩, fun w => rfl, _, hl, h5, fun w' hw => ?_⟩
    show (loadCells ⟨b, o, none⟩ (ys.length * T.sz)).run P w' = _
    conv => lhs; rw [← hl]
    refine run_loadCells_list w' ⟨b, o, none⟩ _ fun j v hj => ?_
    rw [add_at, cell_heap hw, cell_at h1]
    rw [List.getElem?_take] at hj
    split at hj
    · rwa [List.getElem?_drop] at hj
    · cases hj
end Go.Proofs.YtljdjagackdplaaDoor.L
