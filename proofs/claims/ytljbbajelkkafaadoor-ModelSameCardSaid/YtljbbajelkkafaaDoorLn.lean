/-
  Rules of the logic: rows that are never written again,slices of known rows,made rows,more numbers.
-/
import Derived.Test.YtljbbajelkkafaaDoorLm
set_option linter.unusedVariables false
set_option linter.unusedSimpArgs false
namespace Go.Proofs.YtljbbajelkkafaaDoor.L
open Go
set_option linter.unusedSectionVars false
variable [Globs]
theorem Fn.weak1 {P:Program} {f:Nat} {φ φ' ψ:Pr} (F:Fn P f [φ] ψ) (h : ∀ H v,φ'.h H v→φ.h H v):Fn P f [φ'] ψ :=
  ⟨F.ent,fun H w vs hs hv=>F.run H w vs hs (match vs,hv with
    | [v],⟨h1,h2⟩=>⟨h H v h1,h2⟩
    | [],h=>h.elim
    | _::_::_,⟨_,h⟩=>h.elim)⟩
theorem sl_nil {α:Type} {T:Ty α} (H:IH) (v:Value) (h:(is (.slice none 0 0)).h H v):(sl T []).h H v:=by
  have h:v = .slice none 0 0:=h
  subst h
  exact ⟨none,0,rfl,Nat.le_refl _,Nat.zero_le _,fun _=>rfl,fun h=>absurd h (Nat.lt_irrefl _)⟩
section
variable {C:Cx} {Γ:Env} {Δ Δ':List Res} {Q:Exit→Act→World→Prop} {ops:Array Oper} {rest:List Oper} {α:Type} {T:Ty α} {xs:List α} {e:TypeId}
/-- A block that is owned is never written again: its cells are known for good. -/
theorem St.freezeB {r:Res} {b:Nat} {cs:List Value} {H:IH} {a:Act} {w:World} (S:St C Γ Δ H a w) (hp:Δ.Perm (r::Δ')) (hb:r.blk=some b) (hn : ∀ o,H b o=none) (hc : ∃ e fr,w.heap[b]?=some (.cells cs.toArray e fr)) :
    St C Γ Δ' (H.add b cs) a w∧IH.le H (H.add b cs):=by
  have hle:IH.le H (H.add b cs):=fun b' o v h=>by
    show (if b'=b then cs[o]? else H b' o)=some v
    by_cases hbb:b'=b
    · subst hbb;rw [hn o] at h;cases h
    · rw [if_neg hbb];exact h
  have hf:=hp.filterMap Res.blk
  rw [List.filterMap_cons,hb] at hf
  have hown:=S.own b (hf.mem_iff.2 List.mem_cons_self)
  have hnd:=List.nodup_cons.1 (hf.nodup_iff.1 S.dis)
  have S2:=S.lose hp
  refine ⟨⟨S2.dfr,S2.siz,fun t φ ht=>let ⟨u,hu,hφ⟩:=S2.env t φ ht;⟨u,hu,φ.mono hle hφ⟩,⟨Gk.mono hle S.sat.gk,fun b' o v h=>?_⟩,fun x hx=>?_,S2.dis,S2.own,IH.le_trans S.le hle,S2.fr,fun b' o hb' hx=>?_⟩,hle⟩
  · replace h:(if b'=b then cs[o]? else H b' o)=some v:=h
    split at h
    · rename_i hbb
      subst hbb
      obtain ⟨e,fr,hc⟩:=hc
      rw [cell_at hc];exact h
    · exact S.sat.cell b' o v h
  · refine x.st hle (fun c hcx=>⟨rfl,fun o=>?_⟩) (S2.res x hx)
    have:c ≠ b:=fun he=>by
      subst he
      exact hnd.1 (List.mem_filterMap.2 ⟨x,hx,hcx⟩)
    show (if c=b then cs[o]? else H c o)=_
    rw [if_neg this]
  · show (if b'=b then cs[o]? else H b' o)=_
    have:b' ≠ b:=fun he=>by
      subst he
      rcases hown.2 with h|h
      · exact hx h
      · omega
    rw [if_neg this]
    exact S.hk b' o hb' hx
theorem St.freeze {v:Value} {H:IH} {a:Act} {w:World} (S:St C Γ Δ H a w) (hp:Δ.Perm (row v e T xs::Δ')) : ∃ H',St C Γ Δ' H' a w∧IH.le H H'∧(sl T xs).h H' v:=by
  rcases S.res _ (hp.mem_iff.2 List.mem_cons_self) with ⟨rfl,rfl⟩|⟨b,o,cap,cs,rfl,h1,h2,h3,h4,h5,h6,h7⟩
  · exact ⟨H,S.lose hp,IH.le_refl _,sl_nil H _ rfl⟩
  · obtain ⟨S',hle⟩:=S.freezeB (b:=b) (cs:=cs) hp rfl h7 ⟨_,_,h1⟩
    refine ⟨_,S',hle,some ⟨b,o,none⟩,cap,rfl,h3,h4,fun h=>(by cases h),fun _=>⟨b,o,rfl,fun i φ hi=>?_⟩⟩
    obtain ⟨c,hc,hφ⟩:=h5.get i φ hi
    refine ⟨c,?_,Pr.c_mono hle hφ⟩
    show (if b=b then cs[o+i]? else H b (o+i))=some c
    rw [if_pos rfl]
    rw [List.getElem?_take] at hc
    split at hc
    · rwa [List.getElem?_drop] at hc
    · cases hc
/-- The slot of a row that is given up. -/
theorem St.freezeΓ {v:Value} {d:Nat} {H:IH} {a:Act} {w:World} (S:St C Γ Δ H a w) (hp:Δ.Perm (row v e T xs::Δ')) (hd:look Γ d=some (is v)) : ∃ H',St C ((d,sl T xs)::Γ) Δ' H' a w:=by
  obtain ⟨u,hu,hu2⟩:=S.env d _ hd
  have hu2:u=v:=hu2
  subst hu2
  obtain ⟨H',S',hle,hsl⟩:=S.freeze hp
  refine ⟨H',S'.dfr,S'.siz,fun t φ ht=>?_,S'.sat,S'.res,S'.dis,S'.own,S'.le,S'.fr,S'.hk⟩
  unfold L.look at ht
  split at ht
  · rename_i hk
    have hk:=Nat.eq_of_beq_eq_true hk
    subst hk
    injection ht with ht;subst ht
    exact ⟨u,hu,hsl⟩
  · exact S'.env t φ ht
theorem Lq.freeze {v:Value} (d:Nat) (hd:look Γ d=some (is v)) (hp:Δ.Perm (row v e T xs::Δ')) (k:Lq C ((d,sl T xs)::Γ) Δ' ops rest Q):Lq C Γ Δ ops rest Q:=fun H a w S=>by
  obtain ⟨H',S'⟩:=S.freezeΓ hp hd
  exact k H' a w S'
theorem J.freeze {v:Value} {c:Code} (d:Nat) (hd:look Γ d=some (is v)) (hp:Δ.Perm (row v e T xs::Δ')) (k:J C ((d,sl T xs)::Γ) Δ' c Q):J C Γ Δ c Q:=fun H a w S=>by
  obtain ⟨H',S'⟩:=S.freezeΓ hp hd
  exact k H' a w S'
theorem E.freeze {v:Value} {x:Exit} (d:Nat) (hd:look Γ d=some (is v)) (hp:Δ.Perm (row v e T xs::Δ')) (k:E C x ((d,sl T xs)::Γ) Δ' Q):E C x Γ Δ Q:=fun H a w S=>by
  obtain ⟨H',S'⟩:=S.freezeΓ hp hd
  exact k H' a w S'
/-- The slot of a nil slice, as a row. -/
theorem J.asSl {c:Code} (d:Nat) (hd:look Γ d=some (is (.slice none 0 0))) (k:J C ((d,sl T [])::Γ) Δ c Q):J C Γ Δ c Q:=fun H a w S=>by
  refine k H a w (S.weak fun t φ ht=>?_)
  unfold L.look at ht
  split at ht
  · rename_i hk
    have hk:=Nat.eq_of_beq_eq_true hk
    subst hk
    injection ht with ht;subst ht
    obtain ⟨u,hu,hu2⟩:=S.env d _ hd
    exact ⟨u,hu,sl_nil H u hu2⟩
  · exact S.env t φ ht
/-- A made row of no elements. -/
theorem Lq.makeRow {T:Ty α} {d t by_ n:Nat} {z:Value} {k k2:IntKind} {x y:Operand} {ty:Nat} {pos:String} {af:Array Edge} (hd:Nat.blt d C.n=true) (h:opd Γ x=some (is (.int k 0))) (h':opd Γ y=some (is (.int k2 (n:Int)))) [TSl C.P t e] [TSz C.P e T.sz] [TBy C.P e by_] [TZero C.P e z] (hz:z.cells.toList.all (fun c=>c.oneCell')=true) (hz0:z.cells.size=T.sz) (hs:T.sz ≠ 0) (hb:by_*n≤281474976710656) (hn:n≤maxLen)
    (k' : ∀ b,Lq C ((d,is (.slice (some ⟨b,0,none⟩) 0 n))::Γ) (row (.slice (some ⟨b,0,none⟩) 0 n) e T []::Δ) ops rest Q):Lq C Γ Δ ops (⟨some d, .makeSlice t x y,ty,pos,af,none⟩::rest) Q:=by
  intro H a w S
  refine wpL_plain rfl (fun c hc=>by cases hc) fun K hK=>?_
  have hv:a.eval x = .int k 0:=S.opd h
  have hv':a.eval y = .int k2 (n:Int):=S.opd h'
  obtain ⟨i,hi,hsz⟩:=Option.map_eq_some_iff.1 (inferInstance:TSz C.P e T.sz).h
  obtain ⟨i',hi',hbz⟩:=Option.map_eq_some_iff.1 (inferInstance:TBy C.P e by_).h
  obtain ⟨i'',hi'',hzz⟩:=Option.map_eq_some_iff.1 (inferInstance:TZero C.P e z).h
  obtain rfl:i=i':=Option.some.inj (hi.symm.trans hi')
  obtain rfl:i=i'':=Option.some.inj (hi.symm.trans hi'')
  have h63:(n:Int)≤9223372036854775807:=by unfold maxLen at hn;omega
  have hb':(i.bytes:Int)*(n:Int)≤281474976710656:=by
    rw [hbz]
    have h:((by_*n:Nat):Int)≤281474976710656:=by omega
    rwa [Int.natCast_mul] at h
  have hmk:=run_make (P:=C.P) w t e i z (inferInstance:TSl C.P t e).h hi hzz k k2 0 (n:Int) (Int.le_refl _) (Int.natCast_nonneg _) hb' h63
  rw [hsz] at hmk
  have hrun:(execOp a.eval ⟨some d, .makeSlice t x y,ty,pos,af,none⟩).run C.P w = .ok (.value (.slice (some ⟨w.heap.size,0,none⟩) 0 n)) (w.alloc (.cells (madeCells z.cells (n*T.sz)) e)):=by
    simp only [execOp,hv,hv']
    refine run_value ?_
    simpa using hmk
  unfold Oper.wp
  rw [hrun]
  have S1:=S.put (ext_alloc S.sat (.cells (madeCells z.cells (n*T.sz)) e)) d (blt hd) (.slice (some ⟨w.heap.size,0,none⟩) 0 n) (is (.slice (some ⟨w.heap.size,0,none⟩) 0 n)) rfl
  refine hK _ _ (k' w.heap.size H _ _ (S1.gain (.inr ⟨w.heap.size,0,n,(madeCells z.cells (n*T.sz)).toList,rfl,?_,?_,Nat.zero_le _,hn,?_,?_,fun o=>?_⟩) (fun b hb'=>?_)))
  · rw [Array.toArray_toList]
    exact heap_alloc_self w _
  · rw [Array.length_toList,size_madeCells];omega
  · show All2 _ [] _
    rw [List.length_nil,Nat.zero_mul,List.take_zero]
    exact trivial
  · intro c hc
    obtain ⟨j,hj,rfl⟩:=List.mem_iff_getElem.1 hc
    have hzs:0 < z.cells.size:=by omega
    have hlt:j % z.cells.size < z.cells.size:=Nat.mod_lt _ hzs
    have e1:(madeCells z.cells (n*T.sz)).toList[j]=z.cells[j % z.cells.size]'hlt:=by
      simp [madeCells,getElem!_pos,hlt]
    rw [e1]
    exact List.all_eq_true.1 hz _ (by simp)
  · cases hH:H w.heap.size o with
    | none=>rfl
    | some u=>exact absurd (S.sat.lt hH) (Nat.lt_irrefl _)
  · have hb':some w.heap.size=some b:=hb'
    injection hb' with hb';subst hb'
    exact ⟨by simp, .inr S.fr.size,fun hm=>absurd (S.own _ hm).1 (Nat.lt_irrefl _)⟩
end
section
variable {P:Program} {Γ:Env} {Δ:List Res} {d:Option Nat} {ty:Nat} {pos:String} {af:Array Edge} {g:Option (Nat × Bool)} {x y:Operand} {t yt:Nat} {α:Type}
theorem Addr.map_add0 (a:Option Addr):a.map (·.add 0)=a:=by
  cases a with
  | none=>rfl
  | some a=>simp [Addr.add]
theorem flat_take (T:Ty α) (xs:List α) (n:Nat) : ∀ (i:Nat) (φ:Pr),(flat T (xs.take n))[i]?=some φ→(flat T xs)[i]?=some φ:=by
  intro i φ h
  have:flat T xs=flat T (xs.take n)++flat T (xs.drop n):=by rw [← flat_app,List.take_append_drop]
  rw [this,List.getElem?_append_left (List.getElem?_eq_some_iff.1 h).1]
  exact h
theorem flat_drop (T:Ty α) (xs:List α) (n:Nat) (hn:n≤xs.length) : ∀ (i:Nat) (φ:Pr),(flat T (xs.drop n))[i]?=some φ→(flat T xs)[n*T.sz+i]?=some φ:=by
  intro i φ h
  have e:flat T xs=flat T (xs.take n)++flat T (xs.drop n):=by rw [← flat_app,List.take_append_drop]
  have hl:(flat T (xs.take n)).length=n*T.sz:=by rw [flat_len,List.length_take,Nat.min_eq_left hn]
  rw [e,List.getElem?_append_right (by omega),hl,Nat.add_sub_cancel_left]
  exact h
/-- l[:hi] of a row that is known for good. -/
theorem op_ksl_hi {T:Ty α} {xs:List α} {e sz hi:Nat} {k:IntKind} (h:opd Γ x=some (sl T xs)) (hh:opd Γ y=some (is (.int k (hi:Int)))) [ht:TSl P t e] [TSz P e sz] (h1:hi≤xs.length):OpP P Γ Δ ⟨d, .slice t x none (some y) none,ty,pos,af,g⟩ (sl T (xs.take hi)) :=
  OpP.same fun H A w hxx hs=>by
    obtain ⟨ad,cap,hv,c1,c2,c3,hel⟩:=hxx x (by simp [Op.operands]) _ h
    have hi':A.eval y = .int k (hi:Int):=hxx y (by simp [Op.operands]) _ hh
    have hl:(xs.take hi).length=hi:=by rw [List.length_take];omega
    refine ⟨.slice ad hi cap,?_,ad,cap,by rw [hl],by rw [hl];omega,c2,c3,fun hp=>?_⟩
    · simp only [execOp,hv]
      refine run_value ?_
      rw [run_sliceAt_sl ht.h]
      unfold Instr.slice
      refine (run_bind (underlying t) _ w (run_underlying' ht.h)).trans ?_
      simp only [Option.map_some,Option.map_none,hi']
      refine (run_bind (Instr.sliceBounds true xs.length cap none (some (.int k (hi:Int))) none) _ w (a:=(0,hi,cap)) (w':=w) ?_).trans ?_
      · unfold Instr.sliceBounds
        simp only [Sem.run_bind,Sem.run_pure,Result.andThen_ok,run_bound (show hi≤cap by omega)]
      · refine (run_bind (sizeOf e) _ w (run_sizeOf (t:=e) (n:=sz))).trans ?_
        show Result.ok (Value.slice (if cap=0 then ad else ad.map (·.add (0*sz))) (hi - 0) (cap - 0)) w=_
        rw [Nat.zero_mul,Addr.map_add0,ite_self]
        rfl
    · obtain ⟨b,o,ha,hc⟩:=hel (by omega)
      exact ⟨b,o,ha,fun i φ hi=>hc i φ (flat_take T xs _ i φ hi)⟩
/-- l[lo:] of a row that is known for good. -/
theorem op_ksl_lo {T:Ty α} {xs:List α} {e lo:Nat} {k:IntKind} (h:opd Γ x=some (sl T xs)) (hh:opd Γ y=some (is (.int k (lo:Int)))) [ht:TSl P t e] [TSz P e T.sz] (h1:lo≤xs.length):OpP P Γ Δ ⟨d, .slice t x (some y) none none,ty,pos,af,g⟩ (sl T (xs.drop lo)) :=
  OpP.same fun H A w hxx hs=>by
    obtain ⟨ad,cap,hv,c1,c2,c3,hel⟩:=hxx x (by simp [Op.operands]) _ h
    have hi':A.eval y = .int k (lo:Int):=hxx y (by simp [Op.operands]) _ hh
    refine ⟨.slice (if cap=lo then ad else ad.map (·.add (lo*T.sz))) (xs.length - lo) (cap - lo),?_,_,cap - lo,by rw [List.length_drop],by rw [List.length_drop];omega,by omega,fun h=>?_,fun hp=>?_⟩
    · simp only [execOp,hv]
      refine run_value ?_
      rw [run_sliceAt_sl ht.h]
      unfold Instr.slice
      refine (run_bind (underlying t) _ w (run_underlying' ht.h)).trans ?_
      simp only [Option.map_some,Option.map_none,hi']
      refine (run_bind (Instr.sliceBounds true xs.length cap (some (.int k (lo:Int))) none none) _ w (a:=(lo,xs.length,cap)) (w':=w) ?_).trans ?_
      · unfold Instr.sliceBounds
        simp only [Sem.run_bind,Sem.run_pure,Result.andThen_ok,run_bound h1]
      · exact (run_bind (sizeOf e) _ w (run_sizeOf (t:=e) (n:=T.sz))).trans rfl
    · by_cases hc:cap=lo
      · omega
      · rw [if_neg hc] at h
        cases ad with
        | none=>have:=c3 rfl;omega
        | some a=>cases h
    · rw [List.length_drop] at hp
      obtain ⟨b,o,rfl,hc⟩:=hel (by omega)
      rw [if_neg (by omega)]
      refine ⟨b,o+lo*T.sz,by simp [add_at],fun i φ hi=>?_⟩
      rw [Nat.add_assoc]
      exact hc _ φ (flat_drop T xs lo h1 i φ hi)

/-! ### Numbers -/
theorem op_quon {m n:Nat} (h1:opd Γ x=some (is (.int .i64 (m:Int)))) (h2:opd Γ y=some (is (.int .i64 (n:Int)))) (h0:n ≠ 0) (hm:m≤9223372036854775807):OpP P Γ Δ ⟨d, .binOp .quo t x y yt,ty,pos,af,g⟩ (is (.int .i64 ((m / n:Nat):Int))) :=
  op_quo h1 h2 (by omega) (by
    have e:(m:Int).tdiv (n:Int)=((m / n:Nat):Int):=by rw [Int.tdiv_eq_ediv_of_nonneg (Int.natCast_nonneg _)];rfl
    rw [e]
    have:=Nat.div_le_self m n
    generalize m / n=q at this ⊢
    exact wrapi _ (by omega) (by omega))
theorem op_shln {m n:Nat} {c:Int} {k k2:IntKind} (h1:opd Γ x=some (is (.int k (m:Int)))) (h2:opd Γ y=some (is (.int k2 (n:Int)))) (hn:n≤k.bits) (hc:k.wrap ((m*2 ^ n:Nat):Int)=c):OpP P Γ Δ ⟨d, .binOp .shl t x y yt,ty,pos,af,g⟩ (is (.int k c)) :=
  op_bin h1 h2 fun w=>by
    subst hc
    refine (run_bind _ _ w (show (eqGuard .shl t x y (.int k (m:Int)) (.int k2 (n:Int))).run P w = .ok () w from rfl)).trans ?_
    show (Op.shift .shl k (m:Int) k2 (n:Int)).run P w=_
    unfold Op.shift
    rw [if_neg (by omega)]
    have e:min (n:Int).toNat k.bits=n:=by show min n k.bits=n;omega
    simp only [e]
    have e2:((m:Int)*2 ^ n)=((m*2 ^ n:Nat):Int):=by push_cast;rfl
    rw [e2];rfl
theorem op_remn {m n:Nat} {k:IntKind} (h1:opd Γ x=some (is (.int k (m:Int)))) (h2:opd Γ y=some (is (.int k (n:Int)))) (h0:n ≠ 0):OpP P Γ Δ ⟨d, .binOp .rem t x y yt,ty,pos,af,g⟩ (is (.int k ((m % n:Nat):Int))) :=
  op_rem h1 h2 (by omega) (by rw [Int.tmod_eq_emod_of_nonneg (Int.natCast_nonneg _)];rfl)

/-! ### Equality of arrays, decided -/
theorem op_eqA_t {m:Nat} [DecidableEq α] {T:Td α} (he:Eqd P t T m) (hag:T.ag=true) [hg:TNg P t] {u v:α} (hm:Nat.ble m 10000=true) (h1:opd Γ x=some (T.val u)) (h2:opd Γ y=some (T.val v)) (h:u=v):OpP P Γ Δ ⟨d, .binOp .eql t x y yt,ty,pos,af,g⟩ (is (.bool true)):=by
  have:=op_eqA (Δ:=Δ) (d:=d) (ty:=ty) (pos:=pos) (af:=af) (g:=g) (yt:=yt) he hag hm h1 h2
  rwa [decide_eq_true h] at this
theorem op_eqA_f {m:Nat} [DecidableEq α] {T:Td α} (he:Eqd P t T m) (hag:T.ag=true) [hg:TNg P t] {u v:α} (hm:Nat.ble m 10000=true) (h1:opd Γ x=some (T.val u)) (h2:opd Γ y=some (T.val v)) (h:u ≠ v):OpP P Γ Δ ⟨d, .binOp .eql t x y yt,ty,pos,af,g⟩ (is (.bool false)):=by
  have:=op_eqA (Δ:=Δ) (d:=d) (ty:=ty) (pos:=pos) (af:=af) (g:=g) (yt:=yt) he hag hm h1 h2
  rwa [decide_eq_false h] at this
theorem op_neA {m:Nat} [DecidableEq α] {T:Td α} (he:Eqd P t T m) (hag:T.ag=true) [hg:TNg P t] {u v:α} (hm:Nat.ble m 10000=true) (h1:opd Γ x=some (T.val u)) (h2:opd Γ y=some (T.val v)):OpP P Γ Δ ⟨d, .binOp .neq t x y yt,ty,pos,af,g⟩ (is (.bool (!decide (u=v)))) :=
  OpP.same fun H a w hx hs=>by
    have hu:=hx x (by simp [Op.operands]) _ h1
    have hv:=hx y (by simp [Op.operands]) _ h2
    have heq:=he.eq (w:=w) 10000 (Nat.le_of_ble_eq_true hm) hu hv
    have : ∃ cx cy,a.eval x = .agg cx∧a.eval y = .agg cy:=by
      unfold Td.val at hu hv
      rw [hag] at hu hv
      obtain ⟨cx,hcx,_⟩:=hu
      obtain ⟨cy,hcy,_⟩:=hv
      exact ⟨_,_,hcx,hcy⟩
    obtain ⟨cx,cy,ex,ey⟩:=this
    rw [ex,ey] at heq
    refine ⟨_,?_,rfl⟩
    simp only [execOp,ex,ey]
    refine run_value ?_
    refine (run_bind _ _ w (a:=()) (w':=w) ?_).trans ?_
    · unfold eqGuard
      simp [program,bind,Sem.bind,pure,Sem.run,hg.h]
    · exact (run_bind (Op.equal t (.agg cx) (.agg cy)) (fun r=>pure (Value.bool (!r))) w heq).trans rfl
theorem op_neA_t {m:Nat} [DecidableEq α] {T:Td α} (he:Eqd P t T m) (hag:T.ag=true) [hg:TNg P t] {u v:α} (hm:Nat.ble m 10000=true) (h1:opd Γ x=some (T.val u)) (h2:opd Γ y=some (T.val v)) (h:u ≠ v):OpP P Γ Δ ⟨d, .binOp .neq t x y yt,ty,pos,af,g⟩ (is (.bool true)):=by
  have:=op_neA (Δ:=Δ) (d:=d) (ty:=ty) (pos:=pos) (af:=af) (g:=g) (yt:=yt) he hag hm h1 h2
  rwa [decide_eq_false h] at this
theorem op_neA_f {m:Nat} [DecidableEq α] {T:Td α} (he:Eqd P t T m) (hag:T.ag=true) [hg:TNg P t] {u v:α} (hm:Nat.ble m 10000=true) (h1:opd Γ x=some (T.val u)) (h2:opd Γ y=some (T.val v)) (h:u=v):OpP P Γ Δ ⟨d, .binOp .neq t x y yt,ty,pos,af,g⟩ (is (.bool false)):=by
  have:=op_neA (Δ:=Δ) (d:=d) (ty:=ty) (pos:=pos) (af:=af) (g:=g) (yt:=yt) he hag hm h1 h2
  rwa [decide_eq_true h] at this
end
theorem J.nilrow {α:Type} {C:Cx} {Γ:Env} {Δ:List Res} {c:Code} {Q:Exit→Act→World→Prop} (e:TypeId) (T:Ty α) (k:J C Γ (row (.slice none 0 0) e T []::Δ) c Q):J C Γ Δ c Q:=fun H a w S=>k H a w (S.gain row_nil (fun b hb=>by cases hb))
theorem splice_all {φs seg:List Pr} (h:φs.length=seg.length):splice φs 0 seg=seg:=by
  unfold splice
  rw [List.take_zero,List.nil_append,Nat.zero_add, ← h,List.drop_length,List.append_nil]
theorem Lq.conv {C:Cx} {Γ:Env} {Δ:List Res} {Q:Exit→Act→World→Prop} {ops:Array Oper} {rest:List Oper} {φ ψ:Pr} (d:Nat) (h:look Γ d=some φ) (hw : ∀ H v,φ.h H v→ψ.h H v) (k:Lq C ((d,ψ)::Γ) Δ ops rest Q):Lq C Γ Δ ops rest Q:=fun H a w S=>k H a w (S.weak fun t χ ht=>by
  unfold look at ht
  split at ht
  · rename_i hk
    have hk:=Nat.eq_of_beq_eq_true hk
    subst hk
    injection ht with ht;subst ht
    obtain ⟨v,hv,h2⟩:=S.env d φ h
    exact ⟨v,hv,hw H v h2⟩
  · exact S.env t χ ht)
theorem ptr_conv {φs ψs:List Pr} (h : ∀ (i:Nat) (ψ:Pr),ψs[i]?=some ψ → ∃ φ,φs[i]?=some φ ∧ ∀ H c,φ.h H c→ψ.h H c) : ∀ H v,(ptr φs).h H v→(ptr ψs).h H v:=fun H v ⟨b,o,hv,hc⟩ =>
  ⟨b,o,hv,fun i ψ hi=>let ⟨φ,h1,h2⟩:=h i ψ hi;let ⟨c,k1,k2⟩:=hc i φ h1;⟨c,k1,h2 H c k2.1,k2.2⟩⟩
theorem E.conv {C:Cx} {Γ:Env} {Δ:List Res} {Q:Exit→Act→World→Prop} {x:Exit} {φ ψ:Pr} (d:Nat) (h:look Γ d=some φ) (hw : ∀ H v,φ.h H v→ψ.h H v) (k:E C x ((d,ψ)::Γ) Δ Q):E C x Γ Δ Q:=fun H a w S=>k H a w (S.weak fun t χ ht=>by
  unfold look at ht
  split at ht
  · rename_i hk
    have hk:=Nat.eq_of_beq_eq_true hk
    subst hk
    injection ht with ht;subst ht
    obtain ⟨v,hv,h2⟩:=S.env d φ h
    exact ⟨v,hv,hw H v h2⟩
  · exact S.env t χ ht)
theorem splice_pre (pre R seg:List Pr) {o:Nat} (m:Nat) (h:pre.length=o):splice (pre++R) (o+m) seg=pre++splice R m seg:=by
  subst h
  unfold splice
  rw [List.take_length_add_append,Nat.add_assoc,List.drop_length_add_append]
  simp
theorem set_row {α:Type} (T:Ty α) {pre post:List Pr} {xs:List α} {o k:Nat} {v:α} (h:pre.length=o) (hk:k < xs.length):splice (pre++flat T xs++post) (o+k*T.sz) (T.cells v)=pre++flat T (xs.set k v)++post:=by
  rw [List.append_assoc,splice_pre pre _ _ _ h]
  have:=set_flat T (post:=post) (v:=v) hk
  rw [Nat.zero_add] at this
  rw [this,List.append_assoc]
theorem take_rowT {α:Type} (T:Ty α) {pre post:List Pr} {xs:List α} {o:Nat} (h:pre.length=o):((pre++flat T xs++post).drop o).take (xs.length*T.sz)=flat T xs:=by
  subst h
  rw [List.append_assoc,List.drop_left, ← flat_len,List.take_left]
theorem St.res1 {C:Cx} {Γ:Env} {Δ':List Res} {r r':Res} {H:IH} {a:Act} {w:World} (S:St C Γ (r::Δ') H a w) (h : ∀ H w,r.ok H w→r'.ok H w∧r'.blk=r.blk):St C Γ (r'::Δ') H a w:=by
  obtain ⟨h1,h2⟩:=h H w (S.res r List.mem_cons_self)
  have e:List.filterMap Res.blk (r'::Δ')=List.filterMap Res.blk (r::Δ'):=by rw [List.filterMap_cons,List.filterMap_cons,h2]
  refine ⟨S.dfr,S.siz,S.env,S.sat,fun x hx=>?_,e ▸ S.dis,fun b hb=>S.own b (e ▸ hb),S.le,S.fr,S.hk⟩
  rcases List.mem_cons.1 hx with rfl|hx
  · exact h1
  · exact S.res x (List.mem_cons_of_mem _ hx)
/-- What is owned, said in another way. -/
theorem Lq.res1 {C:Cx} {Γ:Env} {Δ Δ':List Res} {r r':Res} {Q:Exit→Act→World→Prop} {ops:Array Oper} {rest:List Oper} (hp:Δ.Perm (r::Δ')) (h : ∀ H w,r.ok H w→r'.ok H w∧r'.blk=r.blk) (k:Lq C Γ (r'::Δ') ops rest Q):Lq C Γ Δ ops rest Q:=fun H a w S=>k H a w ((S.perm hp).res1 h)
theorem J.res1 {C:Cx} {Γ:Env} {Δ Δ':List Res} {r r':Res} {Q:Exit→Act→World→Prop} {c:Code} (hp:Δ.Perm (r::Δ')) (h : ∀ H w,r.ok H w→r'.ok H w∧r'.blk=r.blk) (k:J C Γ (r'::Δ') c Q):J C Γ Δ c Q:=fun H a w S=>k H a w ((S.perm hp).res1 h)
theorem at_row {α:Type} (T:Ty α) {pre post:List Pr} {xs:List α} {o k:Nat} {v:α} (h:pre.length=o) (hx:xs[k]?=some v):((pre++flat T xs++post).drop (o+k*T.sz)).take T.sz=T.cells v:=by
  subst h
  have:=at_flat T (post:=post) hx
  rw [Nat.zero_add] at this
  rw [List.append_assoc,List.drop_length_add_append,this]
theorem row_room {α:Type} (T:Ty α) {pre post:List Pr} {xs:List α} {o k:Nat} (h:pre.length=o) (hk:k < xs.length):o+k*T.sz+T.sz≤(pre++flat T xs++post).length:=by
  rw [List.length_append,List.length_append,flat_len,h]
  have:(k+1)*T.sz≤xs.length*T.sz:=Nat.mul_le_mul_right _ hk
  rw [Nat.succ_mul] at this
  omega
theorem Lq.nilrow {α:Type} {C:Cx} {Γ:Env} {Δ:List Res} {ops:Array Oper} {rest:List Oper} {Q:Exit→Act→World→Prop} (e:TypeId) (T:Ty α) (k:Lq C Γ (row (.slice none 0 0) e T []::Δ) ops rest Q):Lq C Γ Δ ops rest Q:=fun H a w S=>k H a w (S.gain row_nil (fun b hb=>by cases hb))
end Go.Proofs.YtljbbajelkkafaaDoor.L
