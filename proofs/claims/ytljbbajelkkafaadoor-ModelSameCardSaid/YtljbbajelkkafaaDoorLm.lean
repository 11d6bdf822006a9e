/-
  Rules of the logic: slices of arrays,negation,masks.
-/
import Derived.Test.YtljbbajelkkafaaDoorLk
set_option linter.unusedVariables false
set_option linter.unusedSimpArgs false
namespace Go.Proofs.YtljbbajelkkafaaDoor.L
open Go
set_option linter.unusedSectionVars false
variable [Globs]
section
variable {P:Program} {Γ:Env} {Δ:List Res} {d:Option Nat} {ty:Nat} {pos:String} {af:Array Edge} {g:Option (Nat × Bool)} {x y:Operand} {t yt:Nat} {α:Type}
theorem op_neg {k:IntKind} {m c:Int} (h:opd Γ x=some (is (.int k m))) (hc:k.wrap (0 - m)=c):OpP P Γ Δ ⟨d, .unOp .neg t x,ty,pos,af,g⟩ (is (.int k c)) :=
  OpP.same fun H a w hx hs=>by
    subst hc
    have hv:a.eval x = .int k m:=hx x (by simp [Op.operands]) _ h
    refine ⟨_,?_,rfl⟩
    simp only [execOp,hv]
    exact run_value rfl
theorem op_andI {k:IntKind} {m n c:Int} (h1:opd Γ x=some (is (.int k m))) (h2:opd Γ y=some (is (.int k n))) (hc:k.wrap ((BitVec.ofInt k.bits m &&& BitVec.ofInt k.bits n).toNat:Int)=c):OpP P Γ Δ ⟨d, .binOp .and t x y yt,ty,pos,af,g⟩ (is (.int k c)) :=
  op_int h1 h2 fun w=>by
    subst hc
    simp only [binOp,ne_eq,not_true_eq_false,if_false,Op.intBits]
    rfl
theorem run_sliceArr {n e sz l h:Nat} {a:Addr} {lo hi:Option Value} {w:World} [ht:TArr P t n e] [hz:TSz P e sz] (hb:(Instr.sliceBounds false n n lo hi none).run P w = .ok (l,h,n) w) :
    (Instr.sliceAt t (.pointer (some a)) lo hi none).run P w = .ok (.slice (some (if n=l then a else a.add (l*sz))) (h - l) (n - l)) w:=by
  unfold Instr.sliceAt
  refine (run_bind (underlying t) _ w (run_underlying' ht.h)).trans ?_
  refine (run_bind (Instr.sureAddr (.pointer (some a))) _ w (show _=Result.ok a w from rfl)).trans ?_
  refine (run_bind (Instr.sliceBounds false n n lo hi none) _ w hb).trans ?_
  exact (run_bind (sizeOf e) _ w (run_sizeOf (t:=e) (n:=sz))).trans rfl
/-- a[:], the array never written again. -/
theorem op_slarr {T:Ty α} {xs:List α} {n e:Nat} (h:opd Γ x=some (ptr (flat T xs))) [ht:TArr P t n e] [TSz P e T.sz] (hl:xs.length=n) (hn:Nat.blt 0 n=true) (hm:Nat.ble n maxLen=true):OpP P Γ Δ ⟨d, .slice t x none none none,ty,pos,af,g⟩ (sl T xs) :=
  OpP.same fun H a w hx hs=>by
    obtain ⟨b,o,hv,hc⟩:=hx x (by simp [Op.operands]) _ h
    have hn:=Nat.blt_eq.mp hn
    refine ⟨.slice (some ⟨b,o,none⟩) xs.length n,?_,⟨_,n,rfl,by omega,Nat.le_of_ble_eq_true hm,fun h=>(by cases h),fun _=>⟨b,o,rfl,hc⟩⟩⟩
    simp only [execOp,hv]
    refine run_value ?_
    refine (run_sliceArr (P:=P) (n:=n) (e:=e) (sz:=T.sz) (l:=0) (h:=n) (a:=⟨b,o,none⟩) rfl).trans ?_
    rw [if_neg (by omega),Nat.zero_mul,add_at,Nat.sub_zero,hl]
    rfl
theorem op_oslarr {b o n e sz:Nat} (h:opd Γ x=some (is (.pointer (some ⟨b,o,none⟩)))) [ht:TArr P t n e] [TSz P e sz] (hn:Nat.blt 0 n=true):OpP P Γ Δ ⟨d, .slice t x none none none,ty,pos,af,g⟩ (is (.slice (some ⟨b,o,none⟩) n n)) :=
  OpP.same fun H a w hx hs=>by
    have hv:a.eval x = .pointer (some ⟨b,o,none⟩):=hx x (by simp [Op.operands]) _ h
    have hn:=Nat.blt_eq.mp hn
    refine ⟨_,?_,rfl⟩
    simp only [execOp,hv]
    refine run_value ?_
    refine (run_sliceArr (P:=P) (n:=n) (e:=e) (sz:=sz) (l:=0) (h:=n) (a:=⟨b,o,none⟩) rfl).trans ?_
    rw [if_neg (by omega),Nat.zero_mul,add_at,Nat.sub_zero]
    rfl
theorem op_oslarr_hi {b o n e sz hi:Nat} {k:IntKind} (h:opd Γ x=some (is (.pointer (some ⟨b,o,none⟩)))) (hh:opd Γ y=some (is (.int k (hi:Int)))) [ht:TArr P t n e] [TSz P e sz] (hn:Nat.blt 0 n=true) (h1:hi≤n):OpP P Γ Δ ⟨d, .slice t x none (some y) none,ty,pos,af,g⟩ (is (.slice (some ⟨b,o,none⟩) hi n)) :=
  OpP.same fun H a w hx hs=>by
    have hv:a.eval x = .pointer (some ⟨b,o,none⟩):=hx x (by simp [Op.operands]) _ h
    have hi':a.eval y = .int k (hi:Int):=hx y (by simp [Op.operands]) _ hh
    have hn:=Nat.blt_eq.mp hn
    refine ⟨_,?_,rfl⟩
    simp only [execOp,hv,Option.map_some,Option.map_none,hi']
    refine run_value ?_
    refine (run_sliceArr (P:=P) (n:=n) (e:=e) (sz:=sz) (l:=0) (h:=hi) (a:=⟨b,o,none⟩) ?_).trans ?_
    · unfold Instr.sliceBounds
      simp only [Sem.run_bind,Sem.run_pure,Result.andThen_ok,run_bound h1]
    rw [if_neg (by omega),Nat.zero_mul,add_at,Nat.sub_zero]
    rfl
theorem op_oslarr_lo {b o n e sz lo:Nat} {k:IntKind} (h:opd Γ x=some (is (.pointer (some ⟨b,o,none⟩)))) (hh:opd Γ y=some (is (.int k (lo:Int)))) [ht:TArr P t n e] [TSz P e sz] (h1:lo < n):OpP P Γ Δ ⟨d, .slice t x (some y) none none,ty,pos,af,g⟩ (is (.slice (some ⟨b,o+lo*sz,none⟩) (n - lo) (n - lo))) :=
  OpP.same fun H a w hx hs=>by
    have hv:a.eval x = .pointer (some ⟨b,o,none⟩):=hx x (by simp [Op.operands]) _ h
    have hi':a.eval y = .int k (lo:Int):=hx y (by simp [Op.operands]) _ hh
    refine ⟨_,?_,rfl⟩
    simp only [execOp,hv,Option.map_some,Option.map_none,hi']
    refine run_value ?_
    refine (run_sliceArr (P:=P) (n:=n) (e:=e) (sz:=sz) (l:=lo) (h:=n) (a:=⟨b,o,none⟩) ?_).trans ?_
    · unfold Instr.sliceBounds
      simp only [Sem.run_bind,Sem.run_pure,Result.andThen_ok,run_bound (Nat.le_of_lt h1)]
    rw [if_neg (by omega),add_at]
theorem op_slen {A:Option Addr} {n c e:Nat} (h:opd Γ x=some (is (.slice A n c))) [ht:TSl P t e]:OpP P Γ Δ ⟨d, .call ⟨.builtin .len, #[x], #[t]⟩,ty,pos,af,g⟩ (is (.int .i64 (n:Int))) :=
  OpP.same fun H a w hx hs=>by
    have hv:a.eval x = .slice A n c:=hx x (by simp [Op.operands,Call.operands]) _ h
    refine ⟨_,run_builtin (as:=[x]) fun c=>?_,rfl⟩
    refine run_value (x:=Builtin.len_ #[t] ty #[a.eval x]) ?_
    rw [hv]
    exact (run_bind (underlying t) _ w (run_underlying' ht.h)).trans rfl
/-- A cell of an owned block. -/
theorem op_ocell {b o e:Nat} {φs:List Pr} {φ:Pr} (h:opd Γ x=some (is (.pointer (some ⟨b,o,none⟩)))) (hm:own b e φs ∈ Δ) [TSz P t 1] [TAg P t false] (hx:φs[o]?=some φ):OpP P Γ Δ ⟨d, .load t x,ty,pos,af,g⟩ φ :=
  OpP.val fun H a w hxx hs hr=>by
    have hv:a.eval x = .pointer (some ⟨b,o,none⟩):=hxx x (by simp [Op.operands]) _ h
    obtain ⟨cs,hh,hcs⟩:=own_cells (hr _ hm)
    obtain ⟨c,hc,hφ⟩:=hcs.get o φ hx
    refine ⟨c,H,w,?_,Ext.refl hs,hφ.1⟩
    simp only [execOp,hv]
    refine run_value ?_
    refine run_loadVar (ag:=false) (n:=1) w b o [c] rfl (fun _=>rfl) fun j v hj=>?_
    cases j with
    | zero=>rw [cell_at hh];injection hj with hj;subst hj;exact hc
    | succ j=>cases hj
end
section
variable {C:Cx} {Γ:Env} {Δ Δ':List Res} {ops:Array Oper} {rest:List Oper} {Q:Exit→Act→World→Prop} {α:Type} {T:Ty α} {v:Value} {e:Nat} {xs:List α}
theorem J.open {c:Code} (hp:Δ.Perm (row v e T xs::Δ')) (hne:xs ≠ []) (k : ∀ b o cap pre post,RowAt T v xs b o cap pre post→J C Γ (own b e (pre++flat T xs++post)::Δ') c Q):J C Γ Δ c Q:=fun H a w S=>by
  obtain ⟨b,o,cap,pre,post,h,S'⟩:=S.open hp hne
  exact k b o cap pre post h H a w S'
theorem E.close {x:Exit} (T:Ty α) (xs:List α) {b o cap:Nat} {φs:List Pr} (hp:Δ.Perm (own b e φs::Δ')) (h1:o+cap*T.sz≤φs.length) (h2:xs.length≤cap) (h3:cap≤maxLen) (h4:(φs.drop o).take (xs.length*T.sz)=flat T xs) (k:E C x Γ (row (.slice (some ⟨b,o,none⟩) xs.length cap) e T xs::Δ') Q):E C x Γ Δ Q :=
  fun H a w S=>k H a w (S.close T xs hp h1 h2 h3 h4)
theorem Lq.callS {d f:Nat} {ty:Nat} {pos:String} {af:Array Edge} {φs:List Pr} {Δ0 Δf:List Res} {post:Pr→List Res→Prop} {ys:List Operand} {ats:Array Nat} (F:FnR C.P f φs Δ0 post) (hd:Nat.blt d C.n=true) (h:opds Γ ys φs) (hp:Δ.Perm (Δ0++Δf))
    (k : ∀ ψ Δ',post ψ Δ'→Lq C ((d,ψ)::Γ) (Δ'++Δf) ops rest Q):Lq C Γ Δ ops (⟨some d, .call ⟨.value (.func f),ys.toArray,ats⟩,ty,pos,af,none⟩::rest) Q :=
  Lq.callR F (fun x hx=>by injection hx with hx;subst hx;exact blt hd) h hp k
end
theorem opF_build {P:Program} {t d ty:Nat} {pos:String} {af:Array Edge} {z:Value} {pl:Nat→Option (Nat × Nat)} {ps:Array (Nat × Operand)} [hz:TZero P t z] [hp:TPl P t pl]:OpF P ⟨some d, .build t ps,ty,pos,af,none⟩ where
  plain:=rfl
  bld:=⟨_,_,rfl⟩
  dst:=⟨_,rfl⟩
  fn:=fun ρ w=>by
    have hb : ∃ why, ∀ w2,(Instr.build t (ps.map fun (p:Nat × Operand)=>match p with|(i,x)=>(i,ρ x))).run P w2=match Instr.fill pl z.cells (ps.map fun (p:Nat × Operand)=>match p with|(i,x)=>(i,ρ x)).toList with|some cs => .ok (.agg cs) w2|none => .halt (.stuck why) w2:=by
      rcases hp.h with ⟨fs,pls,hu,hm,rfl⟩|⟨n,e,sz,hu,hsz,rfl⟩
      · refine ⟨"build: no such field, or a part of the wrong size", fun w2 => ?_⟩
        unfold Instr.build
        refine (run_bind (zeroValue t) _ w2 (run_zeroValue (t:=t) (v:=z))).trans ?_
        refine (run_bind (underlying t) _ w2 (run_underlying' hu)).trans ?_
        refine (run_bind _ _ w2 (hm w2)).trans ?_
        generalize Instr.fill _ _ _=F
        cases F <;> rfl
      · refine ⟨"build: a part of the wrong size", fun w2 => ?_⟩
        unfold Instr.build
        refine (run_bind (zeroValue t) _ w2 (run_zeroValue (t:=t) (v:=z))).trans ?_
        refine (run_bind (underlying t) _ w2 (run_underlying' hu)).trans ?_
        have := @run_sizeOf _ P w2 e sz ⟨hsz⟩
        refine (run_bind (sizeOf e) _ w2 this).trans ?_
        generalize Instr.fill _ _ _=F
        cases F <;> rfl
    obtain ⟨why,hb⟩:=hb
    have key : ∀ w2,(execOp ρ ⟨some d, .build t ps,ty,pos,af,none⟩).run P w2=match Instr.fill pl z.cells (ps.map fun (p:Nat × Operand)=>match p with|(i,x)=>(i,ρ x)).toList with|some cs => .ok (.value (.agg cs)) w2|none => .halt (.stuck why) w2:=by
      intro w2
      show ((Instr.build t (ps.map fun (p:Nat × Operand)=>match p with|(i,x)=>(i,ρ x))).bind fun v=>pure (Next.value v)).run P w2=_
      rw [Sem.run_bind',hb w2]
      generalize Instr.fill _ _ _=F
      cases F <;> rfl
    generalize Instr.fill pl z.cells _=F at key
    cases F with
    | some cs=>exact .inl ⟨_,key⟩
    | none=>exact .inr ⟨_,key w⟩
/-- Some slice of n elements. -/
def anySl (n:Nat):Pr:=⟨fun _ v => ∃ A c,v = .slice A n c,fun _ h=>h⟩
theorem Seg.anySl {n:Nat}:Seg (anySl n) [anySl n]:=⟨fun H v h=>by
  obtain ⟨A,c,rfl⟩:=h
  exact ⟨⟨⟨A,c,rfl⟩,rfl⟩,trivial⟩⟩
theorem anySl_row {α:Type} {T:Ty α} {xs:List α} {e:Nat} (v:Value) (H:IH) (w:World) (h:(row v e T xs).ok H w):(anySl xs.length).h H v:=row_slice h
theorem Open.row {α:Type} {T:Ty α} {xs:List α} {e:Nat} {Γ:Env} {Δ:List Res} {K:Env→List Res→Prop} {d:Nat} {F:Fresh} (h : ∀ A c,Open F ((d,is (.slice A xs.length c))::Γ) (L.row (.slice A xs.length c) e T xs::Δ) K):Open ((d,fun v=>L.row v e T xs)::F) Γ Δ K:=by
  intro v ⟨H,w,hok⟩
  obtain ⟨A,c,rfl⟩:=row_slice hok
  exact h A c
end Go.Proofs.YtljbbajelkkafaaDoor.L
