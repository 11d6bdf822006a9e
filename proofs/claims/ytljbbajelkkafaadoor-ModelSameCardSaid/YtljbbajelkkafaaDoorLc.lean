/-
  Rules of the logic: memory,calls,and the whole of a function.
-/
import Derived.Test.YtljbbajelkkafaaDoorLb
set_option linter.unusedVariables false
set_option linter.unusedSimpArgs false
namespace Go.Proofs.YtljbbajelkkafaaDoor.L
open Go
set_option linter.unusedSectionVars false
variable [Globs]

/-! ### Typed data -/
structure Td (α:Type) extends Ty α where
  ag:Bool
  one:ag=false→sz=1
  sc : ∀ x H v,ag=false→((cells x).headD any).h H v→v.oneCell'=true
  pos:0 < sz
def Td.val {α:Type} (T:Td α) (x:α):Pr:=match T.ag with|true=>agg (T.cells x)|false=>(T.cells x).headD any

theorem cells_one {v:Value} (h:v.oneCell'=true):v.cells = #[v]:=by cases v <;> first|rfl|cases h
theorem Td.out {α:Type} (T:Td α) {x:α} {H:IH} {v:Value} (h:(T.val x).h H v):All2 (fun φ c=>φ.c H c) (T.cells x) v.cells.toList:=by
  unfold Td.val at h
  cases hag:T.ag with
  | true =>
    rw [hag] at h
    obtain ⟨cs,rfl,hcs⟩:=h
    exact hcs
  | false =>
    rw [hag] at h
    have h1:=T.sc x H v hag h
    have hl:=T.len x
    rw [T.one hag] at hl
    rw [cells_one h1]
    match hc:T.cells x,hl with
    | [φ],_=>rw [hc] at h;exact ⟨⟨h,h1⟩,trivial⟩
theorem Td.size {α:Type} (T:Td α) {x:α} {H:IH} {v:Value} (h:(T.val x).h H v):v.cells.size=T.sz:=by
  have:=(T.out h).length
  rw [T.len] at this
  simpa using this.symm
theorem Td.inn {α:Type} (T:Td α) {x:α} {H:IH} {cs:List Value} (h:All2 (fun φ c=>φ.c H c) (T.cells x) cs):(T.val x).h H (if T.ag then .agg cs.toArray else cs.headD undef):=by
  unfold Td.val
  cases hag:T.ag with
  | true=>exact ⟨cs,rfl,h⟩
  | false =>
    have hl:=T.len x
    rw [T.one hag] at hl
    match hc:T.cells x,hl,cs,h with
    | [φ],_,[c],h=>exact h.1.1

def intT (k:IntKind):Td Int where
  sz:=1
  cells n:=[is (.int k n)]
  len _:=rfl
  ag:=false
  one _:=rfl
  sc x H v _ h:=by have:v = .int k x:=h;subst this;rfl
  pos:=by decide
def boolT:Td Bool where
  sz:=1
  cells b:=[is (.bool b)]
  len _:=rfl
  ag:=false
  one _:=rfl
  sc x H v _ h:=by have:v = .bool x:=h;subst this;rfl
  pos:=by decide
def str (l:List UInt8):Value := .string ⟨l.toArray⟩
def strT:Td (List UInt8) where
  sz:=1
  cells s:=[is (str s)]
  len _:=rfl
  ag:=false
  one _:=rfl
  sc x H v _ h:=by have:v=str x:=h;subst this;rfl
  pos:=by decide
def slT {α:Type} (T:Td α):Td (List α) where
  sz:=1
  cells xs:=[sl T.toTy xs]
  len _:=rfl
  ag:=false
  one _:=rfl
  sc x H v _ h:=by obtain ⟨a,cap,hv,_⟩:=h;subst hv;rfl
  pos:=by decide

structure Fld {σ α:Type} (S:Ty σ) (T:Ty α) (get:σ→α) (off:Nat):Prop where
  h : ∀ s, ∃ pre post,S.cells s=pre++T.cells (get s)++post∧pre.length=off

/-! ### Memory -/
def IH.add (H:IH) (b:Nat) (cs:List Value):IH:=fun b' o=>if b'=b then cs[o]? else H b' o
theorem ext_new {H:IH} {w:World} (hs:Sat H w) (cs:List Value) (e:TypeId):Ext H w (H.add w.heap.size cs) (w.alloc (.cells cs.toArray e)) where
  le:=fun b o v h=>by
    have:=hs.lt h
    show (if b=w.heap.size then cs[o]? else H b o)=some v
    rw [if_neg (by omega)];exact h
  old:=fun b o hb=>by show (if b=w.heap.size then cs[o]? else H b o)=_;rw [if_neg (by omega)]
  sat:=⟨Gk.mono (fun b o v h=>by
    have:=hs.lt h
    show (if b=w.heap.size then cs[o]? else H b o)=some v
    rw [if_neg (by omega)];exact h) hs.gk,fun b o v h=>by
    replace h:(if b=w.heap.size then cs[o]? else H b o)=some v:=h
    split at h
    · rename_i hb
      subst hb
      show (match (w.alloc (.cells cs.toArray e)).heap[w.heap.size]? with|some (.cells c _ _)=>_|_=>_)=_
      rw [heap_alloc_self]
      simpa using h
    · have:=hs.cell b o v h
      exact (World.cell?_of_block (w:=w) (a:=⟨b,o,none⟩) (RowKit.Below.heap_alloc w _ b (hs.lt h))).trans this⟩
  fr:=⟨rfl,rfl,rfl,by simp,fun k hk _=>RowKit.Below.heap_alloc w _ k hk⟩
theorem add_at (b o i:Nat):(⟨b,o,none⟩:Addr).add i=⟨b,o+i,none⟩:=by unfold Addr.add;split <;> simp_all

theorem run_loadVar {P:Program} {t n:Nat} {ag:Bool} [TSz P t n] [hag:TAg P t ag] (w:World) (b o:Nat) (cs:List Value) (hl:cs.length=n) (h1:ag=false→n=1) (hc : ∀ j v,cs[j]?=some v→w.cell? ⟨b,o+j,none⟩=some v) :
    (loadVar t ⟨b,o,none⟩).run P w = .ok (if ag then .agg cs.toArray else cs.headD undef) w:=by
  unfold loadVar
  refine (run_bind (isAgg t) _ w (run_isAgg (t:=t) (b:=ag))).trans ?_
  cases ag with
  | true =>
    refine (run_bind (sizeOf t) _ w (run_sizeOf (t:=t) (n:=n))).trans ?_
    subst hl
    refine (run_bind (loadCells ⟨b,o,none⟩ cs.length) _ w (run_loadCells_list w ⟨b,o,none⟩ cs fun j v hj=>?_)).trans rfl
    rw [add_at];exact hc j v hj
  | false =>
    have:=h1 rfl
    subst this
    match cs,hl with
    | [c],_ =>
      have h0:=hc 0 c rfl
      simp only [Nat.add_zero] at h0
      simp only [Bool.false_eq_true,if_false,List.headD_cons]
      rw [run_load,h0]

/-- Cells that are known, one behind the other. -/
theorem known_cells {H:IH} {w:World} (hs:Sat H w) {b o:Nat} {ps:List Pr} (h : ∀ i φ,ps[i]?=some φ → ∃ c,H b (o+i)=some c∧φ.c H c) :
    ∃ cs:List Value,All2 (fun φ c=>φ.c H c) ps cs ∧ ∀ j v,cs[j]?=some v→w.cell? ⟨b,o+j,none⟩=some v:=by
  induction ps generalizing o with
  | nil=>exact ⟨[],trivial,fun j v hj=>by simp at hj⟩
  | cons φ ps ih =>
    obtain ⟨c,hc,hφ⟩:=h 0 φ rfl
    obtain ⟨cs,hcs,hcell⟩:=ih (o:=o+1) fun i ψ hi=>by
      obtain ⟨c',hc',hψ⟩:=h (i+1) ψ (by simpa using hi)
      exact ⟨c',by rw [show o+1+i=o+(i+1) by omega];exact hc',hψ⟩
    refine ⟨c::cs,⟨hφ,hcs⟩,fun j v hj=>?_⟩
    cases j with
    | zero=>simp at hj;subst hj;exact hs.cell _ _ _ hc
    | succ j =>
      have:=hcell j v (by simpa using hj)
      rw [show o+1+j=o+(j+1) by omega] at this
      exact this

section
variable {P:Program} {Γ:Env} {Δ:List Res}
section
variable {d:Option Nat} {ty:Nat} {pos:String} {af:Array Edge} {g:Option (Nat × Bool)}
theorem op_load {α:Type} (T:Td α) {x:α} {t:Nat} {p:Operand} (h:opd Γ p=some (ptr (T.cells x))) [TSz P t T.sz] [TAg P t T.ag]:OpP P Γ Δ ⟨d, .load t p,ty,pos,af,g⟩ (T.val x) :=
  OpP.same fun H a w hx hs=>by
    obtain ⟨b,o,hv,hcell⟩:=hx p (by simp [Op.operands]) _ h
    obtain ⟨cs,hcs,hc⟩:=known_cells hs hcell
    refine ⟨_,?_,T.inn hcs⟩
    simp only [execOp,hv]
    refine run_value ?_
    exact run_loadVar (ag:=T.ag) (n:=T.sz) w b o cs (by rw [← hcs.length,T.len]) T.one hc
theorem op_faddr {σ α:Type} {S:Ty σ} {T:Ty α} {get:σ→α} {off:Nat} (F:Fld S T get off) {s:σ} {t i ft n:Nat} {p:Operand} (h:opd Γ p=some (ptr (S.cells s))) [hf:TFld P t i off ft] [TSz P ft n] (hn:n ≠ 0):OpP P Γ Δ ⟨d, .fieldAddr t p i,ty,pos,af,g⟩ (ptr (T.cells (get s))) :=
  OpP.same fun H a w hx hs=>by
    obtain ⟨b,o,hv,hcell⟩:=hx p (by simp [Op.operands]) _ h
    obtain ⟨fs,f,hu,hfi,hoff,hft⟩:=hf.h
    obtain ⟨pre,post,hS,hpre⟩:=F.h s
    refine ⟨.pointer (some ⟨b,o+off,none⟩),?_,b,o+off,rfl,fun j φ hj=>?_⟩
    · simp only [execOp,hv]
      refine run_value ?_
      unfold Instr.fieldAt
      refine (run_bind _ _ w (run_underlying' hu)).trans ?_
      simp only [hfi]
      refine (run_bind (Instr.sureAddr (.pointer (some ⟨b,o,none⟩))) _ w (show _=Result.ok ⟨b,o,none⟩ w from rfl)).trans ?_
      refine (run_bind (fieldPlace ⟨b,o,none⟩ f) _ w (a:=⟨b,o+off,none⟩) (w':=w) ?_).trans rfl
      unfold fieldPlace
      rw [hft]
      refine (run_bind _ _ w (run_sizeOf (t:=ft) (n:=n))).trans ?_
      rw [if_neg hn,hoff,add_at]
      rfl
    · have:(S.cells s)[off+j]?=some φ:=by
        rw [hS,List.append_assoc,List.getElem?_append_right (by omega),show off+j - pre.length=j by omega,List.getElem?_append_left (List.getElem?_eq_some_iff.1 hj).1]
        exact hj
      obtain ⟨c,hc,hφ⟩:=hcell _ φ this
      exact ⟨c,by rw [Nat.add_assoc];exact hc,hφ⟩
/-- A variable that is never written again. -/
theorem op_box {α:Type} (T:Td α) {x:α} {t:Nat} {y:Operand} (h:opd Γ y=some (T.val x)):OpP P Γ Δ ⟨d, .box t y,ty,pos,af,g⟩ (ptr (T.cells x)) :=
  OpP.val fun H a w hx hs _=>by
    have hy:=hx y (by simp [Op.operands]) _ h
    have hcs:=T.out hy
    have E:=ext_new hs (a.eval y).cells.toList t
    refine ⟨.pointer (some ⟨w.heap.size,0,none⟩),H.add w.heap.size (a.eval y).cells.toList,w.alloc (.cells (a.eval y).cells t),?_,?_,w.heap.size,0,rfl,fun i φ hi=>?_⟩
    · simp only [execOp]
      refine run_value ?_
      rfl
    · simpa using E
    · obtain ⟨c,hc,hφ⟩:=hcs.get i φ hi
      refine ⟨c,?_,Pr.c_mono E.le hφ⟩
      show (if w.heap.size=w.heap.size then _ else _)=_
      rw [if_pos rfl,Nat.zero_add];exact hc
theorem run_builtin {ρ:Operand→Value} {b:Builtin} {as:List Operand} {ats:Array Nat} {w w':World} {v:Value} (h : ∀ c,(builtin b ats ty c (as.map ρ).toArray).run P w = .ok (.value v) w') :
    (execOp ρ ⟨d, .call ⟨.builtin b,as.toArray,ats⟩,ty,pos,af,g⟩).run P w = .ok (.value v) w':=by
  have:=h (as.toArray.map fun | .const _=>true|_=>false)
  rw [← List.map_toArray] at this
  exact this
theorem op_len {α:Type} {T:Ty α} {xs:List α} {t e:Nat} {y:Operand} (h:opd Γ y=some (sl T xs)) [ht:TSl P t e]:OpP P Γ Δ ⟨d, .call ⟨.builtin .len, #[y], #[t]⟩,ty,pos,af,g⟩ (is (.int .i64 (xs.length:Int))) :=
  OpP.same fun H a w hx hs=>by
    obtain ⟨ad,cap,hv,_⟩:=hx y (by simp [Op.operands,Call.operands]) _ h
    refine ⟨_,run_builtin fun c=>?_,rfl⟩
    refine run_value (x:=Builtin.len_ #[t] ty #[a.eval y]) ?_
    rw [hv]
    exact (run_bind (underlying t) _ w (run_underlying' ht.h)).trans rfl
theorem op_lens {s:List UInt8} {t:Nat} {y:Operand} (h:opd Γ y=some (is (str s))) [ht:TStr P t]:OpP P Γ Δ ⟨d, .call ⟨.builtin .len, #[y], #[t]⟩,ty,pos,af,g⟩ (is (.int .i64 (s.length:Int))) :=
  OpP.same fun H a w hx hs=>by
    have hv:a.eval y=str s:=hx y (by simp [Op.operands,Call.operands]) _ h
    refine ⟨_,run_builtin fun c=>?_,rfl⟩
    refine run_value (x:=Builtin.len_ #[t] ty #[a.eval y]) ?_
    rw [hv]
    exact (run_bind (underlying t) _ w (run_underlying' ht.h)).trans rfl
end
end
end Go.Proofs.YtljbbajelkkafaaDoor.L
