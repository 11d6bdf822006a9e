/-
  Rules of the logic: what single operations yield.
-/
import Derived.Test.YtljbbajelkkafaaDoorLa
set_option linter.unusedVariables false
set_option linter.unusedSimpArgs false
namespace Go.Proofs.YtljbbajelkkafaaDoor.L
open Go
set_option linter.unusedSectionVars false
variable [Globs]

/-! ### Types -/
class TSz (P:Program) (t:Nat) (n:outParam Nat):Prop where h:(P.info? t).map TypeInfo.size=some n
class TAg (P:Program) (t:Nat) (b:outParam Bool):Prop where h : ∃ d,P.underlying t=some d∧(match d with | .struct _ | .array _ _=>true|_=>false)=b
class TSl (P:Program) (t:Nat) (e:outParam Nat):Prop where h:P.underlying t=some (.slice e)
class TArr (P:Program) (t:Nat) (n e:outParam Nat):Prop where h:P.underlying t=some (.array n e)
class TStr (P:Program) (t:Nat):Prop where h:P.underlying t=some .string
class TBool (P:Program) (t:Nat):Prop where h:P.underlying t=some .bool
class TPtr (P:Program) (t:Nat) (e:outParam Nat):Prop where h:P.underlying t=some (.pointer e)
class TInt (P:Program) (t:Nat) (k:outParam IntKind):Prop where h:P.underlying t=some (.int k)
class TFld (P:Program) (t i:Nat) (off ft:outParam Nat):Prop where h : ∃ fs f,P.underlying t=some (.struct fs)∧fs[i]?=some f∧f.offset=off∧f.type=ft
class TZero (P:Program) (t:Nat) (v:outParam Value):Prop where h:(P.info? t).map TypeInfo.zero=some (some v)
class TBy (P:Program) (t:Nat) (n:outParam Nat):Prop where h:(P.info? t).map TypeInfo.bytes=some n
def eqChk (P:Program) (t:Nat) (l:List (Nat × Nat)):Bool :=
  !(P.stoodInHeld t) && (match P.underlying t with | some (.struct fs) => decide ((fs.toList.map fun f => (f.offset, f.type)) = l) && fs.toList.all (fun f => f.name != "_") | _ => false)
/-- A struct's fields, as == goes through them. -/
class TEq (P:Program) (t:Nat) (l:outParam (List (Nat × Nat))):Prop where h:eqChk P t l=true

section
variable {P:Program} {w:World}
theorem run_sizeOf {t n:Nat} [h:TSz P t n]:(sizeOf t).run P w = .ok n w:=by
  obtain ⟨i,hi,hn⟩:=Option.map_eq_some_iff.1 h.h
  subst hn
  simp only [sizeOf,typeInfo,program,bind,Sem.bind,pure,Sem.run,hi]
theorem run_underlying' {t:Nat} {d:TypeDesc} (h:P.underlying t=some d):(underlying t).run P w = .ok d w:=by
  simp only [underlying,program,bind,Sem.bind,pure,Sem.run,h]
theorem run_isAgg {t:Nat} {b:Bool} [h:TAg P t b]:(isAgg t).run P w = .ok b w:=by
  obtain ⟨d,hd,hb⟩:=h.h
  subst hb
  simp only [isAgg,underlying,program,bind,Sem.bind,pure,Sem.run,hd]
  cases d <;> rfl
theorem run_zeroValue {t:Nat} {v:Value} [h:TZero P t v]:(zeroValue t).run P w = .ok v w:=by
  obtain ⟨i,hi,hn⟩:=Option.map_eq_some_iff.1 h.h
  simp only [zeroValue,typeInfo,program,bind,Sem.bind,pure,Sem.run,hi,hn]
end

theorem run_bind {α β:Type} {P:Program} (x:Sem α) (f:α→Sem β) (w:World) {a:α} {w':World} (h:x.run P w = .ok a w'):(x.bind f).run P w=(f a).run P w':=by
  rw [Sem.run_bind',h]
  rfl
theorem run_value {P:Program} {x:Sem Value} {w:World} {v:Value} {w':World} (h:x.run P w = .ok v w'):(do pure (Next.value (← x)):Sem Next).run P w = .ok (.value v) w':=by
  show (x.bind fun v=>pure (Next.value v)).run P w=_
  rw [run_bind x _ w h]
  rfl
theorem run_skip {P:Program} {x:Sem Unit} {w:World} {w':World} (h:x.run P w = .ok () w'):(do x;pure Next.skip:Sem Next).run P w = .ok .skip w':=by
  show (x.bind fun _=>pure Next.skip).run P w=_
  rw [run_bind x _ w h]
  rfl

section
variable {P:Program} {Γ:Env} {Δ:List Res}
theorem OpP.val {o:Oper} {φ:Pr}
    (h : ∀ (H:IH) (a:Act) (w:World),(∀ x ∈ o.op.operands, ∀ ψ,opd Γ x=some ψ→ψ.h H (a.eval x))→Sat H w→(∀ r ∈ Δ,r.ok H w) →
      ∃ v H' w',(execOp a.eval o).run P w = .ok (.value v) w'∧Ext H w H' w'∧φ.h H' v):OpP P Γ Δ o φ:=by
  intro H a w Q K hx hs hr hb hK
  obtain ⟨v,H',w',hrun,hE,hv⟩:=h H a w hx hs hr
  unfold Oper.wp
  rw [hrun]
  exact hK v H' w' hE hv
theorem OpP.same {o:Oper} {φ:Pr}
    (h : ∀ (H:IH) (a:Act) (w:World),(∀ x ∈ o.op.operands, ∀ ψ,opd Γ x=some ψ→ψ.h H (a.eval x))→Sat H w →
      ∃ v,(execOp a.eval o).run P w = .ok (.value v) w∧φ.h H v):OpP P Γ Δ o φ :=
  OpP.val fun H a w hx hs _=>let ⟨v,h1,h2⟩:=h H a w hx hs;⟨v,H,w,h1,Ext.refl hs,h2⟩

section
variable {d:Option Nat} {ty:Nat} {pos:String} {af:Array Edge} {g:Option (Nat × Bool)}
theorem op_move {x:Operand} {φ:Pr} (h:opd Γ x=some φ):OpP P Γ Δ ⟨d, .move x,ty,pos,af,g⟩ φ :=
  OpP.same fun H a w hx _=>⟨a.eval x,rfl,hx x (by simp [Op.operands]) φ h⟩
theorem op_assign {x:Operand} {φ:Pr} (h:opd Γ x=some φ):OpP P Γ Δ ⟨d, .assign x,ty,pos,af,g⟩ φ :=
  OpP.same fun H a w hx _=>⟨a.eval x,rfl,hx x (by simp [Op.operands]) φ h⟩
theorem op_pick_t {c x y:Operand} {b:Bool} {φ:Pr} (hc:opd Γ c=some (is (.bool b))) (hb:b=true) (h:opd Γ x=some φ):OpP P Γ Δ ⟨d, .pick c x y,ty,pos,af,g⟩ φ :=
  OpP.same fun H a w hx _=>by
    have h1:a.eval c = .bool b:=hx c (by simp [Op.operands]) _ hc
    subst hb
    exact ⟨a.eval x,by simp [execOp,h1,asBool,bind,Sem.bind,pure,Sem.run],hx x (by simp [Op.operands]) φ h⟩
theorem op_pick_f {c x y:Operand} {b:Bool} {φ:Pr} (hc:opd Γ c=some (is (.bool b))) (hb:b=false) (h:opd Γ y=some φ):OpP P Γ Δ ⟨d, .pick c x y,ty,pos,af,g⟩ φ :=
  OpP.same fun H a w hx _=>by
    have h1:a.eval c = .bool b:=hx c (by simp [Op.operands]) _ hc
    subst hb
    exact ⟨a.eval y,by simp [execOp,h1,asBool,bind,Sem.bind,pure,Sem.run],hx y (by simp [Op.operands]) φ h⟩
theorem op_not {t:Nat} {x:Operand} {b:Bool} (h:opd Γ x=some (is (.bool b))):OpP P Γ Δ ⟨d, .unOp .not t x,ty,pos,af,g⟩ (is (.bool (!b))) :=
  OpP.same fun H a w hx _=>by
    have h1:a.eval x = .bool b:=hx x (by simp [Op.operands]) _ h
    exact ⟨.bool (!b),by simp [execOp,h1,Op.unary,bind,Sem.bind,pure,Sem.run],rfl⟩

/-- A binary operation on values that are known. -/
theorem op_bin {op:BinOp} {t yt:Nat} {x y:Operand} {u v r:Value} (h1:opd Γ x=some (is u)) (h2:opd Γ y=some (is v))
    (h : ∀ w,(do eqGuard op t x y u v;binOp op t u v:Sem Value).run P w = .ok r w):OpP P Γ Δ ⟨d, .binOp op t x y yt,ty,pos,af,g⟩ (is r) :=
  OpP.same fun H a w hx _=>by
    have e1:a.eval x=u:=hx x (by simp [Op.operands]) _ h1
    have e2:a.eval y=v:=hx y (by simp [Op.operands]) _ h2
    refine ⟨r,?_,rfl⟩
    simp only [execOp]
    rw [e1,e2]
    exact run_value (h w)
variable {t yt:Nat} {x y:Operand} {k:IntKind} {m n c:Int}
theorem int_guard (op:BinOp) (k:IntKind) (m n:Int) (w:World) (r:Value) (h:(binOp op t (.int k m) (.int k n)).run P w = .ok r w):(do eqGuard op t x y (.int k m) (.int k n);binOp op t (.int k m) (.int k n):Sem Value).run P w = .ok r w:=by
  have hg:(eqGuard op t x y (.int k m) (.int k n)).run P w = .ok () w:=by cases op <;> rfl
  exact (run_bind _ _ w hg).trans h
theorem op_int {op:BinOp} {r:Value} (h1:opd Γ x=some (is (.int k m))) (h2:opd Γ y=some (is (.int k n))) (h : ∀ w,(binOp op t (.int k m) (.int k n)).run P w = .ok r w):OpP P Γ Δ ⟨d, .binOp op t x y yt,ty,pos,af,g⟩ (is r) :=
  op_bin h1 h2 fun w=>int_guard op k m n w r (h w)
theorem op_add (h1:opd Γ x=some (is (.int k m))) (h2:opd Γ y=some (is (.int k n))) (hc:k.wrap (m+n)=c):OpP P Γ Δ ⟨d, .binOp .add t x y yt,ty,pos,af,g⟩ (is (.int k c)) :=
  op_int h1 h2 fun w=>by subst hc;simp only [binOp,ne_eq,not_true_eq_false,if_false];rfl
theorem op_sub (h1:opd Γ x=some (is (.int k m))) (h2:opd Γ y=some (is (.int k n))) (hc:k.wrap (m - n)=c):OpP P Γ Δ ⟨d, .binOp .sub t x y yt,ty,pos,af,g⟩ (is (.int k c)) :=
  op_int h1 h2 fun w=>by subst hc;simp only [binOp,ne_eq,not_true_eq_false,if_false];rfl
theorem op_mul (h1:opd Γ x=some (is (.int k m))) (h2:opd Γ y=some (is (.int k n))) (hc:k.wrap (m*n)=c):OpP P Γ Δ ⟨d, .binOp .mul t x y yt,ty,pos,af,g⟩ (is (.int k c)) :=
  op_int h1 h2 fun w=>by subst hc;simp only [binOp,ne_eq,not_true_eq_false,if_false];rfl
theorem op_quo (h1:opd Γ x=some (is (.int k m))) (h2:opd Γ y=some (is (.int k n))) (h0:n ≠ 0) (hc:k.wrap (m.tdiv n)=c):OpP P Γ Δ ⟨d, .binOp .quo t x y yt,ty,pos,af,g⟩ (is (.int k c)) :=
  op_int h1 h2 fun w=>by subst hc;simp only [binOp,ne_eq,not_true_eq_false,if_false,Op.intDiv,h0];rfl
theorem op_rem (h1:opd Γ x=some (is (.int k m))) (h2:opd Γ y=some (is (.int k n))) (h0:n ≠ 0) (hc:m.tmod n=c):OpP P Γ Δ ⟨d, .binOp .rem t x y yt,ty,pos,af,g⟩ (is (.int k c)) :=
  op_int h1 h2 fun w=>by subst hc;simp only [binOp,ne_eq,not_true_eq_false,if_false,Op.intDiv,h0];rfl
theorem op_eql (h1:opd Γ x=some (is (.int k m))) (h2:opd Γ y=some (is (.int k n))):OpP P Γ Δ ⟨d, .binOp .eql t x y yt,ty,pos,af,g⟩ (is (.bool (decide (m=n)))) :=
  op_int h1 h2 fun w=>by simp only [binOp,ne_eq,not_true_eq_false,if_false];rfl
theorem op_neq (h1:opd Γ x=some (is (.int k m))) (h2:opd Γ y=some (is (.int k n))):OpP P Γ Δ ⟨d, .binOp .neq t x y yt,ty,pos,af,g⟩ (is (.bool (!decide (m=n)))) :=
  op_int h1 h2 fun w=>by simp only [binOp,ne_eq,not_true_eq_false,if_false];rfl
theorem op_lss (h1:opd Γ x=some (is (.int k m))) (h2:opd Γ y=some (is (.int k n))):OpP P Γ Δ ⟨d, .binOp .lss t x y yt,ty,pos,af,g⟩ (is (.bool (decide (m < n)))) :=
  op_int h1 h2 fun w=>by simp only [binOp,ne_eq,not_true_eq_false,if_false];rfl
theorem op_leq (h1:opd Γ x=some (is (.int k m))) (h2:opd Γ y=some (is (.int k n))):OpP P Γ Δ ⟨d, .binOp .leq t x y yt,ty,pos,af,g⟩ (is (.bool (decide (m≤n)))) :=
  op_int h1 h2 fun w=>by simp only [binOp,ne_eq,not_true_eq_false,if_false];rfl
theorem op_gtr (h1:opd Γ x=some (is (.int k m))) (h2:opd Γ y=some (is (.int k n))):OpP P Γ Δ ⟨d, .binOp .gtr t x y yt,ty,pos,af,g⟩ (is (.bool (decide (n < m)))) :=
  op_int h1 h2 fun w=>by simp only [binOp,ne_eq,not_true_eq_false,if_false];rfl
theorem op_geq (h1:opd Γ x=some (is (.int k m))) (h2:opd Γ y=some (is (.int k n))):OpP P Γ Δ ⟨d, .binOp .geq t x y yt,ty,pos,af,g⟩ (is (.bool (decide (n≤m)))) :=
  op_int h1 h2 fun w=>by simp only [binOp,ne_eq,not_true_eq_false,if_false];rfl
theorem run_equal {P:Program} {t:Nat} {x y:Value} {w:World} {r:Bool} (h : ∀ d,(Op.equalIn (d+1) t x y).run P w = .ok r w):(Op.equal t x y).run P w = .ok r w:=h 9999
theorem eq_bool {P:Program} {t:Nat} (ht:P.underlying t=some .bool) (a b:Bool) (e:Nat) (w:World):(Op.equalIn (e+1) t (.bool a) (.bool b)).run P w = .ok (a == b) w:=by
  unfold Op.equalIn
  exact (run_bind _ _ w (run_underlying' ht)).trans rfl
theorem op_beq {a b:Bool} [hb:TBool P t] (h1:opd Γ x=some (is (.bool a))) (h2:opd Γ y=some (is (.bool b))):OpP P Γ Δ ⟨d, .binOp .eql t x y yt,ty,pos,af,g⟩ (is (.bool (a == b))) :=
  op_bin h1 h2 fun w=>by
    refine (run_bind _ _ w (show (eqGuard .eql t x y (.bool a) (.bool b)).run P w = .ok () w from rfl)).trans ?_
    exact (run_bind (Op.equal t (.bool a) (.bool b)) (fun r=>pure (Value.bool r)) w (run_equal fun e=>eq_bool hb.h a b e w)).trans rfl
theorem op_bne {a b:Bool} [hb:TBool P t] (h1:opd Γ x=some (is (.bool a))) (h2:opd Γ y=some (is (.bool b))):OpP P Γ Δ ⟨d, .binOp .neq t x y yt,ty,pos,af,g⟩ (is (.bool (!(a == b)))) :=
  op_bin h1 h2 fun w=>by
    refine (run_bind _ _ w (show (eqGuard .neq t x y (.bool a) (.bool b)).run P w = .ok () w from rfl)).trans ?_
    exact (run_bind (Op.equal t (.bool a) (.bool b)) (fun r=>pure (Value.bool (!r))) w (run_equal fun e=>eq_bool hb.h a b e w)).trans rfl
theorem op_lss_t (h1:opd Γ x=some (is (.int k m))) (h2:opd Γ y=some (is (.int k n))) (h:m < n):OpP P Γ Δ ⟨d, .binOp .lss t x y yt,ty,pos,af,g⟩ (is (.bool true)):=by
  have:=op_lss (P:=P) (Δ:=Δ) (d:=d) (ty:=ty) (pos:=pos) (af:=af) (g:=g) (t:=t) (yt:=yt) h1 h2
  rwa [decide_eq_true h] at this
theorem op_lss_f (h1:opd Γ x=some (is (.int k m))) (h2:opd Γ y=some (is (.int k n))) (h:n≤m):OpP P Γ Δ ⟨d, .binOp .lss t x y yt,ty,pos,af,g⟩ (is (.bool false)):=by
  have:=op_lss (P:=P) (Δ:=Δ) (d:=d) (ty:=ty) (pos:=pos) (af:=af) (g:=g) (t:=t) (yt:=yt) h1 h2
  rwa [decide_eq_false (by omega)] at this
theorem op_leq_t (h1:opd Γ x=some (is (.int k m))) (h2:opd Γ y=some (is (.int k n))) (h:m≤n):OpP P Γ Δ ⟨d, .binOp .leq t x y yt,ty,pos,af,g⟩ (is (.bool true)):=by
  have:=op_leq (P:=P) (Δ:=Δ) (d:=d) (ty:=ty) (pos:=pos) (af:=af) (g:=g) (t:=t) (yt:=yt) h1 h2
  rwa [decide_eq_true h] at this
theorem op_leq_f (h1:opd Γ x=some (is (.int k m))) (h2:opd Γ y=some (is (.int k n))) (h:n < m):OpP P Γ Δ ⟨d, .binOp .leq t x y yt,ty,pos,af,g⟩ (is (.bool false)):=by
  have:=op_leq (P:=P) (Δ:=Δ) (d:=d) (ty:=ty) (pos:=pos) (af:=af) (g:=g) (t:=t) (yt:=yt) h1 h2
  rwa [decide_eq_false (by omega)] at this
theorem op_gtr_t (h1:opd Γ x=some (is (.int k m))) (h2:opd Γ y=some (is (.int k n))) (h:n < m):OpP P Γ Δ ⟨d, .binOp .gtr t x y yt,ty,pos,af,g⟩ (is (.bool true)):=by
  have:=op_gtr (P:=P) (Δ:=Δ) (d:=d) (ty:=ty) (pos:=pos) (af:=af) (g:=g) (t:=t) (yt:=yt) h1 h2
  rwa [decide_eq_true h] at this
theorem op_gtr_f (h1:opd Γ x=some (is (.int k m))) (h2:opd Γ y=some (is (.int k n))) (h:m≤n):OpP P Γ Δ ⟨d, .binOp .gtr t x y yt,ty,pos,af,g⟩ (is (.bool false)):=by
  have:=op_gtr (P:=P) (Δ:=Δ) (d:=d) (ty:=ty) (pos:=pos) (af:=af) (g:=g) (t:=t) (yt:=yt) h1 h2
  rwa [decide_eq_false (by omega)] at this
theorem op_geq_t (h1:opd Γ x=some (is (.int k m))) (h2:opd Γ y=some (is (.int k n))) (h:n≤m):OpP P Γ Δ ⟨d, .binOp .geq t x y yt,ty,pos,af,g⟩ (is (.bool true)):=by
  have:=op_geq (P:=P) (Δ:=Δ) (d:=d) (ty:=ty) (pos:=pos) (af:=af) (g:=g) (t:=t) (yt:=yt) h1 h2
  rwa [decide_eq_true h] at this
theorem op_geq_f (h1:opd Γ x=some (is (.int k m))) (h2:opd Γ y=some (is (.int k n))) (h:m < n):OpP P Γ Δ ⟨d, .binOp .geq t x y yt,ty,pos,af,g⟩ (is (.bool false)):=by
  have:=op_geq (P:=P) (Δ:=Δ) (d:=d) (ty:=ty) (pos:=pos) (af:=af) (g:=g) (t:=t) (yt:=yt) h1 h2
  rwa [decide_eq_false (by omega)] at this
theorem op_eql_t (h1:opd Γ x=some (is (.int k m))) (h2:opd Γ y=some (is (.int k n))) (h:m=n):OpP P Γ Δ ⟨d, .binOp .eql t x y yt,ty,pos,af,g⟩ (is (.bool true)):=by
  have:=op_eql (P:=P) (Δ:=Δ) (d:=d) (ty:=ty) (pos:=pos) (af:=af) (g:=g) (t:=t) (yt:=yt) h1 h2
  rwa [decide_eq_true h] at this
theorem op_eql_f (h1:opd Γ x=some (is (.int k m))) (h2:opd Γ y=some (is (.int k n))) (h:m ≠ n):OpP P Γ Δ ⟨d, .binOp .eql t x y yt,ty,pos,af,g⟩ (is (.bool false)):=by
  have:=op_eql (P:=P) (Δ:=Δ) (d:=d) (ty:=ty) (pos:=pos) (af:=af) (g:=g) (t:=t) (yt:=yt) h1 h2
  rwa [decide_eq_false (by omega)] at this
theorem op_neq_t (h1:opd Γ x=some (is (.int k m))) (h2:opd Γ y=some (is (.int k n))) (h:m ≠ n):OpP P Γ Δ ⟨d, .binOp .neq t x y yt,ty,pos,af,g⟩ (is (.bool true)):=by
  have:=op_neq (P:=P) (Δ:=Δ) (d:=d) (ty:=ty) (pos:=pos) (af:=af) (g:=g) (t:=t) (yt:=yt) h1 h2
  rwa [decide_eq_false h] at this
theorem op_neq_f (h1:opd Γ x=some (is (.int k m))) (h2:opd Γ y=some (is (.int k n))) (h:m=n):OpP P Γ Δ ⟨d, .binOp .neq t x y yt,ty,pos,af,g⟩ (is (.bool false)):=by
  have:=op_neq (P:=P) (Δ:=Δ) (d:=d) (ty:=ty) (pos:=pos) (af:=af) (g:=g) (t:=t) (yt:=yt) h1 h2
  rwa [decide_eq_true h] at this
theorem op_rem_nat {a b:Nat} (h1:opd Γ x=some (is (.int k (a:Int)))) (h2:opd Γ y=some (is (.int k (b:Int)))) (h0:b ≠ 0):OpP P Γ Δ ⟨d, .binOp .rem t x y yt,ty,pos,af,g⟩ (is (.int k ((a % b:Nat):Int))) :=
  op_rem h1 h2 (by omega) (by rw [Int.tmod_eq_emod_of_nonneg (by omega)];omega)
theorem op_conv {src dst:Nat} {k k2:IntKind} {n c:Int} {x:Operand} [h1:TInt P src k] [h2:TInt P dst k2] (h:opd Γ x=some (is (.int k n))) (hc:k2.wrap n=c):OpP P Γ Δ ⟨d, .convert src dst x,ty,pos,af,g⟩ (is (.int k2 c)) :=
  OpP.same fun H a w hx _=>by
    have hv:a.eval x = .int k n:=hx x (by simp [Op.operands]) _ h
    refine ⟨.int k2 c,?_,rfl⟩
    simp only [execOp]
    refine run_value ?_
    rw [hv]
    unfold convert
    refine (run_bind (underlying src) _ w (run_underlying' h1.h)).trans ?_
    refine (run_bind (underlying dst) _ w (run_underlying' h2.h)).trans ?_
    subst hc
    rfl
end
end
end Go.Proofs.YtljbbajelkkafaaDoor.L
