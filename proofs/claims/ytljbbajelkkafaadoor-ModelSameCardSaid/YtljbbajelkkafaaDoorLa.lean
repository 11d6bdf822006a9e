/-
  A logic of typed states over the model's walk: what each temporary holds is said by a predicate that stays true while memory grows.
-/
import Derived.WalkKit
import Derived.KernelRfl
import Derived.StillTail
import Derived.RangeFuncLeaves
import Derived.RangeFuncRecord
import Derived.OrdersIn
import Derived.TacticsIn
import Derived.Test.YtljbbajelkkafaaDoorGl
set_option linter.unusedVariables false
set_option linter.unusedSimpArgs false
namespace Go.Proofs.YtljbbajelkkafaaDoor.L
open Go
set_option linter.unusedSectionVars false
variable [Globs]

abbrev IH:=Nat→Nat→Option Value
def IH.le (H H':IH):Prop := ∀ b o v,H b o=some v→H' b o=some v
theorem IH.le_refl (H:IH):IH.le H H:=fun _ _ _ h=>h
theorem IH.le_trans {A B C:IH} (h:IH.le A B) (k:IH.le B C):IH.le A C:=fun b o v x=>k b o v (h b o v x)

structure Pr where
  h:IH→Value→Prop
  mono : ∀ {H H':IH} {v:Value},IH.le H H'→h H v→h H' v

def is (v:Value):Pr:=⟨fun _ u=>u=v,fun _ h=>h⟩
def any:Pr:=⟨fun _ _=>True,fun _ h=>h⟩

def All2 {α β:Type} (R:α→β→Prop):List α→List β→Prop
  | [],[]=>True
  | a::as,b::bs=>R a b∧All2 R as bs
  | _,_=>False
theorem All2.imp {α β:Type} {R S:α→β→Prop} (h : ∀ a b,R a b→S a b) : ∀ {l:List α} {m:List β},All2 R l m→All2 S l m
  | [],[],_=>trivial
  | _::_,_::_,⟨h1,h2⟩=>⟨h _ _ h1,All2.imp h h2⟩
  | [],_::_,h=>h.elim
  | _::_,[],h=>h.elim
theorem All2.length {α β:Type} {R:α→β→Prop} : ∀ {l:List α} {m:List β},All2 R l m→l.length=m.length
  | [],[],_=>rfl
  | _::_,_::_,⟨_,h2⟩=>by simp [All2.length h2]
  | [],_::_,h=>h.elim
  | _::_,[],h=>h.elim
theorem All2.append {α β:Type} {R:α→β→Prop} : ∀ {l:List α} {m:List β} {l':List α} {m':List β},All2 R l m→All2 R l' m'→All2 R (l++l') (m++m')
  | [],[],_,_,_,h=>h
  | _::_,_::_,_,_,⟨h1,h2⟩,h=>⟨h1,All2.append h2 h⟩
  | [],_::_,_,_,h,_=>h.elim
  | _::_,[],_,_,h,_=>h.elim
theorem All2.get {α β:Type} {R:α→β→Prop} : ∀ {l:List α} {m:List β},All2 R l m → ∀ (i:Nat) (a:α),l[i]?=some a → ∃ b,m[i]?=some b∧R a b
  | [],[],_,i,a,hi=>by simp at hi
  | x::l,y::m,⟨h1,h2⟩,0,a,hi=>⟨y,rfl,by simp at hi;subst hi;exact h1⟩
  | x::l,y::m,⟨h1,h2⟩,i+1,a,hi=>by
    obtain ⟨b,hb,hR⟩:=All2.get h2 i a (by simpa using hi)
    exact ⟨b,by simpa using hb,hR⟩
  | [],_::_,h,_,_,_=>h.elim
  | _::_,[],h,_,_,_=>h.elim
theorem All2.of_get {α β:Type} {R:α→β→Prop} : ∀ {l:List α} {m:List β},l.length=m.length→(∀ (i:Nat) (a:α) (b:β),l[i]?=some a→m[i]?=some b→R a b)→All2 R l m
  | [],[],_,_=>trivial
  | x::l,y::m,hl,h=>⟨h 0 x y rfl rfl,All2.of_get (by simpa using hl) fun i a b h1 h2=>h (i+1) a b (by simpa using h1) (by simpa using h2)⟩
  | [],_::_,hl,_=>by simp at hl
  | _::_,[],hl,_=>by simp at hl
theorem All2.take {α β:Type} {R:α→β→Prop} (n:Nat) {l:List α} {m:List β} (h:All2 R l m):All2 R (l.take n) (m.take n) :=
  All2.of_get (by simp [h.length]) fun i a b h1 h2=>by
    rw [List.getElem?_take] at h1 h2
    split at h1
    · rename_i hn
      rw [if_pos hn] at h2
      obtain ⟨b',hb',hR⟩:=h.get i a h1
      rw [hb'] at h2;injection h2 with h2;subst h2;exact hR
    · cases h1
theorem All2.drop {α β:Type} {R:α→β→Prop} (n:Nat) {l:List α} {m:List β} (h:All2 R l m):All2 R (l.drop n) (m.drop n) :=
  All2.of_get (by simp [h.length]) fun i a b h1 h2=>by
    rw [List.getElem?_drop] at h1 h2
    obtain ⟨b',hb',hR⟩:=h.get (n+i) a h1
    rw [hb'] at h2;injection h2 with h2;subst h2;exact hR

/-- What one cell may hold. -/
def Pr.c (φ:Pr) (H:IH) (v:Value):Prop:=φ.h H v∧v.oneCell'=true
theorem Pr.c_mono {φ:Pr} {H H':IH} {v:Value} (h:IH.le H H') (k:φ.c H v):φ.c H' v:=⟨φ.mono h k.1,k.2⟩

def agg (ps:List Pr):Pr:=⟨fun H v => ∃ cs:List Value,v = .agg cs.toArray∧All2 (fun φ c=>φ.c H c) ps cs,fun hle ⟨cs,hv,h⟩=>⟨cs,hv,h.imp fun _ _ k=>Pr.c_mono hle k⟩⟩
def tup (ps:List Pr):Pr:=⟨fun H v => ∃ cs:List Value,v = .tuple cs.toArray∧All2 (fun φ c=>φ.h H c) ps cs,fun hle ⟨cs,hv,h⟩=>⟨cs,hv,h.imp fun φ _ k=>φ.mono hle k⟩⟩
/-- A pointer to cells that are known for good. -/
def ptr (ps:List Pr):Pr:=⟨fun H v => ∃ b o,v = .pointer (some ⟨b,o,none⟩) ∧ ∀ i φ,ps[i]?=some φ → ∃ c,H b (o+i)=some c∧φ.c H c,
  fun hle ⟨b,o,hv,h⟩=>⟨b,o,hv,fun i φ hi=>let ⟨c,hc,hφ⟩:=h i φ hi;⟨c,hle _ _ _ hc,Pr.c_mono hle hφ⟩⟩⟩
/-- A type: the cells of each of its values. -/
structure Ty (α:Type) where
  sz:Nat
  cells:α→List Pr
  len : ∀ x,(cells x).length=sz
def flat {α:Type} (T:Ty α) (xs:List α):List Pr:=(xs.map T.cells).flatten
/-- A slice whose elements are known for good. -/
def sl {α:Type} (T:Ty α) (xs:List α):Pr:=⟨fun H v => ∃ a cap,v = .slice a xs.length cap∧xs.length≤cap∧cap≤maxLen∧(a=none→cap=0)∧(0 < xs.length → ∃ b o,a=some ⟨b,o,none⟩ ∧ ∀ i φ,(flat T xs)[i]?=some φ → ∃ c,H b (o+i)=some c∧φ.c H c),
  fun hle ⟨a,cap,hv,h1,h2,h3,h⟩=>⟨a,cap,hv,h1,h2,h3,fun hn=>let ⟨b,o,ha,hc⟩:=h hn;⟨b,o,ha,fun i φ hi=>let ⟨c,hc,hφ⟩:=hc i φ hi;⟨c,hle _ _ _ hc,Pr.c_mono hle hφ⟩⟩⟩⟩

abbrev Env:=List (Nat × Pr)
def look:Env→Nat→Option Pr
  | [],_=>none
  | (k,φ)::r,t=>match Nat.beq k t with|true=>some φ|false=>look r t
def opd (Γ:Env):Operand→Option Pr
  | .tmp t=>look Γ t
  | .const v=>some (is v)
  | .global g=>some (is (.pointer (some ⟨g,0,none⟩)))
  | .func f=>some (is (.func (.func f) #[] #[]))

/-- Something that is owned: at most one block may be written under it. -/
structure Res where
  blk:Option Nat
  ok:IH→World→Prop
  st : ∀ {H H':IH} {w w':World},IH.le H H'→(∀ b,blk=some b→w'.heap[b]?=w.heap[b]? ∧ ∀ o,H' b o=H b o)→ok H w→ok H' w'

structure Fr (X:List Nat) (w w':World):Prop where
  os:w'.os=w.os
  tape:w'.tape=w.tape
  output:w'.output=w.output
  size:w.heap.size≤w'.heap.size
  block : ∀ k,k < w.heap.size→k ∉ X→w'.heap[k]?=w.heap[k]?
theorem Fr.refl (X:List Nat) (w:World):Fr X w w:=⟨rfl,rfl,rfl,Nat.le_refl _,fun _ _ _=>rfl⟩
theorem Fr.trans {X:List Nat} {a b c:World} (h:Fr X a b) (k:Fr X b c):Fr X a c :=
  ⟨k.os.trans h.os,k.tape.trans h.tape,k.output.trans h.output,Nat.le_trans h.size k.size,fun i hi hx=>(k.block i (Nat.lt_of_lt_of_le hi h.size) hx).trans (h.block i hi hx)⟩
theorem Fr.weak {X Y:List Nat} {a b:World} (h:Fr X a b) (hx : ∀ x ∈ X,x ∈ Y):Fr Y a b :=
  ⟨h.os,h.tape,h.output,h.size,fun k hk hy=>h.block k hk fun hX=>hy (hx k hX)⟩
theorem Fr.below {a b:World} (h:Fr [] a b):RowKit.Below a.heap.size a b:=⟨h.os,h.tape,h.output,h.size,fun k hk=>h.block k hk (by simp)⟩

/-- The package variables that the row lists. -/
def Gk (H:IH):Prop := ∀ g cs,(g,cs) ∈ globs → ∀ o v,cs[o]?=some v→H g o=some v
theorem Gk.mono {H H':IH} (h:IH.le H H') (k:Gk H):Gk H':=fun g cs hm o v hv=>h _ _ _ (k g cs hm o v hv)
structure Sat (H:IH) (w:World):Prop where
  gk:Gk H
  cell : ∀ b o v,H b o=some v→w.cell? ⟨b,o,none⟩=some v
theorem Sat.lt {H:IH} {w:World} (h:Sat H w) {b o:Nat} {v:Value} (hb:H b o=some v):b < w.heap.size:=World.block_lt_of_cell? w ⟨b,o,none⟩ (h.cell b o v hb)

/-- What a call that only makes memory does. -/
structure Ext (H:IH) (w:World) (H':IH) (w':World):Prop where
  le:IH.le H H'
  old : ∀ b o,b < w.heap.size→H' b o=H b o
  sat:Sat H' w'
  fr:Fr [] w w'
theorem Ext.refl {H:IH} {w:World} (h:Sat H w):Ext H w H w:=⟨IH.le_refl _,fun _ _ _=>rfl,h,Fr.refl _ _⟩
theorem Ext.trans {A B C:IH} {a b c:World} (h:Ext A a B b) (k:Ext B b C c):Ext A a C c :=
  ⟨IH.le_trans h.le k.le,fun x o hx=>(k.old x o (Nat.lt_of_lt_of_le hx h.fr.size)).trans (h.old x o hx),k.sat,h.fr.trans k.fr⟩

structure Cx where
  P:Program
  n:Nat
  w0:World
  H0:IH
  X:List Nat
  /-- The loop whose round this is. -/
  ro:Option Nat
  /-- What is deferred. -/
  df:List Deferred

structure St (C:Cx) (Γ:Env) (Δ:List Res) (H:IH) (a:Act) (w:World):Prop where
  dfr:a.defers=C.df
  siz:a.tmps.size=C.n
  env : ∀ t φ,look Γ t=some φ → ∃ v,a.tmps[t]?=some v∧φ.h H v
  sat:Sat H w
  res : ∀ r ∈ Δ,r.ok H w
  dis:(Δ.filterMap Res.blk).Nodup
  own : ∀ b ∈ Δ.filterMap Res.blk,b < w.heap.size∧(b ∈ C.X ∨ C.w0.heap.size≤b)
  le:IH.le C.H0 H
  fr:Fr C.X C.w0 w
  hk : ∀ b o,b < C.w0.heap.size→b ∉ C.X→H b o=C.H0 b o

theorem St.opd {C:Cx} {Γ:Env} {Δ:List Res} {H:IH} {a:Act} {w:World} (S:St C Γ Δ H a w) {x:Operand} {φ:Pr} (h:opd Γ x=some φ):φ.h H (a.eval x):=by
  cases x with
  | tmp t =>
    obtain ⟨v,hv,hφ⟩:=S.env t φ h
    have hlt:=(Array.getElem?_eq_some_iff.1 hv).1
    have:a.eval (.tmp t)=v:=by simp [Act.eval,hv]
    rw [this];exact hφ
  | const v=>injection h with h;subst h;exact rfl
  | global g=>injection h with h;subst h;exact rfl
  | func f=>injection h with h;subst h;exact rfl

theorem Res.keep {Δ:List Res} {H H':IH} {w w':World} (E:Ext H w H' w') (hown : ∀ b ∈ Δ.filterMap Res.blk,b < w.heap.size) (h : ∀ r ∈ Δ,r.ok H w) : ∀ r ∈ Δ,r.ok H' w':=fun r hr =>
  r.st E.le (fun b hb=>by
    have hlt:=hown b (List.mem_filterMap.2 ⟨r,hr,hb⟩)
    exact ⟨E.fr.block b hlt (by simp),fun o=>E.old b o hlt⟩) (h r hr)

/-- A value put into a slot, memory having grown. -/
theorem St.put {C:Cx} {Γ:Env} {Δ:List Res} {H H':IH} {a:Act} {w w':World} (S:St C Γ Δ H a w) (E:Ext H w H' w') (d:Nat) (hd:d < C.n) (v:Value) (φ:Pr) (hv:φ.h H' v):St C ((d,φ)::Γ) Δ H' (a.put (some d) v) w' where
  dfr:=S.dfr
  siz:=by simp [Act.put,S.siz]
  env:=fun t ψ ht=>by
    unfold look at ht
    split at ht
    · rename_i hk
      have hk:=Nat.eq_of_beq_eq_true hk
      subst hk
      injection ht with ht;subst ht
      exact ⟨v,by simp [Act.put,S.siz,hd],hv⟩
    · rename_i hk
      obtain ⟨u,hu,hψ⟩:=S.env t ψ ht
      have hne:d ≠ t:=Nat.ne_of_beq_eq_false hk
      exact ⟨u,by simp [Act.put,Array.getElem?_setIfInBounds_ne hne,hu],ψ.mono E.le hψ⟩
  sat:=E.sat
  res:=Res.keep E (fun b hb=>(S.own b hb).1) S.res
  dis:=S.dis
  own:=fun b hb=>⟨Nat.lt_of_lt_of_le (S.own b hb).1 E.fr.size,(S.own b hb).2⟩
  le:=IH.le_trans S.le E.le
  fr:=S.fr.trans (E.fr.weak (by simp))
  hk:=fun b o hb hx=>(E.old b o (Nat.lt_of_lt_of_le hb S.fr.size)).trans (S.hk b o hb hx)

theorem St.putN {C:Cx} {Γ:Env} {Δ:List Res} {H H':IH} {a:Act} {w w':World} (S:St C Γ Δ H a w) (E:Ext H w H' w') (v:Value):St C Γ Δ H' (a.put none v) w' where
  dfr:=S.dfr
  siz:=S.siz
  env:=fun t ψ ht=>let ⟨u,hu,hψ⟩:=S.env t ψ ht;⟨u,hu,ψ.mono E.le hψ⟩
  sat:=E.sat
  res:=Res.keep E (fun b hb=>(S.own b hb).1) S.res
  dis:=S.dis
  own:=fun b hb=>⟨Nat.lt_of_lt_of_le (S.own b hb).1 E.fr.size,(S.own b hb).2⟩
  le:=IH.le_trans S.le E.le
  fr:=S.fr.trans (E.fr.weak (by simp))
  hk:=fun b o hb hx=>(E.old b o (Nat.lt_of_lt_of_le hb S.fr.size)).trans (S.hk b o hb hx)

def putΓ (Γ:Env) (d:Option Nat) (φ:Pr):Env:=match d with|some d=>(d,φ)::Γ|none=>Γ

/-- An operation that only makes memory: what it yields. -/
def OpP (P:Program) (Γ:Env) (Δ:List Res) (o:Oper) (φ:Pr):Prop :=
  ∀ (H:IH) (a:Act) (w:World) (Q:Exit→Act→World→Prop) (K:Act→World→Prop),
    (∀ x ∈ o.op.operands, ∀ ψ,opd Γ x=some ψ→ψ.h H (a.eval x))→Sat H w→(∀ r ∈ Δ,r.ok H w)→(∀ b ∈ Δ.filterMap Res.blk,b < w.heap.size) →
    (∀ v H' w',Ext H w H' w'→φ.h H' v→K (a.put o.dst v) w')→o.wp P a w K Q

def gslot (ops:Array Oper) (j:Nat):Option Nat:=(ops[j]?).bind (·.dst)
/-- The same for one that may be passed over. -/
inductive OpG (P:Program) (ops:Array Oper) (Γ:Env) (Δ:List Res) (o:Oper) (φ:Pr):Prop
  | plain (hg:o.guard=none) (h:OpP P Γ Δ o φ)
  | run (j:Nat) (want:Bool) (g:Nat) (hg:o.guard=some (j,want)) (hj:gslot ops j=some g) (hl:look Γ g=some (is (.bool want))) (h:OpP P Γ Δ o φ)
  | skip (j:Nat) (want:Bool) (g:Nat) (b:Bool) (hg:o.guard=some (j,want)) (hj:gslot ops j=some g) (hl:look Γ g=some (is (.bool b))) (hb:b ≠ want) (h:φ=is undef)
  | none (j:Nat) (want:Bool) (g:Nat) (hg:o.guard=some (j,want)) (hj:gslot ops j=some g) (hl:look Γ g=some (is undef)) (h:φ=is undef)

theorem yielded_of {ops:Array Oper} {a:Act} {j g:Nat} {v:Value} (hj:gslot ops j=some g) (hv:a.tmps[g]?=some v):yielded ops a.tmps j=match v with | .bool b=>some b|_=>none:=by
  unfold yielded
  unfold gslot at hj
  rw [hj]
  simp only [Option.bind_some,hv]
  cases v <;> rfl

theorem OpG.step {P:Program} {ops:Array Oper} {Γ:Env} {Δ:List Res} {o:Oper} {φ:Pr} (h:OpG P ops Γ Δ o φ) {H:IH} {a:Act} {w:World} {Q:Exit→Act→World→Prop} {K:Act→World→Prop}
    (hx : ∀ x ∈ o.op.operands, ∀ ψ,opd Γ x=some ψ→ψ.h H (a.eval x)) (hgd : ∀ j want g ψ,o.guard=some (j,want)→gslot ops j=some g→look Γ g=some ψ → ∃ v,a.tmps[g]?=some v∧ψ.h H v)
    (hs:Sat H w) (hr : ∀ r ∈ Δ,r.ok H w) (hb : ∀ b ∈ Δ.filterMap Res.blk,b < w.heap.size) (hK : ∀ v H' w',Ext H w H' w'→φ.h H' v→K (a.put o.dst v) w') :
    if Region.wanted o (yielded ops a.tmps) then o.wp P a w K Q else K (a.put o.dst undef) w:=by
  cases h with
  | plain hg h =>
    rw [if_pos (by simp [Region.wanted,hg])]
    exact h H a w Q K hx hs hr hb hK
  | run j want g hg hj hl h =>
    obtain ⟨v,hv,hψ⟩:=hgd j want g _ hg hj hl
    have hv':v = .bool want:=hψ
    subst hv'
    rw [if_pos (by simp [Region.wanted,hg,yielded_of hj hv])]
    exact h H a w Q K hx hs hr hb hK
  | skip j want g b hg hj hl hbw h =>
    obtain ⟨v,hv,hψ⟩:=hgd j want g _ hg hj hl
    have hv':v = .bool b:=hψ
    subst hv'
    rw [if_neg (by simp [Region.wanted,hg,yielded_of hj hv,hbw])]
    exact hK _ H w (Ext.refl hs) (by subst h;exact rfl)
  | none j want g hg hj hl h =>
    obtain ⟨v,hv,hψ⟩:=hgd j want g _ hg hj hl
    have hv':v=undef:=hψ
    subst hv'
    rw [if_neg (by simp [Region.wanted,hg,yielded_of hj hv,undef])]
    exact hK _ H w (Ext.refl hs) (by subst h;exact rfl)

/-! ### Frames of rounds, too -/
def fen (ro:Option Nat):Fence:={ Fence.wide with round:=ro }
theorem callsIn_fen {ro:Option Nat} {n:Nat} {P:Program} {f:FuncId} {args:Array Value} {w:World} {R:Ending→World→Prop} (h:Calls P f args w R):CallsIn (fen ro) n P f args w R:=(callsIn_wide (n:=n)).2 h
theorem rowsIn_fen {ro:Option Nat} {n:Nat} {P:Program} {row:String} {args:Array Value} {w:World} {R:Value→World→Prop} (h:Rows P row args w R):RowsIn (fen ro) n P row args w R :=
  fun c cs _=>let ⟨v,w',r,s⟩:=h c cs;⟨v,w',r,stepsIn_wide.2 s⟩
theorem wpIn_fen {ro:Option Nat} {n:Nat} {P:Program} {o:Oper} {a:Act} {w:World} {K:Act→World→Prop} {Q:Exit→Act→World→Prop} (hd : ∀ c,o.op ≠ .defer c) (h:o.wp P a w K Q):o.wpIn (fen ro) n P a w K Q:=by
  unfold Oper.wpIn
  refine ⟨fun _ _=>trivial,?_⟩
  rw [Oper.semAt_eq _ _ _ hd]
  unfold Oper.wp at h
  generalize (execOp a.eval o).run P w=r at h ⊢
  cases r with
  | ok x w'=>cases x <;> first|exact h|exact h.elim|exact ⟨fun hh=>(by cases hh),callsIn_fen h⟩|exact ⟨fun hh=>(by cases hh),rowsIn_fen h⟩
  | halt x w'=>cases x <;> first|exact h|exact h.elim
theorem put_defers (a:Act) (d:Option Nat) (v:Value):(a.put d v).defers=a.defers:=by cases d <;> rfl
/-- What leaves the deferred calls as they are defers nothing. -/
theorem not_defer {P:Program} {o:Oper} {a:Act} {w:World} (h:o.wp P a w (fun a' _=>a'.defers=a.defers) (fun _ _ _=>False)) : ∀ c,o.op ≠ .defer c:=by
  intro c hc
  unfold Oper.wp at h
  have e:execOp a.eval o=(do pure (Next.defer (← resolve a.eval c o.type)):Sem Next):=by unfold execOp;rw [hc]
  rw [e,Sem.run_bind] at h
  cases hr:(resolve a.eval c o.type).run P w with
  | ok d w' =>
    rw [hr] at h
    have h:((({ a with defers:=d::a.defers }:Act).put o.dst undef).defers=a.defers):=h
    rw [put_defers] at h
    have:=congrArg List.length h
    simp at this
  | halt x w' =>
    rw [hr] at h
    cases x <;> exact h
theorem wpL_plain {ro:Option Nat} {P:Program} {ops:Array Oper} {rest:List Oper} {o:Oper} {a:Act} {w:World} {Q:Exit→Act→World→Prop} (hg:o.guard=none) (hd : ∀ c,o.op ≠ .defer c) (h : ∀ K:Act→World→Prop,(∀ a w,wpListIn (fen ro) 0 P ops Q rest a w→K a w)→o.wp P a w K Q):wpListIn (fen ro) 0 P ops Q (o::rest) a w :=
  wpListIn_plain hg fun K hK=>wpIn_fen hd (h K hK)
theorem wpAnyIn_of_seq {F:Fence} {P:Program} {md:Region.Mode} {ops:Array Oper} {Q:Exit→Act→World→Prop} : ∀ (l:List Oper) (k:Nat) (listed:Array Bool) (a:Act) (w:World),(∀ j,l[j]?=ops[k+j]?) →
    Region.seqB md ops l.length k listed=true→wpListIn F 0 P ops Q l a w→wpAnyIn F 0 P md ops Q l.length listed a w
  | [],_,_,_,_,_,hB,h=>⟨by simpa [Region.seqB] using hB,h⟩
  | o::l,k,listed,a,w,hl,hB,h=>by
    simp only [List.length_cons,Region.seqB,Bool.and_eq_true,decide_eq_true_eq] at hB
    obtain ⟨hr,hB⟩:=hB
    refine ⟨fun h1=>(by rw [hr] at h1;cases h1),fun i hi=>?_⟩
    rw [hr] at hi
    obtain rfl:i=k:=by simpa using hi
    have ho:ops[i]?=some o:=by simpa using (hl 0).symm
    have hw:wpOpIn F 0 P ops Q i (wpListIn F 0 P ops Q l) a w:=by unfold wpOpIn;rw [ho];exact h
    refine wpOpIn_mono (fun a' w' h'=>?_) hw
    exact wpAnyIn_of_seq l (i+1) _ a' w' (fun j=>by have:=hl (j+1);rw [Nat.add_assoc,Nat.add_comm 1 j];simpa using this) hB h'
/-- Operations, one behind the other. -/
def Lq (C:Cx) (Γ:Env) (Δ:List Res) (ops:Array Oper) (rest:List Oper) (Q:Exit→Act→World→Prop):Prop :=
  ∀ H a w,St C Γ Δ H a w→wpListIn (fen C.ro) 0 C.P ops Q rest a w
def J (C:Cx) (Γ:Env) (Δ:List Res) (c:Code) (Q:Exit→Act→World→Prop):Prop :=
  ∀ H a w,St C Γ Δ H a w→c.wpIn (fen C.ro) 0 C.P Q a w
def E (C:Cx) (e:Exit) (Γ:Env) (Δ:List Res) (Q:Exit→Act→World→Prop):Prop :=
  ∀ H a w,St C Γ Δ H a w→Q e a w

section
variable {C:Cx} {Γ:Env} {Δ:List Res} {ops:Array Oper} {rest:List Oper} {Q:Exit→Act→World→Prop} {o:Oper}
theorem Lq.nil (h:E C .normal Γ Δ Q):Lq C Γ Δ ops [] Q:=h
theorem Lq.one {φ:Pr} (hg:OpG C.P ops Γ Δ o φ) (hd : ∀ d,o.dst=some d→d < C.n) (h:Lq C (putΓ Γ o.dst φ) Δ ops rest Q):Lq C Γ Δ ops (o::rest) Q:=by
  intro H a w S
  refine wpListIn_step fun K hK=>?_
  have hn:=hg.step (H:=H) (Q:=fun _ _ _=>False) (K:=fun a' _=>a'.defers=a.defers) (fun x _ ψ hx=>S.opd hx) (fun j want g ψ _ _ hl=>S.env g ψ hl) S.sat S.res (fun b hb=>(S.own b hb).1) (fun v H' w' E hv=>put_defers _ _ _)
  have hs:=hg.step (H:=H) (Q:=Q) (K:=K) (fun x _ ψ hx=>S.opd hx) (fun j want g ψ _ _ hl=>S.env g ψ hl) S.sat S.res (fun b hb=>(S.own b hb).1) (by
    intro v H' w' E hv
    refine hK _ _ (h H' _ w' ?_)
    cases hdd:o.dst with
    | none=>exact S.putN E v
    | some d=>exact S.put E d (hd d hdd) v φ hv)
  split
  · rename_i hw
    rw [if_pos hw] at hn hs
    exact wpIn_fen (not_defer hn) hs
  · rename_i hw
    rw [if_neg hw] at hs
    exact ⟨fun _ _=>trivial,hs⟩
end

/-- A block that is owned whole: its cells. -/
def own (b:Nat) (e:TypeId) (φs:List Pr):Res where
  blk:=some b
  ok:=fun H w=>(∃ cs:List Value,w.heap[b]?=some (.cells cs.toArray e (0,0))∧All2 (fun φ c=>φ.c H c) φs cs) ∧ ∀ o,H b o=none
  st:=fun hle h ⟨⟨cs,hc,ha⟩,hn⟩=>by
    obtain ⟨h1,h2⟩:=h b rfl
    exact ⟨⟨cs,by rw [h1];exact hc,ha.imp fun _ _ k=>Pr.c_mono hle k⟩,fun o=>by rw [h2 o];exact hn o⟩

/-! ### Operations in any order -/
/-- A new variable, and what it holds at first. -/
structure Zero (P:Program) (t:TypeId) (zs:List Value):Prop where
  run : ∀ w a,(Instr.alloc t true a).run P w = .ok (.pointer (some ⟨w.heap.size,0,none⟩)) (w.alloc (.cells zs.toArray t))
  one : ∀ v ∈ zs,v.oneCell'=true
theorem heap_alloc_self (w:World) (o:Obj):(w.alloc o).heap[w.heap.size]?=some o:=by
  show (w.heap.push o)[w.heap.size]?=_
  simp
theorem ext_alloc {H:IH} {w:World} (hs:Sat H w) (o:Obj):Ext H w H (w.alloc o) :=
  ⟨IH.le_refl _,fun _ _ _=>rfl,⟨hs.gk,fun b o' v h=>(World.cell?_of_block (w:=w) (a:=⟨b,o',none⟩) (RowKit.Below.heap_alloc w _ b (hs.lt h))).trans (hs.cell b o' v h)⟩,⟨rfl,rfl,rfl,by simp,fun k hk _=>RowKit.Below.heap_alloc w _ k hk⟩⟩

/-- Memory that an operation makes, to be owned: by the value that it yields. -/
abbrev Item:=Value→Res
def bot:Res:=⟨none,fun _ _=>False,fun _ _ h=>h⟩
def ownAt (t:TypeId) (zs:List Value):Item
  | .pointer (some ⟨b,0,none⟩)=>own b t (zs.map is)
  | _=>bot
def OpR (P:Program) (Γ:Env) (Δ:List Res) (o:Oper) (R:Item):Prop :=
  ∀ (H:IH) (a:Act) (w:World) (Q:Exit→Act→World→Prop) (K:Act→World→Prop),
    (∀ x ∈ o.op.operands, ∀ ψ,opd Γ x=some ψ→ψ.h H (a.eval x))→Sat H w→(∀ r ∈ Δ,r.ok H w)→(∀ b ∈ Δ.filterMap Res.blk,b < w.heap.size) →
    (∀ v H' w',Ext H w H' w'→(R v).ok H' w'→(∀ b,(R v).blk=some b→w.heap.size≤b∧b < w'.heap.size)→K (a.put o.dst v) w')→o.wp P a w K Q
theorem opR_alloc {P:Program} {Γ:Env} {Δ:List Res} {o:Oper} {t:TypeId} {zs:List Value} (hop:o.op = .alloc t) (hz:Zero P t zs):OpR P Γ Δ o (ownAt t zs):=by
  intro H a w Q K hx hs hr hb hK
  have hrun:(execOp a.eval o).run P w = .ok (.value (.pointer (some ⟨w.heap.size,0,none⟩))) (w.alloc (.cells zs.toArray t)):=by
    unfold execOp
    simp only [hop]
    have:=Sem.run_bind' P (Instr.alloc t true (.tuple #[])) (fun v=>pure (Next.value v)) w
    rw [hz.run w (.tuple #[])] at this
    exact this
  unfold Oper.wp
  rw [hrun]
  refine hK _ H _ (ext_alloc hs _) ⟨⟨zs,heap_alloc_self w _,All2.of_get (by simp) fun i φ c hi hc=>?_⟩,fun o=>?_⟩ (fun b hb=>?_)
  · rw [List.getElem?_map,hc] at hi
    injection hi with hi;subst hi
    exact ⟨rfl,hz.one c (List.mem_of_getElem? hc)⟩
  · cases hH:H w.heap.size o with
    | none=>rfl
    | some u=>exact absurd (hs.lt hH) (Nat.lt_irrefl _)
  · have hb:some w.heap.size=some b:=hb
    injection hb with hb;subst hb
    exact ⟨Nat.le_refl _,by simp⟩
abbrev Made:=Option Item
/-- An operation that builds a value out of its operands: a function of these. -/
structure OpF (P:Program) (o:Oper):Prop where
  plain:o.guard=none
  bld : ∃ t ps,o.op = .build t ps
  dst : ∃ d,o.dst=some d
  fn : ∀ (ρ:Operand→Value) (w:World),(∃ v, ∀ w2,(execOp ρ o).run P w2 = .ok (.value v) w2) ∨ (∃ h,(execOp ρ o).run P w = .halt h w)
theorem OpF.congr {P:Program} {o:Oper} (h:OpF P o) {ρ ρ':Operand→Value} (hρ : ∀ x ∈ o.op.operands,ρ x=ρ' x):execOp ρ o=execOp ρ' o:=by
  obtain ⟨t,ps,hb⟩:=h.bld
  unfold execOp
  rw [hb] at hρ ⊢
  have:(ps.map fun (i,x)=>(i,ρ x))=(ps.map fun (i,x)=>(i,ρ' x)):=by
    apply Array.map_congr_left
    rintro ⟨i,x⟩ hx
    have hx':=hρ x (by simp [Op.operands];exact ⟨i,hx⟩)
    show (i,ρ x)=(i,ρ' x)
    rw [hx']
  simp only [this]
def ReAll (P:Program) (ops:Array Oper) (n:Nat) (ok:Nat→Prop) (a:Act):Prop := ∀ j t o,j < n→ok j→ops[j]?=some o→o.dst=some t→OpF P o → ∃ v,a.tmps[t]?=some v ∧ ∀ w2,(execOp a.eval o).run P w2 = .ok (.value v) w2
inductive Stp (P:Program) (ops:Array Oper) (Γ:Env) (Δ:List Res) (o:Oper):Pr→Made→Prop
  | g (φ:Pr) (h:OpG P ops Γ Δ o φ):Stp P ops Γ Δ o φ none
  | mk (R:Item) (φ:Pr) (d:Nat) (hg:o.guard=none) (hd:o.dst=some d) (hb : ∀ t ps,o.op ≠ .build t ps) (hφ : ∀ v H w,(R v).ok H w→φ.h H v) (h:OpR P Γ Δ o R):Stp P ops Γ Δ o φ (some R)
abbrev Fresh:=List (Nat × Item)
def putF (F:Fresh) (d:Option Nat) (m:Made):Fresh:=match d,m with|some d,some R=>(d,R)::F|_,_=>F
def PRun (P:Program) (ops:Array Oper) (Δ:List Res):List Oper→Env→Fresh→(Env→Fresh→Prop)→Prop
  | [],Γ,F,K=>K Γ F
  | o::os,Γ,F,K => ∃ φ m,Stp P ops Γ Δ o φ m∧PRun P ops Δ os (putΓ Γ o.dst φ) (putF F o.dst m) K
/-- The new variables get names. -/
def Open:Fresh→Env→List Res→(Env→List Res→Prop)→Prop
  | [],Γ,Δ,K=>K Γ Δ
  | (d,R)::F,Γ,Δ,K => ∀ v,(∃ H w,(R v).ok H w)→Open F ((d,is v)::Γ) (R v::Δ) K

def dstOf (ops:Array Oper) (i:Nat):Option Nat:=(ops[i]?).bind (·.dst)
/-- Head operations: what they look at was written before the region, or by one on which they wait; each writes a slot of its own. -/
def headOK (md:Region.Mode) (ops:Array Oper) (n:Nat):Bool :=
  (List.range n).all fun i=>match ops[i]? with
    | none=>false
    | some o =>
      (o.looksAt ops).all (fun t=>(List.range n).all fun j=>(dstOf ops j != some t) || (decide (j < i) && Region.waitsFor md ops i j)) &&
      (List.range i).all (fun j=>(dstOf ops j == none) || (dstOf ops j != dstOf ops i)) &&
      o.after.all (fun e => !Region.binds md e || decide (e.on < i))
def headList (n g:Nat):Array Bool:=Array.replicate n true++Array.replicate g false
/-- The first n in any order, the others behind them in the text's. -/
def drawOK (md:Region.Mode) (ops:Array Oper) (n:Nat):Bool :=
  decide (n≤ops.size) && headOK md ops n && (decide (n=ops.size) || (Region.sinkB md ops n && Region.chainB md ops n)) &&
  Region.seqB md ops (ops.size - n) n (headList n (ops.size - n))

/-- The text's own states along a head. -/
inductive Along (P:Program) (ops:Array Oper) (Δ:List Res):Env→Fresh→List Oper→List (Env × Pr × Made)→Env→Fresh→Prop
  | nil (Γ:Env) (F:Fresh):Along P ops Δ Γ F [] [] Γ F
  | cons (Γ:Env) (F:Fresh) (o:Oper) (os:List Oper) (φ:Pr) (m:Made) (l:List (Env × Pr × Made)) (Γ':Env) (F':Fresh) (h:Stp P ops Γ Δ o φ m) (t:Along P ops Δ (putΓ Γ o.dst φ) (putF F o.dst m) os l Γ' F'):Along P ops Δ Γ F (o::os) ((Γ,φ,m)::l) Γ' F'
theorem PRun.along {P:Program} {ops:Array Oper} {Δ:List Res} : ∀ {os:List Oper} {Γ:Env} {F:Fresh} {K:Env→Fresh→Prop},PRun P ops Δ os Γ F K → ∃ l Γ' F',Along P ops Δ Γ F os l Γ' F'∧K Γ' F'
  | [],Γ,F,K,h=>⟨[],Γ,F, .nil Γ F,h⟩
  | o::os,Γ,F,K,⟨φ,m,hg,h⟩ =>
    let ⟨l,Γ',F',ha,hK⟩:=PRun.along h
    ⟨(Γ,φ,m)::l,Γ',F', .cons Γ F o os φ m l Γ' F' hg ha,hK⟩
theorem Along.length {P:Program} {ops:Array Oper} {Δ:List Res} {Γ Γ':Env} {F F':Fresh} {os:List Oper} {l:List (Env × Pr × Made)} (h:Along P ops Δ Γ F os l Γ' F'):l.length=os.length:=by
  induction h with
  | nil=>rfl
  | cons _ _ _ _ _ _ _ _ _ _ _ ih=>simp [ih]
theorem Along.get {P:Program} {ops:Array Oper} {Δ:List Res} {Γ Γ':Env} {F F':Fresh} {os:List Oper} {l:List (Env × Pr × Made)} (h:Along P ops Δ Γ F os l Γ' F') :
    ∀ (i:Nat) (o:Oper),os[i]?=some o → ∃ p,l[i]?=some p∧Stp P ops p.1 Δ o p.2.1 p.2.2:=by
  induction h with
  | nil=>intro i o hi;simp at hi
  | cons Γ F o os φ m l Γ' F' hg _ ih =>
    intro i x hi
    cases i with
    | zero=>simp at hi;subst hi;exact ⟨(Γ,φ,m),rfl,hg⟩
    | succ i =>
      obtain ⟨p,hp,hx⟩:=ih i x (by simpa using hi)
      exact ⟨p,by simpa using hp,hx⟩
/-- The new variables at the end are those that there were, and those that were made. -/
theorem Along.made {P:Program} {ops:Array Oper} {Δ:List Res} {Γ Γ':Env} {F F':Fresh} {os:List Oper} {l:List (Env × Pr × Made)} (h:Along P ops Δ Γ F os l Γ' F') :
    ∃ G:List (Nat × Nat × Item),F'=(G.map (·.2)).reverse++F∧(G.map (·.1)).Pairwise (· < ·) ∧ ∀ x ∈ G, ∃ o p,os[x.1]?=some o∧l[x.1]?=some p∧o.dst=some x.2.1∧p.2.2=some x.2.2:=by
  induction h with
  | nil=>exact ⟨[],rfl,List.Pairwise.nil,fun x hx=>by cases hx⟩
  | cons Γ F o os φ m l Γ' F' hg _ ih =>
    obtain ⟨G,hF,hp,hG⟩:=ih
    have hG' : ∀ x ∈ G.map (fun x=>(x.1+1,x.2)), ∃ o' p,(o::os)[x.1]?=some o'∧((Γ,φ,m)::l)[x.1]?=some p∧o'.dst=some x.2.1∧p.2.2=some x.2.2:=by
      intro x hx
      obtain ⟨y,hy,rfl⟩:=List.mem_map.1 hx
      obtain ⟨o',p,h1,h2,h3,h4⟩:=hG y hy
      exact ⟨o',p,by simpa using h1,by simpa using h2,h3,h4⟩
    have hp':((G.map (fun x=>(x.1+1,x.2))).map (·.1)).Pairwise (· < ·):=by
      rw [List.map_map]
      have:((fun x:Nat × Nat × Item=>x.1) ∘ fun x:Nat × Nat × Item=>(x.1+1,x.2))=(fun n:Nat=>n+1) ∘ (fun x:Nat × Nat × Item=>x.1):=rfl
      rw [this, ← List.map_map]
      rw [List.pairwise_map]
      exact hp.imp (fun h=>by omega)
    have h2:(G.map (fun x=>(x.1+1,x.2))).map (·.2)=G.map (·.2):=by rw [List.map_map];rfl
    by_cases hm : ∃ d t,o.dst=some d∧m=some t
    · obtain ⟨d,t,hd,rfl⟩:=hm
      refine ⟨(0,d,t)::G.map (fun x=>(x.1+1,x.2)),?_,?_,?_⟩
      · rw [hF,hd,List.map_cons,h2]
        simp [putF]
      · rw [List.map_cons]
        refine List.Pairwise.cons (fun y hy=>?_) hp'
        obtain ⟨z,hz,rfl⟩:=List.mem_map.1 hy
        obtain ⟨u,hu,rfl⟩:=List.mem_map.1 hz
        simp
      · intro x hx
        rcases List.mem_cons.1 hx with rfl|hx
        · exact ⟨o,(Γ,φ,some t),rfl,rfl,hd,rfl⟩
        · exact hG' x hx
    · refine ⟨G.map (fun x=>(x.1+1,x.2)),?_,hp',hG'⟩
      rw [hF,h2]
      have:putF F o.dst m=F:=by
        cases hd:o.dst with
        | none=>rfl
        | some d=>cases hmm:m with
          | none=>rfl
          | some t=>exact absurd ⟨d,t,hd,hmm⟩ hm
      rw [this]
theorem look_put {Γ:Env} {d:Option Nat} {φ:Pr} {t:Nat} (h:d ≠ some t):look (putΓ Γ d φ) t=look Γ t:=by
  cases d with
  | none=>rfl
  | some d =>
    simp only [putΓ,look]
    have:d ≠ t:=fun e=>h (by rw [e])
    have hb:Nat.beq d t=false:=by
      cases h':Nat.beq d t with
      | false=>rfl
      | true=>exact absurd (Nat.eq_of_beq_eq_true h') this
    rw [hb]
/-- What the text's state at place i (or at the end) says of a slot. -/
theorem Along.look {P:Program} {ops:Array Oper} {Δ:List Res} {Γ Γ':Env} {F F':Fresh} {os:List Oper} {l:List (Env × Pr × Made)} (h:Along P ops Δ Γ F os l Γ' F') :
    ∀ (i:Nat) (Γi:Env),((∃ φ,l[i]?=some (Γi,φ)) ∨ (i=os.length∧Γi=Γ')) → ∀ t,
      ((∀ j o,j < i→os[j]?=some o→o.dst ≠ some t)→L.look Γi t=L.look Γ t) ∧
      (∀ j o p,j < i→os[j]?=some o→l[j]?=some p→o.dst=some t→(∀ j' o',j < j'→j' < i→os[j']?=some o'→o'.dst ≠ some t)→L.look Γi t=some p.2.1):=by
  induction h with
  | nil Γ =>
    intro i Γi hi t
    have:Γi=Γ:=by
      rcases hi with ⟨φ,hi⟩|⟨_,h⟩
      · simp at hi
      · exact h
    subst this
    exact ⟨fun _=>rfl,fun j o p _ hj=>by simp at hj⟩
  | cons Γ F o os φ m l Γ' F' hg _ ih =>
    intro i Γi hi t
    cases i with
    | zero =>
      have:Γi=Γ:=by
        rcases hi with ⟨φ',hi⟩|⟨h,_⟩
        · simp at hi;exact hi.1.symm
        · simp at h
      subst this
      exact ⟨fun _=>rfl,fun j o p hj=>by omega⟩
    | succ i =>
      have hi':(∃ φ,l[i]?=some (Γi,φ)) ∨ (i=os.length∧Γi=Γ'):=by
        rcases hi with ⟨φ',hi⟩|⟨h,h2⟩
        · exact .inl ⟨φ',by simpa using hi⟩
        · exact .inr ⟨by simpa using h,h2⟩
      obtain ⟨h1,h2⟩:=ih i Γi hi' t
      constructor
      · intro hn
        rw [h1 (fun j x hj hx=>hn (j+1) x (by omega) (by simpa using hx))]
        exact look_put (hn 0 o (by omega) rfl)
      · intro j x p hj hx hp hd hlast
        cases j with
        | zero =>
          simp at hx hp
          subst hx;subst hp
          rw [h1 (fun j' x' hj' hx'=>hlast (j'+1) x' (by omega) (by omega) (by simpa using hx'))]
          rw [hd]
          simp only [putΓ,L.look,Nat.beq_refl]
        | succ j =>
          exact h2 j x p (by omega) (by simpa using hx) (by simpa using hp) hd (fun j' x' hj' hj2 hx'=>hlast (j'+1) x' (by omega) (by omega) (by simpa using hx'))

theorem St.weak {C:Cx} {Γ Γ':Env} {Δ:List Res} {H:IH} {a:Act} {w:World} (S:St C Γ Δ H a w) (h : ∀ t φ,look Γ' t=some φ → ∃ v,a.tmps[t]?=some v∧φ.h H v):St C Γ' Δ H a w :=
  ⟨S.dfr,S.siz,h,S.sat,S.res,S.dis,S.own,S.le,S.fr,S.hk⟩
theorem St.drew {C:Cx} {Γ:Env} {Δ:List Res} {H:IH} {a:Act} {w:World} (S:St C Γ Δ H a w):St C Γ Δ H a { w with drawn:=w.drawn+1 }:=by
  have E:Ext H w H { w with drawn:=w.drawn+1 }:=⟨IH.le_refl _,fun _ _ _=>rfl,⟨S.sat.gk,S.sat.cell⟩,⟨rfl,rfl,rfl,Nat.le_refl _,fun _ _ _=>rfl⟩⟩
  exact S.putN (a:=a) E undef

section
variable {C:Cx} {Γ:Env} {Δ:List Res} {Q:Exit→Act→World→Prop}

/-- Behind the head. -/
def LqR (C:Cx) (Γ:Env) (Δ:List Res) (ops:Array Oper) (n:Nat) (rest:List Oper) (Q:Exit→Act→World→Prop):Prop :=
  ∀ H a w,St C Γ Δ H a w→ReAll C.P ops n (fun _=>True) a→wpListIn (fen C.ro) 0 C.P ops Q rest a w
/-- A state of the head: some of it done. -/
structure HSt (C:Cx) (Γ:Env) (Δ:List Res) (ops:Array Oper) (n:Nat) (l:List (Env × Pr × Made)) (listed:Array Bool) (H:IH) (a:Act) (w:World):Prop where
  st:St C [] Δ H a w
  base : ∀ t φ,look Γ t=some φ→(∀ j,j < n→dstOf ops j ≠ some t) → ∃ v,a.tmps[t]?=some v∧φ.h H v
  done : ∀ j t p,j < n→listed.getD j false=true→dstOf ops j=some t→l[j]?=some p → ∃ v,a.tmps[t]?=some v∧p.2.1.h H v
  re:ReAll C.P ops n (fun j=>listed.getD j false=true) a
  fresh:(∀ j t p R,j < n→listed.getD j false=true→dstOf ops j=some t→l[j]?=some p→p.2.2=some R →
      ∃ v,a.tmps[t]?=some v∧(R v).ok H w ∧ ∀ b,(R v).blk=some b→b < w.heap.size∧C.w0.heap.size≤b∧b ∉ Δ.filterMap Res.blk) ∧
    (∀ i j s t p q R S u v b,i < n→j < n→listed.getD i false=true→listed.getD j false=true→dstOf ops i=some s→dstOf ops j=some t→l[i]?=some p→l[j]?=some q→p.2.2=some R→q.2.2=some S →
      a.tmps[s]?=some u→a.tmps[t]?=some v→(R u).blk=some b→(S v).blk=some b→i=j)

def left (n:Nat) (listed:Array Bool):Nat:=((List.range n).filter fun i => !listed.getD i false).length

theorem getD_flip {listed:Array Bool} {i:Nat} (hi:i < listed.size):listed.getD i true=listed.getD i false:=by simp [hi]

theorem left_set {n i:Nat} {listed:Array Bool} (hi:i < n) (hs:i < listed.size) (hf:listed.getD i false=false):left n listed=left n (listed.setIfInBounds i true)+1:=by
  unfold left
  induction n with
  | zero=>omega
  | succ n ih =>
    rw [List.range_succ,List.filter_append,List.filter_append,List.length_append,List.length_append]
    by_cases hin:i=n
    · subst hin
      have h1:(List.range i).filter (fun k => !listed.getD k false)=(List.range i).filter (fun k => !(listed.setIfInBounds i true).getD k false):=by
        apply List.filter_congr
        intro k hk
        have:=List.mem_range.1 hk
        rw [getD_set_ne false (by omega)]
      rw [h1]
      have h2:(listed.setIfInBounds i true).getD i false=true:=by simp [hs]
      have e1:[i].filter (fun k => !listed.getD k false)=[i]:=by rw [List.filter_cons,hf];rfl
      have e2:[i].filter (fun k => !(listed.setIfInBounds i true).getD k false)=[]:=by rw [List.filter_cons,h2];rfl
      rw [e1,e2]
      rfl
    · have:=ih (by omega)
      rw [this]
      have h2:(listed.setIfInBounds i true).getD n false=listed.getD n false:=getD_set_ne false (by omega)
      have e1:[n].filter (fun k => !(listed.setIfInBounds i true).getD k false)=[n].filter (fun k => !listed.getD k false):=by rw [List.filter_cons,List.filter_cons,h2];rfl
      rw [e1]
      omega

theorem left_zero {n:Nat} {listed:Array Bool} (h:left n listed=0) : ∀ i,i < n→listed.getD i false=true:=by
  intro i hi
  have h':=List.eq_nil_of_length_eq_zero h
  rw [List.filter_eq_nil_iff] at h'
  have:=h' i (List.mem_range.2 hi)
  simpa using this
theorem left_pos {n:Nat} {listed:Array Bool} (h:left n listed ≠ 0) : ∃ i,i < n∧listed.getD i false=false ∧ ∀ j,j < i→listed.getD j false=true:=by
  have : ∃ i,i < n∧listed.getD i false=false:=by
    have hne:(List.range n).filter (fun i => !listed.getD i false) ≠ []:=fun e=>h (by unfold left;rw [e];rfl)
    obtain ⟨x,hx⟩:=List.exists_mem_of_ne_nil _ hne
    rw [List.mem_filter,List.mem_range] at hx
    exact ⟨x,hx.1,by simpa using hx.2⟩
  obtain ⟨i,hi,hf⟩:=this
  induction i using Nat.strongRecOn with
  | _ i ih =>
    by_cases hc : ∃ j,j < i∧listed.getD j false=false
    · obtain ⟨j,hj,hjf⟩:=hc
      exact ih j hj (by omega) hjf
    · exact ⟨i,hi,hf,fun j hj=>by
        cases h:listed.getD j false with
        | true=>rfl
        | false=>exact absurd ⟨j,hj,h⟩ hc⟩

theorem St.weakPut {a:Act} {H:IH} {w:World} {u:Value} (S:St C [] Δ H (a.put none u) w) (d:Nat) (v:Value):St C [] Δ H (a.put (some d) v) w :=
  ⟨S.dfr,by have:=S.siz;simpa [Act.put] using this,fun t φ ht=>(by cases ht),S.sat,S.res,S.dis,S.own,S.le,S.fr,S.hk⟩

theorem Open.st {H:IH} {a:Act} {w:World} {K:Env→List Res→Prop} : ∀ (M:List ((Nat × Item) × Value)) (Γ:Env) (Δ:List Res),Open (M.map (·.1)) Γ Δ K→St C Γ Δ H a w →
    (∀ x ∈ M,a.tmps[x.1.1]?=some x.2∧(x.1.2 x.2).ok H w ∧ ∀ b,(x.1.2 x.2).blk=some b→b < w.heap.size∧C.w0.heap.size≤b∧b ∉ Δ.filterMap Res.blk) →
    (M.filterMap fun x=>(x.1.2 x.2).blk).Nodup → ∃ Γ' Δ',K Γ' Δ'∧St C Γ' Δ' H a w
  | [],Γ,Δ,h,S,_,_=>⟨Γ,Δ,h,S⟩
  | ((d,R),v)::M,Γ,Δ,h,S,hM,hn=>by
    obtain ⟨h1,h2,h3⟩:=hM ((d,R),v) (by simp)
    have hl:(R v::Δ).filterMap Res.blk=(match (R v).blk with|some b=>b::Δ.filterMap Res.blk|none=>Δ.filterMap Res.blk):=by
      rw [List.filterMap_cons];cases (R v).blk <;> rfl
    have hn2:(M.filterMap fun x=>(x.1.2 x.2).blk).Nodup:=by
      rw [List.filterMap_cons] at hn
      cases hb:(R v).blk with
      | none=>simp only [hb] at hn;exact hn
      | some b=>simp only [hb] at hn;exact (List.nodup_cons.1 hn).2
    refine Open.st M _ _ (h v ⟨H,w,h2⟩) ⟨S.dfr,S.siz,fun t φ ht=>?_,S.sat,fun r hr=>?_,?_,fun x hx=>?_,S.le,S.fr,S.hk⟩ (fun x hx=>?_) hn2
    · unfold L.look at ht
      split at ht
      · rename_i hk
        have hk:=Nat.eq_of_beq_eq_true hk
        subst hk
        injection ht with ht;subst ht
        exact ⟨_,h1,rfl⟩
      · exact S.env t φ ht
    · rcases List.mem_cons.1 hr with rfl|hr
      · exact h2
      · exact S.res r hr
    · rw [hl]
      cases hb:(R v).blk with
      | none=>exact S.dis
      | some b=>exact List.nodup_cons.2 ⟨(h3 b hb).2.2,S.dis⟩
    · rw [hl] at hx
      cases hb:(R v).blk with
      | none=>rw [hb] at hx;exact S.own x hx
      | some b =>
        rw [hb] at hx
        rcases List.mem_cons.1 hx with rfl|hx
        · exact ⟨(h3 _ hb).1, .inr (h3 _ hb).2.1⟩
        · exact S.own x hx
    · obtain ⟨k1,k2,k3⟩:=hM x (by simp [hx])
      refine ⟨k1,k2,fun b hb=>⟨(k3 b hb).1,(k3 b hb).2.1,?_⟩⟩
      rw [hl]
      cases hbb:(R v).blk with
      | none=>exact (k3 b hb).2.2
      | some b' =>
        intro hm
        rcases List.mem_cons.1 hm with rfl|hm
        · rw [List.filterMap_cons] at hn
          simp only [hbb] at hn
          exact (List.nodup_cons.1 hn).1 (List.mem_filterMap.2 ⟨x,hx,hb⟩)
        · exact (k3 b hb).2.2 hm

theorem seq_any {ops:Array Oper} {md:Region.Mode} (n:Nat) (hsl : ∀ d,(∃ j,j < n∧dstOf ops j=some d)→d < C.n) (hn:n≤ops.size) (hh:headOK md ops n=true) (hsk:n=ops.size ∨ (Region.sinkB md ops n=true∧Region.chainB md ops n=true))
    (hseq:Region.seqB md ops (ops.size - n) n (headList n (ops.size - n))=true) {l:List (Env × Pr × Made)} {Γ':Env} {F':Fresh} (hA:Along C.P ops Δ Γ [] (ops.toList.take n) l Γ' F')
    (hT:Open F' Γ' Δ fun Γ'' Δ''=>LqR C Γ'' Δ'' ops n (ops.toList.drop n) Q) :
    ∀ (m:Nat) (listed:Array Bool) (H:IH) (a:Act) (w:World),HeadInv md ops n listed→left n listed=m→HSt C Γ Δ ops n l listed H a w →
      wpAnyIn (fen C.ro) 0 C.P md ops Q (m+(ops.size - n)) listed a w:=by
  have hlen:(ops.toList.take n).length=n:=by simp;omega
  have hget : ∀ i,i < n→(ops.toList.take n)[i]?=ops[i]?:=fun i hi=>by rw [List.getElem?_take,if_pos hi];simp
  have hchk : ∀ i,i < n → ∃ o,ops[i]?=some o∧(∀ t ∈ o.looksAt ops, ∀ j,j < n→dstOf ops j=some t→j < i∧Region.waitsFor md ops i j=true)∧(∀ j,j < i→dstOf ops j ≠ none→dstOf ops j ≠ dstOf ops i)∧(∀ e ∈ o.after,Region.binds md e=true→e.on < i):=by
    intro i hi
    have h1:=List.all_eq_true.1 hh i (List.mem_range.2 hi)
    cases ho:ops[i]? with
    | none=>rw [ho] at h1;cases h1
    | some o =>
      rw [ho] at h1
      simp only [Bool.and_eq_true,List.all_eq_true,Bool.or_eq_true,bne_iff_ne,decide_eq_true_eq,beq_iff_eq,List.mem_range,Array.all_eq_true_iff_forall_mem] at h1
      obtain ⟨⟨h1,h2⟩,h3⟩:=h1
      refine ⟨o,rfl,fun t ht j hj hd=>?_,fun j hj hne he=>?_,fun e he hb=>?_⟩
      · rcases h1 t ht j hj with h|h
        · exact absurd hd h
        · exact h
      · rcases h2 j hj with h|h
        · exact hne h
        · exact h he
      · rcases h3 e he with h|h
        · rw [hb] at h;cases h
        · exact h
  have hdist : ∀ i j t,i < n→j < n→dstOf ops i=some t→dstOf ops j=some t→i=j:=by
    intro i j t hi hj h1 h2
    rcases Nat.lt_trichotomy i j with h|h|h
    · obtain ⟨o,_,_,hd,_⟩:=hchk j hj
      exact absurd (h1.trans h2.symm) (hd i h (by rw [h1];simp))
    · exact h
    · obtain ⟨o,_,_,hd,_⟩:=hchk i hi
      exact absurd (h2.trans h1.symm) (hd j h (by rw [h2];simp))
  -- what the text's state at place i says, met in a state of the head
  have hmeet : ∀ (i:Nat) (Γi:Env),i≤n→((∃ φ,l[i]?=some (Γi,φ)) ∨ (i=n∧Γi=Γ')) → ∀ (listed:Array Bool) H a w,HSt C Γ Δ ops n l listed H a w → ∀ t ψ,look Γi t=some ψ →
      (∀ j,j < n→dstOf ops j=some t→j < i∧listed.getD j false=true) → ∃ v,a.tmps[t]?=some v∧ψ.h H v:=by
    intro i Γi hin hΓ listed H a w S t ψ hψ hj
    obtain ⟨h1,h2⟩:=hA.look i Γi (by rw [hlen];exact hΓ) t
    by_cases hex : ∃ j,j < n∧dstOf ops j=some t
    · obtain ⟨j,hjn,hd⟩:=hex
      obtain ⟨hji,hl⟩:=hj j hjn hd
      obtain ⟨o,ho,_⟩:=hchk j hjn
      have hod:o.dst=some t:=by unfold dstOf at hd;rw [ho] at hd;exact hd
      obtain ⟨p,hp,_⟩:=hA.get j o (by rw [hget j hjn];exact ho)
      have:=h2 j o p hji (by rw [hget j hjn];exact ho) hp hod (fun j' o' hj' hj2 ho' he=>by
        have hj'n:j' < n:=by omega
        rw [hget j' hj'n] at ho'
        have:=hdist j j' t hjn hj'n hd (by unfold dstOf;rw [ho'];exact he)
        omega)
      rw [this] at hψ
      injection hψ with hψ
      subst hψ
      exact S.done j t p hjn hl hd hp
    · have hno : ∀ j,j < n→dstOf ops j ≠ some t:=fun j hjn hd=>hex ⟨j,hjn,hd⟩
      rw [h1 (fun j o hji ho he=>by
        have hjn:j < n:=by omega
        rw [hget j hjn] at ho
        exact hno j hjn (by unfold dstOf;rw [ho];exact he))] at hψ
      exact S.base t ψ hψ hno
  intro m
  induction m with
  | zero =>
    intro listed H a w inv hm S
    have hall:=left_zero hm
    have hl:listed=headList n (ops.size - n):=by
      apply Array.ext
      · rw [inv.size];simp [headList];omega
      · intro i h1 h2
        by_cases hin:i < n
        · have:=hall i hin
          simp [h1] at this
          rw [this]
          simp [headList,Array.getElem_append,hin]
        · have:=inv.tail i (by omega) (by rw [← inv.size];exact h1)
          simp [h1] at this
          rw [this]
          simp [headList,Array.getElem_append,hin]
    rw [Nat.zero_add]
    have hdl:(ops.toList.drop n).length=ops.size - n:=by simp
    have S1:St C Γ' Δ H a w:=S.st.weak fun t φ ht=>hmeet n Γ' (Nat.le_refl _) (.inr ⟨rfl,rfl⟩) _ H a w S t φ ht (fun j hj _=>⟨hj,hall j hj⟩)
    obtain ⟨G,hF,hGp,hG⟩:=hA.made
    obtain ⟨hβ,hinj⟩:=S.fresh
    have hGn : ∀ x ∈ G,x.1 < n∧dstOf ops x.1=some x.2.1 ∧ ∃ p,l[x.1]?=some p∧p.2.2=some x.2.2:=by
      intro x hx
      obtain ⟨o,p,ho,hp,hd,hm⟩:=hG x hx
      have hxn:x.1 < n:=by rw [← hlen];exact (List.getElem?_eq_some_iff.1 ho).1
      rw [hget _ hxn] at ho
      exact ⟨hxn,by unfold dstOf;rw [ho];exact hd,p,hp,hm⟩
    have hval : ∀ x ∈ G, ∃ v,a.tmps[x.2.1]?=some v∧(a.tmps[x.2.1]?).getD undef=v∧(x.2.2 v).ok H w ∧ ∀ b,(x.2.2 v).blk=some b→b < w.heap.size∧C.w0.heap.size≤b∧b ∉ Δ.filterMap Res.blk:=by
      intro x hx
      obtain ⟨h1,h2,p,h3,h4⟩:=hGn x hx
      obtain ⟨v,e1,e2,e3⟩:=hβ _ _ p _ h1 (hall _ h1) h2 h3 h4
      exact ⟨v,e1,by rw [e1];rfl,e2,e3⟩
    rw [List.append_nil] at hF
    rw [hF] at hT
    have hmap:((G.map fun x=>(x.2,(a.tmps[x.2.1]?).getD undef)).reverse).map (·.1)=(G.map (·.2)).reverse:=by
      rw [List.map_reverse,List.map_map];rfl
    rw [← hmap] at hT
    obtain ⟨Γ2,Δ2,hT2,S2⟩:=Open.st (C:=C) (H:=H) (a:=a) (w:=w) (G.map fun x=>(x.2,(a.tmps[x.2.1]?).getD undef)).reverse Γ' Δ hT S1 (by
      intro y hy
      rw [List.mem_reverse] at hy
      obtain ⟨x,hx,rfl⟩:=List.mem_map.1 hy
      obtain ⟨v,e1,e2,e3,e4⟩:=hval x hx
      simp only [e2]
      exact ⟨e1,e3,e4⟩) (by
      rw [List.Nodup,List.pairwise_filterMap,List.pairwise_reverse,List.pairwise_map]
      rw [List.pairwise_map] at hGp
      refine List.Pairwise.imp_of_mem ?_ hGp
      intro x y hx hy hlt b hb b' hb' he
      subst he
      obtain ⟨h1,h2,p,h3,h4⟩:=hGn x hx
      obtain ⟨k1,k2,q,k3,k4⟩:=hGn y hy
      obtain ⟨v,e1,e2,_⟩:=hval x hx
      obtain ⟨u,f1,f2,_⟩:=hval y hy
      simp only [e2] at hb'
      simp only [f2] at hb
      have:=hinj x.1 y.1 _ _ p q _ _ _ _ _ h1 k1 (hall _ h1) (hall _ k1) h2 k2 h3 k3 h4 k4 e1 f1 hb' hb
      omega)
    subst hl
    rw [← hdl]
    exact wpAnyIn_of_seq (ops.toList.drop n) n _ a w (fun j=>by simp [List.getElem?_drop]) (by rw [hdl];exact hseq) (hT2 H a w S2 fun j t o hj _ ho hd hF=>S.re j t o hj (hall j hj) ho hd hF)
  | succ m ih =>
    intro listed H a w inv hm S
    obtain ⟨i0,hi0,hf0,hmin⟩:=left_pos (n:=n) (listed:=listed) (by omega)
    have hsz : ∀ i,i < n→i < listed.size:=fun i hi=>by rw [inv.size];omega
    have hr0:i0 ∈ Region.ready md ops listed:=by
      obtain ⟨o,ho,_,_,hback⟩:=hchk i0 hi0
      exact mem_ready.2 ⟨by rw [getD_flip (hsz i0 hi0)];exact hf0,o,ho,fun e he hb=>hmin e.on (hback e he hb)⟩
    rw [show m+1+(ops.size - n)=(m+(ops.size - n))+1 by omega]
    refine ⟨fun h=>(by rw [h] at hr0;cases hr0),fun i hi=>?_⟩
    have hin:i < n:=by
      rcases hsk with h|⟨hs,hc⟩
      · obtain ⟨_,o,ho,_⟩:=mem_ready.1 hi
        have:=(Array.getElem?_eq_some_iff.1 ho).1
        omega
      · rcases Nat.lt_or_ge i n with h|h
        · exact h
        · have hns:n < ops.size:=by
            obtain ⟨_,o,ho,_⟩:=mem_ready.1 hi
            have:=(Array.getElem?_eq_some_iff.1 ho).1
            omega
          exact absurd hi (tail_waits hs hc hns inv _ i0 rfl hi0 (by rw [getD_flip (hsz i0 hi0)];exact hf0) i h)
    obtain ⟨hun,o,ho,hedges⟩:=mem_ready.1 hi
    obtain ⟨o',ho',hlk,_,_⟩:=hchk i hin
    have:o'=o:=Option.some.inj (ho'.symm.trans ho)
    subst this
    obtain ⟨⟨Γi,φ,mm⟩,hp,hg⟩:=hA.get i o' (by rw [hget i hin];exact ho)
    have hlisted : ∀ t ∈ o'.looksAt ops, ∀ j,j < n→dstOf ops j=some t→j < i∧listed.getD j false=true:=by
      intro t ht j hj hd
      obtain ⟨h1,h2⟩:=hlk t ht j hj hd
      obtain ⟨oj,hoj,e,he,hb,hon⟩:=Region.waitsFor_spec h2
      have:oj=o':=Option.some.inj (hoj.symm.trans ho)
      subst this
      have:=hedges e he hb
      rw [hon] at this
      exact ⟨h1,this⟩
    -- the state behind one more operation
    have hnext : ∀ (v:Value) (H':IH) (w':World),Ext H w H' w'→φ.h H' v→(∀ R,mm=some R→(R v).ok H' w' ∧ ∀ b,(R v).blk=some b→w.heap.size≤b∧b < w'.heap.size)→(OpF C.P o' → ∀ w2,(execOp a.eval o').run C.P w2 = .ok (.value v) w2) →
        wpAnyIn (fen C.ro) 0 C.P md ops Q (m+(ops.size - n)) (listed.setIfInBounds i true) (a.put o'.dst v) w':=by
      intro v H' w' E hv hmade hre
      refine ih (listed.setIfInBounds i true) H' _ w' (inv.set hi hin) ?_ ?_
      · have:=left_set hin (hsz i hin) (by rw [← getD_flip (hsz i hin)];exact hun)
        omega
      · have hold : ∀ j,j ≠ i→(listed.setIfInBounds i true).getD j false=true→listed.getD j false=true:=fun j hji hl=>by rwa [getD_set_ne false (Ne.symm hji)] at hl
        have hdi:dstOf ops i=o'.dst:=by unfold dstOf;rw [ho];rfl
        have hkeep : ∀ j t,j < n→j ≠ i→dstOf ops j=some t→(a.put o'.dst v).tmps[t]?=a.tmps[t]?:=by
          intro j t hj hji hd
          cases hdd:o'.dst with
          | none=>rfl
          | some d =>
            have hne:d ≠ t:=fun e=>hji (hdist j i t hj hin hd (by rw [hdi,hdd,e]))
            simp [Act.put,Array.getElem?_setIfInBounds_ne hne]
        have hself : ∀ t,dstOf ops i=some t→(a.put o'.dst v).tmps[t]?=some v:=by
          intro t hd
          have hlt:=hsl t ⟨i,hin,hd⟩
          rw [← S.st.siz] at hlt
          rw [hdi] at hd
          rw [hd]
          simp [Act.put,hlt]
        obtain ⟨hβ,hinj⟩:=S.fresh
        refine ⟨?_,fun t ψ ht hno=>?_,fun j t p hj hl hdj hpj=>?_,fun j t o hj hl hoj hdt hF=>?_,?_⟩
        · cases hdd:o'.dst with
          | none=>exact S.st.putN E v
          | some d=>exact (S.st.putN (a:=a) E v).weakPut d v
        · obtain ⟨u,hu,hψ⟩:=S.base t ψ ht hno
          refine ⟨u,?_,ψ.mono E.le hψ⟩
          cases hdd:o'.dst with
          | none=>exact hu
          | some d =>
            have hne:d ≠ t:=fun e=>hno i hin (by rw [hdi,hdd,e])
            simp [Act.put,Array.getElem?_setIfInBounds_ne hne,hu]
        · by_cases hji:j=i
          · subst hji
            rw [hp] at hpj
            injection hpj with hpj
            subst hpj
            exact ⟨v,hself t hdj,hv⟩
          · obtain ⟨u,hu,hψ⟩:=S.done j t p hj (hold j hji hl) hdj hpj
            exact ⟨u,by rw [hkeep j t hj hji hdj];exact hu,p.2.1.mono E.le hψ⟩
        · have hev : ∀ x ∈ o.op.operands,(a.put o'.dst v).eval x=a.eval x:=by
            intro x hx
            cases x with
            | tmp t' =>
              cases hdd:o'.dst with
              | none=>rfl
              | some d =>
                have hne:d ≠ t':=by
                  intro he
                  subst he
                  obtain ⟨oj,hoj',hlkj,_,_⟩:=hchk j hj
                  have:oj=o:=Option.some.inj (hoj'.symm.trans hoj)
                  subst this
                  obtain ⟨hij,hwt⟩:=hlkj d (List.mem_append_left _ (List.mem_filterMap.2 ⟨.tmp d,by simpa using hx,rfl⟩)) i hin (by rw [hdi,hdd])
                  have hji:j ≠ i:=by omega
                  obtain ⟨oj2,hoj2,e,he,hb,hon⟩:=Region.waitsFor_spec hwt
                  have:oj2=oj:=Option.some.inj (hoj2.symm.trans hoj)
                  subst this
                  have:=inv.closed j oj2 hoj (hold j hji hl) e he hb
                  rw [hon] at this
                  rw [getD_flip (hsz i hin)] at hun
                  rw [this] at hun;cases hun
                simp [Act.eval,Act.put,Array.getElem?_setIfInBounds_ne hne]
            | const c=>rfl
            | global g=>rfl
            | func f=>rfl
          have hcg:=hF.congr hev
          by_cases hji:j=i
          · subst hji
            have:o=o':=Option.some.inj (hoj.symm.trans ho)
            subst this
            exact ⟨v,hself t (by rw [hdi];exact hdt),fun w2=>by rw [hcg];exact hre hF w2⟩
          · obtain ⟨u,hu,hrun⟩:=S.re j t o hj (hold j hji hl) hoj hdt hF
            exact ⟨u,by rw [hkeep j t hj hji (by unfold dstOf;rw [hoj];exact hdt)];exact hu,fun w2=>by rw [hcg];exact hrun w2⟩
        · have hnow : ∀ j t p R u,j < n→(listed.setIfInBounds i true).getD j false=true→dstOf ops j=some t→l[j]?=some p→p.2.2=some R→(a.put o'.dst v).tmps[t]?=some u →
              (R u).ok H' w' ∧ ∀ b,(R u).blk=some b→(b < w'.heap.size∧C.w0.heap.size≤b∧b ∉ Δ.filterMap Res.blk)∧(j=i→w.heap.size≤b)∧(j ≠ i→b < w.heap.size):=by
            intro j t p R u hj hl hdj hpj hm hu
            by_cases hji:j=i
            · subst hji
              rw [hp] at hpj
              injection hpj with hpj
              subst hpj
              rw [hself t hdj] at hu
              injection hu with hu;subst hu
              obtain ⟨h1,h2⟩:=hmade R hm
              refine ⟨h1,fun b hb=>⟨⟨(h2 b hb).2,Nat.le_trans S.st.fr.size (h2 b hb).1,fun hmem=>?_⟩,fun _=>(h2 b hb).1,fun h=>absurd rfl h⟩⟩
              have:=(S.st.own _ hmem).1
              have:=(h2 b hb).1
              omega
            · obtain ⟨u',hu',hok,hbk⟩:=hβ j t p R hj (hold j hji hl) hdj hpj hm
              rw [hkeep j t hj hji hdj,hu'] at hu
              injection hu with hu;subst hu
              exact ⟨(R u').st E.le (fun b hb=>⟨E.fr.block b (hbk b hb).1 (by simp),fun o=>E.old b o (hbk b hb).1⟩) hok,fun b hb=>⟨⟨Nat.lt_of_lt_of_le (hbk b hb).1 E.fr.size,(hbk b hb).2⟩,fun h=>absurd h hji,fun _=>(hbk b hb).1⟩⟩
          refine ⟨fun j t p R hj hl hdj hpj hm=>?_,fun x y s t p q R S' u u' b hx hy hlx hly hdx hdy hpx hqy hmx hmy hux huy hbx hby=>?_⟩
          · have : ∃ u,(a.put o'.dst v).tmps[t]?=some u:=by
              by_cases hji:j=i
              · subst hji;exact ⟨v,hself t hdj⟩
              · obtain ⟨u',hu',_⟩:=hβ j t p R hj (hold j hji hl) hdj hpj hm
                exact ⟨u',by rw [hkeep j t hj hji hdj];exact hu'⟩
            obtain ⟨u,hu⟩:=this
            obtain ⟨h1,h2⟩:=hnow j t p R u hj hl hdj hpj hm hu
            exact ⟨u,hu,h1,fun b hb=>(h2 b hb).1⟩
          · obtain ⟨_,h2⟩:=hnow x s p R u hx hlx hdx hpx hmx hux
            obtain ⟨_,k2⟩:=hnow y t q S' u' hy hly hdy hqy hmy huy
            obtain ⟨_,h3,h4⟩:=h2 b hbx
            obtain ⟨_,k3,k4⟩:=k2 b hby
            by_cases hxi:x=i
            · by_cases hyi:y=i
              · rw [hxi,hyi]
              · have:=h3 hxi;have:=k4 hyi;omega
            · by_cases hyi:y=i
              · have:=h4 hxi;have:=k3 hyi;omega
              · rw [hkeep x s hx hxi hdx] at hux
                rw [hkeep y t hy hyi hdy] at huy
                exact hinj x y s t p q R S' u u' b hx hy (hold x hxi hlx) (hold y hyi hly) hdx hdy hpx hqy hmx hmy hux huy hbx hby
    unfold wpOpIn
    simp only [ho]
    cases hg with
    | g φ hg =>
      have hops : ∀ x ∈ o'.op.operands, ∀ ψ,opd Γi x=some ψ→ψ.h H (a.eval x):=fun x hx ψ hψ=>by
          cases x with
          | tmp t =>
            obtain ⟨v,hv,hψ⟩:=hmeet i Γi (Nat.le_of_lt hin) (.inl ⟨_,hp⟩) listed H a w S t ψ hψ (hlisted t (List.mem_append_left _ (List.mem_filterMap.2 ⟨.tmp t,by simpa using hx,rfl⟩)))
            have:a.eval (.tmp t)=v:=by simp [Act.eval,hv]
            rw [this];exact hψ
          | const v=>injection hψ with hψ;subst hψ;exact rfl
          | global g=>injection hψ with hψ;subst hψ;exact rfl
          | func f=>injection hψ with hψ;subst hψ;exact rfl
      by_cases hF:OpF C.P o'
      · have hpp:OpP C.P Γi Δ o' φ:=by
          cases hg with
          | plain _ h=>exact h
          | run j want g hgd=>rw [hF.plain] at hgd;cases hgd
          | skip j want g b hgd=>rw [hF.plain] at hgd;cases hgd
          | none j want g hgd=>rw [hF.plain] at hgd;cases hgd
        have h1:=hpp H a w Q (fun a' w' => ∃ v H',a'=a.put o'.dst v∧Ext H w H' w'∧φ.h H' v) hops S.st.sat S.st.res (fun b hb=>(S.st.own b hb).1) (fun v H' w' E hv=>⟨v,H',rfl,E,hv⟩)
        rw [if_pos (by simp [Region.wanted,hF.plain])]
        refine wpIn_fen (fun c hc=>by obtain ⟨t,ps,hb⟩:=hF.bld;rw [hb] at hc;cases hc) ?_
        rcases hF.fn a.eval w with ⟨v,hv⟩|⟨h,hh⟩
        · unfold Oper.wp at h1 ⊢
          rw [hv w] at h1 ⊢
          obtain ⟨v',H',he,E,hφ⟩:=h1
          obtain ⟨d,hd⟩:=hF.dst
          have hlt:=hsl d ⟨i,hin,by unfold dstOf;rw [ho];exact hd⟩
          rw [← S.st.siz] at hlt
          have hvv:v=v':=by
            have:=congrArg (fun x:Act=>x.tmps[d]?) he
            rw [hd] at this
            simpa [Act.put,hlt] using this
          subst hvv
          exact hnext v H' w E hφ (fun R hm=>by cases hm) (fun _=>hv)
        · unfold Oper.wp at h1 ⊢
          rw [hh] at h1 ⊢
          cases h <;> exact h1
      · have hstep:=hg.step (H:=H) (a:=a) (w:=w) (Q:=Q) (K:=wpAnyIn (fen C.ro) 0 C.P md ops Q (m+(ops.size - n)) (listed.setIfInBounds i true))
          hops
          (fun j want g ψ hgd hgs hl=>hmeet i Γi (Nat.le_of_lt hin) (.inl ⟨_,hp⟩) listed H a w S g ψ hl (hlisted g (List.mem_append_right _ (by
            have e1:(ops[j]?).bind (·.dst)=some g:=hgs
            simp [hgd,e1]))))
          S.st.sat S.st.res (fun b hb=>(S.st.own b hb).1)
          (fun v H' w' E hv=>hnext v H' w' E hv (fun R hm=>by cases hm) (fun h=>absurd h hF))
        have hnd:=hg.step (H:=H) (a:=a) (w:=w) (Q:=fun _ _ _=>False) (K:=fun a' _=>a'.defers=a.defers)
          hops
          (fun j want g ψ hgd hgs hl=>hmeet i Γi (Nat.le_of_lt hin) (.inl ⟨_,hp⟩) listed H a w S g ψ hl (hlisted g (List.mem_append_right _ (by
            have e1:(ops[j]?).bind (·.dst)=some g:=hgs
            simp [hgd,e1]))))
          S.st.sat S.st.res (fun b hb=>(S.st.own b hb).1) (fun v H' w' E hv=>put_defers _ _ _)
        split
        · rename_i hw
          rw [if_pos hw] at hstep hnd
          exact wpIn_fen (not_defer hnd) hstep
        · rename_i hw
          rw [if_neg hw] at hstep
          exact ⟨fun _ _=>trivial,hstep⟩
    | mk R φ d hgd hd hbb hφ hR =>
      rw [if_pos (by simp [Region.wanted,hgd])]
      have hops : ∀ x ∈ o'.op.operands, ∀ ψ,opd Γi x=some ψ→ψ.h H (a.eval x):=(fun x hx ψ hψ=>by
          cases x with
          | tmp t =>
            obtain ⟨v,hv,hψ⟩:=hmeet i Γi (Nat.le_of_lt hin) (.inl ⟨_,hp⟩) listed H a w S t ψ hψ (hlisted t (List.mem_append_left _ (List.mem_filterMap.2 ⟨.tmp t,by simpa using hx,rfl⟩)))
            have:a.eval (.tmp t)=v:=by simp [Act.eval,hv]
            rw [this];exact hψ
          | const v=>injection hψ with hψ;subst hψ;exact rfl
          | global g=>injection hψ with hψ;subst hψ;exact rfl
          | func f=>injection hψ with hψ;subst hψ;exact rfl)
      refine wpIn_fen (not_defer (hR H a w _ _ hops S.st.sat S.st.res (fun b hb=>(S.st.own b hb).1) (fun v H' w' E hok hbk=>put_defers _ _ _))) ?_
      exact hR H a w _ _ hops
        S.st.sat S.st.res (fun b hb=>(S.st.own b hb).1)
        (fun v H' w' E hok hbk=>hnext v H' w' E (hφ v H' w' hok) (fun R' hm=>by injection hm with hm;subst hm;exact ⟨hok,hbk⟩) (fun hF=>by obtain ⟨t,ps,hb⟩:=hF.bld;exact absurd hb (hbb t ps)))

/-! ### Code -/
theorem J.seq {x y:Code} (h:J C Γ Δ x (Exit.then (y.wpIn (fen C.ro) 0 C.P Q) Q)):J C Γ Δ (.seq x y) Q:=fun H a w S=>wpIn_seq (h H a w S)
theorem J.block {id:Nat} {c:Code} (h:J C Γ Δ c (Exit.inBlock id Q)):J C Γ Δ (.block id c) Q:=fun H a w S=>wpIn_block (h H a w S)
theorem J.skip (h:E C .normal Γ Δ Q):J C Γ Δ .skip Q:=fun H a w S=>wpIn_skip (h H a w S)
theorem J.exit {id:Nat} (h:E C (.exit id) Γ Δ Q):J C Γ Δ (.exit id) Q:=fun H a w S=>wpIn_exit (h H a w S)
theorem J.ret (h:E C .ret Γ Δ Q):J C Γ Δ .ret Q:=fun H a w S=>wpIn_ret (h H a w S)
theorem J.cond {c:Operand} {x y:Code} (b:Bool) (hc:opd Γ c=some (is (.bool b))) (ht:b=true→J C Γ Δ x Q) (hf:b=false→J C Γ Δ y Q):J C Γ Δ (.cond c x y) Q:=fun H a w S =>
  wpIn_cond_split (t:=b) (S.opd hc) (fun h=>ht h H a w S) (fun h=>hf h H a w S)
theorem J.cond_t {c:Operand} {x y:Code} (hc:opd Γ c=some (is (.bool true))) (ht:J C Γ Δ x Q):J C Γ Δ (.cond c x y) Q:=fun H a w S=>wpIn_cond (t:=true) (S.opd hc) (ht H a w S)
theorem J.cond_f {c:Operand} {x y:Code} (hc:opd Γ c=some (is (.bool false))) (hf:J C Γ Δ y Q):J C Γ Δ (.cond c x y) Q:=fun H a w S=>wpIn_cond (t:=false) (S.opd hc) (hf H a w S)

/-- A region whose operations stand in the text's order. -/
theorem J.lq {id:Nat} {l:List Oper} (h:Lq C Γ Δ l.toArray l Q):J C Γ Δ (.region id l.toArray false) Q:=fun H a w S=>wpIn_region_lit (h H a w S)

def slotsOK (ops:Array Oper) (n k:Nat):Bool:=(List.range n).all fun j=>match dstOf ops j with|some d=>Nat.blt d k|none=>true
/-- A region that draws its order: the first n in any order, the others behind them. -/
theorem J.drawR {id:Nat} {l:List Oper} (n:Nat) (hm:C.P.follows .mixedOrders=true) (hc:(drawOK .any l.toArray n && slotsOK l.toArray n C.n)=true)
    (h:PRun C.P l.toArray Δ (l.take n) Γ [] fun Γ' F=>Open F Γ' Δ fun Γ'' Δ''=>LqR C Γ'' Δ'' l.toArray n (l.drop n) Q):J C Γ Δ (.region id l.toArray true) Q:=by
  intro H a w S
  simp only [drawOK,Bool.and_eq_true,Bool.or_eq_true,decide_eq_true_eq] at hc
  obtain ⟨⟨⟨⟨hn,hh⟩,hsk⟩,hseq⟩,hslots⟩:=hc
  obtain ⟨ll,Γ',F',hA,hT⟩:=h.along
  refine wpIn_region_any hm ?_
  have hsl : ∀ d,(∃ j,j < n∧dstOf l.toArray j=some d)→d < C.n:=by
    rintro d ⟨j,hj,hd⟩
    have:=List.all_eq_true.1 hslots j (List.mem_range.2 hj)
    rw [hd] at this
    exact Nat.blt_eq.mp this
  have inv0:HeadInv .any l.toArray n (Array.replicate l.toArray.size false) :=
    ⟨by simp,fun j oj _ hl=>(by rw [getD_replicate_false] at hl;cases hl),fun t _ ht=>getD_in (by simpa using ht) (getD_replicate_false _ _)⟩
  have hleft:left n (Array.replicate l.toArray.size false)=n:=by
    unfold left
    rw [List.filter_eq_self.2 (fun i _=>by rw [getD_replicate_false];rfl),List.length_range]
  have:=seq_any (C:=C) (Γ:=Γ) (Δ:=Δ) (Q:=Q) (ops:=l.toArray) (md := .any) n hsl hn hh hsk hseq hA hT n (Array.replicate l.toArray.size false) H a { w with drawn:=w.drawn+1 } inv0 hleft
    ⟨(S.drew).weak (fun t φ ht=>(by cases ht)),fun t φ ht _=>S.env t φ ht,fun j t p _ hl=>(by rw [getD_replicate_false] at hl;cases hl),
      fun j t o _ hl=>(by have hl:(Array.replicate l.toArray.size false).getD j false=true:=hl;rw [getD_replicate_false] at hl;cases hl),fun j t p R _ hl=>(by rw [getD_replicate_false] at hl;cases hl),fun i j s t p q R S' u v b _ _ hl=>(by rw [getD_replicate_false] at hl;cases hl)⟩
  rwa [show n+(l.toArray.size - n)=l.toArray.size by omega] at this

theorem Open.imp {K K':Env→List Res→Prop} (h : ∀ Γ Δ,K Γ Δ→K' Γ Δ) : ∀ {F:Fresh} {Γ:Env} {Δ:List Res},Open F Γ Δ K→Open F Γ Δ K'
  | [],_,_,k=>h _ _ k
  | (_,_)::_,_,_,k=>fun v hv=>Open.imp h (k v hv)
theorem PRun.imp {P:Program} {ops:Array Oper} {Δ:List Res} {K K':Env→Fresh→Prop} (h : ∀ Γ F,K Γ F→K' Γ F) : ∀ {os:List Oper} {Γ:Env} {F:Fresh},PRun P ops Δ os Γ F K→PRun P ops Δ os Γ F K'
  | [],_,_,k=>h _ _ k
  | _::_,_,_,⟨φ,m,hs,k⟩=>⟨φ,m,hs,PRun.imp h k⟩
theorem J.draw {id:Nat} {l:List Oper} (n:Nat) (hm:C.P.follows .mixedOrders=true) (hc:(drawOK .any l.toArray n && slotsOK l.toArray n C.n)=true)
    (h:PRun C.P l.toArray Δ (l.take n) Γ [] fun Γ' F=>Open F Γ' Δ fun Γ'' Δ''=>Lq C Γ'' Δ'' l.toArray (l.drop n) Q):J C Γ Δ (.region id l.toArray true) Q :=
  J.drawR n hm hc (h.imp fun _ _ k=>k.imp fun _ _ k H a w S _=>k H a w S)
/-- What a value was built of, told again in the state behind the head. -/
theorem LqR.redo {ops:Array Oper} {n:Nat} {rest:List Oper} {φ:Pr} {o:Oper} {j d:Nat} (hj:j < n) (ho:ops[j]?=some o) (hd:o.dst=some d) (hlt:d < C.n) (hF:OpF C.P o) (hφ:OpP C.P Γ Δ o φ) (k:Lq C ((d,φ)::Γ) Δ ops rest Q):LqR C Γ Δ ops n rest Q:=by
  intro H a w S hre
  obtain ⟨v,hv,hrun⟩:=hre j d o hj trivial ho hd hF
  have h1:=hφ H a w (fun _ _ _=>True) (fun a' w' => ∃ v H',a'=a.put o.dst v∧Ext H w H' w'∧φ.h H' v) (fun x _ ψ hψ=>S.opd hψ) S.sat S.res (fun b hb=>(S.own b hb).1) (fun v H' w' E hv=>⟨v,H',rfl,E,hv⟩)
  unfold Oper.wp at h1
  rw [hrun w] at h1
  obtain ⟨v',H',he,E,hφ'⟩:=h1
  have hlt':d < a.tmps.size:=by rw [S.siz];exact hlt
  have hvv:v=v':=by
    have:=congrArg (fun x:Act=>x.tmps[d]?) he
    rw [hd] at this
    simpa [Act.put,hlt'] using this
  subst hvv
  have S2:=S.put E d hlt v φ hφ'
  have ha:a.put (some d) v=a:=by
    have:a.tmps.setIfInBounds d v=a.tmps:=by
      apply Array.ext
      · simp
      · intro i h1 h2
        rw [Array.getElem_setIfInBounds]
        split
        · rename_i hi
          subst hi
          rw [Array.getElem?_eq_getElem h2] at hv
          injection hv with hv;exact hv.symm
        · rfl
    cases a
    simp only [Act.put] at this ⊢
    rw [this]
  rw [ha] at S2
  exact k H' a w S2

/-! ### Exits -/
theorem E.then_normal {K:Act→World→Prop} (h : ∀ H a w,St C Γ Δ H a w→K a w):E C .normal Γ Δ (Exit.then K Q):=h
theorem E.next {y:Code} {Q':Exit→Act→World→Prop} (h:J C Γ Δ y Q):E C .normal Γ Δ (Exit.then (y.wpIn (fen C.ro) 0 C.P Q) Q'):=h
theorem E.then_exit {K:Act→World→Prop} {id:Nat} (h:E C (.exit id) Γ Δ Q):E C (.exit id) Γ Δ (Exit.then K Q):=h
theorem E.then_ret {K:Act→World→Prop} (h:E C .ret Γ Δ Q):E C .ret Γ Δ (Exit.then K Q):=h
theorem E.in_normal {id:Nat} (h:E C .normal Γ Δ Q):E C .normal Γ Δ (Exit.inBlock id Q):=h
theorem E.in_ret {id:Nat} (h:E C .ret Γ Δ Q):E C .ret Γ Δ (Exit.inBlock id Q):=h
theorem E.in_exit {id:Nat} (h:E C .normal Γ Δ Q):E C (.exit id) Γ Δ (Exit.inBlock id Q):=fun H a w S=>by
  show if id=id then _ else _
  rw [if_pos rfl];exact h H a w S
theorem E.in_other {id id':Nat} (hne:Nat.beq id' id=false) (h:E C (.exit id') Γ Δ Q):E C (.exit id') Γ Δ (Exit.inBlock id Q):=fun H a w S=>by
  show if id'=id then _ else _
  rw [if_neg (fun e=>by rw [e,Nat.beq_refl] at hne;cases hne)];exact h H a w S

/-! ### Loops -/
def AllIn:Env→Env→Prop
  | [],_=>True
  | (t,φ)::r,Γ=>look Γ t=some φ∧AllIn r Γ
theorem AllIn.look {Γ:Env} : ∀ {Γ':Env},AllIn Γ' Γ → ∀ t φ,look Γ' t=some φ→L.look Γ t=some φ
  | [],_,t,φ,h=>by cases h
  | (k,ψ)::r,⟨h1,h2⟩,t,φ,h=>by
    unfold L.look at h
    split at h
    · rename_i hk
      have hk:=Nat.eq_of_beq_eq_true hk
      subst hk
      injection h with h;subst h;exact h1
    · exact AllIn.look h2 t φ h
/-- What is owned, some of it given up. -/
def Sub (Γ Γ':Env) (Δ Δ':List Res):Prop:=AllIn Γ' Γ ∧ ∃ D,Δ.Perm (Δ'++D)
theorem Sub.st {Γ':Env} {Δ':List Res} (h:Sub Γ Γ' Δ Δ') {H:IH} {a:Act} {w:World} (S:St C Γ Δ H a w):St C Γ' Δ' H a w:=by
  obtain ⟨h1,D,hp⟩:=h
  have hf:=hp.filterMap Res.blk
  rw [List.filterMap_append] at hf
  refine ⟨S.dfr,S.siz,fun t φ ht=>S.env t φ (h1.look t φ ht),S.sat,fun r hr=>S.res r (hp.mem_iff.2 (List.mem_append_left _ hr)),?_,fun b hb=>S.own b (hf.mem_iff.2 (List.mem_append_left _ hb)),S.le,S.fr,S.hk⟩
  exact (List.nodup_append.1 (hf.nodup_iff.1 S.dis)).1
theorem Sub.same {Γ':Env} (h:AllIn Γ' Γ):Sub Γ Γ' Δ Δ:=⟨h,[],by simp⟩
theorem Sub.none {Γ':Env} (h:AllIn Γ' Γ):Sub Γ Γ' Δ []:=⟨h,Δ,by simp⟩
theorem J.sub {Γ':Env} {Δ':List Res} {c:Code} (h:Sub Γ Γ' Δ Δ') (k:J C Γ' Δ' c Q):J C Γ Δ c Q:=fun H a w S=>k H a w (h.st S)
theorem E.sub {Γ':Env} {Δ':List Res} {e:Exit} (h:Sub Γ Γ' Δ Δ') (k:E C e Γ' Δ' Q):E C e Γ Δ Q:=fun H a w S=>k H a w (h.st S)

/-- A loop's round has come to its end in the state of some later round. -/
def Again {α:Type} (C:Cx) (V:α→Prop) (I:α→Env) (R:α→List Res) (μ:α→Nat) (n:Nat) (a:Act) (w:World):Prop := ∃ x H,μ x < n∧V x∧St C (I x) (R x) H a w
theorem E.again {α:Type} {V:α→Prop} {I:α→Env} {R:α→List Res} {μ:α→Nat} {n:Nat} (x:α) (hμ:μ x < n) (hV:V x) (h:Sub Γ (I x) Δ (R x)):E C .normal Γ Δ (Exit.then (Again C V I R μ n) Q) :=
  fun H a w S=>⟨x,H,hμ,hV,h.st S⟩
theorem J.loop {α:Type} {c:Code} (V:α→Prop) (I:α→Env) (R:α→List Res) (μ:α→Nat) (x0:α) (hV:V x0) (h0:Sub Γ (I x0) Δ (R x0)) (round : ∀ x,V x→J C (I x) (R x) c (Exit.then (Again C V I R μ (μ x)) Q)):J C Γ Δ (.loop c) Q:=by
  intro H a w S
  let Good (a:Act) (w:World) (k:Nat):Prop := ∃ x H,μ x=k∧V x∧St C (I x) (R x) H a w
  have least : ∀ (k:Nat) (a:Act) (w:World),Good a w k → ∃ k',Good a w k' ∧ ∀ j,j < k' → ¬ Good a w j:=by
    intro k
    induction k using Nat.strongRecOn with
    | _ k ih =>
      intro a w hg
      by_cases hc : ∃ j,j < k∧Good a w j
      · obtain ⟨j,hj,hgj⟩:=hc
        exact ih j hj a w hgj
      · exact ⟨k,hg,fun j hj hgj=>hc ⟨j,hj,hgj⟩⟩
  let M (a:Act) (w:World):Nat := @dite Nat (∃ k,Good a w k) (Classical.propDecidable _) (fun h=>Classical.choose (least h.choose a w h.choose_spec)) (fun _=>0)
  have hM : ∀ a w k,Good a w k→Good a w (M a w)∧M a w≤k:=by
    intro a w k hg
    have hex : ∃ k,Good a w k:=⟨k,hg⟩
    have hm:M a w=Classical.choose (least hex.choose a w hex.choose_spec):=dif_pos hex
    have hs:=Classical.choose_spec (least hex.choose a w hex.choose_spec)
    rw [← hm] at hs
    refine ⟨hs.1,?_⟩
    rcases Nat.lt_or_ge k (M a w) with h|h
    · exact absurd hg (hs.2 k h)
    · exact h
  refine wpIn_loop (fun a w => ∃ k,Good a w k) M ⟨_,x0,H,rfl,hV,h0.st S⟩ ?_
  rintro a w ⟨k,hg⟩
  obtain ⟨x,H,hx,hVx,S⟩:=(hM a w k hg).1
  refine wpIn_mono (round x hVx H a w S) fun e a' w' h=>?_
  cases e with
  | normal =>
    obtain ⟨y,H',hy,hVy,S'⟩:=h
    have hg':Good a' w' (μ y):=⟨y,H',rfl,hVy,S'⟩
    have:=(hM a' w' _ hg').2
    exact ⟨⟨_,hg'⟩,by omega⟩
  | exit id=>exact h
  | goto l=>exact h
  | ret=>exact h
  | panic ch=>exact h
  | outgrown=>exact h
end
end Go.Proofs.YtljbbajelkkafaaDoor.L
