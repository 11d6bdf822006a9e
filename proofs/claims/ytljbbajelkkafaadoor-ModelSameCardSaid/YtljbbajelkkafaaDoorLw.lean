/-
  Regions whose operations come in any order,some of which write memory that is owned,or take a row and yield a longer one.
-/
import Derived.Test.YtljbbajelkkafaaDoorLn
set_option linter.unusedVariables false
set_option linter.unusedSimpArgs false
namespace Go.Proofs.YtljbbajelkkafaaDoor.L
open Go
set_option linter.unusedSectionVars false
variable [Globs]
/-- What an operation takes of the owned things that have slots, and what it yields. -/
structure Eff where
  cons:Option (Nat × Item)
  prod:Option (Nat × Item)
def Eff.none:Eff:=⟨Option.none,Option.none⟩
def takesB (c:Option (Nat × Item)) (a:Act) (b:Nat):Prop := ∃ s R u,c=some (s,R)∧a.tmps[s]?=some u∧(R u).blk=some b
def OpE (P:Program) (Γ:Env) (Δ:List Res) (o:Oper) (φ:Pr) (e:Eff):Prop :=
  ∀ (H:IH) (a:Act) (w:World) (Q:Exit→Act→World→Prop) (K:Act→World→Prop),
    (∀ x ∈ o.op.operands, ∀ ψ,opd Γ x=some ψ→ψ.h H (a.eval x))→Sat H w→(∀ r ∈ Δ,r.ok H w)→(∀ b ∈ Δ.filterMap Res.blk,b < w.heap.size) →
    (∀ d,o.dst=some d→d < a.tmps.size) →
    (∀ s R,e.cons=some (s,R) → ∃ u,a.tmps[s]?=some u∧(R u).ok H w ∧ ∀ b,(R u).blk=some b→b < w.heap.size) →
    (∀ v H' w',IH.le H H'→(∀ b o,b < w.heap.size → ¬ takesB e.cons a b→H' b o=H b o)→Sat H' w' →
      w'.os=w.os→w'.tape=w.tape→w'.output=w.output→w.heap.size≤w'.heap.size→(∀ k,k < w.heap.size → ¬ takesB e.cons a k→w'.heap[k]?=w.heap[k]?)→φ.h H' v →
      (∀ p R,e.prod=some (p,R) → ∃ u,(a.put o.dst v).tmps[p]?=some u∧(R u).ok H' w' ∧ ∀ b,(R u).blk=some b→takesB e.cons a b ∨ (w.heap.size≤b∧b < w'.heap.size)) →
      K (a.put o.dst v) w')→o.wp P a w K Q
inductive StpW (P:Program) (ops:Array Oper) (Γ:Env) (Δ:List Res) (o:Oper):Pr→Eff→Prop
  | g (φ:Pr) (h:OpG P ops Γ Δ o φ):StpW P ops Γ Δ o φ Eff.none
  | e (φ:Pr) (e:Eff) (hg:o.guard=none) (h:OpE P Γ Δ o φ e):StpW P ops Γ Δ o φ e
def dropS (F:Fresh) (s:Nat):Fresh:=F.filter fun x => !(Nat.beq x.1 s)
def lkF:Fresh→Nat→Option Item
  | [],_=>none
  | (k,R)::F,s=>match Nat.beq k s with|true=>some R|false=>lkF F s
def effF (F:Fresh) (e:Eff):Fresh :=
  let F1:=match e.cons with|some (s,_)=>dropS F s|none=>F
  match e.prod with|some (p,R)=>(p,R)::dropS F1 p|none=>F1
def slotsE (e:Eff):Option Nat × Option Nat:=(e.cons.map (·.1),e.prod.map (·.1))
/-- Along a head: what each operation yields, takes and makes; the slots as they are told. -/
def PRunW (P:Program) (ops:Array Oper) (Δ:List Res):List Oper→List (Option Nat × Option Nat)→Env→Fresh→(Env→Fresh→Prop)→Prop
  | [],[],Γ,F,K=>K Γ F
  | o::os,t::ts,Γ,F,K => ∃ φ e,StpW P ops Γ Δ o φ e∧slotsE e=t∧(∀ s R,e.cons=some (s,R)→lkF F s=some R)∧(o.dst ≠ none→(slotsE e).1=(slotsE e).2→e.cons=e.prod)∧PRunW P ops Δ os ts (putΓ Γ o.dst φ) (effF F e) K
  | _,_,_,_,_=>False
theorem lkF_drop_self (s:Nat) : ∀ F:Fresh,lkF (dropS F s) s=none
  | []=>rfl
  | (k,R)::F=>by
    unfold dropS
    rw [List.filter_cons]
    cases h:Nat.beq k s with
    | true=>simp only [h,Bool.not_true,Bool.false_eq_true,if_false];exact lkF_drop_self s F
    | false=>simp only [h,Bool.not_false,if_true,lkF];exact lkF_drop_self s F
theorem lkF_drop_ne {s t:Nat} (hne:s ≠ t) : ∀ F:Fresh,lkF (dropS F s) t=lkF F t
  | []=>rfl
  | (k,R)::F=>by
    unfold dropS
    rw [List.filter_cons]
    have ih:=lkF_drop_ne hne F
    unfold dropS at ih
    cases h:Nat.beq k s with
    | true =>
      simp only [h,Bool.not_true,Bool.false_eq_true,if_false]
      have hk:=Nat.eq_of_beq_eq_true h
      subst hk
      have:Nat.beq k t=false:=by
        cases h':Nat.beq k t with
        | false=>rfl
        | true=>exact absurd (Nat.eq_of_beq_eq_true h') hne
      simp only [lkF,this]
      exact ih
    | false =>
      simp only [h,Bool.not_false,if_true,lkF]
      cases Nat.beq k t with
      | true=>rfl
      | false=>exact ih
def touch (t:Option Nat × Option Nat) (s:Nat):Prop:=t.1=some s ∨ t.2=some s
theorem lkF_eff_ne {e:Eff} {s:Nat} (h : ¬ touch (slotsE e) s) (F:Fresh):lkF (effF F e) s=lkF F s:=by
  have h1:e.cons.map (·.1) ≠ some s:=fun hh=>h (.inl hh)
  have h2:e.prod.map (·.1) ≠ some s:=fun hh=>h (.inr hh)
  have e1:lkF (match e.cons with|some (s,_)=>dropS F s|none=>F) s=lkF F s:=by
    cases hc:e.cons with
    | none=>rfl
    | some x =>
      obtain ⟨c,R⟩:=x
      rw [hc] at h1
      exact lkF_drop_ne (fun hh=>h1 (by rw [← hh];rfl)) F
  unfold effF
  cases hp:e.prod with
  | none=>exact e1
  | some x =>
    obtain ⟨p,R⟩:=x
    rw [hp] at h2
    have hne:p ≠ s:=fun hh=>h2 (by rw [← hh];rfl)
    have hb:Nat.beq p s=false:=by
      cases h':Nat.beq p s with
      | false=>rfl
      | true=>exact absurd (Nat.eq_of_beq_eq_true h') hne
    simp only [lkF,hb]
    rw [lkF_drop_ne hne]
    exact e1
theorem lkF_eff_prod {e:Eff} {s:Nat} {R:Item} (h:e.prod=some (s,R)) (F:Fresh):lkF (effF F e) s=some R:=by
  unfold effF
  simp only [h,lkF,Nat.beq_refl]
theorem lkF_eff_cons {e:Eff} {s:Nat} (h:e.cons.map (·.1)=some s) (h2:e.prod.map (·.1) ≠ some s) (F:Fresh):lkF (effF F e) s=none:=by
  obtain ⟨⟨c,R⟩,hc,hs⟩:=Option.map_eq_some_iff.1 h
  have hs:c=s:=hs
  subst hs
  unfold effF
  simp only [hc]
  cases hp:e.prod with
  | none=>exact lkF_drop_self c F
  | some x =>
    obtain ⟨p,R'⟩:=x
    rw [hp] at h2
    have hne:p ≠ c:=fun hh=>h2 (by rw [← hh];rfl)
    have hb:Nat.beq p c=false:=by
      cases h':Nat.beq p c with
      | false=>rfl
      | true=>exact absurd (Nat.eq_of_beq_eq_true h') hne
    simp only [lkF,hb]
    rw [lkF_drop_ne hne]
    exact lkF_drop_self c F

/-- The text's states along a head, as a list. -/
inductive AlongW (P:Program) (ops:Array Oper) (Δ:List Res):Env→Fresh→List Oper→List (Option Nat × Option Nat)→List (Env × Fresh × Pr × Eff)→Env→Fresh→Prop
  | nil (Γ:Env) (F:Fresh):AlongW P ops Δ Γ F [] [] [] Γ F
  | cons (Γ:Env) (F:Fresh) (o:Oper) (os:List Oper) (t:Option Nat × Option Nat) (ts:List (Option Nat × Option Nat)) (φ:Pr) (e:Eff) (l:List (Env × Fresh × Pr × Eff)) (Γ':Env) (F':Fresh) (h:StpW P ops Γ Δ o φ e) (ht:slotsE e=t) (hc : ∀ s R,e.cons=some (s,R)→lkF F s=some R) (hrd:o.dst ≠ none→(slotsE e).1=(slotsE e).2→e.cons=e.prod) (r:AlongW P ops Δ (putΓ Γ o.dst φ) (effF F e) os ts l Γ' F'):AlongW P ops Δ Γ F (o::os) (t::ts) ((Γ,F,φ,e)::l) Γ' F'
theorem PRunW.along {P:Program} {ops:Array Oper} {Δ:List Res} : ∀ {os:List Oper} {ts:List (Option Nat × Option Nat)} {Γ:Env} {F:Fresh} {K:Env→Fresh→Prop},PRunW P ops Δ os ts Γ F K → ∃ l Γ' F',AlongW P ops Δ Γ F os ts l Γ' F'∧K Γ' F'
  | [],[],Γ,F,K,h=>⟨[],Γ,F, .nil Γ F,h⟩
  | o::os,t::ts,Γ,F,K,⟨φ,e,hg,ht,hc,hrd,h⟩ =>
    let ⟨l,Γ',F',ha,hK⟩:=PRunW.along h
    ⟨(Γ,F,φ,e)::l,Γ',F', .cons Γ F o os t ts φ e l Γ' F' hg ht hc hrd ha,hK⟩
  | [],_::_,_,_,_,h=>h.elim
  | _::_,[],_,_,_,h=>h.elim
theorem AlongW.get {P:Program} {ops:Array Oper} {Δ:List Res} {Γ Γ':Env} {F F':Fresh} {os:List Oper} {ts:List (Option Nat × Option Nat)} {l:List (Env × Fresh × Pr × Eff)} (h:AlongW P ops Δ Γ F os ts l Γ' F') :
    ∀ (i:Nat) (o:Oper),os[i]?=some o → ∃ p,l[i]?=some p∧StpW P ops p.1 Δ o p.2.2.1 p.2.2.2∧ts[i]?=some (slotsE p.2.2.2)∧(∀ s R,p.2.2.2.cons=some (s,R)→lkF p.2.1 s=some R)∧(o.dst ≠ none→(slotsE p.2.2.2).1=(slotsE p.2.2.2).2→p.2.2.2.cons=p.2.2.2.prod):=by
  induction h with
  | nil=>intro i o hi;simp at hi
  | cons Γ F o os t ts φ e l Γ' F' hg ht hc hrd _ ih =>
    intro i x hi
    cases i with
    | zero=>simp at hi;subst hi;exact ⟨(Γ,F,φ,e),rfl,hg,by rw [ht];rfl,hc,hrd⟩
    | succ i =>
      obtain ⟨p,hp,hx,hts,hcc⟩:=ih i x (by simpa using hi)
      exact ⟨p,by simpa using hp,hx,by simpa using hts,hcc⟩
/-- The owned things at place k. -/
def atF (l:List (Env × Fresh × Pr × Eff)) (F':Fresh) (k:Nat):Fresh:=match l[k]? with|some p=>p.2.1|none=>F'
theorem AlongW.stepF {P:Program} {ops:Array Oper} {Δ:List Res} {Γ Γ':Env} {F F':Fresh} {os:List Oper} {ts:List (Option Nat × Option Nat)} {l:List (Env × Fresh × Pr × Eff)} (h:AlongW P ops Δ Γ F os ts l Γ' F') :
    atF l F' 0=F ∧ ∀ (i:Nat) p,l[i]?=some p→atF l F' (i+1)=effF p.2.1 p.2.2.2:=by
  induction h with
  | nil=>exact ⟨rfl,fun i p hp=>by simp at hp⟩
  | cons Γ F o os t ts φ e l Γ' F' hg ht hc _ _ ih =>
    refine ⟨rfl,fun i p hp=>?_⟩
    cases i with
    | zero =>
      simp at hp
      subst hp
      have:=ih.1
      unfold atF at this ⊢
      simpa using this
    | succ i =>
      have:=ih.2 i p (by simpa using hp)
      unfold atF at this ⊢
      simpa using this
theorem AlongW.look {P:Program} {ops:Array Oper} {Δ:List Res} {Γ Γ':Env} {F F':Fresh} {os:List Oper} {ts:List (Option Nat × Option Nat)} {l:List (Env × Fresh × Pr × Eff)} (h:AlongW P ops Δ Γ F os ts l Γ' F') :
    ∀ (i:Nat) (Γi:Env),((∃ φ,l[i]?=some (Γi,φ)) ∨ (i=os.length∧Γi=Γ')) → ∀ t,
      ((∀ j o,j < i→os[j]?=some o→o.dst ≠ some t)→L.look Γi t=L.look Γ t) ∧
      (∀ j o p,j < i→os[j]?=some o→l[j]?=some p→o.dst=some t→(∀ j' o',j < j'→j' < i→os[j']?=some o'→o'.dst ≠ some t)→L.look Γi t=some p.2.2.1):=by
  induction h with
  | nil Γ =>
    intro i Γi hi t
    have:Γi=Γ:=by
      rcases hi with ⟨φ,hi⟩|⟨_,h⟩
      · simp at hi
      · exact h
    subst this
    exact ⟨fun _=>rfl,fun j o p _ hj=>by simp at hj⟩
  | cons Γ F o os t' ts φ e l Γ' F' hg ht hc _ _ ih =>
    intro i Γi hi t
    cases i with
    | zero =>
      have:Γi=Γ:=by
        rcases hi with ⟨φ',hi⟩|⟨h,_⟩
        · simp at hi;exact hi.1.symm
        · simp at h
      subst this
      exact ⟨fun _=>rfl,fun j o p hj=>by omega⟩
    | succ i =>
      have hi':(∃ φ,l[i]?=some (Γi,φ)) ∨ (i=os.length∧Γi=Γ'):=by
        rcases hi with ⟨φ',hi⟩|⟨h,h2⟩
        · exact .inl ⟨φ',by simpa using hi⟩
        · exact .inr ⟨by simpa using h,h2⟩
      obtain ⟨h1,h2⟩:=ih i Γi hi' t
      constructor
      · intro hn
        rw [h1 (fun j x hj hx=>hn (j+1) x (by omega) (by simpa using hx))]
        exact look_put (hn 0 o (by omega) rfl)
      · intro j x p hj hx hp hd hlast
        cases j with
        | zero =>
          simp at hx hp
          subst hx;subst hp
          rw [h1 (fun j' x' hj' hx'=>hlast (j'+1) x' (by omega) (by omega) (by simpa using hx'))]
          rw [hd]
          simp only [putΓ,L.look,Nat.beq_refl]
        | succ j =>
          exact h2 j x p (by omega) (by simpa using hx) (by simpa using hp) hd (fun j' x' hj' hj2 hx'=>hlast (j'+1) x' (by omega) (by omega) (by simpa using hx'))
theorem AlongW.length {P:Program} {ops:Array Oper} {Δ:List Res} {Γ Γ':Env} {F F':Fresh} {os:List Oper} {ts:List (Option Nat × Option Nat)} {l:List (Env × Fresh × Pr × Eff)} (h:AlongW P ops Δ Γ F os ts l Γ' F'):l.length=os.length∧ts.length=os.length:=by
  induction h with
  | nil=>exact ⟨rfl,rfl⟩
  | cons _ _ _ _ _ _ _ _ _ _ _ _ _ _ _ _ ih=>exact ⟨by simp [ih.1],by simp [ih.2]⟩

def tch (t:Option Nat × Option Nat) (s:Nat):Bool:=(match t.1 with|some x=>Nat.beq x s|none=>false) || (match t.2 with|some x=>Nat.beq x s|none=>false)
theorem tch_iff {t:Option Nat × Option Nat} {s:Nat}:tch t s=true ↔ touch t s:=by
  obtain ⟨x,y⟩:=t
  unfold tch touch
  cases x <;> cases y <;> simp
def slotsT (t:Option Nat × Option Nat):List Nat:=t.1.toList++t.2.toList
/-- One that gives back what it took, and yields a value: it only looks. -/
def rdr (ops:Array Oper) (j:Nat) (t:Option Nat × Option Nat):Bool:=(match t.1,t.2 with|some x,some y=>Nat.beq x y|_,_=>false) && (match dstOf ops j with|some _=>true|none=>false)
def wtch (ops:Array Oper) (j:Nat) (t:Option Nat × Option Nat) (s:Nat):Bool:=tch t s && !rdr ops j t
/-- Whom one waits for, through others, too. -/
inductive Reach (md:Region.Mode) (ops:Array Oper):Nat→Nat→Prop
  | one {j i:Nat} (h:Region.waitsFor md ops j i=true):Reach md ops j i
  | step {j k i:Nat} (h:Region.waitsFor md ops j k=true) (r:Reach md ops k i):Reach md ops j i
def ancs (md:Region.Mode) (ops:Array Oper):Nat→List Nat
  | 0=>[]
  | n+1=>ancs md ops n++[(List.range n).foldl (fun m k=>if Region.waitsFor md ops n k=true then m ||| (2 ^ k ||| (ancs md ops n).getD k 0) else m) 0]
theorem ancs_len (md:Region.Mode) (ops:Array Oper) : ∀ n,(ancs md ops n).length=n
  | 0=>rfl
  | n+1=>by unfold ancs;rw [List.length_append,ancs_len md ops n];rfl
theorem foldl_bit {md:Region.Mode} {ops:Array Oper} {n i:Nat} {A:List Nat} : ∀ (l:List Nat) (m:Nat),(l.foldl (fun m k=>if Region.waitsFor md ops n k=true then m ||| (2 ^ k ||| A.getD k 0) else m) m).testBit i=true→m.testBit i=true ∨ ∃ k ∈ l,Region.waitsFor md ops n k=true∧(i=k ∨ (A.getD k 0).testBit i=true)
  | [],m,h => .inl h
  | k::l,m,h=>by
    rcases foldl_bit l _ h with h1|⟨k',hk,h2⟩
    · dsimp only at h1
      split at h1
      · rename_i hw
        rw [Nat.testBit_or,Nat.testBit_or,Bool.or_eq_true,Bool.or_eq_true] at h1
        rcases h1 with h1|h1|h1
        · exact .inl h1
        · refine .inr ⟨k,List.mem_cons_self,hw, .inl ?_⟩
          rw [Nat.testBit_two_pow] at h1
          exact (of_decide_eq_true h1).symm
        · exact .inr ⟨k,List.mem_cons_self,hw, .inr h1⟩
      · exact .inl h1
    · exact .inr ⟨k',List.mem_cons_of_mem _ hk,h2⟩
theorem ancs_reach {md:Region.Mode} {ops:Array Oper} : ∀ (n j i:Nat),((ancs md ops n).getD j 0).testBit i=true→Reach md ops j i
  | 0,j,i,h=>by simp [ancs] at h
  | n+1,j,i,h=>by
    have hl:=ancs_len md ops n
    have hg:(ancs md ops (n+1)).getD j 0=if j < n then (ancs md ops n).getD j 0 else if j=n then (List.range n).foldl (fun m k=>if Region.waitsFor md ops n k=true then m ||| (2 ^ k ||| (ancs md ops n).getD k 0) else m) 0 else 0:=by
      conv=>lhs;unfold ancs
      rw [List.getD_eq_getElem?_getD]
      by_cases h1:j < n
      · rw [if_pos h1,List.getElem?_append_left (by omega), ← List.getD_eq_getElem?_getD]
      · rw [if_neg h1,List.getElem?_append_right (by omega),hl]
        by_cases h2:j=n
        · subst h2;rw [if_pos rfl,Nat.sub_self];rfl
        · rw [if_neg h2,List.getElem?_eq_none (by simp;omega)];rfl
    rw [hg] at h
    split at h
    · exact ancs_reach n j i h
    · split at h
      · rename_i hj
        subst hj
        rcases foldl_bit _ _ h with h|⟨k,hk,hw,h⟩
        · simp at h
        · rcases h with rfl|h
          · exact .one hw
          · exact .step hw (ancs_reach j k i h)
      · simp at h
theorem Reach.listed {md:Region.Mode} {ops:Array Oper} {n:Nat} {listed:Array Bool} (inv:HeadInv md ops n listed) {j i:Nat} (r:Reach md ops j i):listed.getD j false=true→listed.getD i false=true:=by
  induction r with
  | one hw =>
    intro hl
    obtain ⟨oj,hoj,e,he,hb,hon⟩:=Region.waitsFor_spec hw
    have hk:=inv.closed _ oj hoj hl e he hb
    rwa [hon] at hk
  | step hw _ ih =>
    intro hl
    obtain ⟨oj,hoj,e,he,hb,hon⟩:=Region.waitsFor_spec hw
    have hk:=inv.closed _ oj hoj hl e he hb
    rw [hon] at hk
    exact ih hk
/-- What is written by several is written by one behind the other; who looks waits for those ahead, and those behind wait for it; no slot of an owned thing is written but by the one that yields it. -/
def chkA (md:Region.Mode) (ops:Array Oper) (n:Nat) (ts:List (Option Nat × Option Nat)) (s0:List Nat) (A:List Nat):Bool :=
  (List.range n).all fun j =>
    ((slotsT (ts.getD j (none,none))).all fun s=>(List.range j).all fun i =>
      (!wtch ops i (ts.getD i (none,none)) s || (List.range j).any fun k=>Nat.ble i k && (wtch ops k (ts.getD k (none,none)) s && Region.waitsFor md ops j k)) &&
      (!(wtch ops j (ts.getD j (none,none)) s && tch (ts.getD i (none,none)) s) || (List.range (j+1)).any fun k=>Nat.blt i k && (wtch ops k (ts.getD k (none,none)) s && (A.getD k 0).testBit i))) &&
    (match dstOf ops j with
      | some d => !(s0.any (Nat.beq d) || ts.any fun t=>tch t d) || (!rdr ops j (ts.getD j (none,none)) && match (ts.getD j (none,none)).2 with|some p=>Nat.beq p d|none=>false)
      | none=>true)
def chkW (md:Region.Mode) (ops:Array Oper) (n:Nat) (ts:List (Option Nat × Option Nat)) (s0:List Nat):Bool:=chkA md ops n ts s0 (ancs md ops n)
def cutW (ops:Array Oper) (n:Nat) (ts:List (Option Nat × Option Nat)) (listed:Array Bool) (k s:Nat):Prop:=k≤n ∧ ∀ i t,ts[i]?=some t→wtch ops i t s=true→(listed.getD i false=true ↔ i < k)
theorem wtch_touch {ops:Array Oper} {j s:Nat} {t:Option Nat × Option Nat} (h:wtch ops j t s=true):touch t s:=by
  unfold wtch at h
  rw [Bool.and_eq_true] at h
  exact tch_iff.1 h.1
section
variable {C:Cx} {Γ:Env} {Δ:List Res} {Q:Exit→Act→World→Prop}
structure HStW (C:Cx) (Γ:Env) (Δ:List Res) (ops:Array Oper) (n:Nat) (ts:List (Option Nat × Option Nat)) (l:List (Env × Fresh × Pr × Eff)) (F':Fresh) (listed:Array Bool) (H:IH) (a:Act) (w:World):Prop where
  st:St C [] Δ H a w
  base : ∀ t φ,look Γ t=some φ→(∀ j,j < n→listed.getD j false=true→dstOf ops j ≠ some t) → ∃ v,a.tmps[t]?=some v∧φ.h H v
  done : ∀ j t p,j < n→listed.getD j false=true→dstOf ops j=some t→l[j]?=some p → ∃ v,a.tmps[t]?=some v∧p.2.2.1.h H v
  items : ∀ k s R,cutW ops n ts listed k s→lkF (atF l F' k) s=some R → ∃ v,a.tmps[s]?=some v∧(R v).ok H w ∧ ∀ b,(R v).blk=some b→b < w.heap.size∧(b ∈ C.X ∨ C.w0.heap.size≤b)∧b ∉ Δ.filterMap Res.blk
  dist : ∀ k s R k' s' R' v v' b,cutW ops n ts listed k s→cutW ops n ts listed k' s'→lkF (atF l F' k) s=some R→lkF (atF l F' k') s'=some R'→a.tmps[s]?=some v→a.tmps[s']?=some v'→(R v).blk=some b→(R' v').blk=some b→s=s'
theorem Open.stX {H:IH} {a:Act} {w:World} {K:Env→List Res→Prop} : ∀ (M:List ((Nat × Item) × Value)) (Γ:Env) (Δ:List Res),Open (M.map (·.1)) Γ Δ K→St C Γ Δ H a w →
    (∀ x ∈ M,a.tmps[x.1.1]?=some x.2∧(x.1.2 x.2).ok H w ∧ ∀ b,(x.1.2 x.2).blk=some b→b < w.heap.size∧(b ∈ C.X ∨ C.w0.heap.size≤b)∧b ∉ Δ.filterMap Res.blk) →
    (M.filterMap fun x=>(x.1.2 x.2).blk).Nodup → ∃ Γ' Δ',K Γ' Δ'∧St C Γ' Δ' H a w
  | [],Γ,Δ,h,S,_,_=>⟨Γ,Δ,h,S⟩
  | ((d,R),v)::M,Γ,Δ,h,S,hM,hn=>by
    obtain ⟨h1,h2,h3⟩:=hM ((d,R),v) (by simp)
    have hl:(R v::Δ).filterMap Res.blk=(match (R v).blk with|some b=>b::Δ.filterMap Res.blk|none=>Δ.filterMap Res.blk):=by
      rw [List.filterMap_cons];cases (R v).blk <;> rfl
    have hn2:(M.filterMap fun x=>(x.1.2 x.2).blk).Nodup:=by
      rw [List.filterMap_cons] at hn
      cases hb:(R v).blk with
      | none=>simp only [hb] at hn;exact hn
      | some b=>simp only [hb] at hn;exact (List.nodup_cons.1 hn).2
    refine Open.stX M _ _ (h v ⟨H,w,h2⟩) ⟨S.dfr,S.siz,fun t φ ht=>?_,S.sat,fun r hr=>?_,?_,fun x hx=>?_,S.le,S.fr,S.hk⟩ (fun x hx=>?_) hn2
    · unfold L.look at ht
      split at ht
      · rename_i hk
        have hk:=Nat.eq_of_beq_eq_true hk
        subst hk
        injection ht with ht;subst ht
        exact ⟨_,h1,rfl⟩
      · exact S.env t φ ht
    · rcases List.mem_cons.1 hr with rfl|hr
      · exact h2
      · exact S.res r hr
    · rw [hl]
      cases hb:(R v).blk with
      | none=>exact S.dis
      | some b=>exact List.nodup_cons.2 ⟨(h3 b hb).2.2,S.dis⟩
    · rw [hl] at hx
      cases hb:(R v).blk with
      | none=>rw [hb] at hx;exact S.own x hx
      | some b =>
        rw [hb] at hx
        rcases List.mem_cons.1 hx with rfl|hx
        · exact ⟨(h3 _ hb).1,(h3 _ hb).2.1⟩
        · exact S.own x hx
    · obtain ⟨k1,k2,k3⟩:=hM x (by simp [hx])
      refine ⟨k1,k2,fun b hb=>⟨(k3 b hb).1,(k3 b hb).2.1,?_⟩⟩
      rw [hl]
      cases hbb:(R v).blk with
      | none=>exact (k3 b hb).2.2
      | some b' =>
        intro hm
        rcases List.mem_cons.1 hm with rfl|hm
        · rw [List.filterMap_cons] at hn
          simp only [hbb] at hn
          exact (List.nodup_cons.1 hn).1 (List.mem_filterMap.2 ⟨x,hx,hb⟩)
        · exact (k3 b hb).2.2 hm
theorem mem_drop {F:Fresh} {s:Nat} {x:Nat × Item} (h:x ∈ dropS F s):x ∈ F∧x.1 ≠ s:=by
  obtain ⟨h1,h2⟩:=List.mem_filter.1 h
  refine ⟨h1,fun e=>?_⟩
  rw [e,Nat.beq_refl] at h2
  cases h2
theorem keys_drop {F:Fresh} (s:Nat) (h:(F.map (·.1)).Nodup):((dropS F s).map (·.1)).Nodup:=List.Nodup.sublist (List.Sublist.map _ List.filter_sublist) h
theorem keys_eff {F:Fresh} (e:Eff) (h:(F.map (·.1)).Nodup):((effF F e).map (·.1)).Nodup:=by
  have h1:(((match e.cons with|some (s,_)=>dropS F s|none=>F):Fresh).map (·.1)).Nodup:=by
    cases e.cons with
    | none=>exact h
    | some x=>exact keys_drop x.1 h
  unfold effF
  cases e.prod with
  | none=>exact h1
  | some x =>
    refine List.nodup_cons.2 ⟨fun hm=>?_,keys_drop x.1 h1⟩
    obtain ⟨y,hy,he⟩:=List.mem_map.1 hm
    exact (mem_drop hy).2 he
theorem AlongW.keys {P:Program} {ops:Array Oper} {Γ Γ':Env} {F F':Fresh} {os:List Oper} {ts:List (Option Nat × Option Nat)} {l:List (Env × Fresh × Pr × Eff)} (h:AlongW P ops Δ Γ F os ts l Γ' F'):(F.map (·.1)).Nodup→(F'.map (·.1)).Nodup:=by
  induction h with
  | nil=>exact id
  | cons _ _ _ _ _ _ _ e _ _ _ _ _ _ _ _ ih=>exact fun h=>ih (keys_eff e h)
theorem lkF_mem : ∀ {F:Fresh} {s:Nat} {R:Item},(F.map (·.1)).Nodup→(s,R) ∈ F→lkF F s=some R
  | (k,R0)::F,s,R,hn,hm=>by
    obtain ⟨h1,h2⟩:=List.nodup_cons.1 hn
    rcases List.mem_cons.1 hm with h|h
    · injection h with ha hb
      subst ha;subst hb
      simp only [lkF,Nat.beq_refl]
    · have hne:k ≠ s:=fun e=>h1 (by subst e;exact List.mem_map.2 ⟨_,h,rfl⟩)
      have hb:Nat.beq k s=false:=by
        cases h':Nat.beq k s with
        | false=>rfl
        | true=>exact absurd (Nat.eq_of_beq_eq_true h') hne
      simp only [lkF,hb]
      exact lkF_mem h2 h
theorem lkF_key : ∀ {F:Fresh} {s:Nat} {R:Item},lkF F s=some R→s ∈ F.map (·.1)
  | (k,R0)::F,s,R,h=>by
    unfold lkF at h
    split at h
    · rename_i hk
      have:=Nat.eq_of_beq_eq_true hk
      subst this
      exact List.mem_cons_self
    · exact List.mem_cons_of_mem _ (lkF_key h)
  | [],_,_,h=>by cases h

theorem lkF_rd {e:Eff} {F:Fresh} (h:e.cons=e.prod) (hc : ∀ s R,e.cons=some (s,R)→lkF F s=some R) (t:Nat):lkF (effF F e) t=lkF F t:=by
  cases hp:e.prod with
  | none =>
    refine lkF_eff_ne (fun ht=>?_) F
    unfold touch slotsE at ht
    rw [h,hp] at ht
    rcases ht with h|h <;> cases h
  | some x =>
    obtain ⟨s,R⟩:=x
    by_cases hst:s=t
    · subst hst
      rw [lkF_eff_prod hp,hc s R (h.trans hp)]
    · refine lkF_eff_ne (fun ht=>?_) F
      unfold touch slotsE at ht
      rw [h,hp] at ht
      rcases ht with h|h <;> exact hst (Option.some.inj h)
theorem rd_of {ops:Array Oper} {i s:Nat} {e:Eff} (ht:touch (slotsE e) s) (h:wtch ops i (slotsE e) s=false):dstOf ops i ≠ none∧(slotsE e).1=(slotsE e).2:=by
  unfold wtch at h
  rw [tch_iff.2 ht,Bool.true_and,Bool.not_eq_false'] at h
  unfold rdr at h
  rw [Bool.and_eq_true] at h
  refine ⟨fun e=>?_,?_⟩
  · rw [e] at h
    exact absurd h.2 (by decide)
  · have h5:=h.1
    cases hx:(slotsE e).1 with
    | none=>rw [hx] at h5;cases h5
    | some x=>cases hy:(slotsE e).2 with
      | none=>rw [hx,hy] at h5;cases h5
      | some y=>rw [hx,hy] at h5;rw [Nat.eq_of_beq_eq_true h5]
theorem constF {P:Program} {ops:Array Oper} {Γ':Env} {F F':Fresh} {os:List Oper} {ts:List (Option Nat × Option Nat)} {l:List (Env × Fresh × Pr × Eff)} (hos : ∀ i o,os[i]?=some o→dstOf ops i=o.dst) (hA:AlongW P ops Δ Γ F os ts l Γ' F') {s:Nat} : ∀ (d k:Nat),k+d≤os.length→(∀ i t,k≤i→i < k+d→ts[i]?=some t→wtch ops i t s=false)→lkF (atF l F' k) s=lkF (atF l F' (k+d)) s
  | 0,k,_,_=>rfl
  | d+1,k,hle,h=>by
    have hlen:=hA.length
    obtain ⟨p,hp⟩ : ∃ p,l[k]?=some p:=⟨_,List.getElem?_eq_getElem (by omega)⟩
    obtain ⟨o,ho⟩ : ∃ o,os[k]?=some o:=⟨_,List.getElem?_eq_getElem (by omega)⟩
    obtain ⟨p',hp',_,hts,hcc,hrd⟩:=hA.get k o ho
    obtain rfl:p=p':=Option.some.inj (hp.symm.trans hp')
    have h1:=hA.stepF.2 k p hp
    have h2:atF l F' k=p.2.1:=by unfold atF;rw [hp]
    have h3:=constF hos hA d (k+1) (by omega) (fun i t hi1 hi2=>h i t (by omega) (by omega))
    have h4:=h k _ (Nat.le_refl _) (by omega) hts
    rw [show k+(d+1)=k+1+d by omega, ← h3,h1,h2]
    by_cases ht:touch (slotsE p.2.2.2) s
    · obtain ⟨hd,he⟩:=rd_of ht h4
      rw [hos k o ho] at hd
      rw [lkF_rd (hrd hd he) hcc]
    · rw [lkF_eff_ne ht]
/-- Head operations: what they look at was written before the region, or by one on which they wait, or is written by one that waits for them. -/
def headOKW (md:Region.Mode) (ops:Array Oper) (n:Nat):Bool :=
  (List.range n).all fun i=>match ops[i]? with
    | none=>false
    | some o =>
      (o.looksAt ops).all (fun t=>(List.range n).all fun j=>(dstOf ops j != some t) || (decide (j < i) && Region.waitsFor md ops i j) || (decide (i < j) && Region.waitsFor md ops j i)) &&
      (List.range i).all (fun j=>(dstOf ops j == none) || (dstOf ops j != dstOf ops i)) &&
      o.after.all (fun e => !Region.binds md e || decide (e.on < i))
def drawOKW (md:Region.Mode) (ops:Array Oper) (n:Nat):Bool :=
  decide (n≤ops.size) && headOKW md ops n && (decide (n=ops.size) || (Region.sinkB md ops n && Region.chainB md ops n)) &&
  Region.seqB md ops (ops.size - n) n (headList n (ops.size - n))
theorem seq_anyW {ops:Array Oper} {md:Region.Mode} (n:Nat) (hsl : ∀ d,(∃ j,j < n∧dstOf ops j=some d)→d < C.n) (hn:n≤ops.size) (hh:headOKW md ops n=true) (hsk:n=ops.size ∨ (Region.sinkB md ops n=true∧Region.chainB md ops n=true))
    (hseq:Region.seqB md ops (ops.size - n) n (headList n (ops.size - n))=true) {ts:List (Option Nat × Option Nat)} {F0:Fresh} (hchkW:chkW md ops n ts (F0.map (·.1))=true) (hnd:(F0.map (·.1)).Nodup) {l:List (Env × Fresh × Pr × Eff)} {Γ':Env} {F':Fresh} (hA:AlongW C.P ops Δ Γ F0 (ops.toList.take n) ts l Γ' F')
    (hT:Open F' Γ' Δ fun Γ'' Δ''=>Lq C Γ'' Δ'' ops (ops.toList.drop n) Q) :
    ∀ (m:Nat) (listed:Array Bool) (H:IH) (a:Act) (w:World),HeadInv md ops n listed→left n listed=m→HStW C Γ Δ ops n ts l F' listed H a w →
      wpAnyIn (fen C.ro) 0 C.P md ops Q (m+(ops.size - n)) listed a w:=by
  have hlen:(ops.toList.take n).length=n:=by simp;omega
  have hll:l.length=n:=hA.length.1.trans hlen
  have htl:ts.length=n:=hA.length.2.trans hlen
  have hget : ∀ i,i < n→(ops.toList.take n)[i]?=ops[i]?:=fun i hi=>by rw [List.getElem?_take,if_pos hi];simp
  have hchk : ∀ i,i < n → ∃ o,ops[i]?=some o∧(∀ t ∈ o.looksAt ops, ∀ j,j < n→dstOf ops j=some t→(j < i∧Region.waitsFor md ops i j=true) ∨ (i < j∧Region.waitsFor md ops j i=true))∧(∀ j,j < i→dstOf ops j ≠ none→dstOf ops j ≠ dstOf ops i)∧(∀ e ∈ o.after,Region.binds md e=true→e.on < i):=by
    intro i hi
    have h1:=List.all_eq_true.1 hh i (List.mem_range.2 hi)
    cases ho:ops[i]? with
    | none=>rw [ho] at h1;cases h1
    | some o =>
      rw [ho] at h1
      simp only [Bool.and_eq_true,List.all_eq_true,Bool.or_eq_true,bne_iff_ne,decide_eq_true_eq,beq_iff_eq,List.mem_range,Array.all_eq_true_iff_forall_mem] at h1
      obtain ⟨⟨h1,h2⟩,h3⟩:=h1
      refine ⟨o,rfl,fun t ht j hj hd=>?_,fun j hj hne he=>?_,fun e he hb=>?_⟩
      · rcases h1 t ht j hj with (h|h)|h
        · exact absurd hd h
        · exact .inl h
        · exact .inr h
      · rcases h2 j hj with h|h
        · exact hne h
        · exact h he
      · rcases h3 e he with h|h
        · rw [hb] at h;cases h
        · exact h
  have hdist : ∀ i j t,i < n→j < n→dstOf ops i=some t→dstOf ops j=some t→i=j:=by
    intro i j t hi hj h1 h2
    rcases Nat.lt_trichotomy i j with h|h|h
    · obtain ⟨o,_,_,hd,_⟩:=hchk j hj
      exact absurd (h1.trans h2.symm) (hd i h (by rw [h1];simp))
    · exact h
    · obtain ⟨o,_,_,hd,_⟩:=hchk i hi
      exact absurd (h2.trans h1.symm) (hd j h (by rw [h2];simp))
  have hgetD : ∀ {i:Nat} {t:Option Nat × Option Nat},ts[i]?=some t→ts.getD i (none,none)=t:=fun h=>by rw [List.getD_eq_getElem?_getD,h];rfl
  have hdso : ∀ i o,(ops.toList.take n)[i]?=some o→dstOf ops i=o.dst:=by
    intro i o hi
    have hin:i < n:=by rw [← hlen];exact (List.getElem?_eq_some_iff.1 hi).1
    rw [hget i hin] at hi
    unfold dstOf
    rw [hi];rfl
  -- one who touches a slot waits for the one that wrote it ahead
  have hchain : ∀ (j:Nat) (tj:Option Nat × Option Nat) (s:Nat),ts[j]?=some tj→touch tj s → ∀ (i:Nat) (ti:Option Nat × Option Nat),ts[i]?=some ti→wtch ops i ti s=true→i < j → ∃ (k:Nat) (tk:Option Nat × Option Nat),i≤k∧k < j∧ts[k]?=some tk∧wtch ops k tk s=true∧Region.waitsFor md ops j k=true:=by
    intro j tj s hj hts i ti hi hti hij
    have hjn:j < n:=by rw [← htl];exact (List.getElem?_eq_some_iff.1 hj).1
    have h1:=List.all_eq_true.1 hchkW j (List.mem_range.2 hjn)
    simp only [Bool.and_eq_true] at h1
    have h2:=List.all_eq_true.1 h1.1 s (by
      rw [hgetD hj]
      unfold slotsT
      rcases hts with h|h
      · rw [h];simp
      · rw [h];simp)
    have h3:=(Bool.and_eq_true _ _ ▸ List.all_eq_true.1 h2 i (List.mem_range.2 hij)).1
    rw [hgetD hi] at h3
    simp only [Bool.or_eq_true,Bool.not_eq_true',hti,Bool.true_eq_false,false_or] at h3
    obtain ⟨k,hk,h4⟩:=List.any_eq_true.1 h3
    simp only [Bool.and_eq_true] at h4
    have hkj:=List.mem_range.1 hk
    obtain ⟨tk,htk⟩ : ∃ t,ts[k]?=some t:=⟨_,List.getElem?_eq_getElem (by omega)⟩
    rw [hgetD htk] at h4
    exact ⟨k,tk,Nat.le_of_ble_eq_true h4.1,hkj,htk,h4.2.1,h4.2.2⟩
  have hread : ∀ (j:Nat) (tj:Option Nat × Option Nat) (s:Nat),ts[j]?=some tj→wtch ops j tj s=true → ∀ (i:Nat) (ti:Option Nat × Option Nat),ts[i]?=some ti→touch ti s→i < j → ∃ (k:Nat) (tk:Option Nat × Option Nat),i < k∧k≤j∧ts[k]?=some tk∧wtch ops k tk s=true∧Reach md ops k i:=by
    intro j tj s hj hts i ti hi hti hij
    have hjn:j < n:=by rw [← htl];exact (List.getElem?_eq_some_iff.1 hj).1
    have h1:=List.all_eq_true.1 hchkW j (List.mem_range.2 hjn)
    simp only [Bool.and_eq_true] at h1
    have h2:=List.all_eq_true.1 h1.1 s (by
      rw [hgetD hj]
      unfold slotsT
      rcases wtch_touch hts with h|h
      · rw [h];simp
      · rw [h];simp)
    have h3:=(Bool.and_eq_true _ _ ▸ List.all_eq_true.1 h2 i (List.mem_range.2 hij)).2
    rw [hgetD hi,hgetD hj] at h3
    simp only [Bool.or_eq_true,Bool.not_eq_true',hts,tch_iff.2 hti,Bool.and_self,Bool.true_eq_false,false_or] at h3
    obtain ⟨k,hk,h4⟩:=List.any_eq_true.1 h3
    simp only [Bool.and_eq_true] at h4
    have hkj:=List.mem_range.1 hk
    obtain ⟨tk,htk⟩ : ∃ t,ts[k]?=some t:=⟨_,List.getElem?_eq_getElem (by omega)⟩
    rw [hgetD htk] at h4
    exact ⟨k,tk,Nat.blt_eq.mp h4.1,by omega,htk,h4.2.1,ancs_reach n k i h4.2.2⟩
  have hclosed : ∀ (listed:Array Bool),HeadInv md ops n listed → ∀ (j:Nat) (tj:Option Nat × Option Nat) (s:Nat),ts[j]?=some tj→touch tj s→listed.getD j false=true → ∀ (i:Nat) (ti:Option Nat × Option Nat),ts[i]?=some ti→wtch ops i ti s=true→i < j→listed.getD i false=true:=by
    intro listed inv j
    induction j using Nat.strongRecOn with
    | _ j ih =>
      intro tj s hj hts hl i ti hi hti hij
      obtain ⟨k,tk,hik,hkj,htk,htks,hw⟩:=hchain j tj s hj hts i ti hi hti hij
      obtain ⟨oj,hoj,e,he,hb,hon⟩:=Region.waitsFor_spec hw
      have hk:=inv.closed j oj hoj hl e he hb
      rw [hon] at hk
      rcases Nat.lt_or_ge i k with h|h
      · exact ih k hkj tk s htk (wtch_touch htks) hk i ti hi hti h
      · obtain rfl:i=k:=by omega
        exact hk
  have hbefore : ∀ (listed:Array Bool),HeadInv md ops n listed → ∀ (j:Nat) (tj:Option Nat × Option Nat) (s:Nat),ts[j]?=some tj→wtch ops j tj s=true→listed.getD j false=true → ∀ (i:Nat) (ti:Option Nat × Option Nat),ts[i]?=some ti→touch ti s→i < j→listed.getD i false=true:=by
    intro listed inv j tj s hj hts hl i ti hi hti hij
    obtain ⟨k,tk,hik,hkj,htk,htks,hw⟩:=hread j tj s hj hts i ti hi hti hij
    have hlk:listed.getD k false=true:=by
      rcases Nat.lt_or_ge k j with h|h
      · exact hclosed listed inv j tj s hj (wtch_touch hts) hl k tk htk htks h
      · obtain rfl:k=j:=by omega
        exact hl
    exact hw.listed inv hlk
  have hdst : ∀ (j d s:Nat) (tj:Option Nat × Option Nat),j < n→dstOf ops j=some d→ts[j]?=some tj→(s=d)→((∃ (i:Nat) (t:Option Nat × Option Nat),ts[i]?=some t∧touch t s) ∨ s ∈ F0.map (·.1))→touch tj s:=by
    intro j d s tj hj hd htj hsd hx
    subst hsd
    have h1:=List.all_eq_true.1 hchkW j (List.mem_range.2 hj)
    simp only [Bool.and_eq_true] at h1
    have h2:=h1.2
    rw [hd,hgetD htj] at h2
    have hany:((F0.map (·.1)).any (Nat.beq s) || ts.any fun t=>tch t s)=true:=by
      rcases hx with ⟨i,t,hi,ht⟩|hx
      · rw [Bool.or_eq_true]
        exact .inr (List.any_eq_true.2 ⟨t,List.mem_of_getElem? hi,tch_iff.2 ht⟩)
      · rw [Bool.or_eq_true]
        exact .inl (List.any_eq_true.2 ⟨s,hx,Nat.beq_refl s⟩)
    simp only [hany,Bool.not_true,Bool.false_or,Bool.and_eq_true] at h2
    replace h2:=h2.2
    cases hp:tj.2 with
    | none=>rw [hp] at h2;cases h2
    | some p =>
      rw [hp] at h2
      have:=Nat.eq_of_beq_eq_true h2
      subst this
      exact .inr hp
  have hkey : ∀ k s R,k≤n→lkF (atF l F' k) s=some R→(∃ (i:Nat) (t:Option Nat × Option Nat),ts[i]?=some t∧touch t s) ∨ s ∈ F0.map (·.1):=by
    intro k s R hk hR
    by_cases h : ∃ (i:Nat) (t:Option Nat × Option Nat),ts[i]?=some t∧touch t s
    · exact .inl h
    · have:=constF hdso hA (s:=s) k 0 (by rw [hlen];omega) (fun i t _ _ hi=>by
        cases hw:wtch ops i t s with
        | false=>rfl
        | true=>exact absurd ⟨i,t,hi,wtch_touch hw⟩ h)
      rw [Nat.zero_add,hA.stepF.1] at this
      rw [← this] at hR
      exact .inr (lkF_key hR)
  have hmeet : ∀ (i:Nat) (Γi:Env),i≤n→((∃ φ,l[i]?=some (Γi,φ)) ∨ (i=n∧Γi=Γ')) → ∀ (listed:Array Bool) H a w,HStW C Γ Δ ops n ts l F' listed H a w → ∀ t ψ,look Γi t=some ψ →
      (∀ j,j < n→dstOf ops j=some t→(j < i∧listed.getD j false=true) ∨ (i≤j∧listed.getD j false=false)) → ∃ v,a.tmps[t]?=some v∧ψ.h H v:=by
    intro i Γi hin hΓ listed H a w S t ψ hψ hj
    obtain ⟨h1,h2⟩:=hA.look i Γi (by rw [hlen];exact hΓ) t
    by_cases hex : ∃ j,j < i∧dstOf ops j=some t
    · obtain ⟨j,hji',hd⟩:=hex
      have hjn:j < n:=by omega
      obtain ⟨hji,hl⟩:j < i∧listed.getD j false=true:=by
        rcases hj j hjn hd with h|h
        · exact h
        · omega
      obtain ⟨o,ho,_⟩:=hchk j hjn
      have hod:o.dst=some t:=by unfold dstOf at hd;rw [ho] at hd;exact hd
      obtain ⟨p,hp,_⟩:=hA.get j o (by rw [hget j hjn];exact ho)
      have:=h2 j o p hji (by rw [hget j hjn];exact ho) hp hod (fun j' o' hj' hj2 ho' he=>by
        have hj'n:j' < n:=by omega
        rw [hget j' hj'n] at ho'
        have:=hdist j j' t hjn hj'n hd (by unfold dstOf;rw [ho'];exact he)
        omega)
      rw [this] at hψ
      injection hψ with hψ
      subst hψ
      exact S.done j t p hjn hl hd hp
    · have hno : ∀ j,j < n→listed.getD j false=true→dstOf ops j ≠ some t:=fun j hjn hl hd=>by
        rcases hj j hjn hd with h|h
        · exact hex ⟨j,h.1,hd⟩
        · rw [h.2] at hl;cases hl
      rw [h1 (fun j o hji ho he=>by
        have hjn:j < n:=by omega
        rw [hget j hjn] at ho
        exact hex ⟨j,hji,by unfold dstOf;rw [ho];exact he⟩)] at hψ
      exact S.base t ψ hψ hno
  intro m
  induction m with
  | zero =>
    intro listed H a w inv hm S
    have hall:=left_zero hm
    have hl:listed=headList n (ops.size - n):=by
      apply Array.ext
      · rw [inv.size];simp [headList];omega
      · intro i h1 h2
        by_cases hin:i < n
        · have:=hall i hin
          simp [h1] at this
          rw [this]
          simp [headList,Array.getElem_append,hin]
        · have:=inv.tail i (by omega) (by rw [← inv.size];exact h1)
          simp [h1] at this
          rw [this]
          simp [headList,Array.getElem_append,hin]
    rw [Nat.zero_add]
    have hdl:(ops.toList.drop n).length=ops.size - n:=by simp
    have S1:St C Γ' Δ H a w:=S.st.weak fun t φ ht=>hmeet n Γ' (Nat.le_refl _) (.inr ⟨rfl,rfl⟩) _ H a w S t φ ht (fun j hj _ => .inl ⟨hj,hall j hj⟩)
    have hcut : ∀ s,cutW ops n ts listed n s:=fun s=>⟨Nat.le_refl _,fun i t hi _=>by
      have hin:i < n:=by rw [← htl];exact (List.getElem?_eq_some_iff.1 hi).1
      exact ⟨fun _=>hin,fun _=>hall i hin⟩⟩
    have hF:atF l F' n=F':=by unfold atF;rw [List.getElem?_eq_none (by omega)]
    have hkeys:=hA.keys hnd
    have hval : ∀ x ∈ F', ∃ v,a.tmps[x.1]?=some v∧(a.tmps[x.1]?).getD undef=v∧(x.2 v).ok H w ∧ ∀ b,(x.2 v).blk=some b→b < w.heap.size∧(b ∈ C.X ∨ C.w0.heap.size≤b)∧b ∉ Δ.filterMap Res.blk:=by
      intro x hx
      obtain ⟨v,e1,e2,e3⟩:=S.items n x.1 x.2 (hcut _) (by rw [hF];exact lkF_mem hkeys hx)
      exact ⟨v,e1,by rw [e1];rfl,e2,e3⟩
    have hmap:(F'.map fun x=>(x,(a.tmps[x.1]?).getD undef)).map (·.1)=F':=by rw [List.map_map];exact List.map_id _
    rw [← hmap] at hT
    obtain ⟨Γ2,Δ2,hT2,S2⟩:=Open.stX (C:=C) (H:=H) (a:=a) (w:=w) (F'.map fun x=>(x,(a.tmps[x.1]?).getD undef)) Γ' Δ hT S1 (by
      intro y hy
      obtain ⟨x,hx,rfl⟩:=List.mem_map.1 hy
      obtain ⟨v,e1,e2,e3,e4⟩:=hval x hx
      simp only [e2]
      exact ⟨e1,e3,e4⟩) (by
      rw [List.Nodup,List.pairwise_filterMap,List.pairwise_map]
      rw [List.Nodup,List.pairwise_map] at hkeys
      refine List.Pairwise.imp_of_mem ?_ hkeys
      intro x y hx hy hne b hb b' hb' he
      subst he
      obtain ⟨v,e1,e2,_⟩:=hval x hx
      obtain ⟨u,f1,f2,_⟩:=hval y hy
      simp only [e2] at hb
      simp only [f2] at hb'
      have hk2:=hA.keys hnd
      exact hne (S.dist n x.1 x.2 n y.1 y.2 v u b (hcut _) (hcut _) (by rw [hF];exact lkF_mem hk2 hx) (by rw [hF];exact lkF_mem hk2 hy) e1 f1 hb hb'))
    subst hl
    rw [← hdl]
    exact wpAnyIn_of_seq (ops.toList.drop n) n _ a w (fun j=>by simp [List.getElem?_drop]) (by rw [hdl];exact hseq) (hT2 H a w S2)
  | succ m ih =>
    intro listed H a w inv hm S
    obtain ⟨i0,hi0,hf0,hmin⟩:=left_pos (n:=n) (listed:=listed) (by omega)
    have hsz : ∀ i,i < n→i < listed.size:=fun i hi=>by rw [inv.size];omega
    have hr0:i0 ∈ Region.ready md ops listed:=by
      obtain ⟨o,ho,_,_,hback⟩:=hchk i0 hi0
      exact mem_ready.2 ⟨by rw [getD_flip (hsz i0 hi0)];exact hf0,o,ho,fun e he hb=>hmin e.on (hback e he hb)⟩
    rw [show m+1+(ops.size - n)=(m+(ops.size - n))+1 by omega]
    refine ⟨fun h=>(by rw [h] at hr0;cases hr0),fun i hi=>?_⟩
    have hin:i < n:=by
      rcases hsk with h|⟨hs,hc⟩
      · obtain ⟨_,o,ho,_⟩:=mem_ready.1 hi
        have:=(Array.getElem?_eq_some_iff.1 ho).1
        omega
      · rcases Nat.lt_or_ge i n with h|h
        · exact h
        · have hns:n < ops.size:=by
            obtain ⟨_,o,ho,_⟩:=mem_ready.1 hi
            have:=(Array.getElem?_eq_some_iff.1 ho).1
            omega
          exact absurd hi (tail_waits hs hc hns inv _ i0 rfl hi0 (by rw [getD_flip (hsz i0 hi0)];exact hf0) i h)
    obtain ⟨hun,o,ho,hedges⟩:=mem_ready.1 hi
    have hunf:listed.getD i false=false:=by rw [← getD_flip (hsz i hin)];exact hun
    obtain ⟨o',ho',hlk,_,_⟩:=hchk i hin
    have:o'=o:=Option.some.inj (ho'.symm.trans ho)
    subst this
    obtain ⟨⟨Γi,Fi,φ,ef⟩,hp,hg,hti,hci,hrd⟩:=hA.get i o' (by rw [hget i hin];exact ho)
    have hti:ts[i]?=some (slotsE ef):=hti
    have hci : ∀ s R,ef.cons=some (s,R)→lkF Fi s=some R:=hci
    have hrd:o'.dst ≠ none→(slotsE ef).1=(slotsE ef).2→ef.cons=ef.prod:=hrd
    have hFi:atF l F' i=Fi:=by unfold atF;rw [hp]
    have hFi1:atF l F' (i+1)=effF Fi ef:=hA.stepF.2 i _ hp
    have hdi:dstOf ops i=o'.dst:=by unfold dstOf;rw [ho];rfl
    have hlisted : ∀ t ∈ o'.looksAt ops, ∀ j,j < n→dstOf ops j=some t→(j < i∧listed.getD j false=true) ∨ (i≤j∧listed.getD j false=false):=by
      intro t ht j hj hd
      rcases hlk t ht j hj hd with ⟨h1,h2⟩|⟨h1,h2⟩
      · obtain ⟨oj,hoj,e,he,hb,hon⟩:=Region.waitsFor_spec h2
        have:oj=o':=Option.some.inj (hoj.symm.trans ho)
        subst this
        have:=hedges e he hb
        rw [hon] at this
        exact .inl ⟨h1,this⟩
      · refine .inr ⟨Nat.le_of_lt h1,?_⟩
        obtain ⟨oj,hoj,e,he,hb,hon⟩:=Region.waitsFor_spec h2
        cases hl:listed.getD j false with
        | false=>rfl
        | true =>
          have:=inv.closed j oj hoj hl e he hb
          rw [hon,hunf] at this;cases this
    have hops : ∀ x ∈ o'.op.operands, ∀ ψ,opd Γi x=some ψ→ψ.h H (a.eval x):=fun x hx ψ hψ=>by
      cases x with
      | tmp t =>
        obtain ⟨v,hv,hψ⟩:=hmeet i Γi (Nat.le_of_lt hin) (.inl ⟨_,hp⟩) listed H a w S t ψ hψ (hlisted t (List.mem_append_left _ (List.mem_filterMap.2 ⟨.tmp t,by simpa using hx,rfl⟩)))
        have:a.eval (.tmp t)=v:=by simp [Act.eval,hv]
        rw [this];exact hψ
      | const v=>injection hψ with hψ;subst hψ;exact rfl
      | global g=>injection hψ with hψ;subst hψ;exact rfl
      | func f=>injection hψ with hψ;subst hψ;exact rfl
    -- the cut of a slot that this one touches
    have hcuti : ∀ s,touch (slotsE ef) s→cutW ops n ts listed i s:=by
      intro s hs
      refine ⟨Nat.le_of_lt hin,fun j t hj ht=>?_⟩
      rcases Nat.lt_trichotomy j i with h|h|h
      · refine ⟨fun _=>h,fun _=>?_⟩
        obtain ⟨k,tk,hjk,hki,htk,htks,hw⟩:=hchain i _ s hti hs j t hj ht h
        obtain ⟨oj,hoj,e,he,hb,hon⟩:=Region.waitsFor_spec hw
        have:oj=o':=Option.some.inj (hoj.symm.trans ho)
        subst this
        have hk:=hedges e he hb
        rw [hon] at hk
        rcases Nat.lt_or_ge j k with h'|h'
        · exact hclosed listed inv k tk s htk (wtch_touch htks) hk j t hj ht h'
        · obtain rfl:j=k:=by omega
          exact hk
      · subst h
        rw [hunf]
        exact ⟨fun h=>(by cases h),fun h=>absurd h (Nat.lt_irrefl _)⟩
      · refine ⟨fun hl=>?_,fun h'=>by omega⟩
        have:=hbefore listed inv j t s hj ht hl i _ hti hs h
        rw [hunf] at this;cases this
    have hitem : ∀ s R,ef.cons=some (s,R) → ∃ u,a.tmps[s]?=some u∧(R u).ok H w ∧ ∀ b,(R u).blk=some b→b < w.heap.size∧(b ∈ C.X ∨ C.w0.heap.size≤b)∧b ∉ Δ.filterMap Res.blk :=
      fun s R hc=>S.items i s R (hcuti s (.inl (by unfold slotsE;rw [hc];rfl))) (by rw [hFi];exact hci s R hc)
    have htakes : ∀ b,takesB ef.cons a b→(b < w.heap.size∧(b ∈ C.X ∨ C.w0.heap.size≤b)∧b ∉ Δ.filterMap Res.blk) ∧ ∃ s R u,ef.cons=some (s,R)∧a.tmps[s]?=some u∧(R u).blk=some b:=by
      rintro b ⟨s,R,u,hc,hu,hb⟩
      obtain ⟨u',hu',_,h3⟩:=hitem s R hc
      rw [hu] at hu'
      injection hu' with hu'
      subst hu'
      exact ⟨h3 b hb,s,R,u,hc,hu,hb⟩
    have hnext : ∀ (v:Value) (H':IH) (w':World),IH.le H H'→(∀ b o,b < w.heap.size → ¬ takesB ef.cons a b→H' b o=H b o)→Sat H' w'→w'.os=w.os→w'.tape=w.tape→w'.output=w.output→w.heap.size≤w'.heap.size →
        (∀ k,k < w.heap.size → ¬ takesB ef.cons a k→w'.heap[k]?=w.heap[k]?)→φ.h H' v →
        (∀ p R,ef.prod=some (p,R) → ∃ u,(a.put o'.dst v).tmps[p]?=some u∧(R u).ok H' w' ∧ ∀ b,(R u).blk=some b→takesB ef.cons a b ∨ (w.heap.size≤b∧b < w'.heap.size)) →
        wpAnyIn (fen C.ro) 0 C.P md ops Q (m+(ops.size - n)) (listed.setIfInBounds i true) (a.put o'.dst v) w':=by
      intro v H' w' hle hH hsat hos htp hout hsize hblk hv hprod
      refine ih (listed.setIfInBounds i true) H' _ w' (inv.set hi hin) ?_ ?_
      · have:=left_set hin (hsz i hin) hunf
        omega
      have hold : ∀ j,j ≠ i→(listed.setIfInBounds i true).getD j false=listed.getD j false:=fun j hji=>getD_set_ne false (Ne.symm hji)
      have hnew:(listed.setIfInBounds i true).getD i false=true:=by
        have:=hsz i hin
        simp [this]
      have hkeep : ∀ t,o'.dst ≠ some t→(a.put o'.dst v).tmps[t]?=a.tmps[t]?:=by
        intro t hne
        cases hdd:o'.dst with
        | none=>rfl
        | some d =>
          have hne:d ≠ t:=fun e=>hne (by rw [hdd,e])
          simp [Act.put,Array.getElem?_setIfInBounds_ne hne]
      have hself : ∀ t,o'.dst=some t→(a.put o'.dst v).tmps[t]?=some v:=by
        intro t hd
        have hlt:=hsl t ⟨i,hin,by rw [hdi];exact hd⟩
        rw [← S.st.siz] at hlt
        rw [hd]
        simp [Act.put,hlt]
      have hΔ : ∀ b ∈ Δ.filterMap Res.blk,b < w.heap.size ∧ ¬ takesB ef.cons a b:=fun b hb=>⟨(S.st.own b hb).1,fun ht=>(htakes b ht).1.2.2 hb⟩
      -- the owned things behind it: the one that it yields, or one that was
      have hcase : ∀ k s R,cutW ops n ts (listed.setIfInBounds i true) k s→lkF (atF l F' k) s=some R→(touch (slotsE ef) s∧ef.prod=some (s,R)) ∨ (¬ touch (slotsE ef) s∧cutW ops n ts listed k s∧o'.dst ≠ some s):=by
        intro k s R hcut hR
        by_cases ht:touch (slotsE ef) s
        · refine .inl ⟨ht,?_⟩
          cases hwt:wtch ops i (slotsE ef) s with
          | false =>
            obtain ⟨hd,he⟩:=rd_of ht hwt
            rw [hdi] at hd
            have heq:=hrd hd he
            have hck:cutW ops n ts listed k s:=⟨hcut.1,fun j t hj htj=>by
              have hji:j ≠ i:=fun e=>by
                subst e
                rw [hti] at hj
                injection hj with hj
                rw [← hj,hwt] at htj;cases htj
              rw [← hold j hji]
              exact hcut.2 j t hj htj⟩
            have hci0:=hcuti s ht
            have hsame:lkF (atF l F' i) s=lkF (atF l F' k) s:=by
              rcases Nat.le_total i k with h|h
              · have:=constF hdso hA (s:=s) (k - i) i (by rw [hlen];have:=hcut.1;omega) (fun j t hj1 hj2 hj=>by
                  cases hw:wtch ops j t s with
                  | false=>rfl
                  | true =>
                    have e1:=(hck.2 j t hj hw).2 (by omega)
                    have e2:=(hci0.2 j t hj hw).1 e1
                    omega)
                rwa [show i+(k - i)=k by omega] at this
              · have:=constF hdso hA (s:=s) (i - k) k (by rw [hlen];omega) (fun j t hj1 hj2 hj=>by
                  cases hw:wtch ops j t s with
                  | false=>rfl
                  | true =>
                    have e1:=(hci0.2 j t hj hw).2 (by omega)
                    have e2:=(hck.2 j t hj hw).1 e1
                    omega)
                rw [show k+(i - k)=i by omega] at this
                exact this.symm
            rw [← hsame,hFi] at hR
            rw [← heq]
            cases hcc:ef.cons with
            | none =>
              have:touch (none,none) s:=by
                have ht':=ht
                unfold slotsE at ht'
                rw [← heq,hcc] at ht'
                exact ht'
              rcases this with h|h <;> cases h
            | some x =>
              obtain ⟨s1,R1⟩:=x
              have h1:=hci s1 R1 hcc
              have:s1=s:=by
                unfold slotsE at ht
                rw [← heq,hcc] at ht
                rcases ht with h|h <;> exact Option.some.inj h
              subst this
              rw [h1] at hR
              injection hR with hR
              rw [hR]
          | true =>
          have hik:i < k:=(hcut.2 i _ hti hwt).1 hnew
          have hcst:=constF hdso hA (s:=s) (k - (i+1)) (i+1) (by rw [hlen];have:=hcut.1;omega) (fun j t hj1 hj2 hj=>by
            cases htj:wtch ops j t s with
            | false=>rfl
            | true =>
            have hlj:=(hcut.2 j t hj htj).2 (by omega)
            rw [hold j (by omega)] at hlj
            have:=hbefore listed inv j t s hj htj hlj i _ hti ht (by omega)
            rw [hunf] at this;cases this)
          rw [show i+1+(k - (i+1))=k by omega,hFi1] at hcst
          rw [← hcst] at hR
          cases hpr:ef.prod with
          | none =>
            have hc1:ef.cons.map (·.1)=some s:=by
              rcases ht with h|h
              · exact h
              · unfold slotsE at h
                rw [hpr] at h;cases h
            rw [lkF_eff_cons hc1 (by rw [hpr];intro h;cases h)] at hR
            cases hR
          | some x =>
            obtain ⟨p,R'⟩:=x
            by_cases hps:p=s
            · subst hps
              rw [lkF_eff_prod hpr] at hR
              injection hR with hR
              rw [hR]
            · have hc1:ef.cons.map (·.1)=some s:=by
                rcases ht with h|h
                · exact h
                · unfold slotsE at h
                  rw [hpr] at h
                  exact absurd (Option.some.inj h) hps
              rw [lkF_eff_cons hc1 (by rw [hpr];intro h;exact hps (Option.some.inj h))] at hR
              cases hR
        · refine .inr ⟨ht,⟨hcut.1,fun j t hj htj=>?_⟩,fun hd=>?_⟩
          · have hji:j ≠ i:=fun e=>by
              subst e
              rw [hti] at hj
              injection hj with hj
              exact ht (hj ▸ wtch_touch htj)
            rw [← hold j hji]
            exact hcut.2 j t hj htj
          · exact ht (hdst i s s _ hin (by rw [hdi];exact hd) hti rfl (hkey k s R hcut.1 hR))
      refine ⟨⟨(by have:=S.st.dfr;cases hdd:o'.dst <;> exact this),?_,fun t ψ ht=>(by cases ht),hsat,fun r hr=>?_,S.st.dis,fun b hb=>⟨Nat.lt_of_lt_of_le (S.st.own b hb).1 hsize,(S.st.own b hb).2⟩,IH.le_trans S.st.le hle,?_,?_⟩,?_,?_,?_,?_⟩
      · have:=S.st.siz
        cases hdd:o'.dst with
        | none=>exact this
        | some d=>simpa [Act.put] using this
      · refine r.st hle (fun b hb=>?_) (S.st.res r hr)
        obtain ⟨h1,h2⟩:=hΔ b (List.mem_filterMap.2 ⟨r,hr,hb⟩)
        exact ⟨hblk b h1 h2,fun o=>hH b o h1 h2⟩
      · refine ⟨hos.trans S.st.fr.os,htp.trans S.st.fr.tape,hout.trans S.st.fr.output,Nat.le_trans S.st.fr.size hsize,fun k hk hX=>?_⟩
        rw [hblk k (Nat.lt_of_lt_of_le hk S.st.fr.size) (fun ht=>by
          rcases (htakes k ht).1.2.1 with h|h
          · exact hX h
          · omega)]
        exact S.st.fr.block k hk hX
      · intro b o hb hX
        rw [hH b o (Nat.lt_of_lt_of_le hb S.st.fr.size) (fun ht=>by
          rcases (htakes b ht).1.2.1 with h|h
          · exact hX h
          · omega)]
        exact S.st.hk b o hb hX
      · intro t ψ ht hno
        obtain ⟨u,hu,hψ⟩:=S.base t ψ ht (fun j hj hl=>hno j hj (by
          by_cases hji:j=i
          · subst hji;exact hnew
          · rw [hold j hji];exact hl))
        exact ⟨u,by rw [hkeep t (fun hd=>hno i hin hnew (by rw [hdi];exact hd))];exact hu,ψ.mono hle hψ⟩
      · intro j t p hj hl hdj hpj
        by_cases hji:j=i
        · subst hji
          rw [hp] at hpj
          injection hpj with hpj
          subst hpj
          exact ⟨v,hself t (by rw [← hdi];exact hdj),hv⟩
        · rw [hold j hji] at hl
          obtain ⟨u,hu,hψ⟩:=S.done j t p hj hl hdj hpj
          exact ⟨u,by rw [hkeep t (fun hd=>hji (hdist j i t hj hin hdj (by rw [hdi];exact hd)))];exact hu,p.2.2.1.mono hle hψ⟩
      · intro k s R hcut hR
        rcases hcase k s R hcut hR with ⟨ht,hpr⟩|⟨ht,hcut0,hd⟩
        · obtain ⟨u,hu,hok,hb⟩:=hprod s R hpr
          refine ⟨u,hu,hok,fun b hbb=>?_⟩
          rcases hb b hbb with h|⟨h1,h2⟩
          · obtain ⟨⟨k1,k2,k3⟩,_⟩:=htakes b h
            exact ⟨Nat.lt_of_lt_of_le k1 hsize,k2,k3⟩
          · refine ⟨h2, .inr (Nat.le_trans S.st.fr.size h1),fun hm=>?_⟩
            have:=(S.st.own b hm).1
            omega
        · obtain ⟨u,hu,hok,hb⟩:=S.items k s R hcut0 hR
          refine ⟨u,by rw [hkeep s hd];exact hu,(R u).st hle (fun b hbb=>?_) hok,fun b hbb=>⟨Nat.lt_of_lt_of_le (hb b hbb).1 hsize,(hb b hbb).2⟩⟩
          have hnt : ¬ takesB ef.cons a b:=fun htk=>by
            obtain ⟨_,s0,R0,u0,hc0,hu0,hb0⟩:=htakes b htk
            have hts0:touch (slotsE ef) s0 := .inl (by unfold slotsE;rw [hc0];rfl)
            have:=S.dist i s0 R0 k s R u0 u b (hcuti s0 hts0) hcut0 (by rw [hFi];exact hci s0 R0 hc0) hR hu0 hu hb0 hbb
            subst this
            exact ht hts0
          exact ⟨hblk b (hb b hbb).1 hnt,fun o=>hH b o (hb b hbb).1 hnt⟩
      · intro k s R k' s' R' u u' b hcut hcut' hR hR' hu hu' hb hb'
        have hnewb : ∀ s R u,ef.prod=some (s,R)→(a.put o'.dst v).tmps[s]?=some u→(R u).blk=some b→takesB ef.cons a b ∨ w.heap.size≤b:=by
          intro s R u hpr hu hb
          obtain ⟨u0,hu0,_,h3⟩:=hprod s R hpr
          rw [hu] at hu0
          injection hu0 with hu0
          subst hu0
          rcases h3 b hb with h|h
          · exact .inl h
          · exact .inr h.1
        have hoff : ∀ k s R u, ¬ touch (slotsE ef) s→cutW ops n ts listed k s→lkF (atF l F' k) s=some R→a.tmps[s]?=some u→(R u).blk=some b → ¬ takesB ef.cons a b∧b < w.heap.size:=by
          intro k s R u ht hcut0 hR hu hb
          refine ⟨fun htk=>?_,?_⟩
          · obtain ⟨_,s0,R0,u0,hc0,hu0,hb0⟩:=htakes b htk
            have hts0:touch (slotsE ef) s0 := .inl (by unfold slotsE;rw [hc0];rfl)
            have:=S.dist i s0 R0 k s R u0 u b (hcuti s0 hts0) hcut0 (by rw [hFi];exact hci s0 R0 hc0) hR hu0 hu hb0 hb
            subst this
            exact ht hts0
          · obtain ⟨u1,hu1,_,h3⟩:=S.items k s R hcut0 hR
            rw [hu] at hu1
            injection hu1 with hu1
            subst hu1
            exact (h3 b hb).1
        rcases hcase k s R hcut hR with ⟨ht,hpr⟩|⟨ht,hcut0,hd⟩
        · rcases hcase k' s' R' hcut' hR' with ⟨ht',hpr'⟩|⟨ht',hcut0',hd'⟩
          · rw [hpr] at hpr'
            injection hpr' with hpr'
            injection hpr' with hpr'
          · rw [hkeep s' hd'] at hu'
            obtain ⟨h1,h2⟩:=hoff k' s' R' u' ht' hcut0' hR' hu' hb'
            rcases hnewb s R u hpr hu hb with h|h
            · exact absurd h h1
            · omega
        · rw [hkeep s hd] at hu
          rcases hcase k' s' R' hcut' hR' with ⟨ht',hpr'⟩|⟨ht',hcut0',hd'⟩
          · obtain ⟨h1,h2⟩:=hoff k s R u ht hcut0 hR hu hb
            rcases hnewb s' R' u' hpr' hu' hb' with h|h
            · exact absurd h h1
            · omega
          · rw [hkeep s' hd'] at hu'
            exact S.dist k s R k' s' R' u u' b hcut0 hcut0' hR hR' hu hu' hb hb'
    unfold wpOpIn
    simp only [ho]
    cases hg with
    | g hg =>
      have hstep:=hg.step (H:=H) (a:=a) (w:=w) (Q:=Q) (K:=wpAnyIn (fen C.ro) 0 C.P md ops Q (m+(ops.size - n)) (listed.setIfInBounds i true))
        hops
        (fun j want g ψ hgd hgs hl=>hmeet i Γi (Nat.le_of_lt hin) (.inl ⟨_,hp⟩) listed H a w S g ψ hl (hlisted g (List.mem_append_right _ (by
          have e1:(ops[j]?).bind (·.dst)=some g:=hgs
          simp [hgd,e1]))))
        S.st.sat S.st.res (fun b hb=>(S.st.own b hb).1)
        (fun v H' w' E hv=>hnext v H' w' E.le (fun b o hb _=>E.old b o hb) E.sat E.fr.os E.fr.tape E.fr.output E.fr.size (fun k hk _=>E.fr.block k hk (by simp)) hv (fun p R h=>by cases h))
      have hnd:=hg.step (H:=H) (a:=a) (w:=w) (Q:=fun _ _ _=>False) (K:=fun a' _=>a'.defers=a.defers)
        hops
        (fun j want g ψ hgd hgs hl=>hmeet i Γi (Nat.le_of_lt hin) (.inl ⟨_,hp⟩) listed H a w S g ψ hl (hlisted g (List.mem_append_right _ (by
          have e1:(ops[j]?).bind (·.dst)=some g:=hgs
          simp [hgd,e1]))))
        S.st.sat S.st.res (fun b hb=>(S.st.own b hb).1) (fun v H' w' E hv=>put_defers _ _ _)
      split
      · rename_i hw
        rw [if_pos hw] at hstep hnd
        exact wpIn_fen (not_defer hnd) hstep
      · rename_i hw
        rw [if_neg hw] at hstep
        exact ⟨fun _ _=>trivial,hstep⟩
    | e _ hgd hE =>
      rw [if_pos (by simp [Region.wanted,hgd])]
      refine wpIn_fen (not_defer (hE H a w _ _ hops S.st.sat S.st.res (fun b hb=>(S.st.own b hb).1) (fun d hd=>by rw [S.st.siz];exact hsl d ⟨i,hin,by rw [hdi];exact hd⟩)
        (fun s R hc=>let ⟨u,h1,h2,h3⟩:=hitem s R hc;⟨u,h1,h2,fun b hb=>(h3 b hb).1⟩) (fun v H' w' _ _ _ _ _ _ _ _ _ _=>put_defers _ _ _))) ?_
      exact hE H a w _ _ hops S.st.sat S.st.res (fun b hb=>(S.st.own b hb).1) (fun d hd=>by rw [S.st.siz];exact hsl d ⟨i,hin,by rw [hdi];exact hd⟩)
        (fun s R hc=>let ⟨u,h1,h2,h3⟩:=hitem s R hc;⟨u,h1,h2,fun b hb=>(h3 b hb).1⟩)
        (fun v H' w' h1 h2 h3 h4 h5 h6 h7 h8 h9 h10=>hnext v H' w' h1 h2 h3 h4 h5 h6 h7 h8 h9 h10)
end
end Go.Proofs.YtljbbajelkkafaaDoor.L
