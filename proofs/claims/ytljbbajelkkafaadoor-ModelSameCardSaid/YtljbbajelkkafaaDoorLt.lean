/-
  Regions whose operations come in any order,some of which act,one behind the other,on all that is owned.
-/
import Derived.Test.YtljbbajelkkafaaDoorLs
set_option linter.unusedVariables false
set_option linter.unusedSimpArgs false
namespace Go.Proofs.YtljbbajelkkafaaDoor.L
open Go
set_option linter.unusedSectionVars false
variable [Globs]
/-- All that is owned: one of these ways. -/
abbrev VS:=List Res→Prop
/-- An operation that acts on all that is owned. -/
def OpV (P:Program) (Γ:Env) (V:VS) (o:Oper) (φ:Pr) (V':VS):Prop :=
  ∀ (Δ:List Res) (H:IH) (a:Act) (w:World) (Q:Exit→Act→World→Prop) (K:Act→World→Prop),V Δ →
    (∀ x ∈ o.op.operands, ∀ ψ,opd Γ x=some ψ→ψ.h H (a.eval x))→Sat H w→(∀ r ∈ Δ,r.ok H w)→(blks Δ).Nodup→(∀ b ∈ blks Δ,b < w.heap.size) →
    (∀ v H' w' Δ',V' Δ'→Sat H' w'→(∀ r ∈ Δ',r.ok H' w')→(blks Δ').Nodup→(∀ b ∈ blks Δ',b < w'.heap.size∧(b ∈ blks Δ ∨ w.heap.size≤b))→IH.le H H'→Fr (blks Δ) w w' →
      (∀ b o,b < w.heap.size→b ∉ blks Δ→H' b o=H b o)→φ.h H' v→K (a.put o.dst v) w')→o.wp P a w K Q
inductive StpV (P:Program) (ops:Array Oper) (Γ:Env) (V:VS) (o:Oper):Pr→VS→Bool→Prop
  | p (φ:Pr) (h:OpG P ops Γ [] o φ):StpV P ops Γ V o φ V false
  | e (φ:Pr) (V':VS) (hg:o.guard=none) (h:OpV P Γ V o φ V'):StpV P ops Γ V o φ V' true
  | r (φ:Pr) (V':VS) (j:Nat) (want:Bool) (g:Nat) (hg:o.guard=some (j,want)) (hj:gslot ops j=some g) (hl:look Γ g=some (is (.bool want))) (h:OpV P Γ V o φ V'):StpV P ops Γ V o φ V' true
/-- Along a head. -/
def PRunV (P:Program) (ops:Array Oper):List Oper→List Bool→Env→VS→(Env→VS→Prop)→Prop
  | [],[],Γ,V,K=>K Γ V
  | o::os,k::ks,Γ,V,K => ∃ φ V',StpV P ops Γ V o φ V' k∧PRunV P ops os ks (putΓ Γ o.dst φ) V' K
  | _,_,_,_,_=>False
inductive AlongV (P:Program) (ops:Array Oper):Env→VS→List Oper→List Bool→List (Env × VS × Pr)→Env→VS→Prop
  | nil (Γ:Env) (V:VS):AlongV P ops Γ V [] [] [] Γ V
  | cons (Γ:Env) (V:VS) (o:Oper) (os:List Oper) (k:Bool) (ks:List Bool) (φ:Pr) (V1:VS) (l:List (Env × VS × Pr)) (Γ':Env) (V':VS) (h:StpV P ops Γ V o φ V1 k) (r:AlongV P ops (putΓ Γ o.dst φ) V1 os ks l Γ' V'):AlongV P ops Γ V (o::os) (k::ks) ((Γ,V,φ)::l) Γ' V'
theorem PRunV.along {P:Program} {ops:Array Oper} : ∀ {os:List Oper} {ks:List Bool} {Γ:Env} {V:VS} {K:Env→VS→Prop},PRunV P ops os ks Γ V K → ∃ l Γ' V',AlongV P ops Γ V os ks l Γ' V'∧K Γ' V'
  | [],[],Γ,V,K,h=>⟨[],Γ,V, .nil Γ V,h⟩
  | o::os,k::ks,Γ,V,K,⟨φ,V1,hs,hr⟩=>let ⟨l,Γ',V',hA,hK⟩:=PRunV.along hr;⟨_,Γ',V', .cons Γ V o os k ks φ V1 l Γ' V' hs hA,hK⟩
  | [],_::_,_,_,_,h=>h.elim
  | _::_,[],_,_,_,h=>h.elim
theorem AlongV.length {P:Program} {ops:Array Oper} {Γ Γ':Env} {V V':VS} {os:List Oper} {ks:List Bool} {l:List (Env × VS × Pr)} (h:AlongV P ops Γ V os ks l Γ' V'):l.length=os.length∧ks.length=os.length:=by
  induction h with
  | nil=>exact ⟨rfl,rfl⟩
  | cons _ _ _ _ _ _ _ _ _ _ _ _ _ ih=>exact ⟨congrArg (· + 1) ih.1,congrArg (· + 1) ih.2⟩
/-- What is owned at place k. -/
def atV (l:List (Env × VS × Pr)) (V':VS) (k:Nat):VS:=match l[k]? with|some p=>p.2.1|none=>V'
theorem AlongV.get {P:Program} {ops:Array Oper} {Γ Γ':Env} {V V':VS} {os:List Oper} {ks:List Bool} {l:List (Env × VS × Pr)} (h:AlongV P ops Γ V os ks l Γ' V') : ∀ (i:Nat) (o:Oper),os[i]?=some o → ∃ p k,l[i]?=some p∧ks[i]?=some k∧StpV P ops p.1 p.2.1 o p.2.2 (atV l V' (i+1)) k:=by
  induction h with
  | nil=>intro i o ho;simp at ho
  | cons Γ V o os k ks φ V1 l Γ' V' hs hr ih =>
    intro i o' ho
    cases i with
    | zero =>
      simp at ho;subst ho
      refine ⟨_,k,rfl,rfl,?_⟩
      have:atV ((Γ,V,φ)::l) V' (0+1)=V1:=by
        cases hr with
        | nil=>rfl
        | cons=>rfl
      rw [this]
      exact hs
    | succ i =>
      obtain ⟨p,k',h1,h2,h3⟩:=ih i o' (by simpa using ho)
      exact ⟨p,k',by simpa using h1,by simpa using h2,h3⟩
theorem AlongV.zero {P:Program} {ops:Array Oper} {Γ Γ':Env} {V V':VS} {os:List Oper} {ks:List Bool} {l:List (Env × VS × Pr)} (h:AlongV P ops Γ V os ks l Γ' V'):atV l V' 0=V:=by
  cases h <;> rfl
theorem AlongV.look {P:Program} {ops:Array Oper} {Γ Γ':Env} {V V':VS} {os:List Oper} {ks:List Bool} {l:List (Env × VS × Pr)} (h:AlongV P ops Γ V os ks l Γ' V') : ∀ (i:Nat) (Γi:Env),((∃ φ,l[i]?=some (Γi,φ)) ∨ (i=os.length∧Γi=Γ')) → ∀ t,
    ((∀ j o,j < i→os[j]?=some o→o.dst ≠ some t)→L.look Γi t=L.look Γ t) ∧
    (∀ j o p,j < i→os[j]?=some o→l[j]?=some p→o.dst=some t→(∀ j' o',j < j'→j' < i→os[j']?=some o'→o'.dst ≠ some t)→L.look Γi t=some p.2.2):=by
  induction h with
  | nil Γ V =>
    intro i Γi h t
    rcases h with ⟨φ,h⟩|⟨rfl,rfl⟩
    · simp at h
    · exact ⟨fun _=>rfl,fun j o p hj=>by simp at hj⟩
  | cons Γ V o os k ks φ V1 l Γ' V' hs hr ih =>
    intro i Γi h t
    cases i with
    | zero =>
      rcases h with ⟨ψ,h⟩|⟨h,_⟩
      · simp at h
        obtain ⟨rfl,_⟩:=h
        exact ⟨fun _=>rfl,fun j o p hj=>by omega⟩
      · simp at h
    | succ i =>
      obtain ⟨h1,h2⟩:=ih i Γi (by
        rcases h with ⟨ψ,h⟩|⟨h,hg⟩
        · exact .inl ⟨ψ,by simpa using h⟩
        · exact .inr ⟨by simpa using h,hg⟩) t
      refine ⟨fun hno=>?_,fun j o' p hj ho hp hd hno=>?_⟩
      · rw [h1 (fun j o' hj ho=>hno (j+1) o' (by omega) (by simpa using ho))]
        exact look_put (hno 0 o (by omega) rfl)
      · cases j with
        | zero =>
          simp at ho hp;subst ho;subst hp
          rw [h1 (fun j o' hj ho=>hno (j+1) o' (by omega) (by omega) (by simpa using ho)),hd]
          show (match Nat.beq t t with|true=>some φ|false=>L.look Γ t)=some φ
          rw [Nat.beq_refl]
        | succ j =>
          exact h2 j o' p (by omega) (by simpa using ho) (by simpa using hp) hd (fun j' o'' hj' hj2 ho'=>hno (j'+1) o'' (by omega) (by omega) (by simpa using ho'))
/-- Those that act come one behind the other. -/
def chkVA (n:Nat) (ks:List Bool) (A:List Nat):Bool :=
  (List.range n).all fun j => !ks.getD j false || (List.range j).all fun i => !ks.getD i false || (A.getD j 0).testBit i
def chkV (md:Region.Mode) (ops:Array Oper) (n:Nat) (ks:List Bool):Bool:=chkVA n ks (ancs md ops n)
theorem Reach.ready {md:Region.Mode} {ops:Array Oper} {n:Nat} {listed:Array Bool} (inv:HeadInv md ops n listed) {j i:Nat} (r:Reach md ops j i) (h : ∀ k,Region.waitsFor md ops j k=true→listed.getD k false=true):listed.getD i false=true:=by
  cases r with
  | one hw=>exact h _ hw
  | step hw r=>exact r.listed inv (h _ hw)
def cutV (n:Nat) (ks:List Bool) (listed:Array Bool) (k:Nat):Prop:=k≤n ∧ ∀ i,ks[i]?=some true→(listed.getD i false=true ↔ i < k)
theorem constV {P:Program} {ops:Array Oper} {Γ Γ':Env} {V V':VS} {os:List Oper} {ks:List Bool} {l:List (Env × VS × Pr)} (hA:AlongV P ops Γ V os ks l Γ' V') : ∀ (d k:Nat),k+d≤os.length→(∀ i,k≤i→i < k+d→ks[i]? ≠ some true)→atV l V' k=atV l V' (k+d)
  | 0,k,_,_=>rfl
  | d+1,k,hk,h=>by
    obtain ⟨o,ho⟩ : ∃ o,os[k]?=some o:=⟨_,List.getElem?_eq_getElem (by omega)⟩
    obtain ⟨p,b,h1,h2,h3⟩:=hA.get k o ho
    have hb:b=false:=by
      cases b with
      | false=>rfl
      | true=>exact absurd h2 (h k (Nat.le_refl _) (by omega))
    subst hb
    have e1:atV l V' k=p.2.1:=by unfold atV;rw [h1]
    have e2:atV l V' (k+1)=p.2.1:=by
      generalize atV l V' (k+1)=W at h3
      cases h3;rfl
    rw [e1, ← e2,constV hA d (k+1) (by omega) (fun i h4 h5=>h i (by omega) (by omega))]
    congr 1;omega
section
variable {C:Cx} {Γ:Env} {Q:Exit→Act→World→Prop}
structure HStV (C:Cx) (Γ:Env) (ops:Array Oper) (n:Nat) (ks:List Bool) (l:List (Env × VS × Pr)) (V':VS) (listed:Array Bool) (Δ:List Res) (H:IH) (a:Act) (w:World):Prop where
  st:St C [] Δ H a w
  base : ∀ t φ,look Γ t=some φ→(∀ j,j < n→listed.getD j false=true→dstOf ops j ≠ some t) → ∃ v,a.tmps[t]?=some v∧φ.h H v
  done : ∀ j t p,j < n→listed.getD j false=true→dstOf ops j=some t→l[j]?=some p → ∃ v,a.tmps[t]?=some v∧p.2.2.h H v
  vs : ∀ k,cutV n ks listed k→atV l V' k Δ
theorem seq_anyV {ops:Array Oper} {md:Region.Mode} (n:Nat) (hsl : ∀ d,(∃ j,j < n∧dstOf ops j=some d)→d < C.n) (hn:n≤ops.size) (hh:headOKW md ops n=true) (hsk:n=ops.size ∨ (Region.sinkB md ops n=true∧Region.chainB md ops n=true))
    (hseq:Region.seqB md ops (ops.size - n) n (headList n (ops.size - n))=true) {ks:List Bool} (hchkV:chkV md ops n ks=true) {V0 V':VS} {l:List (Env × VS × Pr)} {Γ':Env} (hA:AlongV C.P ops Γ V0 (ops.toList.take n) ks l Γ' V')
    (hT : ∀ Δ',V' Δ'→Lq C Γ' Δ' ops (ops.toList.drop n) Q) :
    ∀ (m:Nat) (listed:Array Bool) (Δ:List Res) (H:IH) (a:Act) (w:World),HeadInv md ops n listed→left n listed=m→HStV C Γ ops n ks l V' listed Δ H a w →
      wpAnyIn (fen C.ro) 0 C.P md ops Q (m+(ops.size - n)) listed a w:=by
  have hlen:(ops.toList.take n).length=n:=by simp;omega
  have hll:l.length=n:=hA.length.1.trans hlen
  have htl:ks.length=n:=hA.length.2.trans hlen
  have hget : ∀ i,i < n→(ops.toList.take n)[i]?=ops[i]?:=fun i hi=>by rw [List.getElem?_take,if_pos hi];simp
  have hchk : ∀ i,i < n → ∃ o,ops[i]?=some o∧(∀ t ∈ o.looksAt ops, ∀ j,j < n→dstOf ops j=some t→(j < i∧Region.waitsFor md ops i j=true) ∨ (i < j∧Region.waitsFor md ops j i=true))∧(∀ j,j < i→dstOf ops j ≠ none→dstOf ops j ≠ dstOf ops i)∧(∀ e ∈ o.after,Region.binds md e=true→e.on < i):=by
    intro i hi
    have h1:=List.all_eq_true.1 hh i (List.mem_range.2 hi)
    cases ho:ops[i]? with
    | none=>rw [ho] at h1;cases h1
    | some o =>
      rw [ho] at h1
      simp only [Bool.and_eq_true,List.all_eq_true,Bool.or_eq_true,bne_iff_ne,decide_eq_true_eq,beq_iff_eq,List.mem_range,Array.all_eq_true_iff_forall_mem] at h1
      obtain ⟨⟨h1,h2⟩,h3⟩:=h1
      refine ⟨o,rfl,fun t ht j hj hd=>?_,fun j hj hne he=>?_,fun e he hb=>?_⟩
      · rcases h1 t ht j hj with (h|h)|h
        · exact absurd hd h
        · exact .inl h
        · exact .inr h
      · rcases h2 j hj with h|h
        · exact hne h
        · exact h he
      · rcases h3 e he with h|h
        · rw [hb] at h;cases h
        · exact h
  have hdist : ∀ i j t,i < n→j < n→dstOf ops i=some t→dstOf ops j=some t→i=j:=by
    intro i j t hi hj h1 h2
    rcases Nat.lt_trichotomy i j with h|h|h
    · obtain ⟨o,_,_,hd,_⟩:=hchk j hj
      exact absurd (h1.trans h2.symm) (hd i h (by rw [h1];simp))
    · exact h
    · obtain ⟨o,_,_,hd,_⟩:=hchk i hi
      exact absurd (h2.trans h1.symm) (hd j h (by rw [h2];simp))
  have hgetD : ∀ {i:Nat} {b:Bool},ks[i]?=some b→ks.getD i false=b:=fun h=>by rw [List.getD_eq_getElem?_getD,h];rfl
  have hclosed : ∀ (j:Nat),ks[j]?=some true → ∀ i,ks[i]?=some true→i < j→Reach md ops j i:=by
    intro j hj i hi hij
    have hjn:j < n:=by rw [← htl];exact (List.getElem?_eq_some_iff.1 hj).1
    have h1:=List.all_eq_true.1 hchkV j (List.mem_range.2 hjn)
    rw [hgetD hj] at h1
    simp only [Bool.not_true,Bool.false_or] at h1
    have h2:=List.all_eq_true.1 h1 i (List.mem_range.2 hij)
    rw [hgetD hi] at h2
    simp only [Bool.not_true,Bool.false_or] at h2
    exact ancs_reach n j i h2
  have hmeet : ∀ (i:Nat) (Γi:Env),i≤n→((∃ φ,l[i]?=some (Γi,φ)) ∨ (i=n∧Γi=Γ')) → ∀ (listed:Array Bool) Δ H a w,HStV C Γ ops n ks l V' listed Δ H a w → ∀ t ψ,look Γi t=some ψ →
      (∀ j,j < n→dstOf ops j=some t→(j < i∧listed.getD j false=true) ∨ (i≤j∧listed.getD j false=false)) → ∃ v,a.tmps[t]?=some v∧ψ.h H v:=by
    intro i Γi hin hΓ listed Δ H a w S t ψ hψ hj
    obtain ⟨h1,h2⟩:=hA.look i Γi (by rw [hlen];exact hΓ) t
    by_cases hex : ∃ j,j < i∧dstOf ops j=some t
    · obtain ⟨j,hji',hd⟩:=hex
      have hjn:j < n:=by omega
      obtain ⟨hji,hl⟩:j < i∧listed.getD j false=true:=by
        rcases hj j hjn hd with h|h
        · exact h
        · omega
      obtain ⟨o,ho,_⟩:=hchk j hjn
      have hod:o.dst=some t:=by unfold dstOf at hd;rw [ho] at hd;exact hd
      obtain ⟨p,_,hp,_⟩:=hA.get j o (by rw [hget j hjn];exact ho)
      have:=h2 j o p hji (by rw [hget j hjn];exact ho) hp hod (fun j' o' hj' hj2 ho' he=>by
        have hj'n:j' < n:=by omega
        rw [hget j' hj'n] at ho'
        have:=hdist j j' t hjn hj'n hd (by unfold dstOf;rw [ho'];exact he)
        omega)
      rw [this] at hψ
      injection hψ with hψ
      subst hψ
      exact S.done j t p hjn hl hd hp
    · have hno : ∀ j,j < n→listed.getD j false=true→dstOf ops j ≠ some t:=fun j hjn hl hd=>by
        rcases hj j hjn hd with h|h
        · exact hex ⟨j,h.1,hd⟩
        · rw [h.2] at hl;cases hl
      rw [h1 (fun j o hji ho he=>by
        have hjn:j < n:=by omega
        rw [hget j hjn] at ho
        exact hex ⟨j,hji,by unfold dstOf;rw [ho];exact he⟩)] at hψ
      exact S.base t ψ hψ hno
  intro m
  induction m with
  | zero =>
    intro listed Δ H a w inv hm S
    have hall:=left_zero hm
    have hl:listed=headList n (ops.size - n):=by
      apply Array.ext
      · rw [inv.size];simp [headList];omega
      · intro i h1 h2
        by_cases hin:i < n
        · have:=hall i hin
          simp [h1] at this
          rw [this]
          simp [headList,Array.getElem_append,hin]
        · have:=inv.tail i (by omega) (by rw [← inv.size];exact h1)
          simp [h1] at this
          rw [this]
          simp [headList,Array.getElem_append,hin]
    rw [Nat.zero_add]
    have hdl:(ops.toList.drop n).length=ops.size - n:=by simp
    have S1:St C Γ' Δ H a w:=S.st.weak fun t φ ht=>hmeet n Γ' (Nat.le_refl _) (.inr ⟨rfl,rfl⟩) _ Δ H a w S t φ ht (fun j hj _ => .inl ⟨hj,hall j hj⟩)
    have hcut:cutV n ks listed n:=⟨Nat.le_refl _,fun i hi=>by
      have hin:i < n:=by rw [← htl];exact (List.getElem?_eq_some_iff.1 hi).1
      exact ⟨fun _=>hin,fun _=>hall i hin⟩⟩
    have hF:atV l V' n=V':=by unfold atV;rw [List.getElem?_eq_none (by omega)]
    have hV:=S.vs n hcut
    rw [hF] at hV
    subst hl
    rw [← hdl]
    exact wpAnyIn_of_seq (ops.toList.drop n) n _ a w (fun j=>by simp [List.getElem?_drop]) (by rw [hdl];exact hseq) (hT Δ hV H a w S1)
  | succ m ih =>
    intro listed Δ H a w inv hm S
    obtain ⟨i0,hi0,hf0,hmin⟩:=left_pos (n:=n) (listed:=listed) (by omega)
    have hsz : ∀ i,i < n→i < listed.size:=fun i hi=>by rw [inv.size];omega
    have hr0:i0 ∈ Region.ready md ops listed:=by
      obtain ⟨o,ho,_,_,hback⟩:=hchk i0 hi0
      exact mem_ready.2 ⟨by rw [getD_flip (hsz i0 hi0)];exact hf0,o,ho,fun e he hb=>hmin e.on (hback e he hb)⟩
    rw [show m+1+(ops.size - n)=(m+(ops.size - n))+1 by omega]
    refine ⟨fun h=>(by rw [h] at hr0;cases hr0),fun i hi=>?_⟩
    have hin:i < n:=by
      rcases hsk with h|⟨hs,hc⟩
      · obtain ⟨_,o,ho,_⟩:=mem_ready.1 hi
        have:=(Array.getElem?_eq_some_iff.1 ho).1
        omega
      · rcases Nat.lt_or_ge i n with h|h
        · exact h
        · have hns:n < ops.size:=by
            obtain ⟨_,o,ho,_⟩:=mem_ready.1 hi
            have:=(Array.getElem?_eq_some_iff.1 ho).1
            omega
          exact absurd hi (tail_waits hs hc hns inv _ i0 rfl hi0 (by rw [getD_flip (hsz i0 hi0)];exact hf0) i h)
    obtain ⟨hun,o,ho,hedges⟩:=mem_ready.1 hi
    have hunf:listed.getD i false=false:=by rw [← getD_flip (hsz i hin)];exact hun
    obtain ⟨o',ho',hlk,_,_⟩:=hchk i hin
    have:o'=o:=Option.some.inj (ho'.symm.trans ho)
    subst this
    obtain ⟨⟨Γi,Vi,φ⟩,kd,hp,hkd,hg⟩:=hA.get i o' (by rw [hget i hin];exact ho)
    have hVi:atV l V' i=Vi:=by unfold atV;rw [hp]
    have hdi:dstOf ops i=o'.dst:=by unfold dstOf;rw [ho];rfl
    have hlisted : ∀ t ∈ o'.looksAt ops, ∀ j,j < n→dstOf ops j=some t→(j < i∧listed.getD j false=true) ∨ (i≤j∧listed.getD j false=false):=by
      intro t ht j hj hd
      rcases hlk t ht j hj hd with ⟨h1,h2⟩|⟨h1,h2⟩
      · obtain ⟨oj,hoj,e,he,hb,hon⟩:=Region.waitsFor_spec h2
        have:oj=o':=Option.some.inj (hoj.symm.trans ho)
        subst this
        have:=hedges e he hb
        rw [hon] at this
        exact .inl ⟨h1,this⟩
      · refine .inr ⟨Nat.le_of_lt h1,?_⟩
        obtain ⟨oj,hoj,e,he,hb,hon⟩:=Region.waitsFor_spec h2
        cases hl:listed.getD j false with
        | false=>rfl
        | true =>
          have:=inv.closed j oj hoj hl e he hb
          rw [hon,hunf] at this;cases this
    have hops : ∀ x ∈ o'.op.operands, ∀ ψ,opd Γi x=some ψ→ψ.h H (a.eval x):=fun x hx ψ hψ=>by
      cases x with
      | tmp t =>
        obtain ⟨v,hv,hψ⟩:=hmeet i Γi (Nat.le_of_lt hin) (.inl ⟨_,hp⟩) listed Δ H a w S t ψ hψ (hlisted t (List.mem_append_left _ (List.mem_filterMap.2 ⟨.tmp t,by simpa using hx,rfl⟩)))
        have:a.eval (.tmp t)=v:=by simp [Act.eval,hv]
        rw [this];exact hψ
      | const v=>injection hψ with hψ;subst hψ;exact rfl
      | global g=>injection hψ with hψ;subst hψ;exact rfl
      | func f=>injection hψ with hψ;subst hψ;exact rfl
    have hcuti:kd=true→cutV n ks listed i:=by
      intro hk
      subst hk
      refine ⟨Nat.le_of_lt hin,fun j hj=>?_⟩
      rcases Nat.lt_trichotomy j i with h|h|h
      · refine ⟨fun _=>h,fun _=>(hclosed i hkd j hj h).ready inv (fun k hw=>?_)⟩
        obtain ⟨oj,hoj,e,he,hb,hon⟩:=Region.waitsFor_spec hw
        have:oj=o':=Option.some.inj (hoj.symm.trans ho)
        subst this
        have:=hedges e he hb
        rwa [hon] at this
      · subst h
        rw [hunf]
        exact ⟨fun h=>(by cases h),fun h=>absurd h (Nat.lt_irrefl _)⟩
      · refine ⟨fun hl=>?_,fun h'=>by omega⟩
        have:=(hclosed j hj i hkd h).listed inv hl
        rw [hunf] at this;cases this
    have hold : ∀ j,j ≠ i→(listed.setIfInBounds i true).getD j false=listed.getD j false:=fun j hji=>getD_set_ne false (Ne.symm hji)
    have hnew:(listed.setIfInBounds i true).getD i false=true:=by
      have:=hsz i hin
      simp [this]
    have hnext : ∀ (v:Value) (Δ':List Res) (H':IH) (w':World),Sat H' w'→(∀ r ∈ Δ',r.ok H' w')→(blks Δ').Nodup→(∀ b ∈ blks Δ',b < w'.heap.size∧(b ∈ blks Δ ∨ w.heap.size≤b))→IH.le H H'→Fr (blks Δ) w w' →
        (∀ b o,b < w.heap.size→b ∉ blks Δ→H' b o=H b o)→φ.h H' v→(∀ k,cutV n ks (listed.setIfInBounds i true) k→atV l V' k Δ') →
        wpAnyIn (fen C.ro) 0 C.P md ops Q (m+(ops.size - n)) (listed.setIfInBounds i true) (a.put o'.dst v) w':=by
      intro v Δ' H' w' hsat hok hnd hbl hle hfr hH hv hvs
      refine ih (listed.setIfInBounds i true) Δ' H' _ w' (inv.set hi hin) ?_ ?_
      · have:=left_set hin (hsz i hin) hunf
        omega
      have hkeep : ∀ t,o'.dst ≠ some t→(a.put o'.dst v).tmps[t]?=a.tmps[t]?:=by
        intro t hne
        cases hdd:o'.dst with
        | none=>rfl
        | some d =>
          have hne:d ≠ t:=fun e=>hne (by rw [hdd,e])
          simp [Act.put,Array.getElem?_setIfInBounds_ne hne]
      have hself : ∀ t,o'.dst=some t→(a.put o'.dst v).tmps[t]?=some v:=by
        intro t hd
        have hlt:=hsl t ⟨i,hin,by rw [hdi];exact hd⟩
        rw [← S.st.siz] at hlt
        rw [hd]
        simp [Act.put,hlt]
      refine ⟨⟨(by have:=S.st.dfr;cases hdd:o'.dst <;> exact this),?_,fun t ψ ht=>(by cases ht),hsat,hok,hnd,fun b hb=>?_,IH.le_trans S.st.le hle,?_,?_⟩,?_,?_,hvs⟩
      · have:=S.st.siz
        cases hdd:o'.dst with
        | none=>exact this
        | some d=>simpa [Act.put] using this
      · refine ⟨(hbl b hb).1,?_⟩
        rcases (hbl b hb).2 with h|h
        · exact (S.st.own b h).2
        · exact .inr (Nat.le_trans S.st.fr.size h)
      · refine ⟨hfr.os.trans S.st.fr.os,hfr.tape.trans S.st.fr.tape,hfr.output.trans S.st.fr.output,Nat.le_trans S.st.fr.size hfr.size,fun k hk hX=>?_⟩
        rw [hfr.block k (Nat.lt_of_lt_of_le hk S.st.fr.size) (fun ht=>by
          rcases (S.st.own k ht).2 with h|h
          · exact hX h
          · omega)]
        exact S.st.fr.block k hk hX
      · intro b o hb hX
        rw [hH b o (Nat.lt_of_lt_of_le hb S.st.fr.size) (fun ht=>by
          rcases (S.st.own b ht).2 with h|h
          · exact hX h
          · omega)]
        exact S.st.hk b o hb hX
      · intro t ψ ht hno
        obtain ⟨u,hu,hψ⟩:=S.base t ψ ht (fun j hj hl=>hno j hj (by
          by_cases hji:j=i
          · subst hji;exact hnew
          · rw [hold j hji];exact hl))
        exact ⟨u,by rw [hkeep t (fun hd=>hno i hin hnew (by rw [hdi];exact hd))];exact hu,ψ.mono hle hψ⟩
      · intro j t p hj hl hdj hpj
        by_cases hji:j=i
        · subst hji
          rw [hp] at hpj
          injection hpj with hpj
          subst hpj
          exact ⟨v,hself t (by rw [← hdi];exact hdj),hv⟩
        · rw [hold j hji] at hl
          obtain ⟨u,hu,hψ⟩:=S.done j t p hj hl hdj hpj
          exact ⟨u,by rw [hkeep t (fun hd=>hji (hdist j i t hj hin hdj (by rw [hdi];exact hd)))];exact hu,p.2.2.mono hle hψ⟩
    have hown : ∀ b ∈ blks Δ,b < w.heap.size:=fun b hb=>(S.st.own b hb).1
    -- what is owned behind one that acts
    have hvE : ∀ Δ',kd=true→atV l V' (i+1) Δ' → ∀ k,cutV n ks (listed.setIfInBounds i true) k→atV l V' k Δ':=by
      intro Δ' hk hV k hcut
      subst hk
      have hik:i < k:=(hcut.2 i hkd).1 hnew
      have hci:=hcuti rfl
      have:=constV hA (k - (i+1)) (i+1) (by rw [hlen];have:=hcut.1;omega) (fun j hj1 hj2 hj=>by
        have hlj:=(hcut.2 j hj).2 (by omega)
        rw [hold j (by omega)] at hlj
        have:=(hci.2 j hj).1 hlj
        omega)
      rw [show i+1+(k - (i+1))=k by omega] at this
      rw [← this];exact hV
    have hact : ∀ (V1:VS),kd=true→V1=atV l V' (i+1)→OpV C.P Γi Vi o' φ V1 → ∀ (K:Act→World→Prop) (hK : ∀ v Δ' H' w',V1 Δ'→Sat H' w'→(∀ r ∈ Δ',r.ok H' w')→(blks Δ').Nodup→(∀ b ∈ blks Δ',b < w'.heap.size∧(b ∈ blks Δ ∨ w.heap.size≤b))→IH.le H H'→Fr (blks Δ) w w'→(∀ b o,b < w.heap.size→b ∉ blks Δ→H' b o=H b o)→φ.h H' v→K (a.put o'.dst v) w') (Q':Exit→Act→World→Prop),o'.wp C.P a w K Q':=by
      intro V1 hk hV1 hE K hK Q'
      have hVΔ:Vi Δ:=by rw [← hVi];exact S.vs i (hcuti hk)
      exact hE Δ H a w Q' K hVΔ hops S.st.sat S.st.res S.st.dis hown (fun v H' w' Δ' h1 h2 h3 h4 h5 h6 h7 h8 h9=>hK v Δ' H' w' h1 h2 h3 h4 h5 h6 h7 h8 h9)
    unfold wpOpIn
    simp only [ho]
    generalize hV1:atV l V' (i+1)=V1 at hg
    cases hg with
    | p hg =>
      have hvp : ∀ k,cutV n ks (listed.setIfInBounds i true) k→atV l V' k Δ:=by
        intro k hcut
        refine S.vs k ⟨hcut.1,fun j hj=>?_⟩
        have hji:j ≠ i:=fun e=>by subst e;rw [hkd] at hj;cases hj
        rw [← hold j hji]
        exact hcut.2 j hj
      have hstep:=hg.step (H:=H) (a:=a) (w:=w) (Q:=Q) (K:=wpAnyIn (fen C.ro) 0 C.P md ops Q (m+(ops.size - n)) (listed.setIfInBounds i true))
        hops
        (fun j want g ψ hgd hgs hl=>hmeet i Γi (Nat.le_of_lt hin) (.inl ⟨_,hp⟩) listed Δ H a w S g ψ hl (hlisted g (List.mem_append_right _ (by
          have e1:(ops[j]?).bind (·.dst)=some g:=hgs
          simp [hgd,e1]))))
        S.st.sat (fun r hr=>by cases hr) (fun b hb=>by cases hb)
        (fun v H' w' E hv=>hnext v Δ H' w' E.sat (Res.keep E hown S.st.res) S.st.dis (fun b hb=>⟨Nat.lt_of_lt_of_le (hown b hb) E.fr.size, .inl hb⟩) E.le (E.fr.weak fun x hx=>by cases hx) (fun b o hb _=>E.old b o hb) hv hvp)
      have hnd:=hg.step (H:=H) (a:=a) (w:=w) (Q:=fun _ _ _=>False) (K:=fun a' _=>a'.defers=a.defers)
        hops
        (fun j want g ψ hgd hgs hl=>hmeet i Γi (Nat.le_of_lt hin) (.inl ⟨_,hp⟩) listed Δ H a w S g ψ hl (hlisted g (List.mem_append_right _ (by
          have e1:(ops[j]?).bind (·.dst)=some g:=hgs
          simp [hgd,e1]))))
        S.st.sat (fun r hr=>by cases hr) (fun b hb=>by cases hb) (fun v H' w' E hv=>put_defers _ _ _)
      split
      · rename_i hw
        rw [if_pos hw] at hstep hnd
        exact wpIn_fen (not_defer hnd) hstep
      · rename_i hw
        rw [if_neg hw] at hstep
        exact ⟨fun _ _=>trivial,hstep⟩
    | e _ hgd hE =>
      rw [if_pos (by simp [Region.wanted,hgd])]
      refine wpIn_fen (not_defer (hact V1 rfl hV1.symm hE _ (fun v Δ' H' w' _ _ _ _ _ _ _ _ _=>put_defers _ _ _) _)) ?_
      exact hact V1 rfl hV1.symm hE _ (fun v Δ' H' w' h1 h2 h3 h4 h5 h6 h7 h8 h9=>hnext v Δ' H' w' h2 h3 h4 h5 h6 h7 h8 h9 (hvE Δ' rfl (by rw [hV1];exact h1))) _
    | r _ j want g hgd hj hl hE =>
      obtain ⟨u,hu,hb⟩:=hmeet i Γi (Nat.le_of_lt hin) (.inl ⟨_,hp⟩) listed Δ H a w S g _ hl (hlisted g (List.mem_append_right _ (by
          have e1:(ops[j]?).bind (·.dst)=some g:=hj
          simp [hgd,e1])))
      have hb:u = .bool want:=hb
      subst hb
      rw [if_pos (by simp [Region.wanted,hgd,yielded_of hj hu])]
      refine wpIn_fen (not_defer (hact V1 rfl hV1.symm hE _ (fun v Δ' H' w' _ _ _ _ _ _ _ _ _=>put_defers _ _ _) _)) ?_
      exact hact V1 rfl hV1.symm hE _ (fun v Δ' H' w' h1 h2 h3 h4 h5 h6 h7 h8 h9=>hnext v Δ' H' w' h2 h3 h4 h5 h6 h7 h8 h9 (hvE Δ' rfl (by rw [hV1];exact h1))) _
theorem J.drawV {id:Nat} {l:List Oper} {Δ:List Res} (n:Nat) (ks:List Bool) (V:VS) (hV:V Δ) (hm:C.P.follows .mixedOrders=true) (hc:(drawOKW .any l.toArray n && slotsOK l.toArray n C.n && chkV .any l.toArray n ks)=true)
    (h:PRunV C.P l.toArray (l.take n) ks Γ V fun Γ' V' => ∀ Δ',V' Δ'→Lq C Γ' Δ' l.toArray (l.drop n) Q):J C Γ Δ (.region id l.toArray true) Q:=by
  intro H a w S
  simp only [drawOKW,Bool.and_eq_true,Bool.or_eq_true,decide_eq_true_eq] at hc
  obtain ⟨⟨⟨⟨⟨hn,hh⟩,hsk⟩,hseq⟩,hslots⟩,hchk⟩:=hc
  obtain ⟨ll,Γ',V',hA,hT⟩:=h.along
  refine wpIn_region_any hm ?_
  have hsl : ∀ d,(∃ j,j < n∧dstOf l.toArray j=some d)→d < C.n:=by
    rintro d ⟨j,hj,hd⟩
    have:=List.all_eq_true.1 hslots j (List.mem_range.2 hj)
    rw [hd] at this
    exact Nat.blt_eq.mp this
  have inv0:HeadInv .any l.toArray n (Array.replicate l.toArray.size false) :=
    ⟨by simp,fun j oj _ hl=>(by rw [getD_replicate_false] at hl;cases hl),fun t _ ht=>getD_in (by simpa using ht) (getD_replicate_false _ _)⟩
  have hleft:left n (Array.replicate l.toArray.size false)=n:=by
    unfold left
    rw [List.filter_eq_self.2 (fun i _=>by rw [getD_replicate_false];rfl),List.length_range]
  have S1:St C [] Δ H a { w with drawn:=w.drawn+1 }:=(S.drew).weak (fun t φ ht=>(by cases ht))
  have:=seq_anyV (C:=C) (Γ:=Γ) (Q:=Q) (ops:=l.toArray) (md := .any) n hsl hn hh hsk hseq hchk hA hT n (Array.replicate l.toArray.size false) Δ H a { w with drawn:=w.drawn+1 } inv0 hleft
    ⟨S1,fun t φ ht _=>S.env t φ ht,fun j t p _ hl=>(by rw [getD_replicate_false] at hl;cases hl),fun k hk=>?_⟩
  · rwa [show n+(l.toArray.size - n)=l.toArray.size by omega] at this
  · have hlen:(l.take n).length=n:=by rw [List.length_take];simp at hn;omega
    have:=constV hA k 0 (by rw [hlen];have:=hk.1;omega) (fun i _ h2 hi=>by
      have:=(hk.2 i hi).2 (by omega)
      rw [getD_replicate_false] at this;cases this)
    rw [Nat.zero_add,hA.zero] at this
    rw [← this];exact hV
end
/-! ### Rules along a head -/
section
variable {P:Program} {ops:Array Oper} {Γ:Env} {V V1:VS} {rest:List Oper} {ks:List Bool} {op:Op} {ty:Nat} {pos:String} {af:Array Edge} {φ:Pr} {K:Env→VS→Prop} {d:Nat}
theorem PRunV.nil (h:K Γ V):PRunV P ops [] [] Γ V K:=h
theorem PRunV.s (h:OpP P Γ [] ⟨some d,op,ty,pos,af,none⟩ φ) (k:PRunV P ops rest ks ((d,φ)::Γ) V K):PRunV P ops (⟨some d,op,ty,pos,af,none⟩::rest) (false::ks) Γ V K :=
  ⟨φ,V, .p φ (.plain rfl h),k⟩
theorem PRunV.run {j g:Nat} {want b:Bool} (hj:gslot ops j=some g) (hl:look Γ g=some (is (.bool b))) (hb:b=want) (h:OpP P Γ [] ⟨some d,op,ty,pos,af,some (j,want)⟩ φ) (k:PRunV P ops rest ks ((d,φ)::Γ) V K):PRunV P ops (⟨some d,op,ty,pos,af,some (j,want)⟩::rest) (false::ks) Γ V K:=by
  subst hb;exact ⟨φ,V, .p φ (.run j b g rfl hj hl h),k⟩
theorem PRunV.skip {j g:Nat} {want b:Bool} (hj:gslot ops j=some g) (hl:look Γ g=some (is (.bool b))) (hb:b = !want) (k:PRunV P ops rest ks ((d,is undef)::Γ) V K):PRunV P ops (⟨some d,op,ty,pos,af,some (j,want)⟩::rest) (false::ks) Γ V K :=
  ⟨is undef,V, .p _ (.skip j want g b rfl hj hl (by subst hb;cases want <;> decide) rfl),k⟩
theorem PRunV.pass {j g:Nat} {want:Bool} (hj:gslot ops j=some g) (hl:look Γ g=some (is undef)) (k:PRunV P ops rest ks ((d,is undef)::Γ) V K):PRunV P ops (⟨some d,op,ty,pos,af,some (j,want)⟩::rest) (false::ks) Γ V K :=
  ⟨is undef,V, .p _ (.none j want g rfl hj hl rfl),k⟩
/-- One that acts. -/
theorem PRunV.e {dd:Option Nat} (h:OpV P Γ V ⟨dd,op,ty,pos,af,none⟩ φ V1) (k:PRunV P ops rest ks (putΓ Γ dd φ) V1 K):PRunV P ops (⟨dd,op,ty,pos,af,none⟩::rest) (true::ks) Γ V K:=⟨φ,V1, .e φ V1 rfl h,k⟩
theorem PRunV.er {dd:Option Nat} {j g:Nat} {want b:Bool} (hj:gslot ops j=some g) (hl:look Γ g=some (is (.bool b))) (hb:b=want) (h:OpV P Γ V ⟨dd,op,ty,pos,af,some (j,want)⟩ φ V1) (k:PRunV P ops rest ks (putΓ Γ dd φ) V1 K):PRunV P ops (⟨dd,op,ty,pos,af,some (j,want)⟩::rest) (true::ks) Γ V K:=by
  subst hb;exact ⟨φ,V1, .r φ V1 j b g rfl hj hl h,k⟩
theorem PRunV.split {o:Oper} {kk:List Bool} {j g:Nat} {want b:Bool} (hg:o.guard=some (j,want)) (hj:gslot ops j=some g) (hl:look Γ g=some (is (.bool b))) (ht:b=true→PRunV P ops (o::rest) kk Γ V K) (hf:b=false→PRunV P ops (o::rest) kk Γ V K):PRunV P ops (o::rest) kk Γ V K:=by
  cases b with
  | true=>exact ht rfl
  | false=>exact hf rfl
end
section
variable {P:Program} {Γ:Env} {V W V1:VS} {o:Oper} {φ:Pr}
/-- Both of two. -/
def star (V W:VS):VS:=fun Δ => ∃ Δ1 Δ2,V Δ1∧W Δ2∧Δ.Perm (Δ1++Δ2)
theorem OpV.to {V0 V2:VS} (h:OpV P Γ V o φ V1) (h0 : ∀ Δ,V0 Δ→V Δ) (h1 : ∀ Δ,V1 Δ→V2 Δ):OpV P Γ V0 o φ V2 :=
  fun Δ H a w Q K hV hx hs hr hn hb hK=>h Δ H a w Q K (h0 Δ hV) hx hs hr hn hb fun v H' w' Δ' k1 k2 k3 k4 k5 k6 k7 k8 k9=>hK v H' w' Δ' (h1 Δ' k1) k2 k3 k4 k5 k6 k7 k8 k9
/-- One that only looks. -/
theorem OpV.rd (h : ∀ Δ,V Δ→OpP P Γ Δ o φ):OpV P Γ V o φ V:=fun Δ H a w Q K hV hx hs hr hn hb hK =>
  h Δ hV H a w Q K hx hs hr hb fun v H' w' E hφ=>hK v H' w' Δ hV E.sat (Res.keep E hb hr) hn (fun b h=>⟨Nat.lt_of_lt_of_le (hb b h) E.fr.size, .inl h⟩) E.le (E.fr.weak fun x hx=>by cases hx) (fun b o hb _=>E.old b o hb) hφ
/-- A function that acts on what is owned. -/
def FnV (P:Program) (f:Nat) (φs:List Pr) (V:VS) (φ:Pr) (V1:VS):Prop := ∀ Δ,V Δ→FnR P f φs Δ (fun ψ Δ'=>ψ=φ∧V1 Δ')
variable {ty:Nat} {pos:String} {af:Array Edge} {d:Option Nat} {g:Option (Nat × Bool)}
theorem opV_call {f:Nat} {φs:List Pr} {xs:List Operand} {ats:Array Nat} (F:FnV P f φs V φ V1) (h:opds Γ xs φs):OpV P Γ (star V W) ⟨d, .call ⟨.value (.func f),xs.toArray,ats⟩,ty,pos,af,g⟩ φ (star V1 W):=by
  intro Δ H a w Q K ⟨Δ1,Δ2,hV,hW,hp⟩ hx hs hr hn hb hK
  have hargs:=opds.all (ρ:=a.eval) (H:=H) h (fun x hxx ψ hψ=>hx x (by simp [Op.operands,Call.operands,hxx]) ψ hψ)
  have F:=F Δ1 hV
  have hrun:(execOp a.eval ⟨d, .call ⟨.value (.func f),xs.toArray,ats⟩,ty,pos,af,g⟩).run P w = .ok (.enter f (xs.map a.eval).toArray) w:=by
    have h1:(callFunc f ((#[]++xs.toArray.map a.eval) ++ #[])).run P w = .ok (.enter f (xs.map a.eval).toArray) w:=by
      rw [Array.empty_append,Array.append_empty,List.map_toArray]
      exact F.ent.h _ w
    exact h1
  unfold Oper.wp
  rw [hrun]
  rw [Oper.upon_enter]
  have hf:(blks Δ).Perm (blks Δ1++blks Δ2):=by
    have:=hp.filterMap Res.blk
    rwa [List.filterMap_append] at this
  obtain ⟨hn0,hnf,hdis⟩:=List.nodup_append.1 (hf.nodup_iff.1 hn)
  refine (F.run H w _ hs hargs (fun r h=>hr r (hp.mem_iff.2 (List.mem_append_left _ h))) hn0 (fun b h=>hb b (hf.mem_iff.2 (List.mem_append_left _ h)))).mono fun e' w' hR=>?_
  obtain ⟨v,H',ψ,Δ',rfl,⟨rfl,hV1⟩,hψ,hsat,hok,hnd',hblk,hle,hfr,hkk⟩:=hR
  have hfo : ∀ b ∈ blks Δ2,b < w.heap.size∧b ∉ blks Δ1:=fun b h=>⟨hb b (hf.mem_iff.2 (List.mem_append_right _ h)),fun h0=>hdis b h0 b h rfl⟩
  refine hK v H' w' (Δ'++Δ2) ⟨Δ',Δ2,hV1,hW,List.Perm.refl _⟩ hsat (fun r h=>?_) ?_ (fun b h=>?_) hle (hfr.weak fun x h=>hf.mem_iff.2 (List.mem_append_left _ h)) (fun b o h hx=>hkk b o h fun h0=>hx (hf.mem_iff.2 (List.mem_append_left _ h0))) hψ
  · rcases List.mem_append.1 h with h|h
    · exact hok r h
    · refine r.st hle (fun b hbb=>?_) (hr r (hp.mem_iff.2 (List.mem_append_right _ h)))
      obtain ⟨h1,h2⟩:=hfo b (List.mem_filterMap.2 ⟨r,h,hbb⟩)
      exact ⟨hfr.block b h1 h2,fun o=>hkk b o h1 h2⟩
  · show (List.filterMap Res.blk (Δ'++Δ2)).Nodup
    rw [List.filterMap_append]
    refine List.nodup_append.2 ⟨hnd',hnf,fun x hx y hy he=>?_⟩
    subst he
    obtain ⟨h1,h2⟩:=hfo x hy
    rcases (hblk x hx).2 with h3|h3
    · exact h2 h3
    · omega
  · have h:b ∈ List.filterMap Res.blk (Δ'++Δ2):=h
    rw [List.filterMap_append] at h
    rcases List.mem_append.1 h with h|h
    · refine ⟨(hblk b h).1,?_⟩
      rcases (hblk b h).2 with h3|h3
      · exact .inl (hf.mem_iff.2 (List.mem_append_left _ h3))
      · exact .inr h3
    · exact ⟨Nat.lt_of_lt_of_le (hfo b h).1 hfr.size, .inl (hf.mem_iff.2 (List.mem_append_right _ h))⟩
/-- What is said of a value, whatever memory holds. -/
def Flat (ψ:Pr):Prop := ∀ H H' v,ψ.h H v→ψ.h H' v
/-- A call of a function that only looks at what is owned, which is taken as known for good while it runs. -/
theorem opV_look {f:Nat} {φs ξs:List Pr} {xs:List Operand} {ats:Array Nat} (F:Fn P f ξs φ) (hflat:Flat φ) (h:opds Γ xs φs)
    (hg : ∀ Δ,V Δ → ∀ H w,Sat H w→(∀ r ∈ Δ,r.ok H w)→(blks Δ).Nodup → ∃ H2,IH.le H H2∧Sat H2 w ∧ ∀ vs,All2 (fun (φ:Pr) v=>φ.h H v) φs vs→All2 (fun (φ:Pr) v=>φ.h H2 v) ξs vs) :
    OpV P Γ V ⟨d, .call ⟨.value (.func f),xs.toArray,ats⟩,ty,pos,af,g⟩ φ V:=by
  intro Δ H a w Q K hV hx hs hr hn hb hK
  have hargs:=opds.all (ρ:=a.eval) (H:=H) h (fun x hxx ψ hψ=>hx x (by simp [Op.operands,Call.operands,hxx]) ψ hψ)
  obtain ⟨H2,h1,h2,h3⟩:=hg Δ hV H w hs hr hn
  have hrun:(execOp a.eval ⟨d, .call ⟨.value (.func f),xs.toArray,ats⟩,ty,pos,af,g⟩).run P w = .ok (.enter f (xs.map a.eval).toArray) w:=by
    have h1:(callFunc f ((#[]++xs.toArray.map a.eval) ++ #[])).run P w = .ok (.enter f (xs.map a.eval).toArray) w:=by
      rw [Array.empty_append,Array.append_empty,List.map_toArray]
      exact F.ent.h _ w
    exact h1
  unfold Oper.wp
  rw [hrun]
  rw [Oper.upon_enter]
  refine (F.run H2 w _ h2 (h3 _ hargs)).mono fun e' w' hR=>?_
  obtain ⟨v,H',rfl,E,hφ⟩:=hR
  have hle:IH.le H H':=IH.le_trans h1 E.le
  have E2:Ext H w H w':=⟨IH.le_refl _,fun _ _ _=>rfl,⟨fun g cs hg o v hv=>hs.gk g cs hg o v hv,fun b o v hv=>E.sat.cell b o v (hle b o v hv)⟩,E.fr⟩
  exact hK v H w' Δ hV E2.sat (Res.keep E2 hb hr) hn (fun b h=>⟨Nat.lt_of_lt_of_le (hb b h) E.fr.size, .inl h⟩) (IH.le_refl _) (E.fr.weak fun x hx=>by cases hx) (fun b o _ _=>rfl) (hflat _ _ _ hφ)
end
section
variable {C:Cx} {Γ:Env} {Δ:List Res} {ops:Array Oper} {rest:List Oper} {Q:Exit→Act→World→Prop} {op:Op} {ty:Nat} {pos:String} {af:Array Edge} {φ:Pr} {V V1:VS}
theorem St.act {H H':IH} {a:Act} {w w':World} {Δ':List Res} (S:St C Γ Δ H a w) (h2:Sat H' w') (h3 : ∀ r ∈ Δ',r.ok H' w') (h4:(blks Δ').Nodup) (h5 : ∀ b ∈ blks Δ',b < w'.heap.size∧(b ∈ blks Δ ∨ w.heap.size≤b)) (h6:IH.le H H') (h7:Fr (blks Δ) w w') (h8 : ∀ b o,b < w.heap.size→b ∉ blks Δ→H' b o=H b o):St C Γ Δ' H' a w':=by
  refine ⟨S.dfr,S.siz,fun t φ ht=>?_,h2,h3,h4,fun b hb=>?_,IH.le_trans S.le h6,?_,fun b o hb hX=>?_⟩
  · obtain ⟨u,hu,hφ⟩:=S.env t φ ht
    exact ⟨u,hu,φ.mono h6 hφ⟩
  · refine ⟨(h5 b hb).1,?_⟩
    rcases (h5 b hb).2 with h|h
    · exact (S.own b h).2
    · exact .inr (Nat.le_trans S.fr.size h)
  · refine ⟨h7.os.trans S.fr.os,h7.tape.trans S.fr.tape,h7.output.trans S.fr.output,Nat.le_trans S.fr.size h7.size,fun k hk hX=>?_⟩
    rw [h7.block k (Nat.lt_of_lt_of_le hk S.fr.size) (fun ht=>by
      rcases (S.own k ht).2 with h|h
      · exact hX h
      · omega)]
    exact S.fr.block k hk hX
  · rw [h8 b o (Nat.lt_of_lt_of_le hb S.fr.size) (fun ht=>by
      rcases (S.own b ht).2 with h|h
      · exact hX h
      · omega)]
    exact S.hk b o hb hX
theorem Lq.v {d:Nat} (hd:Nat.blt d C.n=true) (hV:V Δ) (h:OpV C.P Γ V ⟨some d,op,ty,pos,af,none⟩ φ V1) (k : ∀ Δ',V1 Δ'→Lq C ((d,φ)::Γ) Δ' ops rest Q):Lq C Γ Δ ops (⟨some d,op,ty,pos,af,none⟩::rest) Q:=by
  intro H a w S
  refine wpL_plain rfl (not_defer (h Δ H a w _ _ hV (fun x hx ψ hψ=>S.opd hψ) S.sat S.res S.dis (fun b hb=>(S.own b hb).1) fun v H' w' Δ' _ _ _ _ _ _ _ _ _=>put_defers _ _ _)) fun K hK=>?_
  refine h Δ H a w _ _ hV (fun x hx ψ hψ=>S.opd hψ) S.sat S.res S.dis (fun b hb=>(S.own b hb).1) fun v H' w' Δ' h1 h2 h3 h4 h5 h6 h7 h8 h9=>?_
  exact hK _ _ (k Δ' h1 H' _ w' ((S.act h2 h3 h4 h5 h6 h7 h8).put (Ext.refl h2) d (blt hd) v φ h9))
theorem Lq.vr {d j g:Nat} {want b:Bool} (hd:Nat.blt d C.n=true) (hj:gslot ops j=some g) (hl:look Γ g=some (is (.bool b))) (hb:b=want) (hV:V Δ) (h:OpV C.P Γ V ⟨some d,op,ty,pos,af,none⟩ φ V1) (k : ∀ Δ',V1 Δ'→Lq C ((d,φ)::Γ) Δ' ops rest Q):Lq C Γ Δ ops (⟨some d,op,ty,pos,af,some (j,want)⟩::rest) Q:=by
  subst hb
  exact Lq.wanted rfl hj hl (Lq.v hd hV h k)
end
end Go.Proofs.YtljbbajelkkafaaDoor.L
