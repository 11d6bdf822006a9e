/-
  Regions in any order,some of whose operations act on all that is owned,while others look at it;what is owned may speak of one slot.
-/
import Derived.Test.YtljbbajelkkafaaDoorLt
set_option linter.unusedVariables false
set_option linter.unusedSimpArgs false
namespace Go.Proofs.YtljbbajelkkafaaDoor.L
open Go
set_option linter.unusedSectionVars false
variable [Globs]
/-- All that is owned, and the value of one slot. -/
abbrev VU:=List Res→Value→Prop
/-- An operation that acts on all that is owned; s is the slot that is spoken of. -/
def OpU (P:Program) (s:Nat) (Γ:Env) (V:VU) (o:Oper) (φ:Pr) (V':VU):Prop :=
  ∀ (Δ:List Res) (H:IH) (a:Act) (w:World) (Q:Exit→Act→World→Prop) (K:Act→World→Prop) (u:Value),a.tmps[s]?=some u→V Δ u →
    (∀ x ∈ o.op.operands, ∀ ψ,opd Γ x=some ψ→ψ.h H (a.eval x))→Sat H w→(∀ r ∈ Δ,r.ok H w)→(blks Δ).Nodup→(∀ b ∈ blks Δ,b < w.heap.size) →
    (∀ v H' w' Δ',(∀ u',(a.put o.dst v).tmps[s]?=some u'→V' Δ' u')→Sat H' w'→(∀ r ∈ Δ',r.ok H' w')→(blks Δ').Nodup→(∀ b ∈ blks Δ',b < w'.heap.size∧(b ∈ blks Δ ∨ w.heap.size≤b))→IH.le H H'→Fr (blks Δ) w w' →
      (∀ b o,b < w.heap.size→b ∉ blks Δ→H' b o=H b o)→φ.h H' v→K (a.put o.dst v) w')→o.wp P a w K Q
inductive StpU (P:Program) (ops:Array Oper) (s:Nat) (U:List Res→Prop) (Γ:Env) (V:VU) (o:Oper):Pr→VU→Bool→Prop
  | p (φ:Pr) (h : ∀ Δ,U Δ→OpG P ops Γ Δ o φ) (hd:o.dst ≠ some s):StpU P ops s U Γ V o φ V false
  | e (φ:Pr) (V':VU) (hg:o.guard=none) (h:OpU P s Γ V o φ V') (hu : ∀ Δ u,V' Δ u→U Δ):StpU P ops s U Γ V o φ V' true
/-- Along a head. -/
def PRunU (P:Program) (ops:Array Oper) (s:Nat) (U:List Res→Prop):List Oper→List Bool→Env→VU→(Env→VU→Prop)→Prop
  | [],[],Γ,V,K=>K Γ V
  | o::os,k::ks,Γ,V,K => ∃ φ V',StpU P ops s U Γ V o φ V' k∧PRunU P ops s U os ks (putΓ Γ o.dst φ) V' K
  | _,_,_,_,_=>False
inductive AlongU (P:Program) (ops:Array Oper) (s:Nat) (U:List Res→Prop):Env→VU→List Oper→List Bool→List (Env × VU × Pr)→Env→VU→Prop
  | nil (Γ:Env) (V:VU):AlongU P ops s U Γ V [] [] [] Γ V
  | cons (Γ:Env) (V:VU) (o:Oper) (os:List Oper) (k:Bool) (ks:List Bool) (φ:Pr) (V1:VU) (l:List (Env × VU × Pr)) (Γ':Env) (V':VU) (h:StpU P ops s U Γ V o φ V1 k) (r:AlongU P ops s U (putΓ Γ o.dst φ) V1 os ks l Γ' V'):AlongU P ops s U Γ V (o::os) (k::ks) ((Γ,V,φ)::l) Γ' V'
theorem PRunU.along {P:Program} {ops:Array Oper} {s:Nat} {U:List Res→Prop} : ∀ {os:List Oper} {ks:List Bool} {Γ:Env} {V:VU} {K:Env→VU→Prop},PRunU P ops s U os ks Γ V K → ∃ l Γ' V',AlongU P ops s U Γ V os ks l Γ' V'∧K Γ' V'
  | [],[],Γ,V,K,h=>⟨[],Γ,V, .nil Γ V,h⟩
  | o::os,k::ks,Γ,V,K,⟨φ,V1,hs,hr⟩=>let ⟨l,Γ',V',hA,hK⟩:=PRunU.along hr;⟨_,Γ',V', .cons Γ V o os k ks φ V1 l Γ' V' hs hA,hK⟩
  | [],_::_,_,_,_,h=>h.elim
  | _::_,[],_,_,_,h=>h.elim
theorem AlongU.length {P:Program} {ops:Array Oper} {s:Nat} {U:List Res→Prop} {Γ Γ':Env} {V V':VU} {os:List Oper} {ks:List Bool} {l:List (Env × VU × Pr)} (h:AlongU P ops s U Γ V os ks l Γ' V'):l.length=os.length∧ks.length=os.length:=by
  induction h with
  | nil=>exact ⟨rfl,rfl⟩
  | cons _ _ _ _ _ _ _ _ _ _ _ _ _ ih=>exact ⟨congrArg (· + 1) ih.1,congrArg (· + 1) ih.2⟩
/-- What is owned at place k. -/
def atU (l:List (Env × VU × Pr)) (V':VU) (k:Nat):VU:=match l[k]? with|some p=>p.2.1|none=>V'
theorem AlongU.get {P:Program} {ops:Array Oper} {s:Nat} {U:List Res→Prop} {Γ Γ':Env} {V V':VU} {os:List Oper} {ks:List Bool} {l:List (Env × VU × Pr)} (h:AlongU P ops s U Γ V os ks l Γ' V') : ∀ (i:Nat) (o:Oper),os[i]?=some o → ∃ p k,l[i]?=some p∧ks[i]?=some k∧StpU P ops s U p.1 p.2.1 o p.2.2 (atU l V' (i+1)) k:=by
  induction h with
  | nil=>intro i o ho;simp at ho
  | cons Γ V o os k ks φ V1 l Γ' V' hs hr ih =>
    intro i o' ho
    cases i with
    | zero =>
      simp at ho;subst ho
      refine ⟨_,k,rfl,rfl,?_⟩
      have:atU ((Γ,V,φ)::l) V' (0+1)=V1:=by
        cases hr with
        | nil=>rfl
        | cons=>rfl
      rw [this]
      exact hs
    | succ i =>
      obtain ⟨p,k',h1,h2,h3⟩:=ih i o' (by simpa using ho)
      exact ⟨p,k',by simpa using h1,by simpa using h2,h3⟩
theorem AlongU.zero {P:Program} {ops:Array Oper} {s:Nat} {U:List Res→Prop} {Γ Γ':Env} {V V':VU} {os:List Oper} {ks:List Bool} {l:List (Env × VU × Pr)} (h:AlongU P ops s U Γ V os ks l Γ' V'):atU l V' 0=V:=by
  cases h <;> rfl
theorem AlongU.look {P:Program} {ops:Array Oper} {s:Nat} {U:List Res→Prop} {Γ Γ':Env} {V V':VU} {os:List Oper} {ks:List Bool} {l:List (Env × VU × Pr)} (h:AlongU P ops s U Γ V os ks l Γ' V') : ∀ (i:Nat) (Γi:Env),((∃ φ,l[i]?=some (Γi,φ)) ∨ (i=os.length∧Γi=Γ')) → ∀ t,
    ((∀ j o,j < i→os[j]?=some o→o.dst ≠ some t)→L.look Γi t=L.look Γ t) ∧
    (∀ j o p,j < i→os[j]?=some o→l[j]?=some p→o.dst=some t→(∀ j' o',j < j'→j' < i→os[j']?=some o'→o'.dst ≠ some t)→L.look Γi t=some p.2.2):=by
  induction h with
  | nil Γ V =>
    intro i Γi h t
    rcases h with ⟨φ,h⟩|⟨rfl,rfl⟩
    · simp at h
    · exact ⟨fun _=>rfl,fun j o p hj=>by simp at hj⟩
  | cons Γ V o os k ks φ V1 l Γ' V' hs hr ih =>
    intro i Γi h t
    cases i with
    | zero =>
      rcases h with ⟨ψ,h⟩|⟨h,_⟩
      · simp at h
        obtain ⟨rfl,_⟩:=h
        exact ⟨fun _=>rfl,fun j o p hj=>by omega⟩
      · simp at h
    | succ i =>
      obtain ⟨h1,h2⟩:=ih i Γi (by
        rcases h with ⟨ψ,h⟩|⟨h,hg⟩
        · exact .inl ⟨ψ,by simpa using h⟩
        · exact .inr ⟨by simpa using h,hg⟩) t
      refine ⟨fun hno=>?_,fun j o' p hj ho hp hd hno=>?_⟩
      · rw [h1 (fun j o' hj ho=>hno (j+1) o' (by omega) (by simpa using ho))]
        exact look_put (hno 0 o (by omega) rfl)
      · cases j with
        | zero =>
          simp at ho hp;subst ho;subst hp
          rw [h1 (fun j o' hj ho=>hno (j+1) o' (by omega) (by omega) (by simpa using ho)),hd]
          show (match Nat.beq t t with|true=>some φ|false=>L.look Γ t)=some φ
          rw [Nat.beq_refl]
        | succ j =>
          exact h2 j o' p (by omega) (by simpa using ho) (by simpa using hp) hd (fun j' o'' hj' hj2 ho'=>hno (j'+1) o'' (by omega) (by omega) (by simpa using ho'))
theorem constU {P:Program} {ops:Array Oper} {s:Nat} {U:List Res→Prop} {Γ Γ':Env} {V V':VU} {os:List Oper} {ks:List Bool} {l:List (Env × VU × Pr)} (hA:AlongU P ops s U Γ V os ks l Γ' V') : ∀ (d k:Nat),k+d≤os.length→(∀ i,k≤i→i < k+d→ks[i]? ≠ some true)→atU l V' k=atU l V' (k+d)
  | 0,k,_,_=>rfl
  | d+1,k,hk,h=>by
    obtain ⟨o,ho⟩ : ∃ o,os[k]?=some o:=⟨_,List.getElem?_eq_getElem (by omega)⟩
    obtain ⟨p,b,h1,h2,h3⟩:=hA.get k o ho
    have hb:b=false:=by
      cases b with
      | false=>rfl
      | true=>exact absurd h2 (h k (Nat.le_refl _) (by omega))
    subst hb
    have e1:atU l V' k=p.2.1:=by unfold atU;rw [h1]
    have e2:atU l V' (k+1)=p.2.1:=by
      generalize atU l V' (k+1)=W at h3
      cases h3;rfl
    rw [e1, ← e2,constU hA d (k+1) (by omega) (fun i h4 h5=>h i (by omega) (by omega))]
    congr 1;omega
section
variable {C:Cx} {Γ:Env} {Q:Exit→Act→World→Prop}
structure HStU (C:Cx) (Γ:Env) (ops:Array Oper) (n:Nat) (ks:List Bool) (l:List (Env × VU × Pr)) (V':VU) (s:Nat) (U:List Res→Prop) (listed:Array Bool) (Δ:List Res) (H:IH) (a:Act) (w:World):Prop where
  st:St C [] Δ H a w
  base : ∀ t φ,look Γ t=some φ→(∀ j,j < n→listed.getD j false=true→dstOf ops j ≠ some t) → ∃ v,a.tmps[t]?=some v∧φ.h H v
  done : ∀ j t p,j < n→listed.getD j false=true→dstOf ops j=some t→l[j]?=some p → ∃ v,a.tmps[t]?=some v∧p.2.2.h H v
  vs : ∀ k,cutV n ks listed k → ∀ u,a.tmps[s]?=some u→atU l V' k Δ u
  us:U Δ
theorem seq_anyU {s:Nat} {U:List Res→Prop} {ops:Array Oper} {md:Region.Mode} (n:Nat) (hsl : ∀ d,(∃ j,j < n∧dstOf ops j=some d)→d < C.n) (hn:n≤ops.size) (hh:headOKW md ops n=true) (hsk:n=ops.size ∨ (Region.sinkB md ops n=true∧Region.chainB md ops n=true))
    (hseq:Region.seqB md ops (ops.size - n) n (headList n (ops.size - n))=true) {ks:List Bool} (hchkV:chkV md ops n ks=true) {V0 V':VU} {l:List (Env × VU × Pr)} {Γ':Env} (hA:AlongU C.P ops s U Γ V0 (ops.toList.take n) ks l Γ' V')
    (hs:s < C.n) (hT : ∀ Δ' u,V' Δ' u→Lq C ((s,is u)::Γ') Δ' ops (ops.toList.drop n) Q) :
    ∀ (m:Nat) (listed:Array Bool) (Δ:List Res) (H:IH) (a:Act) (w:World),HeadInv md ops n listed→left n listed=m→HStU C Γ ops n ks l V' s U listed Δ H a w →
      wpAnyIn (fen C.ro) 0 C.P md ops Q (m+(ops.size - n)) listed a w:=by
  have hlen:(ops.toList.take n).length=n:=by simp;omega
  have hll:l.length=n:=hA.length.1.trans hlen
  have htl:ks.length=n:=hA.length.2.trans hlen
  have hget : ∀ i,i < n→(ops.toList.take n)[i]?=ops[i]?:=fun i hi=>by rw [List.getElem?_take,if_pos hi];simp
  have hchk : ∀ i,i < n → ∃ o,ops[i]?=some o∧(∀ t ∈ o.looksAt ops, ∀ j,j < n→dstOf ops j=some t→(j < i∧Region.waitsFor md ops i j=true) ∨ (i < j∧Region.waitsFor md ops j i=true))∧(∀ j,j < i→dstOf ops j ≠ none→dstOf ops j ≠ dstOf ops i)∧(∀ e ∈ o.after,Region.binds md e=true→e.on < i):=by
    intro i hi
    have h1:=List.all_eq_true.1 hh i (List.mem_range.2 hi)
    cases ho:ops[i]? with
    | none=>rw [ho] at h1;cases h1
    | some o =>
      rw [ho] at h1
      simp only [Bool.and_eq_true,List.all_eq_true,Bool.or_eq_true,bne_iff_ne,decide_eq_true_eq,beq_iff_eq,List.mem_range,Array.all_eq_true_iff_forall_mem] at h1
      obtain ⟨⟨h1,h2⟩,h3⟩:=h1
      refine ⟨o,rfl,fun t ht j hj hd=>?_,fun j hj hne he=>?_,fun e he hb=>?_⟩
      · rcases h1 t ht j hj with (h|h)|h
        · exact absurd hd h
        · exact .inl h
        · exact .inr h
      · rcases h2 j hj with h|h
        · exact hne h
        · exact h he
      · rcases h3 e he with h|h
        · rw [hb] at h;cases h
        · exact h
  have hdist : ∀ i j t,i < n→j < n→dstOf ops i=some t→dstOf ops j=some t→i=j:=by
    intro i j t hi hj h1 h2
    rcases Nat.lt_trichotomy i j with h|h|h
    · obtain ⟨o,_,_,hd,_⟩:=hchk j hj
      exact absurd (h1.trans h2.symm) (hd i h (by rw [h1];simp))
    · exact h
    · obtain ⟨o,_,_,hd,_⟩:=hchk i hi
      exact absurd (h2.trans h1.symm) (hd j h (by rw [h2];simp))
  have hgetD : ∀ {i:Nat} {b:Bool},ks[i]?=some b→ks.getD i false=b:=fun h=>by rw [List.getD_eq_getElem?_getD,h];rfl
  have hclosed : ∀ (j:Nat),ks[j]?=some true → ∀ i,ks[i]?=some true→i < j→Reach md ops j i:=by
    intro j hj i hi hij
    have hjn:j < n:=by rw [← htl];exact (List.getElem?_eq_some_iff.1 hj).1
    have h1:=List.all_eq_true.1 hchkV j (List.mem_range.2 hjn)
    rw [hgetD hj] at h1
    simp only [Bool.not_true,Bool.false_or] at h1
    have h2:=List.all_eq_true.1 h1 i (List.mem_range.2 hij)
    rw [hgetD hi] at h2
    simp only [Bool.not_true,Bool.false_or] at h2
    exact ancs_reach n j i h2
  have hmeet : ∀ (i:Nat) (Γi:Env),i≤n→((∃ φ,l[i]?=some (Γi,φ)) ∨ (i=n∧Γi=Γ')) → ∀ (listed:Array Bool) Δ H a w,HStU C Γ ops n ks l V' s U listed Δ H a w → ∀ t ψ,look Γi t=some ψ →
      (∀ j,j < n→dstOf ops j=some t→(j < i∧listed.getD j false=true) ∨ (i≤j∧listed.getD j false=false)) → ∃ v,a.tmps[t]?=some v∧ψ.h H v:=by
    intro i Γi hin hΓ listed Δ H a w S t ψ hψ hj
    obtain ⟨h1,h2⟩:=hA.look i Γi (by rw [hlen];exact hΓ) t
    by_cases hex : ∃ j,j < i∧dstOf ops j=some t
    · obtain ⟨j,hji',hd⟩:=hex
      have hjn:j < n:=by omega
      obtain ⟨hji,hl⟩:j < i∧listed.getD j false=true:=by
        rcases hj j hjn hd with h|h
        · exact h
        · omega
      obtain ⟨o,ho,_⟩:=hchk j hjn
      have hod:o.dst=some t:=by unfold dstOf at hd;rw [ho] at hd;exact hd
      obtain ⟨p,_,hp,_⟩:=hA.get j o (by rw [hget j hjn];exact ho)
      have:=h2 j o p hji (by rw [hget j hjn];exact ho) hp hod (fun j' o' hj' hj2 ho' he=>by
        have hj'n:j' < n:=by omega
        rw [hget j' hj'n] at ho'
        have:=hdist j j' t hjn hj'n hd (by unfold dstOf;rw [ho'];exact he)
        omega)
      rw [this] at hψ
      injection hψ with hψ
      subst hψ
      exact S.done j t p hjn hl hd hp
    · have hno : ∀ j,j < n→listed.getD j false=true→dstOf ops j ≠ some t:=fun j hjn hl hd=>by
        rcases hj j hjn hd with h|h
        · exact hex ⟨j,h.1,hd⟩
        · rw [h.2] at hl;cases hl
      rw [h1 (fun j o hji ho he=>by
        have hjn:j < n:=by omega
        rw [hget j hjn] at ho
        exact hex ⟨j,hji,by unfold dstOf;rw [ho];exact he⟩)] at hψ
      exact S.base t ψ hψ hno
  intro m
  induction m with
  | zero =>
    intro listed Δ H a w inv hm S
    have hall:=left_zero hm
    have hl:listed=headList n (ops.size - n):=by
      apply Array.ext
      · rw [inv.size];simp [headList];omega
      · intro i h1 h2
        by_cases hin:i < n
        · have:=hall i hin
          simp [h1] at this
          rw [this]
          simp [headList,Array.getElem_append,hin]
        · have:=inv.tail i (by omega) (by rw [← inv.size];exact h1)
          simp [h1] at this
          rw [this]
          simp [headList,Array.getElem_append,hin]
    rw [Nat.zero_add]
    have hdl:(ops.toList.drop n).length=ops.size - n:=by simp
    have S1:St C Γ' Δ H a w:=S.st.weak fun t φ ht=>hmeet n Γ' (Nat.le_refl _) (.inr ⟨rfl,rfl⟩) _ Δ H a w S t φ ht (fun j hj _ => .inl ⟨hj,hall j hj⟩)
    have hcut:cutV n ks listed n:=⟨Nat.le_refl _,fun i hi=>by
      have hin:i < n:=by rw [← htl];exact (List.getElem?_eq_some_iff.1 hi).1
      exact ⟨fun _=>hin,fun _=>hall i hin⟩⟩
    have hF:atU l V' n=V':=by unfold atU;rw [List.getElem?_eq_none (by omega)]
    obtain ⟨u,hu⟩ : ∃ u,a.tmps[s]?=some u:=⟨_,Array.getElem?_eq_getElem (by rw [S.st.siz];exact hs)⟩
    have hV:=S.vs n hcut u hu
    rw [hF] at hV
    have S2:St C ((s,is u)::Γ') Δ H a w:=S1.weak fun t φ ht=>by
      unfold look at ht
      split at ht
      · rename_i hk
        have hk:=Nat.eq_of_beq_eq_true hk
        subst hk
        injection ht with ht;subst ht
        exact ⟨u,hu,rfl⟩
      · exact S1.env t φ ht
    subst hl
    rw [← hdl]
    exact wpAnyIn_of_seq (ops.toList.drop n) n _ a w (fun j=>by simp [List.getElem?_drop]) (by rw [hdl];exact hseq) (hT Δ u hV H a w S2)
  | succ m ih =>
    intro listed Δ H a w inv hm S
    obtain ⟨i0,hi0,hf0,hmin⟩:=left_pos (n:=n) (listed:=listed) (by omega)
    have hsz : ∀ i,i < n→i < listed.size:=fun i hi=>by rw [inv.size];omega
    have hr0:i0 ∈ Region.ready md ops listed:=by
      obtain ⟨o,ho,_,_,hback⟩:=hchk i0 hi0
      exact mem_ready.2 ⟨by rw [getD_flip (hsz i0 hi0)];exact hf0,o,ho,fun e he hb=>hmin e.on (hback e he hb)⟩
    rw [show m+1+(ops.size - n)=(m+(ops.size - n))+1 by omega]
    refine ⟨fun h=>(by rw [h] at hr0;cases hr0),fun i hi=>?_⟩
    have hin:i < n:=by
      rcases hsk with h|⟨hs,hc⟩
      · obtain ⟨_,o,ho,_⟩:=mem_ready.1 hi
        have:=(Array.getElem?_eq_some_iff.1 ho).1
        omega
      · rcases Nat.lt_or_ge i n with h|h
        · exact h
        · have hns:n < ops.size:=by
            obtain ⟨_,o,ho,_⟩:=mem_ready.1 hi
            have:=(Array.getElem?_eq_some_iff.1 ho).1
            omega
          exact absurd hi (tail_waits hs hc hns inv _ i0 rfl hi0 (by rw [getD_flip (hsz i0 hi0)];exact hf0) i h)
    obtain ⟨hun,o,ho,hedges⟩:=mem_ready.1 hi
    have hunf:listed.getD i false=false:=by rw [← getD_flip (hsz i hin)];exact hun
    obtain ⟨o',ho',hlk,_,_⟩:=hchk i hin
    have:o'=o:=Option.some.inj (ho'.symm.trans ho)
    subst this
    obtain ⟨⟨Γi,Vi,φ⟩,kd,hp,hkd,hg⟩:=hA.get i o' (by rw [hget i hin];exact ho)
    have hVi:atU l V' i=Vi:=by unfold atU;rw [hp]
    have hdi:dstOf ops i=o'.dst:=by unfold dstOf;rw [ho];rfl
    have hlisted : ∀ t ∈ o'.looksAt ops, ∀ j,j < n→dstOf ops j=some t→(j < i∧listed.getD j false=true) ∨ (i≤j∧listed.getD j false=false):=by
      intro t ht j hj hd
      rcases hlk t ht j hj hd with ⟨h1,h2⟩|⟨h1,h2⟩
      · obtain ⟨oj,hoj,e,he,hb,hon⟩:=Region.waitsFor_spec h2
        have:oj=o':=Option.some.inj (hoj.symm.trans ho)
        subst this
        have:=hedges e he hb
        rw [hon] at this
        exact .inl ⟨h1,this⟩
      · refine .inr ⟨Nat.le_of_lt h1,?_⟩
        obtain ⟨oj,hoj,e,he,hb,hon⟩:=Region.waitsFor_spec h2
        cases hl:listed.getD j false with
        | false=>rfl
        | true =>
          have:=inv.closed j oj hoj hl e he hb
          rw [hon,hunf] at this;cases this
    have hops : ∀ x ∈ o'.op.operands, ∀ ψ,opd Γi x=some ψ→ψ.h H (a.eval x):=fun x hx ψ hψ=>by
      cases x with
      | tmp t =>
        obtain ⟨v,hv,hψ⟩:=hmeet i Γi (Nat.le_of_lt hin) (.inl ⟨_,hp⟩) listed Δ H a w S t ψ hψ (hlisted t (List.mem_append_left _ (List.mem_filterMap.2 ⟨.tmp t,by simpa using hx,rfl⟩)))
        have:a.eval (.tmp t)=v:=by simp [Act.eval,hv]
        rw [this];exact hψ
      | const v=>injection hψ with hψ;subst hψ;exact rfl
      | global g=>injection hψ with hψ;subst hψ;exact rfl
      | func f=>injection hψ with hψ;subst hψ;exact rfl
    have hcuti:kd=true→cutV n ks listed i:=by
      intro hk
      subst hk
      refine ⟨Nat.le_of_lt hin,fun j hj=>?_⟩
      rcases Nat.lt_trichotomy j i with h|h|h
      · refine ⟨fun _=>h,fun _=>(hclosed i hkd j hj h).ready inv (fun k hw=>?_)⟩
        obtain ⟨oj,hoj,e,he,hb,hon⟩:=Region.waitsFor_spec hw
        have:oj=o':=Option.some.inj (hoj.symm.trans ho)
        subst this
        have:=hedges e he hb
        rwa [hon] at this
      · subst h
        rw [hunf]
        exact ⟨fun h=>(by cases h),fun h=>absurd h (Nat.lt_irrefl _)⟩
      · refine ⟨fun hl=>?_,fun h'=>by omega⟩
        have:=(hclosed j hj i hkd h).listed inv hl
        rw [hunf] at this;cases this
    have hold : ∀ j,j ≠ i→(listed.setIfInBounds i true).getD j false=listed.getD j false:=fun j hji=>getD_set_ne false (Ne.symm hji)
    have hnew:(listed.setIfInBounds i true).getD i false=true:=by
      have:=hsz i hin
      simp [this]
    have hnext : ∀ (v:Value) (Δ':List Res) (H':IH) (w':World),Sat H' w'→(∀ r ∈ Δ',r.ok H' w')→(blks Δ').Nodup→(∀ b ∈ blks Δ',b < w'.heap.size∧(b ∈ blks Δ ∨ w.heap.size≤b))→IH.le H H'→Fr (blks Δ) w w' →
        (∀ b o,b < w.heap.size→b ∉ blks Δ→H' b o=H b o)→φ.h H' v→(∀ k,cutV n ks (listed.setIfInBounds i true) k → ∀ u,(a.put o'.dst v).tmps[s]?=some u→atU l V' k Δ' u)→U Δ' →
        wpAnyIn (fen C.ro) 0 C.P md ops Q (m+(ops.size - n)) (listed.setIfInBounds i true) (a.put o'.dst v) w':=by
      intro v Δ' H' w' hsat hok hnd hbl hle hfr hH hv hvs hus
      refine ih (listed.setIfInBounds i true) Δ' H' _ w' (inv.set hi hin) ?_ ?_
      · have:=left_set hin (hsz i hin) hunf
        omega
      have hkeep : ∀ t,o'.dst ≠ some t→(a.put o'.dst v).tmps[t]?=a.tmps[t]?:=by
        intro t hne
        cases hdd:o'.dst with
        | none=>rfl
        | some d =>
          have hne:d ≠ t:=fun e=>hne (by rw [hdd,e])
          simp [Act.put,Array.getElem?_setIfInBounds_ne hne]
      have hself : ∀ t,o'.dst=some t→(a.put o'.dst v).tmps[t]?=some v:=by
        intro t hd
        have hlt:=hsl t ⟨i,hin,by rw [hdi];exact hd⟩
        rw [← S.st.siz] at hlt
        rw [hd]
        simp [Act.put,hlt]
      refine ⟨⟨(by have:=S.st.dfr;cases hdd:o'.dst <;> exact this),?_,fun t ψ ht=>(by cases ht),hsat,hok,hnd,fun b hb=>?_,IH.le_trans S.st.le hle,?_,?_⟩,?_,?_,hvs,hus⟩
      · have:=S.st.siz
        cases hdd:o'.dst with
        | none=>exact this
        | some d=>simpa [Act.put] using this
      · refine ⟨(hbl b hb).1,?_⟩
        rcases (hbl b hb).2 with h|h
        · exact (S.st.own b h).2
        · exact .inr (Nat.le_trans S.st.fr.size h)
      · refine ⟨hfr.os.trans S.st.fr.os,hfr.tape.trans S.st.fr.tape,hfr.output.trans S.st.fr.output,Nat.le_trans S.st.fr.size hfr.size,fun k hk hX=>?_⟩
        rw [hfr.block k (Nat.lt_of_lt_of_le hk S.st.fr.size) (fun ht=>by
          rcases (S.st.own k ht).2 with h|h
          · exact hX h
          · omega)]
        exact S.st.fr.block k hk hX
      · intro b o hb hX
        rw [hH b o (Nat.lt_of_lt_of_le hb S.st.fr.size) (fun ht=>by
          rcases (S.st.own b ht).2 with h|h
          · exact hX h
          · omega)]
        exact S.st.hk b o hb hX
      · intro t ψ ht hno
        obtain ⟨u,hu,hψ⟩:=S.base t ψ ht (fun j hj hl=>hno j hj (by
          by_cases hji:j=i
          · subst hji;exact hnew
          · rw [hold j hji];exact hl))
        exact ⟨u,by rw [hkeep t (fun hd=>hno i hin hnew (by rw [hdi];exact hd))];exact hu,ψ.mono hle hψ⟩
      · intro j t p hj hl hdj hpj
        by_cases hji:j=i
        · subst hji
          rw [hp] at hpj
          injection hpj with hpj
          subst hpj
          exact ⟨v,hself t (by rw [← hdi];exact hdj),hv⟩
        · rw [hold j hji] at hl
          obtain ⟨u,hu,hψ⟩:=S.done j t p hj hl hdj hpj
          exact ⟨u,by rw [hkeep t (fun hd=>hji (hdist j i t hj hin hdj (by rw [hdi];exact hd)))];exact hu,p.2.2.mono hle hψ⟩
    have hown : ∀ b ∈ blks Δ,b < w.heap.size:=fun b hb=>(S.st.own b hb).1
    -- what is owned behind one that acts
    have hvE : ∀ (v:Value) (Δ':List Res),kd=true→(∀ u,(a.put o'.dst v).tmps[s]?=some u→atU l V' (i+1) Δ' u) → ∀ k,cutV n ks (listed.setIfInBounds i true) k → ∀ u,(a.put o'.dst v).tmps[s]?=some u→atU l V' k Δ' u:=by
      intro v Δ' hk hV k hcut u hu
      subst hk
      have hik:i < k:=(hcut.2 i hkd).1 hnew
      have hci:=hcuti rfl
      have:=constU hA (k - (i+1)) (i+1) (by rw [hlen];have:=hcut.1;omega) (fun j hj1 hj2 hj=>by
        have hlj:=(hcut.2 j hj).2 (by omega)
        rw [hold j (by omega)] at hlj
        have:=(hci.2 j hj).1 hlj
        omega)
      rw [show i+1+(k - (i+1))=k by omega] at this
      rw [← this];exact hV u hu
    have hact : ∀ (V1:VU),kd=true→V1=atU l V' (i+1)→OpU C.P s Γi Vi o' φ V1 → ∀ (K:Act→World→Prop) (hK : ∀ v Δ' H' w',(∀ u',(a.put o'.dst v).tmps[s]?=some u'→V1 Δ' u')→Sat H' w'→(∀ r ∈ Δ',r.ok H' w')→(blks Δ').Nodup→(∀ b ∈ blks Δ',b < w'.heap.size∧(b ∈ blks Δ ∨ w.heap.size≤b))→IH.le H H'→Fr (blks Δ) w w'→(∀ b o,b < w.heap.size→b ∉ blks Δ→H' b o=H b o)→φ.h H' v→K (a.put o'.dst v) w') (Q':Exit→Act→World→Prop),o'.wp C.P a w K Q':=by
      intro V1 hk hV1 hE K hK Q'
      obtain ⟨u,hu⟩ : ∃ u,a.tmps[s]?=some u:=⟨_,Array.getElem?_eq_getElem (by rw [S.st.siz];exact hs)⟩
      have hVΔ:Vi Δ u:=by rw [← hVi];exact S.vs i (hcuti hk) u hu
      exact hE Δ H a w Q' K u hu hVΔ hops S.st.sat S.st.res S.st.dis hown (fun v H' w' Δ' h1 h2 h3 h4 h5 h6 h7 h8 h9=>hK v Δ' H' w' h1 h2 h3 h4 h5 h6 h7 h8 h9)
    unfold wpOpIn
    simp only [ho]
    generalize hV1:atU l V' (i+1)=V1 at hg
    cases hg with
    | p hg0 hds =>
      have hg:=hg0 Δ S.us
      have hvp : ∀ (v:Value) k,cutV n ks (listed.setIfInBounds i true) k → ∀ u,(a.put o'.dst v).tmps[s]?=some u→atU l V' k Δ u:=by
        intro v k hcut u hu
        have hu2:a.tmps[s]?=some u:=by
          cases hdd:o'.dst with
          | none=>rw [hdd] at hu;exact hu
          | some d =>
            rw [hdd] at hu
            have hne:d ≠ s:=fun e=>hds (by rw [hdd,e])
            simpa [Act.put,Array.getElem?_setIfInBounds_ne hne] using hu
        refine S.vs k ⟨hcut.1,fun j hj=>?_⟩ u hu2
        have hji:j ≠ i:=fun e=>by subst e;rw [hkd] at hj;cases hj
        rw [← hold j hji]
        exact hcut.2 j hj
      have hstep:=hg.step (H:=H) (a:=a) (w:=w) (Q:=Q) (K:=wpAnyIn (fen C.ro) 0 C.P md ops Q (m+(ops.size - n)) (listed.setIfInBounds i true))
        hops
        (fun j want g ψ hgd hgs hl=>hmeet i Γi (Nat.le_of_lt hin) (.inl ⟨_,hp⟩) listed Δ H a w S g ψ hl (hlisted g (List.mem_append_right _ (by
          have e1:(ops[j]?).bind (·.dst)=some g:=hgs
          simp [hgd,e1]))))
        S.st.sat S.st.res hown
        (fun v H' w' E hv=>hnext v Δ H' w' E.sat (Res.keep E hown S.st.res) S.st.dis (fun b hb=>⟨Nat.lt_of_lt_of_le (hown b hb) E.fr.size, .inl hb⟩) E.le (E.fr.weak fun x hx=>by cases hx) (fun b o hb _=>E.old b o hb) hv (hvp v) S.us)
      have hnd:=hg.step (H:=H) (a:=a) (w:=w) (Q:=fun _ _ _=>False) (K:=fun a' _=>a'.defers=a.defers)
        hops
        (fun j want g ψ hgd hgs hl=>hmeet i Γi (Nat.le_of_lt hin) (.inl ⟨_,hp⟩) listed Δ H a w S g ψ hl (hlisted g (List.mem_append_right _ (by
          have e1:(ops[j]?).bind (·.dst)=some g:=hgs
          simp [hgd,e1]))))
        S.st.sat S.st.res hown (fun v H' w' E hv=>put_defers _ _ _)
      split
      · rename_i hw
        rw [if_pos hw] at hstep hnd
        exact wpIn_fen (not_defer hnd) hstep
      · rename_i hw
        rw [if_neg hw] at hstep
        exact ⟨fun _ _=>trivial,hstep⟩
    | e _ hgd hE hUU =>
      rw [if_pos (by simp [Region.wanted,hgd])]
      refine wpIn_fen (not_defer (hact V1 rfl hV1.symm hE _ (fun v Δ' H' w' _ _ _ _ _ _ _ _ _=>put_defers _ _ _) _)) ?_
      exact hact V1 rfl hV1.symm hE _ (fun v Δ' H' w' h1 h2 h3 h4 h5 h6 h7 h8 h9=>hnext v Δ' H' w' h2 h3 h4 h5 h6 h7 h8 h9 (hvE v Δ' rfl (by rw [hV1];exact h1)) (by
        obtain ⟨u,hu⟩ : ∃ u,(a.put o'.dst v).tmps[s]?=some u:=by
          refine ⟨_,Array.getElem?_eq_getElem ?_⟩
          have:=S.st.siz
          cases hdd:o'.dst with
          | none=>show s < a.tmps.size;omega
          | some d=>show s < (a.tmps.setIfInBounds d v).size;rw [Array.size_setIfInBounds];omega
        exact hUU Δ' u (h1 u hu))) _
theorem J.drawU {id:Nat} {l:List Oper} {Δ:List Res} (n:Nat) (ks:List Bool) (s:Nat) (U:List Res→Prop) (V:VU) (hV : ∀ u,V Δ u) (hU:U Δ) (hsn:Nat.blt s C.n=true) (hm:C.P.follows .mixedOrders=true) (hc:(drawOKW .any l.toArray n && slotsOK l.toArray n C.n && chkV .any l.toArray n ks)=true)
    (h:PRunU C.P l.toArray s U (l.take n) ks Γ V fun Γ' V' => ∀ Δ' u,V' Δ' u→Lq C ((s,is u)::Γ') Δ' l.toArray (l.drop n) Q):J C Γ Δ (.region id l.toArray true) Q:=by
  intro H a w S
  simp only [drawOKW,Bool.and_eq_true,Bool.or_eq_true,decide_eq_true_eq] at hc
  obtain ⟨⟨⟨⟨⟨hn,hh⟩,hsk⟩,hseq⟩,hslots⟩,hchk⟩:=hc
  obtain ⟨ll,Γ',V',hA,hT⟩:=h.along
  refine wpIn_region_any hm ?_
  have hsl : ∀ d,(∃ j,j < n∧dstOf l.toArray j=some d)→d < C.n:=by
    rintro d ⟨j,hj,hd⟩
    have:=List.all_eq_true.1 hslots j (List.mem_range.2 hj)
    rw [hd] at this
    exact Nat.blt_eq.mp this
  have inv0:HeadInv .any l.toArray n (Array.replicate l.toArray.size false) :=
    ⟨by simp,fun j oj _ hl=>(by rw [getD_replicate_false] at hl;cases hl),fun t _ ht=>getD_in (by simpa using ht) (getD_replicate_false _ _)⟩
  have hleft:left n (Array.replicate l.toArray.size false)=n:=by
    unfold left
    rw [List.filter_eq_self.2 (fun i _=>by rw [getD_replicate_false];rfl),List.length_range]
  have S1:St C [] Δ H a { w with drawn:=w.drawn+1 }:=(S.drew).weak (fun t φ ht=>(by cases ht))
  have:=seq_anyU (C:=C) (Γ:=Γ) (Q:=Q) (ops:=l.toArray) (md := .any) n hsl hn hh hsk hseq hchk hA (Nat.blt_eq.mp hsn) hT n (Array.replicate l.toArray.size false) Δ H a { w with drawn:=w.drawn+1 } inv0 hleft
    ⟨S1,fun t φ ht _=>S.env t φ ht,fun j t p _ hl=>(by rw [getD_replicate_false] at hl;cases hl),fun k hk u hu=>?_,hU⟩
  · rwa [show n+(l.toArray.size - n)=l.toArray.size by omega] at this
  · have hlen:(l.take n).length=n:=by rw [List.length_take];simp at hn;omega
    have:=constU hA k 0 (by rw [hlen];have:=hk.1;omega) (fun i _ h2 hi=>by
      have:=(hk.2 i hi).2 (by omega)
      rw [getD_replicate_false] at this;cases this)
    rw [Nat.zero_add,hA.zero] at this
    rw [← this];exact hV u
end
section
variable {P:Program} {ops:Array Oper} {sq:Nat} {U:List Res→Prop} {Γ:Env} {V V1:VU} {rest:List Oper} {ks:List Bool} {op:Op} {ty:Nat} {pos:String} {af:Array Edge} {φ:Pr} {K:Env→VU→Prop} {d:Nat}
theorem PRunU.nil (h:K Γ V):PRunU P ops sq U [] [] Γ V K:=h
theorem PRunU.s (hd:Nat.beq d sq=false) (h : ∀ Δ,U Δ→OpP P Γ Δ ⟨some d,op,ty,pos,af,none⟩ φ) (k:PRunU P ops sq U rest ks ((d,φ)::Γ) V K):PRunU P ops sq U (⟨some d,op,ty,pos,af,none⟩::rest) (false::ks) Γ V K :=
  ⟨φ,V, .p φ (fun Δ hΔ => .plain rfl (h Δ hΔ)) (fun e=>Nat.ne_of_beq_eq_false hd (Option.some.inj e)),k⟩
theorem PRunU.e {dd:Option Nat} (h:OpU P sq Γ V ⟨dd,op,ty,pos,af,none⟩ φ V1) (hu : ∀ Δ u,V1 Δ u→U Δ) (k:PRunU P ops sq U rest ks (putΓ Γ dd φ) V1 K):PRunU P ops sq U (⟨dd,op,ty,pos,af,none⟩::rest) (true::ks) Γ V K:=⟨φ,V1, .e φ V1 rfl h hu,k⟩
end
section
variable {P:Program} {sq:Nat} {Γ:Env} {V V1:VU} {ty:Nat} {pos:String} {af:Array Edge} {g:Option (Nat × Bool)}
/-- A call that acts on a part of what is owned; its result is the slot that is spoken of. -/
theorem opU_call {f:Nat} {φs:List Pr} {xs:List Operand} {ats:Array Nat} {Δ0 Δf:List Res} {post:Pr→List Res→Prop} {φ:Pr} (F:FnR P f φs Δ0 post) (h:opds Γ xs φs) (hV : ∀ Δ u,V Δ u→Δ.Perm (Δ0++Δf))
    (hpost : ∀ ψ Δ',post ψ Δ' → ∀ H v,ψ.h H v→φ.h H v∧V1 (Δ'++Δf) v):OpU P sq Γ V ⟨some sq, .call ⟨.value (.func f),xs.toArray,ats⟩,ty,pos,af,g⟩ φ V1:=by
  intro Δ H a w Q K u hu hVu hx hs hr hn hb hK
  have hp:=hV Δ u hVu
  have hargs:=opds.all (ρ:=a.eval) (H:=H) h (fun x hxx ψ hψ=>hx x (by simp [Op.operands,Call.operands,hxx]) ψ hψ)
  have hrun:(execOp a.eval ⟨some sq, .call ⟨.value (.func f),xs.toArray,ats⟩,ty,pos,af,g⟩).run P w = .ok (.enter f (xs.map a.eval).toArray) w:=by
    have h1:(callFunc f ((#[]++xs.toArray.map a.eval) ++ #[])).run P w = .ok (.enter f (xs.map a.eval).toArray) w:=by
      rw [Array.empty_append,Array.append_empty,List.map_toArray]
      exact F.ent.h _ w
    exact h1
  unfold Oper.wp
  rw [hrun]
  rw [Oper.upon_enter]
  have hf:(blks Δ).Perm (blks Δ0++blks Δf):=by
    have:=hp.filterMap Res.blk
    rwa [List.filterMap_append] at this
  obtain ⟨hn0,hnf,hdis⟩:=List.nodup_append.1 (hf.nodup_iff.1 hn)
  refine (F.run H w _ hs hargs (fun r h=>hr r (hp.mem_iff.2 (List.mem_append_left _ h))) hn0 (fun b h=>hb b (hf.mem_iff.2 (List.mem_append_left _ h)))).mono fun e' w' hR=>?_
  obtain ⟨v,H',ψ,Δ',rfl,hps,hψ,hsat,hok,hnd',hblk,hle,hfr,hkk⟩:=hR
  have hfo : ∀ b ∈ blks Δf,b < w.heap.size∧b ∉ blks Δ0:=fun b h=>⟨hb b (hf.mem_iff.2 (List.mem_append_right _ h)),fun h0=>hdis b h0 b h rfl⟩
  obtain ⟨hφ,hV1⟩:=hpost ψ Δ' hps H' v hψ
  have hslot : ∀ u',(a.put (some sq) v).tmps[sq]?=some u'→u'=v:=fun u' h=>by
    have hlt:=(Array.getElem?_eq_some_iff.1 hu).1
    have h1:(a.put (some sq) v).tmps[sq]?=some v:=by simp [Act.put,hlt]
    rw [h1] at h;injection h with h;exact h.symm
  refine hK v H' w' (Δ'++Δf) (fun u' h=>by rw [hslot u' h];exact hV1) hsat (fun r h=>?_) ?_ (fun b h=>?_) hle (hfr.weak fun x h=>hf.mem_iff.2 (List.mem_append_left _ h)) (fun b o h hx=>hkk b o h fun h0=>hx (hf.mem_iff.2 (List.mem_append_left _ h0))) hφ
  · rcases List.mem_append.1 h with h|h
    · exact hok r h
    · refine r.st hle (fun b hbb=>?_) (hr r (hp.mem_iff.2 (List.mem_append_right _ h)))
      obtain ⟨h1,h2⟩:=hfo b (List.mem_filterMap.2 ⟨r,h,hbb⟩)
      exact ⟨hfr.block b h1 h2,fun o=>hkk b o h1 h2⟩
  · show (List.filterMap Res.blk (Δ'++Δf)).Nodup
    rw [List.filterMap_append]
    refine List.nodup_append.2 ⟨hnd',hnf,fun x hx y hy he=>?_⟩
    subst he
    obtain ⟨h1,h2⟩:=hfo x hy
    rcases (hblk x hx).2 with h3|h3
    · exact h2 h3
    · omega
  · have h:b ∈ List.filterMap Res.blk (Δ'++Δf):=h
    rw [List.filterMap_append] at h
    rcases List.mem_append.1 h with h|h
    · refine ⟨(hblk b h).1,?_⟩
      rcases (hblk b h).2 with h3|h3
      · exact .inl (hf.mem_iff.2 (List.mem_append_left _ h3))
      · exact .inr h3
    · exact ⟨Nat.lt_of_lt_of_le (hfo b h).1 hfr.size, .inl (hf.mem_iff.2 (List.mem_append_right _ h))⟩
/-- A store: of a value that is known, or of the slot that is spoken of. -/
theorem opU_store {b o e t n:Nat} {p x:Operand} (h:opd Γ p=some (is (.pointer (some ⟨b,o,none⟩)))) [TSz P t n]
    (hV : ∀ Δ u,V Δ u → ∃ φs D seg,Δ.Perm (own b e φs::D)∧seg.length=n∧o+n≤φs.length∧((x = .tmp sq∧Seg (is u) seg) ∨ (∃ φ,opd Γ x=some φ∧Seg φ seg))∧V1 (own b e (splice φs o seg)::D) u) :
    OpU P sq Γ V ⟨none, .store t p x,ty,pos,af,none⟩ (is undef) V1:=by
  intro Δ H a w Q K u hu hVu hx hs hr hn hb hK
  obtain ⟨φs,D,seg,hp,hl,hle,hsg,hV1⟩:=hV Δ u hVu
  have hpv:a.eval p = .pointer (some ⟨b,o,none⟩):=hx p (by simp [Op.operands]) _ h
  have hxv:All2 (fun ψ c=>ψ.c H c) seg (a.eval x).cells.toList:=by
    rcases hsg with ⟨rfl,hseg⟩|⟨φ,hφ,hseg⟩
    · have:a.eval (.tmp sq)=u:=by simp [Act.eval,hu]
      rw [this]
      exact hseg.h H u rfl
    · exact hseg.h H _ (hx x (by simp [Op.operands]) _ hφ)
  have S:St ⟨P,a.tmps.size,w,H,blks Δ,none,a.defers⟩ [] Δ H a w:=⟨rfl,rfl,fun t φ ht=>(by cases ht),hs,hr,hn,fun b hbb=>⟨hb b hbb, .inl hbb⟩,IH.le_refl _,Fr.refl _ _,fun _ _ _ _=>rfl⟩
  obtain ⟨⟨cs,hh,hcs⟩,hnone⟩:=hr _ (hp.mem_iff.2 List.mem_cons_self)
  have hsz:(a.eval x).cells.size=n:=by have:=hxv.length;rw [hl] at this;simpa using this.symm
  have hclen:=hcs.length
  obtain ⟨w',hrun,hb',hk',hs',e1,e2,e3⟩:=run_storeCells (P:=P) (b:=b) (o:=o) (e:=e) (a.eval x).cells.toList 0 w cs hh (by simp [hsz];omega) (fun v hv=>by
    obtain ⟨i,hi,rfl⟩:=List.mem_iff_getElem.1 hv
    have hi2:i < seg.length:=by rw [hxv.length];exact hi
    obtain ⟨c,hc,hφ⟩:=hxv.get i seg[i] (List.getElem?_eq_getElem hi2)
    rw [List.getElem?_eq_getElem hi] at hc
    injection hc with hc
    rw [hc];exact hφ.2)
  have hexec:(execOp a.eval ⟨none, .store t p x,ty,pos,af,none⟩).run P w = .ok .skip w':=by
    simp only [execOp,hpv]
    refine run_skip ?_
    unfold Instr.storeAt
    refine (run_bind (Instr.sureAddr (.pointer (some ⟨b,o,none⟩))) _ w (show _=Result.ok ⟨b,o,none⟩ w from rfl)).trans ?_
    unfold storeVar
    refine (run_bind (sizeOf t) _ w (run_sizeOf (t:=t) (n:=n))).trans ?_
    rw [if_neg (by rw [hsz];simp)]
    exact hrun
  unfold Oper.wp
  rw [hexec,Oper.upon_skip]
  have S':St ⟨P,a.tmps.size,w,H,blks Δ,none,a.defers⟩ [] (own b e (splice φs o seg)::D) H a w':=by
    refine St.write (r:=own b e φs) (b:=b) S hp rfl rfl ⟨S.sat.gk,fun b2 o2 v2 hv2=>?_⟩ ⟨⟨_,hb',?_⟩,hnone⟩ hk' hs' e1 e2 e3
    · have hne:b2 ≠ b:=fun e=>by subst e;rw [hnone] at hv2;cases hv2
      exact (World.cell?_of_block (w:=w) (a:=⟨b2,o2,none⟩) (hk' b2 hne)).trans (S.sat.cell b2 o2 v2 hv2)
    · unfold splice
      rw [hl]
      simp only [Array.length_toList,hsz,Nat.add_zero]
      exact ((hcs.take o).append hxv).append (hcs.drop (o+n))
  refine hK undef H w' _ (fun u' h=>?_) S'.sat S'.res S'.dis S'.own (IH.le_refl _) S'.fr S'.hk rfl
  have h:a.tmps[sq]?=some u':=h
  rw [hu] at h
  injection h with h;subst h
  exact hV1
end
end Go.Proofs.YtljbbajelkkafaaDoor.L
