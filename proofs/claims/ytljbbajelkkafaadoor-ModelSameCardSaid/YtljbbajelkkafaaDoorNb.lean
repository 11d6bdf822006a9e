/-
  Streams,plain: which may be,and what becomes of one by an entry.
-/
import Derived.Test.YtljbbajelkkafaaDoorNa
import Derived.Test.YtljbbajelkkafaaDoorNs
namespace Go.Proofs.YtljbbajelkkafaaDoor.L
open Go
set_option linter.unusedSectionVars false
variable [Globs]
set_option linter.unusedVariables false
def tB (n:Int):Bool:=decide (0≤n) && decide (n≤1073741824)
/-- How many frames so many bytes take. -/
def cntM (n:Int):Int:=if n < 0 then 0 else max 1 (n / 112+min 1 (n % 112))
def recOk (r:Rec):Bool:=tB r.time && decide (0≤r.len) && decide (r.len≤300) && decide (0≤r.run.start) && decide (r.run.start < 512) && decide (r.run.count=cntM r.len)
def holdsOk (l:List Str):Bool:=l.all nameOk && adj slt l && decide (l.length≤4)
def recsOk (l:List Rec):Bool:=l.all recOk && adj (fun a b=>decide (a.time≤b.time)) l && decide (l.length≤64)
def checkM (s:StreamS):Bool:=nameOk s.name && tB s.retain && holdsOk s.holds && recsOk s.recs
def zeroS:StreamS:=⟨[],0,[],[]⟩
def mkRec (e:EntryS):Rec:=⟨e.n,e.len,e.hash,e.run,false⟩
def lastT (l:List Rec) (n:Int):Bool:=match l.getLast? with|some r=>decide (r.time≤n)|none=>true
def errAdd (s:StreamS) (e:EntryS):Int:=if s.recs.length=64 ∨ 300 < e.len then 3 else if recOk (mkRec e) && lastT s.recs e.n then 0 else 2
def errRetain (o n:Int):Int:=if tB o && tB n then (if n < o then 140 else 0) else 2
def errHold (l:List Str) (x:Str):Int:=if nameOk x then (if x ∈ l then 142 else if l.length=4 then 3 else 0) else 130
def errShred (l:List Rec) (n:Int):Int:=if n < 0 ∨ (l.length:Int)≤n then 161 else match l[n.toNat]? with|some r=>if r.shredded then 162 else 0|none=>0
def shredM (l:List Rec) (n:Nat):List Rec:=match l[n]? with|some r=>l.set n { r with shredded:=true }|none=>l
def errM (s:StreamS) (e:EntryS):Int :=
  if e.kind=2 then errAdd s e else if e.kind=3 then errRetain s.retain e.n else if e.kind=4 then errHold s.holds e.name
  else if e.kind=5 then (if e.name ∈ s.holds then 0 else 143) else if e.kind=6 then errShred s.recs e.n else 2
def resM (s:StreamS) (e:EntryS):StreamS :=
  if e.kind=2 then { s with recs:=s.recs++[mkRec e] } else if e.kind=3 then { s with retain:=e.n } else if e.kind=4 then { s with holds:=addM s.holds e.name }
  else if e.kind=5 then { s with holds:=remM s.holds e.name } else if e.kind=6 then { s with recs:=shredM s.recs e.n.toNat } else s
def applyM (s:StreamS) (e:EntryS):StreamS × Int:=if checkM s then (if errM s e=0 then (resM s e,0) else (zeroS,errM s e)) else (zeroS,2)
def liveN (l:List Rec):Nat:=(l.filter fun r => !r.shredded).length

theorem applyM_err {s:StreamS} {e:EntryS} (h:(applyM s e).2 ≠ 0):(applyM s e).1=zeroS:=by
  unfold applyM at h ⊢
  split
  · rename_i hc
    rw [if_pos hc] at h
    split
    · rename_i he;rw [if_pos he] at h;exact absurd rfl h
    · rfl
  · rfl
theorem applyM_ok {s:StreamS} {e:EntryS} (h:(applyM s e).2=0):checkM s=true∧errM s e=0∧(applyM s e).1=resM s e:=by
  unfold applyM at h ⊢
  split
  · rename_i hc
    rw [if_pos hc] at h
    split
    · rename_i he;exact ⟨hc,he,rfl⟩
    · rename_i he;rw [if_neg he] at h;exact absurd h he
  · rename_i hc
    rw [if_neg hc] at h
    cases h
theorem checkM_iff {s:StreamS}:checkM s=true ↔ nameOk s.name=true∧tB s.retain=true∧(s.holds.all nameOk=true∧adj slt s.holds=true∧s.holds.length≤4)∧s.recs.all recOk=true∧adj (fun a b=>decide (a.time≤b.time)) s.recs=true∧s.recs.length≤64:=by
  unfold checkM holdsOk recsOk
  simp only [Bool.and_eq_true,decide_eq_true_eq,and_assoc]
theorem shredM_len (l:List Rec) (n:Nat):(shredM l n).length=l.length:=by unfold shredM;split <;> simp
theorem shredM_at {l:List Rec} {n i:Nat} {r:Rec} (h:l[i]?=some r):(shredM l n)[i]?=some { r with shredded:=r.shredded || decide (n=i) }:=by
  unfold shredM
  split
  · rename_i q hq
    rw [List.getElem?_set]
    by_cases hni:n=i
    · subst hni
      rw [h] at hq;injection hq with hq;subst hq
      have:=(List.getElem?_eq_some_iff.1 h).1
      rw [if_pos rfl,if_pos this]
      simp
    · rw [if_neg hni,h]
      simp [hni]
  · rename_i hq
    have:n ≠ i:=fun e=>by subst e;rw [h] at hq;cases hq
    rw [h];simp [this]
theorem recOk_shred {r:Rec} (b:Bool):recOk { r with shredded:=b }=recOk r:=rfl
theorem shredM_hash (l:List Rec) (n:Nat):(shredM l n).map Rec.hash=l.map Rec.hash:=by
  unfold shredM
  split
  · rename_i q hq
    refine List.ext_getElem? fun i=>?_
    rw [List.getElem?_map,List.getElem?_map,List.getElem?_set]
    split
    · rename_i h;subst h
      split
      · rw [hq];rfl
      · rename_i h;exact absurd (List.getElem?_eq_some_iff.1 hq).1 h
    · rfl
  · rfl
theorem lastT_iff {l:List Rec} {n:Int}:lastT l n=true ↔ ∀ r,l.getLast?=some r→r.time≤n:=by
  unfold lastT
  cases h:l.getLast? with
  | none=>simp
  | some r=>simp
/-- Behind an entry a stream may be. -/
theorem check_res {s:StreamS} {e:EntryS} (hc:checkM s=true) (he:errM s e=0):checkM (resM s e)=true:=by
  have h:=checkM_iff.1 hc
  obtain ⟨h1,h2,⟨h3,h4,h5⟩,h6,h7,h8⟩:=h
  unfold errM at he
  unfold resM
  by_cases k2:e.kind=2
  · rw [if_pos k2] at he ⊢
    unfold errAdd at he
    split at he
    · cases he
    split at he
    · rename_i hn hr
      rw [Bool.and_eq_true] at hr
      refine checkM_iff.2 ⟨h1,h2,⟨h3,h4,h5⟩,?_,?_,?_⟩
      · show (s.recs++[mkRec e]).all recOk=true
        rw [List.all_append,h6];simpa using hr.1
      · refine adj_append h7 rfl fun a b ha hb=>?_
        simp at hb;subst hb
        exact decide_eq_true (lastT_iff.1 hr.2 a ha)
      · show (s.recs++[mkRec e]).length≤64
        rw [List.length_append];simp;omega
    · cases he
  rw [if_neg k2] at he ⊢
  by_cases k3:e.kind=3
  · rw [if_pos k3] at he ⊢
    unfold errRetain at he
    split at he
    · rename_i ht
      rw [Bool.and_eq_true] at ht
      exact checkM_iff.2 ⟨h1,ht.2,⟨h3,h4,h5⟩,h6,h7,h8⟩
    · cases he
  rw [if_neg k3] at he ⊢
  by_cases k4:e.kind=4
  · rw [if_pos k4] at he ⊢
    unfold errHold at he
    split at he
    · split at he
      · cases he
      split at he
      · cases he
      rename_i hn hx hl
      refine checkM_iff.2 ⟨h1,h2,⟨?_,addM_asc h4 hx,?_⟩,h6,h7,h8⟩
      · refine List.all_eq_true.2 fun y hy=>?_
        rcases addM_mem.1 hy with rfl|hy
        · exact hn
        · exact List.all_eq_true.1 h3 y hy
      · show (addM s.holds e.name).length≤4
        rw [addM_len];omega
    · cases he
  rw [if_neg k4] at he ⊢
  by_cases k5:e.kind=5
  · rw [if_pos k5] at he ⊢
    refine checkM_iff.2 ⟨h1,h2,⟨List.all_eq_true.2 fun y hy=>List.all_eq_true.1 h3 y (remM_mem hy),remM_asc h4,?_⟩,h6,h7,h8⟩
    exact Nat.le_trans (remM_len _ _) h5
  rw [if_neg k5] at he ⊢
  by_cases k6:e.kind=6
  · rw [if_pos k6] at he ⊢
    refine checkM_iff.2 ⟨h1,h2,⟨h3,h4,h5⟩,?_,?_,?_⟩
    · refine all_at.2 fun i a ha=>?_
      have hl:=(List.getElem?_eq_some_iff.1 ha).1
      rw [shredM_len] at hl
      rw [shredM_at (List.getElem?_eq_getElem hl)] at ha
      injection ha with ha;subst ha
      rw [recOk_shred]
      exact all_at.1 h6 i _ (List.getElem?_eq_getElem hl)
    · refine adj_iff.2 fun i a b ha hb=>?_
      have hl:=(List.getElem?_eq_some_iff.1 ha).1
      have hl2:=(List.getElem?_eq_some_iff.1 hb).1
      rw [shredM_len] at hl hl2
      rw [shredM_at (List.getElem?_eq_getElem hl)] at ha
      rw [shredM_at (List.getElem?_eq_getElem hl2)] at hb
      injection ha with ha;subst ha
      injection hb with hb;subst hb
      have h9:=adj_iff.1 h7 i s.recs[i] s.recs[i+1] (List.getElem?_eq_getElem hl) (List.getElem?_eq_getElem hl2)
      exact h9
    · show (shredM s.recs e.n.toNat).length≤64
      rw [shredM_len];exact h8
  rw [if_neg k6] at he
  cases he
end Go.Proofs.YtljbbajelkkafaaDoor.L
