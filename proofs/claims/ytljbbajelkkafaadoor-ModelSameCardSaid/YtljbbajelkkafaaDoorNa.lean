/-
  Texts,their order,names and lists of names: plain.
-/
import Derived.Test.YtljbbajelkkafaaDoorRr
namespace Go.Proofs.YtljbbajelkkafaaDoor.L
open Go
set_option linter.unusedSectionVars false
variable [Globs]
set_option linter.unusedVariables false
abbrev Str:=List UInt8
def slt (a b:Str):Bool:=Op.bytesLess a b
theorem slt_irr : ∀ a:Str,slt a a=false
  | []=>rfl
  | a::x=>by
    have:=slt_irr x
    unfold slt at this
    simp [slt,Op.bytesLess,this]
theorem slt_cons (a b:UInt8) (x y:Str):slt (a::x) (b::y)=(decide (a < b) || (a == b && slt x y)):=rfl
theorem slt_trans : ∀ {a b c:Str},slt a b=true→slt b c=true→slt a c=true
  | _,_,[],h,k=>by cases ‹Str› <;> simp [slt,Op.bytesLess] at k
  | _,[],_::_,h,k=>by cases ‹Str› <;> simp [slt,Op.bytesLess] at h
  | [],_::_,_::_,h,k=>rfl
  | a::x,b::y,c::z,h,k=>by
    rw [slt_cons] at h k ⊢
    simp only [Bool.or_eq_true,decide_eq_true_eq,Bool.and_eq_true,beq_iff_eq] at h k ⊢
    rcases h with h|⟨rfl,h⟩
    · rcases k with k|⟨rfl,k⟩
      · exact .inl (UInt8.lt_trans h k)
      · exact .inl h
    · rcases k with k|⟨rfl,k⟩
      · exact .inl k
      · exact .inr ⟨rfl,slt_trans h k⟩
theorem slt_tri : ∀ (a b:Str),slt a b=true ∨ a=b ∨ slt b a=true
  | [],[] => .inr (.inl rfl)
  | [],_::_ => .inl rfl
  | _::_,[] => .inr (.inr rfl)
  | a::x,b::y=>by
    rw [slt_cons,slt_cons]
    simp only [Bool.or_eq_true,decide_eq_true_eq,Bool.and_eq_true,beq_iff_eq,List.cons.injEq]
    rcases UInt8.lt_or_lt_of_ne (a:=a) (b:=b) |> fun f=>(Decidable.em (a=b)).elim (fun e=>Or.inl e) (fun n=>Or.inr (f n)) with rfl|h|h
    · rcases slt_tri x y with h|rfl|h
      · exact .inl (.inr ⟨rfl,h⟩)
      · exact .inr (.inl ⟨rfl,rfl⟩)
      · exact .inr (.inr (.inr ⟨rfl,h⟩))
    · exact .inl (.inl h)
    · exact .inr (.inr (.inl h))
theorem slt_asym {a b:Str} (h:slt a b=true):slt b a=false:=by
  cases k:slt b a with
  | false=>rfl
  | true=>have:=slt_trans h k;rw [slt_irr] at this;cases this
theorem slt_ne {a b:Str} (h:slt a b=true):a ≠ b:=fun e=>by rw [e,slt_irr] at h;cases h

/-- What holds of each two neighbours. -/
def adj {α:Type} (R:α→α→Bool):List α→Bool
  | a::b::r=>R a b && adj R (b::r)
  | _=>true
theorem adj_iff {α:Type} {R:α→α→Bool} : ∀ {l:List α},adj R l=true ↔ ∀ (i:Nat) (a b:α),l[i]?=some a→l[i+1]?=some b→R a b=true
  | []=>by simp [adj]
  | [x]=>by simp [adj]
  | x::y::r=>by
    unfold adj
    rw [Bool.and_eq_true,adj_iff]
    constructor
    · rintro ⟨h1,h2⟩ i a b ha hb
      cases i with
      | zero=>simp at ha hb;subst ha;subst hb;exact h1
      | succ i=>exact h2 i a b (by simpa using ha) (by simpa using hb)
    · intro h
      exact ⟨h 0 x y rfl rfl,fun i a b ha hb=>h (i+1) a b (by simpa using ha) (by simpa using hb)⟩
theorem adj_f {α:Type} {R:α→α→Bool} {l:List α} (i:Nat) (a b:α) (ha:l[i]?=some a) (hb:l[i+1]?=some b) (h:R a b=false):adj R l=false:=by
  cases k:adj R l with
  | false=>rfl
  | true=>have:=adj_iff.1 k i a b ha hb;rw [h] at this;cases this
theorem asc_lt {l:List Str} (h:adj slt l=true) : ∀ (d i:Nat) (a b:Str),l[i]?=some a→l[i+d+1]?=some b→slt a b=true
  | 0,i,a,b,ha,hb=>adj_iff.1 h i a b ha hb
  | d+1,i,a,b,ha,hb=>by
    have hl:=(List.getElem?_eq_some_iff.1 hb).1
    have hc:l[i+d+1]?=some l[i+d+1]:=List.getElem?_eq_getElem (by omega)
    exact slt_trans (asc_lt h d i a _ ha hc) (adj_iff.1 h (i+d+1) _ b hc hb)
theorem asc_lt' {l:List Str} (h:adj slt l=true) {i j:Nat} {a b:Str} (ha:l[i]?=some a) (hb:l[j]?=some b) (hij:i < j):slt a b=true :=
  asc_lt h (j - i - 1) i a b ha (by rw [show i+(j - i - 1)+1=j by omega];exact hb)
theorem all_at {α:Type} {p:α→Bool} {l:List α}:l.all p=true ↔ ∀ (i:Nat) (a:α),l[i]?=some a→p a=true:=by
  rw [List.all_eq_true]
  constructor
  · exact fun h i a ha=>h a (List.mem_of_getElem? ha)
  · intro h a ha
    obtain ⟨i,hi⟩:=List.getElem?_of_mem ha
    exact h i a hi
theorem all_f {α:Type} {p:α→Bool} {l:List α} (i:Nat) (a:α) (ha:l[i]?=some a) (h:p a=false):l.all p=false:=by
  cases k:l.all p with
  | false=>rfl
  | true=>have:=all_at.1 k i a ha;rw [h] at this;cases this

def chOk (c:UInt8):Bool:=(decide (97≤c.toNat) && decide (c.toNat≤122)) || (decide (48≤c.toNat) && decide (c.toNat≤57)) || decide (c.toNat=45) || decide (c.toNat=46)
def nameOk (s:Str):Bool:=decide (1≤s.length) && decide (s.length≤12) && !decide (s.head?=some 46) && s.all chOk
def nameE (s:Str):Int:=if nameOk s then 0 else 130
/-- The place of the first text that is not ahead of another one. -/
def lowerN (l:List Str) (x:Str):Nat:=(l.takeWhile fun y=>slt y x).length
theorem lower_le (x:Str) : ∀ l:List Str,lowerN l x≤l.length
  | []=>Nat.le_refl _
  | y::l=>by
    unfold lowerN
    rw [List.takeWhile_cons]
    have:=lower_le x l
    unfold lowerN at this
    split <;> simp <;> omega
theorem lower_eq {x:Str} : ∀ {l:List Str} {k:Nat},k≤l.length→(∀ (i:Nat) (a:Str),i < k→l[i]?=some a→slt a x=true)→(∀ a:Str,l[k]?=some a→slt a x=false)→lowerN l x=k
  | [],k,hk,_,_=>by simp at hk;subst hk;rfl
  | y::l,0,_,_,h=>by
    have:=h y rfl
    unfold lowerN
    rw [List.takeWhile_cons,this];rfl
  | y::l,k+1,hk,h1,h2=>by
    have e:=h1 0 y (by omega) rfl
    have:=lower_eq (x:=x) (l:=l) (k:=k) (by simpa using hk) (fun i a hi ha=>h1 (i+1) a (by omega) (by simpa using ha)) (fun a ha=>h2 a (by simpa using ha))
    unfold lowerN at this ⊢
    rw [List.takeWhile_cons,e]
    simp [this]
theorem lower_lt {x:Str} : ∀ {l:List Str} (i:Nat) (a:Str),i < lowerN l x→l[i]?=some a→slt a x=true
  | [],i,a,h,_=>by simp [lowerN] at h
  | y::l,i,a,h,ha=>by
    unfold lowerN at h
    rw [List.takeWhile_cons] at h
    cases e:slt y x with
    | false=>rw [e] at h;simp at h
    | true =>
      rw [e] at h
      cases i with
      | zero=>simp at ha;subst ha;exact e
      | succ i=>exact lower_lt (l:=l) i a (by unfold lowerN;simpa using h) (by simpa using ha)
theorem lower_at {x:Str} : ∀ {l:List Str} {a:Str},l[lowerN l x]?=some a→slt a x=false
  | [],a,h=>by simp at h
  | y::l,a,h=>by
    unfold lowerN at h
    rw [List.takeWhile_cons] at h
    cases e:slt y x with
    | false=>rw [e] at h;simp at h;subst h;exact e
    | true =>
      rw [e] at h
      exact lower_at (x:=x) (l:=l) (by unfold lowerN;simpa using h)
/-- In an ascending list a text stands at its place, or nowhere. -/
theorem mem_lower {l:List Str} {x:Str} (h:adj slt l=true):x ∈ l ↔ l[lowerN l x]?=some x:=by
  constructor
  · intro hm
    obtain ⟨i,hi⟩:=List.getElem?_of_mem hm
    have:lowerN l x=i:=lower_eq (Nat.le_of_lt (List.getElem?_eq_some_iff.1 hi).1) (fun j a hj ha=>asc_lt' h ha hi hj) (fun a ha=>by rw [hi] at ha;injection ha with ha;subst ha;exact slt_irr _)
    rw [this];exact hi
  · exact fun h=>List.mem_of_getElem? h
theorem lower_ge {l:List Str} {x:Str} (h:adj slt l=true) {i:Nat} {a:Str} (hi:lowerN l x≤i) (ha:l[i]?=some a):slt a x=false:=by
  have hl:=(List.getElem?_eq_some_iff.1 ha).1
  have hb:l[lowerN l x]?=some l[lowerN l x]:=List.getElem?_eq_getElem (by omega)
  have h0:=lower_at hb
  rcases Nat.lt_or_eq_of_le hi with h1|h1
  · cases k:slt a x with
    | false=>rfl
    | true=>rw [slt_trans (asc_lt' h hb ha h1) k] at h0;cases h0
  · subst h1
    rw [hb] at ha;injection ha with ha;subst ha;exact h0
def addM (l:List Str) (x:Str):List Str:=l.take (lowerN l x)++x::l.drop (lowerN l x)
def remM (l:List Str) (x:Str):List Str:=l.take (lowerN l x)++l.drop (lowerN l x+1)
theorem addM_len (l:List Str) (x:Str):(addM l x).length=l.length+1:=by
  have:=lower_le x l
  unfold addM;simp;omega
theorem addM_mem {l:List Str} {x y:Str}:y ∈ addM l x ↔ y=x ∨ y ∈ l:=by
  unfold addM
  rw [List.mem_append,List.mem_cons]
  constructor
  · rintro (h|h|h)
    · exact .inr (List.mem_of_mem_take h)
    · exact .inl h
    · exact .inr (List.mem_of_mem_drop h)
  · rintro (h|h)
    · exact .inr (.inl h)
    · rw [← List.take_append_drop (lowerN l x) l,List.mem_append] at h
      exact h.elim .inl (fun h => .inr (.inr h))
theorem adj_append {α:Type} {R:α→α→Bool} : ∀ {l m:List α},adj R l=true→adj R m=true→(∀ a b,l.getLast?=some a→m.head?=some b→R a b=true)→adj R (l++m)=true
  | [],m,_,h,_=>h
  | [a],[],_,_,_=>rfl
  | [a],b::m,_,h,k=>by
    show (R a b && adj R (b::m))=true
    rw [h,k a b rfl rfl];rfl
  | a::b::l,m,h,h2,k=>by
    unfold adj at h
    rw [Bool.and_eq_true] at h
    show (R a b && adj R (b::l++m))=true
    rw [h.1,adj_append h.2 h2 (fun x y hx hy=>k x y (by simpa using hx) hy)];rfl
theorem adj_take {α:Type} {R:α→α→Bool} {l:List α} (h:adj R l=true) (n:Nat):adj R (l.take n)=true:=adj_iff.2 fun i a b ha hb=>by
  rw [List.getElem?_take] at ha hb
  split at ha
  · split at hb
    · exact adj_iff.1 h i a b ha hb
    · cases hb
  · cases ha
theorem adj_drop {α:Type} {R:α→α→Bool} {l:List α} (h:adj R l=true) (n:Nat):adj R (l.drop n)=true:=adj_iff.2 fun i a b ha hb=>by
  rw [List.getElem?_drop] at ha hb
  exact adj_iff.1 h (n+i) a b ha (by rw [Nat.add_assoc];exact hb)
theorem adj_cons {α:Type} {R:α→α→Bool} {a:α} {l:List α} (h:adj R l=true) (k : ∀ b,l.head?=some b→R a b=true):adj R (a::l)=true:=by
  cases l with
  | nil=>rfl
  | cons b l=>show (R a b && adj R (b::l))=true;rw [h,k b rfl];rfl
theorem addM_asc {l:List Str} {x:Str} (h:adj slt l=true) (hx:x ∉ l):adj slt (addM l x)=true:=by
  have hle:=lower_le x l
  refine adj_append (adj_take h _) (adj_cons (adj_drop h _) fun b hb=>?_) (fun a b ha hb=>?_)
  · rw [List.head?_drop] at hb
    have h1:=lower_at hb
    rcases slt_tri x b with h2|h2|h2
    · exact h2
    · exact absurd (h2 ▸ List.mem_of_getElem? hb) hx
    · rw [h2] at h1;cases h1
  · simp at hb;subst hb
    rw [List.getLast?_eq_getElem?,List.getElem?_take] at ha
    split at ha
    · rename_i hlt
      exact lower_lt _ a hlt ha
    · cases ha
/-- A name that is added, and removed again. -/
theorem rem_add {l:List Str} {x:Str} (h:adj slt l=true) (hx:x ∉ l):remM (addM l x) x=l:=by
  have hle:=lower_le x l
  have e:lowerN (addM l x) x=lowerN l x:=by
    refine lower_eq (by rw [addM_len];omega) (fun i a hi ha=>?_) (fun a ha=>?_)
    · unfold addM at ha
      rw [List.getElem?_append_left (by simp;omega),List.getElem?_take,if_pos hi] at ha
      exact lower_lt i a hi ha
    · unfold addM at ha
      rw [List.getElem?_append_right (by simp;omega)] at ha
      rw [show lowerN l x - (l.take (lowerN l x)).length=0 by simp;omega] at ha
      simp at ha;subst ha;exact slt_irr _
  unfold remM
  rw [e]
  unfold addM
  rw [List.take_append_of_le_length (by simp;omega),List.take_take,Nat.min_self]
  rw [List.drop_append,List.drop_eq_nil_of_le (by simp;omega)]
  rw [show lowerN l x+1 - (l.take (lowerN l x)).length=1 by simp;omega]
  simp
theorem remM_mem {l:List Str} {x y:Str} (hy:y ∈ remM l x):y ∈ l:=by
  unfold remM at hy
  rw [List.mem_append] at hy
  exact hy.elim List.mem_of_mem_take List.mem_of_mem_drop
theorem remM_len (l:List Str) (x:Str):(remM l x).length≤l.length:=by unfold remM;simp;omega
theorem remM_asc {l:List Str} {x:Str} (h:adj slt l=true):adj slt (remM l x)=true:=by
  refine adj_append (adj_take h _) (adj_drop h _) (fun a b ha hb=>?_)
  rw [List.head?_drop] at hb
  rw [List.getLast?_eq_getElem?,List.getElem?_take] at ha
  split at ha
  · rename_i hlt
    exact asc_lt' h ha hb (by omega)
  · cases ha
end Go.Proofs.YtljbbajelkkafaaDoor.L
