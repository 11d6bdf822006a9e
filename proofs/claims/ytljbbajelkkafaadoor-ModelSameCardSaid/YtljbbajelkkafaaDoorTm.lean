/-
  Trees of hashes,as functions on lists: no program in sight.
-/
import Derived.Test.YtljbbajelkkafaaDoorSj
namespace Go.Proofs.YtljbbajelkkafaaDoor.L
open Go
set_option linter.unusedSectionVars false
variable [Globs] [Has_sha_table] [Has_sha_begin]
instance:DecidableEq Hash:=inferInstanceAs (DecidableEq (Arr UInt8 32))
def nodeH (a b:Hash):Hash:=shaH ([1]++a.1++b.1)
def leafH (s:List UInt8):Hash:=shaH ([0]++s)
def emptyH:Hash:=shaH []
/-- A level's pairs made one; what is left over goes up. -/
def up2:List Hash→List Hash
  | []=>[]
  | [a]=>[a]
  | a::b::r=>nodeH a b::up2 r
def split (n:Nat):Nat:=if n < 2 then 0 else 2 ^ Nat.log2 (n - 1)
def mrootN:Nat→List Hash→Hash
  | 0,l=>l.headD emptyH
  | f+1,l=>if l.length≤1 then l.headD emptyH else nodeH (mrootN f (l.take (split l.length))) (mrootN f (l.drop (split l.length)))
/-- A tree's root, as the document has it. -/
def mroot (l:List Hash):Hash:=mrootN l.length l
theorem split_of {n i:Nat} (h1:2 ^ i < n) (h2:n≤2 ^ (i+1)):split n=2 ^ i:=by
  have:1≤2 ^ i:=Nat.one_le_two_pow
  unfold split
  have h3:Nat.log2 (n - 1)=i:=(Nat.log2_eq_iff (by omega)).2 ⟨by omega,by omega⟩
  rw [if_neg (by omega),h3]
theorem split_spec {n:Nat} (h:2≤n) : ∃ i,split n=2 ^ i∧2 ^ i < n∧n≤2 ^ (i+1):=by
  refine ⟨Nat.log2 (n - 1),by unfold split;rw [if_neg (by omega)],?_,?_⟩
  · have:=Nat.log2_self_le (n:=n - 1) (by omega);omega
  · have:=Nat.lt_log2_self (n:=n - 1);omega
theorem split_lt {n:Nat} (h:2≤n):1≤split n∧split n < n∧n≤2*split n:=by
  obtain ⟨i,h1,h2,h3⟩:=split_spec h
  have:1≤2 ^ i:=Nat.one_le_two_pow
  rw [h1];rw [Nat.pow_succ] at h3;omega
theorem mrootN_fuel : ∀ (n:Nat) (f g:Nat) (l:List Hash),l.length≤n→l.length≤f→l.length≤g→mrootN f l=mrootN g l:=by
  intro n
  induction n using Nat.strongRecOn with
  | _ n ih =>
    intro f g l hn hf hg
    by_cases h1:l.length≤1
    · have : ∀ f,mrootN f l=l.headD emptyH:=fun f=>by
        cases f with
        | zero=>rfl
        | succ f=>unfold mrootN;rw [if_pos h1]
      rw [this,this]
    · obtain ⟨f,rfl⟩ : ∃ k,f=k+1:=⟨f - 1,by omega⟩
      obtain ⟨g,rfl⟩ : ∃ k,g=k+1:=⟨g - 1,by omega⟩
      obtain ⟨s1,s2,s3⟩:=split_lt (n:=l.length) (by omega)
      have e1:(l.take (split l.length)).length=split l.length:=by rw [List.length_take];omega
      have e2:(l.drop (split l.length)).length=l.length - split l.length:=List.length_drop
      unfold mrootN
      rw [if_neg h1,if_neg h1,ih (n - 1) (by omega) f g (l.take (split l.length)) (by omega) (by omega) (by omega),ih (n - 1) (by omega) f g (l.drop (split l.length)) (by omega) (by omega) (by omega)]
theorem mroot_nil:mroot []=emptyH:=rfl
theorem mroot_one (a:Hash):mroot [a]=a:=rfl
theorem mroot_split {l:List Hash} (h:2≤l.length):mroot l=nodeH (mroot (l.take (split l.length))) (mroot (l.drop (split l.length))):=by
  obtain ⟨s1,s2,s3⟩:=split_lt (n:=l.length) h
  have e1:(l.take (split l.length)).length=split l.length:=by rw [List.length_take];omega
  have e2:(l.drop (split l.length)).length=l.length - split l.length:=List.length_drop
  have hm : ∀ m:List Hash,mroot m=mrootN m.length m:=fun _=>rfl
  obtain ⟨n,hn⟩ : ∃ n,l.length=n+1:=⟨l.length - 1,by omega⟩
  rw [hm l,hm (l.take _),hm (l.drop _)]
  have key:mrootN (n+1) l=if l.length≤1 then l.headD emptyH else nodeH (mrootN n (l.take (split l.length))) (mrootN n (l.drop (split l.length))):=rfl
  have k2:mrootN l.length l=mrootN (n+1) l:=by rw [hn]
  rw [k2,key,if_neg (by omega)]
  rw [mrootN_fuel _ n _ (l.take (split l.length)) (Nat.le_refl _) (by omega) (Nat.le_refl _),mrootN_fuel _ n _ (l.drop (split l.length)) (Nat.le_refl _) (by omega) (Nat.le_refl _)]
theorem up2_len : ∀ l:List Hash,(up2 l).length=(l.length+1) / 2
  | []=>rfl
  | [a]=>by simp [up2]
  | a::b::r=>by
    show (up2 r).length+1=_
    rw [up2_len r];simp only [List.length_cons];omega
theorem up2_app : ∀ (l m:List Hash),l.length % 2=0→up2 (l++m)=up2 l++up2 m
  | [],m,_=>rfl
  | [a],m,h=>by simp at h
  | a::b::r,m,h=>by
    show nodeH a b::up2 (r++m)=nodeH a b::up2 r++up2 m
    rw [up2_app r m (by simp only [List.length_cons] at h;omega)];rfl
theorem up2_take (l:List Hash) (j:Nat) (h:2*j≤l.length):up2 (l.take (2*j))=(up2 l).take j:=by
  have hl:(l.take (2*j)).length=2*j:=by rw [List.length_take];omega
  conv=>rhs;rw [← List.take_append_drop (2*j) l,up2_app _ _ (by omega)]
  rw [List.take_left' (by rw [up2_len,hl];omega)]
theorem up2_drop (l:List Hash) (j:Nat) (h:2*j≤l.length):up2 (l.drop (2*j))=(up2 l).drop j:=by
  have hl:(l.take (2*j)).length=2*j:=by rw [List.length_take];omega
  conv=>rhs;rw [← List.take_append_drop (2*j) l,up2_app _ _ (by omega)]
  rw [List.drop_left' (by rw [up2_len,hl];omega)]
theorem up2_short {l:List Hash} (h:l.length≤1):up2 l=l:=by
  match l,h with
  | [],_=>rfl
  | [a],_=>rfl
theorem mroot_up2 : ∀ (n:Nat) (l:List Hash),l.length=n→mroot (up2 l)=mroot l:=by
  intro n
  induction n using Nat.strongRecOn with
  | _ n ih =>
    intro l hn
    by_cases h1:n≤1
    · rw [up2_short (by omega)]
    · by_cases h2:n=2
      · subst h2
        match l,hn with
        | [a,b],_=>rfl
      · obtain ⟨i,hs,hi1,hi2⟩:=split_spec (n:=n) (by omega)
        match i with
        | 0=>simp at hi2;omega
        | i+1 =>
          have p1:(2:Nat) ^ (i+1)=2*2 ^ i:=by rw [Nat.pow_succ];omega
          have p2:(2:Nat) ^ (i+1+1)=2*2 ^ (i+1):=by rw [Nat.pow_succ];omega
          have hu:(up2 l).length=(n+1) / 2:=by rw [up2_len,hn]
          have hs2:split ((n+1) / 2)=2 ^ i:=split_of (by omega) (by omega)
          rw [mroot_split (l:=up2 l) (by omega),mroot_split (l:=l) (by omega),hu,hs2,hn,hs,p1, ← up2_take l _ (by omega), ← up2_drop l _ (by omega)]
          rw [ih (2*2 ^ i) (by omega) (l.take (2*2 ^ i)) (by rw [List.length_take];omega),ih (n - 2*2 ^ i) (by have:=Nat.one_le_two_pow (n:=i);omega) (l.drop (2*2 ^ i)) (by rw [List.length_drop];omega)]
/-- How many bits a number has. -/
def blen (m:Nat):Nat:=if m=0 then 0 else Nat.log2 m+1
theorem blen_div {m k:Nat} (h:2 ^ k≤m):blen (m / 2 ^ k)+k=blen m:=by
  have h0:1≤2 ^ k:=Nat.one_le_two_pow
  have h1:1≤m / 2 ^ k:=(Nat.one_le_div_iff (by omega)).2 h
  unfold blen
  rw [if_neg (by omega),if_neg (by omega)]
  have h2:Nat.log2 m=Nat.log2 (m / 2 ^ k)+k:=by
    rw [Nat.log2_eq_iff (by omega)]
    have a1:=Nat.log2_self_le (n:=m / 2 ^ k) (by omega)
    have a2:=Nat.lt_log2_self (n:=m / 2 ^ k)
    constructor
    · rw [Nat.pow_add]
      exact (Nat.le_div_iff_mul_le (by omega)).1 a1
    · rw [show (m / 2 ^ k).log2+k+1=(m / 2 ^ k).log2+1+k by omega,Nat.pow_add]
      exact (Nat.div_lt_iff_lt_mul (by omega)).1 a2
  omega
end Go.Proofs.YtljbbajelkkafaaDoor.L
