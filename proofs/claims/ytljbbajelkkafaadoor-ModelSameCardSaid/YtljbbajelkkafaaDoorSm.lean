/-
  The hash of the program,as a function on lists: no program in sight.
-/
import Derived.Test.YtljbbajelkkafaaDoorLm
namespace Go.Proofs.YtljbbajelkkafaaDoor.L
open Go
set_option linter.unusedSectionVars false
variable [Globs] [Has_sha_table] [Has_sha_begin]
def rotr (x:UInt32) (n:Nat):UInt32:=shl32 x (32 - n) ||| shr32 x n
def sg0 (x:UInt32):UInt32:=rotr x 7 ^^^ rotr x 18 ^^^ shr32 x 3
def sg1 (x:UInt32):UInt32:=rotr x 17 ^^^ rotr x 19 ^^^ shr32 x 10
def bs0 (x:UInt32):UInt32:=rotr x 2 ^^^ rotr x 13 ^^^ rotr x 22
def bs1 (x:UInt32):UInt32:=rotr x 6 ^^^ rotr x 11 ^^^ rotr x 25
def wb (bs:List UInt8) (i:Nat):UInt32:=UInt32.ofNat (bs.getD i 0).toNat
def word4 (bs:List UInt8) (t:Nat):UInt32:=shl32 (wb bs (4*t)) 24 ||| shl32 (wb bs (4*t+1)) 16 ||| shl32 (wb bs (4*t+2)) 8 ||| wb bs (4*t+3)
def nextW (bs:List UInt8) (l:List UInt32) (t:Nat):UInt32 :=
  if t < 16 then word4 bs t else l.getD (t - 16) 0+sg0 (l.getD (t - 15) 0)+l.getD (t - 7) 0+sg1 (l.getD (t - 2) 0)
def sched (bs:List UInt8):Nat→List UInt32
  | 0=>[]
  | t+1=>let l:=sched bs t;l++[nextW bs l t]
theorem sched_len (bs:List UInt8) : ∀ t,(sched bs t).length=t
  | 0=>rfl
  | t+1=>by simp [sched,sched_len bs t]
/-- A round: the eight words behind it. -/
def round (v:List UInt32) (x k:UInt32):List UInt32 :=
  match v with
  | [a,b,c,d,e,f,g,h] =>
    let x':=x+(h+bs1 e+(g ^^^ (e &&& (f ^^^ g)))+k)
    let y:=bs0 a+((a &&& (b ||| c)) ||| (b &&& c))
    [x'+y,a,b,c,d+x',e,f,g]
  | v=>v
def tbl:List UInt32:=sha_table.map UInt32.ofNat
def bgn:List UInt32:=sha_begin.map UInt32.ofNat
def rounds (m:List UInt32) (v:List UInt32):Nat→List UInt32
  | 0=>v
  | t+1=>round (rounds m v t) (m.getD t 0) (tbl.getD t 0)
theorem round_len {v:List UInt32} {x k:UInt32} (h:v.length=8):(round v x k).length=8:=by
  match v,h with
  | [a,b,c,d,e,f,g,h],_=>rfl
theorem rounds_len {m v:List UInt32} (h:v.length=8) : ∀ t,(rounds m v t).length=8
  | 0=>h
  | t+1=>round_len (rounds_len h t)
def block (st:List UInt32) (bs:List UInt8):List UInt32:=List.zipWith (· + ·) st (rounds (sched bs 64) st 64)
theorem block_len {st:List UInt32} {bs:List UInt8} (h:st.length=8):(block st bs).length=8:=by
  unfold block;rw [List.length_zipWith,h,rounds_len h];rfl
/-- Whole blocks are taken in; what is left. -/
def absorb:Nat→List UInt32→List UInt8→List UInt32 × List UInt8
  | 0,st,l=>(st,l)
  | n+1,st,l=>if 64≤l.length then absorb n (block st (l.take 64)) (l.drop 64) else (st,l)
def be (n k:Nat):List UInt8:=(List.range k).map fun i=>UInt8.ofNat (n / 2 ^ (8*(k - 1 - i)))
def run (st:List UInt32) (l:List UInt8):List UInt32 × List UInt8:=absorb (l.length / 64) st l
def pad (n:Nat):List UInt8:=[0x80]++List.replicate ((119 - n % 64) % 64) 0++be (8*n) 8
def digest (st:List UInt32):List UInt8:=st.flatMap fun x=>be x.toNat 4
def sha (s:List UInt8):List UInt8:=digest (run bgn (s++pad s.length)).1
theorem absorb_len : ∀ (n:Nat) (st:List UInt32) (l:List UInt8),st.length=8→(absorb n st l).1.length=8
  | 0,st,l,h=>h
  | n+1,st,l,h=>by
    unfold absorb
    split
    · exact absorb_len n _ _ (block_len h)
    · exact h
theorem absorb_left : ∀ (n:Nat) (st:List UInt32) (l:List UInt8),l.length / 64≤n→(absorb n st l).2.length=l.length % 64
  | 0,st,l,h=>by
    have:l.length < 64:=by omega
    show l.length=l.length % 64
    omega
  | n+1,st,l,h=>by
    unfold absorb
    split
    · rw [absorb_left n _ _ (by rw [List.length_drop];omega),List.length_drop];omega
    · show l.length=l.length % 64
      omega
theorem absorb_more : ∀ (n m:Nat) (st:List UInt32) (l:List UInt8),l.length / 64≤n→l.length / 64≤m→absorb n st l=absorb m st l
  | 0,0,st,l,_,_=>rfl
  | 0,m+1,st,l,h,_=>by
    unfold absorb;rw [if_neg (by omega)]
  | n+1,0,st,l,_,h=>by
    unfold absorb;rw [if_neg (by omega)]
  | n+1,m+1,st,l,h,h'=>by
    unfold absorb
    split
    · exact absorb_more n m _ _ (by rw [List.length_drop];omega) (by rw [List.length_drop];omega)
    · rfl
theorem absorb_app : ∀ (n:Nat) (st:List UInt32) (l s:List UInt8) (m:Nat),l.length / 64≤n→(l++s).length / 64≤m→absorb m st (l++s)=absorb m (absorb n st l).1 ((absorb n st l).2++s)
  | 0,st,l,s,m,h,_=>rfl
  | n+1,st,l,s,m,h,hm=>by
    by_cases h64:64≤l.length
    · have e:absorb (n+1) st l=absorb n (block st (l.take 64)) (l.drop 64):=by rw [absorb,if_pos h64]
      rw [e]
      cases m with
      | zero=>rw [List.length_append] at hm;omega
      | succ m =>
        have e2:absorb (m+1) st (l++s)=absorb m (block st (l.take 64)) (l.drop 64++s):=by
          rw [absorb,if_pos (by rw [List.length_append];omega),List.take_append_of_le_length h64,List.drop_append_of_le_length h64]
        rw [e2,absorb_app n _ _ s m (by rw [List.length_drop];omega) (by simp only [List.length_append,List.length_drop] at hm ⊢;omega)]
        have hl:=absorb_left n (block st (l.take 64)) (l.drop 64) (by rw [List.length_drop];omega)
        refine absorb_more _ _ _ _ ?_ ?_
        · simp only [List.length_append,hl,List.length_drop] at hm ⊢;omega
        · simp only [List.length_append,hl,List.length_drop] at hm ⊢;omega
    · have e:absorb (n+1) st l=(st,l):=by rw [absorb,if_neg h64]
      rw [e]
theorem run_app (st:List UInt32) (l s:List UInt8):run st (l++s)=run (run st l).1 ((run st l).2++s):=by
  unfold run
  rw [absorb_app (l.length / 64) st l s _ (Nat.le_refl _) (Nat.le_refl _)]
  have hl:=absorb_left (l.length / 64) st l (Nat.le_refl _)
  refine absorb_more _ _ _ _ ?_ ?_
  · simp only [List.length_append,hl];omega
  · exact Nat.le_refl _
end Go.Proofs.YtljbbajelkkafaaDoor.L
