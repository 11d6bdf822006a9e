import Derived.Test.YtljbbajelkkafaaDoorSm
import Derived.Test.YtljbbajelkkafaaDoorLz
import Derived.Test.YtljbbajelkkafaaDoorLn
/-
  The small functions below the hash,walked: rotations,numbers as bytes.
-/
namespace Go.Proofs.YtljbbajelkkafaaDoor.L
open Go
set_option linter.unusedSectionVars false
variable [Globs] [Has_sha_table] [Has_sha_begin]
set_option linter.unusedVariables false
set_option linter.unusedSimpArgs false
attribute [local irreducible] J Lq E OpP PRun is any agg tup ptr sl
theorem rot_and {n:Nat} (h0:0 < n) (h:n < 32):IntKind.u64.wrap ((BitVec.ofInt 64 (18446744073709551616 - (n:Int)) &&& BitVec.ofInt 64 31).toNat:Int)=((32 - n:Nat):Int):=by
  have : ∀ k:Fin 32,0 < k.1→IntKind.u64.wrap ((BitVec.ofInt 64 (18446744073709551616 - (k.1:Int)) &&& BitVec.ofInt 64 31).toNat:Int)=((32 - k.1:Nat):Int):=by decide
  exact this ⟨n,h⟩ h0
theorem rot_conv {n:Nat} (h0:0 < n) (h:n < 32):IntKind.u64.wrap (-(n:Int))=18446744073709551616 - (n:Int):=by
  have : ∀ k:Fin 32,0 < k.1→IntKind.u64.wrap (-(k.1:Int))=18446744073709551616 - (k.1:Int):=by decide
  exact this ⟨n,h⟩ h0
theorem rot_sub {n:Nat} (h:n < 32):IntKind.u64.wrap (32 - ((32 - n:Nat):Int))=(n:Int):=by
  have : ∀ k:Fin 32,IntKind.u64.wrap (32 - ((32 - k.1:Nat):Int))=(k.1:Int):=by decide
  exact this ⟨n,h⟩
theorem rot_fn (x:UInt32) (n:Nat) (h0:0 < n) (h:n < 32):Fn Tryd.prog 102 [is (w32 x),is (.int .i64 (-(n:Int)))] (is (w32 (rotr x n))):=by
  refine Fn.mk' 17 Tryd.func102 rfl rfl rfl rfl fun w0 H0=>?_
  repeat (first|((first|(apply Lq.s;rfl)|apply PRun.s|(apply Lq.run;rfl;rfl;rfl;exact bsB)|(apply PRun.run;rfl;rfl;exact bsB));first|(apply op_conv (c:=18446744073709551616 - (n:Int));rfl;exact rot_conv h0 h)|(apply op_andI (c:=((32 - n:Nat):Int));rfl;rfl;exact rot_and h0 h)|(apply op_sub (c:=(n:Int));rfl;rfl;exact rot_sub h)|(apply op_shlw (n:=32 - n);rfl;rfl;omega)|(apply op_shrw (n:=n);rfl;rfl;omega)|(apply op_orw;rfl;rfl)|(exact bsO))|refine bsA ?_|(apply Lq.al;rfl;rfl;intro b)|(apply Open.cons;intro b)|(apply J.drawN;exact mixed;kernel_rfl)|refine bsC ?_)
  (refine J.ret ?_;(repeat (first|refine E.then_ret ?_|refine E.in_ret ?_)))
  exact E.ret1 rfl rfl
theorem turn_fn (x:UInt32) (n:Nat) (h0:0 < n) (h:n < 32):Fn Tryd.prog 96 [is (w32 x),is (.int .i64 (n:Int))] (is (w32 (rotr x n))):=by
  refine Fn.mk' 9 Tryd.func96 rfl rfl rfl rfl fun w0 H0=>?_
  repeat (first|((first|(apply Lq.s;rfl)|apply PRun.s|(apply Lq.run;rfl;rfl;rfl;exact bsB)|(apply PRun.run;rfl;rfl;exact bsB));first|(apply op_neg (c := -(n:Int));rfl;(rw [Int.zero_sub];apply wrapi <;> omega))|(apply op_call (rot_fn x n h0 h);exact bsD)|(exact bsO))|refine bsA ?_|(apply Lq.al;rfl;rfl;intro b)|(apply Open.cons;intro b)|(apply J.drawN;exact mixed;kernel_rfl)|refine bsC ?_)
  (refine J.ret ?_;(repeat (first|refine E.then_ret ?_|refine E.in_ret ?_)))
  exact E.ret1 rfl rfl
theorem size8_fn:Fn Tryd.prog 87 [is (.int .i64 8)] (is (.bool true)):=by
  refine Fn.mk' 13 Tryd.func87 rfl rfl rfl rfl fun w0 H0=>?_
  repeat (first|((first|(apply Lq.s;rfl)|apply PRun.s|(apply Lq.run;rfl;rfl;rfl;exact bsB)|(apply PRun.run;rfl;rfl;exact bsB));first|(apply op_buildT (arrT 4 (intT .i64) (by decide)) ⟨[1,2,4,8],rfl⟩;rfl;rfl;(repeat (first|exact BP.nil _|(apply BP.cons;rfl;rfl;exact bsS;rfl;rfl)));rfl)|(exact bsO))|refine bsA ?_|(apply Lq.al;rfl;rfl;intro b)|(apply Open.cons;intro b)|(apply J.drawN;exact mixed;kernel_rfl)|refine bsC ?_)
  refine J.loop (fun k:Nat=>k≤3) (fun k=>[(0,is (.int .i64 8)),(5,(arrT 4 (intT .i64) (by decide)).val ⟨[1,2,4,8],rfl⟩),(6,is (.int .i64 (k:Int)))]) (fun _=>[]) (fun k=>4 - k) 0 (by decide) ?_ ?_
  · exact (Sub.same (by repeat' (first|exact trivial|refine ⟨rfl,?_⟩)))
  rintro k hk
  obtain rfl|rfl|rfl|rfl:k=0 ∨ k=1 ∨ k=2 ∨ k=3:=by omega
  · repeat (first|((first|(apply Lq.s;rfl)|apply PRun.s|(apply Lq.run;rfl;rfl;rfl;exact bsB)|(apply PRun.run;rfl;rfl;exact bsB));first|(apply op_index (intT .i64);rfl;rfl;decide;rfl)|(exact bsO))|refine bsA ?_|(apply Lq.al;rfl;rfl;intro b)|(apply Open.cons;intro b)|(apply J.drawN;exact mixed;kernel_rfl)|refine bsC ?_)
    exact E.again 1 (by omega) (by omega) (Sub.same (by repeat' (first|exact trivial|refine ⟨rfl,?_⟩)))
  · repeat (first|((first|(apply Lq.s;rfl)|apply PRun.s|(apply Lq.run;rfl;rfl;rfl;exact bsB)|(apply PRun.run;rfl;rfl;exact bsB));first|(apply op_index (intT .i64);rfl;rfl;decide;rfl)|(exact bsO))|refine bsA ?_|(apply Lq.al;rfl;rfl;intro b)|(apply Open.cons;intro b)|(apply J.drawN;exact mixed;kernel_rfl)|refine bsC ?_)
    exact E.again 2 (by omega) (by omega) (Sub.same (by repeat' (first|exact trivial|refine ⟨rfl,?_⟩)))
  · repeat (first|((first|(apply Lq.s;rfl)|apply PRun.s|(apply Lq.run;rfl;rfl;rfl;exact bsB)|(apply PRun.run;rfl;rfl;exact bsB));first|(apply op_index (intT .i64);rfl;rfl;decide;rfl)|(exact bsO))|refine bsA ?_|(apply Lq.al;rfl;rfl;intro b)|(apply Open.cons;intro b)|(apply J.drawN;exact mixed;kernel_rfl)|refine bsC ?_)
    exact E.again 3 (by omega) (by omega) (Sub.same (by repeat' (first|exact trivial|refine ⟨rfl,?_⟩)))
  · repeat (first|((first|(apply Lq.s;rfl)|apply PRun.s|(apply Lq.run;rfl;rfl;rfl;exact bsB)|(apply PRun.run;rfl;rfl;exact bsB));first|(apply op_index (intT .i64);rfl;rfl;decide;rfl)|(exact bsO))|refine bsA ?_|(apply Lq.al;rfl;rfl;intro b)|(apply Open.cons;intro b)|(apply J.drawN;exact mixed;kernel_rfl)|refine bsC ?_)
    (refine J.ret ?_;(repeat (first|refine E.then_ret ?_|refine E.in_ret ?_)))
    exact E.ret1 rfl rfl
theorem size4_fn:Fn Tryd.prog 87 [is (.int .i64 4)] (is (.bool true)):=by
  refine Fn.mk' 13 Tryd.func87 rfl rfl rfl rfl fun w0 H0=>?_
  repeat (first|((first|(apply Lq.s;rfl)|apply PRun.s|(apply Lq.run;rfl;rfl;rfl;exact bsB)|(apply PRun.run;rfl;rfl;exact bsB));first|(apply op_buildT (arrT 4 (intT .i64) (by decide)) ⟨[1,2,4,8],rfl⟩;rfl;rfl;(repeat (first|exact BP.nil _|(apply BP.cons;rfl;rfl;exact bsS;rfl;rfl)));rfl)|(exact bsO))|refine bsA ?_|(apply Lq.al;rfl;rfl;intro b)|(apply Open.cons;intro b)|(apply J.drawN;exact mixed;kernel_rfl)|refine bsC ?_)
  refine J.loop (fun k:Nat=>k≤2) (fun k=>[(0,is (.int .i64 4)),(5,(arrT 4 (intT .i64) (by decide)).val ⟨[1,2,4,8],rfl⟩),(6,is (.int .i64 (k:Int)))]) (fun _=>[]) (fun k=>4 - k) 0 (by decide) ?_ ?_
  · exact (Sub.same (by repeat' (first|exact trivial|refine ⟨rfl,?_⟩)))
  rintro k hk
  obtain rfl|rfl|rfl:k=0 ∨ k=1 ∨ k=2:=by omega
  · repeat (first|((first|(apply Lq.s;rfl)|apply PRun.s|(apply Lq.run;rfl;rfl;rfl;exact bsB)|(apply PRun.run;rfl;rfl;exact bsB));first|(apply op_index (intT .i64);rfl;rfl;decide;rfl)|(exact bsO))|refine bsA ?_|(apply Lq.al;rfl;rfl;intro b)|(apply Open.cons;intro b)|(apply J.drawN;exact mixed;kernel_rfl)|refine bsC ?_)
    exact E.again 1 (by omega) (by omega) (Sub.same (by repeat' (first|exact trivial|refine ⟨rfl,?_⟩)))
  · repeat (first|((first|(apply Lq.s;rfl)|apply PRun.s|(apply Lq.run;rfl;rfl;rfl;exact bsB)|(apply PRun.run;rfl;rfl;exact bsB));first|(apply op_index (intT .i64);rfl;rfl;decide;rfl)|(exact bsO))|refine bsA ?_|(apply Lq.al;rfl;rfl;intro b)|(apply Open.cons;intro b)|(apply J.drawN;exact mixed;kernel_rfl)|refine bsC ?_)
    exact E.again 2 (by omega) (by omega) (Sub.same (by repeat' (first|exact trivial|refine ⟨rfl,?_⟩)))
  · repeat (first|((first|(apply Lq.s;rfl)|apply PRun.s|(apply Lq.run;rfl;rfl;rfl;exact bsB)|(apply PRun.run;rfl;rfl;exact bsB));first|(apply op_index (intT .i64);rfl;rfl;decide;rfl)|(exact bsO))|refine bsA ?_|(apply Lq.al;rfl;rfl;intro b)|(apply Open.cons;intro b)|(apply J.drawN;exact mixed;kernel_rfl)|refine bsC ?_)
    (refine J.ret ?_;(repeat (first|refine E.then_ret ?_|refine E.in_ret ?_)))
    exact E.ret1 rfl rfl
/-- The bytes that are laid behind i rounds. -/
def pb (n k i:Nat):List UInt8:=(List.range k).map fun j=>if k - 1 - j < i then UInt8.ofNat (n / 2 ^ (8*(k - 1 - j))) else 0
theorem pb_len (n k i:Nat):(pb n k i).length=k:=by simp [pb]
theorem pb_0 (n k:Nat):pb n k 0=List.replicate k 0:=by
  apply List.ext_getElem
  · simp [pb]
  · intro j h1 h2;simp [pb]
theorem pb_all (n k:Nat):pb n k k=be n k:=by
  apply List.ext_getElem
  · simp [pb,be]
  · intro j h1 h2
    have:j < k:=by simpa [pb] using h1
    simp [pb,be,show k - 1 - j < k by omega]
theorem pb_set (n k i:Nat) (hi:i < k):(pb n k i).set (k - 1 - i) (UInt8.ofNat (n / 2 ^ (8*i)))=pb n k (i+1):=by
  apply List.ext_getElem
  · simp [pb]
  · intro j h1 h2
    have hj:j < k:=by simpa [pb] using h2
    rw [List.getElem_set]
    by_cases he:k - 1 - i=j
    · rw [if_pos he]
      simp only [pb,List.getElem_map,List.getElem_range]
      rw [if_pos (by omega),show k - 1 - j=i by omega]
    · rw [if_neg he]
      simp only [pb,List.getElem_map,List.getElem_range]
      by_cases h:k - 1 - j < i
      · rw [if_pos h,if_pos (by omega)]
      · rw [if_neg h,if_neg (by omega)]
end Go.Proofs.YtljbbajelkkafaaDoor.L
/-
  Numbers as bytes,walked.
-/
namespace Go.Proofs.YtljbbajelkkafaaDoor.L
open Go
set_option linter.unusedSectionVars false
variable [Globs] [Has_sha_table] [Has_sha_begin]
set_option linter.unusedVariables false
set_option linter.unusedSimpArgs false
attribute [local irreducible] J Lq E OpP PRun is any agg tup ptr sl
theorem op_shr0 {P:Program} {Γ:Env} {Δ:List Res} {d:Option Nat} {ty t yt:Nat} {pos:String} {af:Array Edge} {g:Option (Nat × Bool)} {x y:Operand} {m n:Nat} {k k2:IntKind} (h1:opd Γ x=some (is (.int k (m:Int)))) (h2:opd Γ y=some (is (.int k2 (n:Int)))) (hn:n≤k.bits) (hm:m < 2 ^ n):OpP P Γ Δ ⟨d, .binOp .shr t x y yt,ty,pos,af,g⟩ (is (.int k 0)):=by
  have:=op_shrn (P:=P) (Δ:=Δ) (d:=d) (ty:=ty) (pos:=pos) (af:=af) (g:=g) (t:=t) (yt:=yt) h1 h2 hn
  rwa [Nat.div_eq_of_lt hm] at this
theorem put8_fn (n:Nat) (hn:n < 2 ^ 63):Fn Tryd.prog 74 [is (.int .i64 (n:Int)),is (.int .i64 8)] (is (str (be n 8))):=by
  have hn':n < 9223372036854775808:=hn
  refine Fn.mk' 45 Tryd.func74 rfl rfl rfl rfl fun w0 H0=>?_
  repeat (first|((first|(apply Lq.s;rfl)|apply PRun.s|(apply Lq.run;rfl;rfl;rfl;exact bsB)|(apply PRun.run;rfl;rfl;exact bsB));first|(apply op_call size8_fn;exact bsD)|(apply op_shr0 (n:=32);rfl;rfl;decide;exact hn)|(exact bsO))|refine bsA ?_|(apply Lq.al;rfl;rfl;intro b)|(apply Open.cons;intro b)|(apply J.drawN;exact mixed;kernel_rfl)|refine bsC ?_)
  (apply Lq.make (T:=u8T) (z0:=0) (n:=8);rfl;rfl;rfl;rfl;rfl;rfl;rfl;decide;decide)
  intro b
  repeat (first|((first|(apply Lq.s;rfl)|apply PRun.s|(apply Lq.run;rfl;rfl;rfl;exact bsB)|(apply PRun.run;rfl;rfl;exact bsB));first|(exact bsO))|refine bsA ?_|(apply Lq.al;rfl;rfl;intro b)|(apply Open.cons;intro b)|(apply J.drawN;exact mixed;kernel_rfl)|refine bsC ?_)
  refine J.loop (fun i:Nat=>i≤8) (fun i=>[(0,is (.int .i64 (n:Int))),(1,is (.int .i64 8)),(5,is (.slice (some ⟨b,0,none⟩) 8 8)),(27,is (.int .i64 8)),(28,is (.int .i64 (i:Int)))]) (fun i=>[own b 5 (flat u8T.toTy (pb n 8 i))]) (fun i=>8 - i) 0 (by decide) ?_ ?_
  · rw [pb_0]
    exact (Sub.same (by repeat' (first|exact trivial|refine ⟨rfl,?_⟩)))
  rintro i hi
  by_cases hlt:i < 8
  · repeat (first|((first|(apply Lq.s;rfl)|apply PRun.s|(apply Lq.run;rfl;rfl;rfl;exact bsB)|(apply PRun.run;rfl;rfl;exact bsB));first|(apply op_mul (c:=((8*i:Nat):Int));rfl;rfl;(rw [show (8:Int)*(i:Int)=((8*i:Nat):Int) by omega];apply wrapi <;> omega))|(apply op_shrn (n:=8*i);rfl;rfl;(show 8*i≤64;omega))|(apply op_convib;rfl)|(apply op_siaddr;rfl;rfl;omega;omega)|(exact bsO))|refine bsA ?_|(apply Lq.al;rfl;rfl;intro b)|(apply Open.cons;intro b)|(apply J.drawN;exact mixed;kernel_rfl)|refine bsC ?_)
    have e:((8:Int) - 1 - (i:Int)).toNat=8 - 1 - i:=by omega
    refine Lq.storeE (φs':=flat u8T.toTy (pb n 8 (i+1))) rfl rfl (List.Perm.refl _) (Seg.is rfl) rfl ?_ ?_ ?_
    · rw [flat_len,pb_len,e]
      show 0+(8 - 1 - i)*1+1≤8*1
      omega
    · rw [e]
      exact (set_flat0 u8T.toTy (by rw [pb_len];omega)).trans (congrArg _ (pb_set n 8 i hlt))
    repeat (first|((first|(apply Lq.s;rfl)|apply PRun.s|(apply Lq.run;rfl;rfl;rfl;exact bsB)|(apply PRun.run;rfl;rfl;exact bsB));first|(exact bsO))|refine bsA ?_|(apply Lq.al;rfl;rfl;intro b)|(apply Open.cons;intro b)|(apply J.drawN;exact mixed;kernel_rfl)|refine bsC ?_)
    exact E.again (i+1) (by omega) (by omega) (Sub.same (by repeat' (first|exact trivial|refine ⟨rfl,?_⟩)))
  · obtain rfl:i=8:=by omega
    rw [pb_all]
    repeat (first|((first|(apply Lq.s;rfl)|apply PRun.s|(apply Lq.run;rfl;rfl;rfl;exact bsB)|(apply PRun.run;rfl;rfl;exact bsB));first|(apply op_str_own (l:=be n 8);rfl;exact bsM;rfl)|(exact bsO))|refine bsA ?_|(apply Lq.al;rfl;rfl;intro b)|(apply Open.cons;intro b)|(apply J.drawN;exact mixed;kernel_rfl)|refine bsC ?_)
    (refine J.ret ?_;(repeat (first|refine E.then_ret ?_|refine E.in_ret ?_)))
    exact E.ret1 rfl rfl
theorem put4_fn (n:Nat) (hn:n < 2 ^ 32):Fn Tryd.prog 74 [is (.int .i64 (n:Int)),is (.int .i64 4)] (is (str (be n 4))):=by
  have hn':n < 4294967296:=hn
  refine Fn.mk' 45 Tryd.func74 rfl rfl rfl rfl fun w0 H0=>?_
  repeat (first|((first|(apply Lq.s;rfl)|apply PRun.s|(apply Lq.run;rfl;rfl;rfl;exact bsB)|(apply PRun.run;rfl;rfl;exact bsB));first|(apply op_call size4_fn;exact bsD)|(apply op_shr0 (n:=32);rfl;rfl;decide;exact hn)|(exact bsO))|refine bsA ?_|(apply Lq.al;rfl;rfl;intro b)|(apply Open.cons;intro b)|(apply J.drawN;exact mixed;kernel_rfl)|refine bsC ?_)
  (apply Lq.make (T:=u8T) (z0:=0) (n:=4);rfl;rfl;rfl;rfl;rfl;rfl;rfl;decide;decide)
  intro b
  repeat (first|((first|(apply Lq.s;rfl)|apply PRun.s|(apply Lq.run;rfl;rfl;rfl;exact bsB)|(apply PRun.run;rfl;rfl;exact bsB));first|(exact bsO))|refine bsA ?_|(apply Lq.al;rfl;rfl;intro b)|(apply Open.cons;intro b)|(apply J.drawN;exact mixed;kernel_rfl)|refine bsC ?_)
  refine J.loop (fun i:Nat=>i≤4) (fun i=>[(0,is (.int .i64 (n:Int))),(1,is (.int .i64 4)),(5,is (.slice (some ⟨b,0,none⟩) 4 4)),(27,is (.int .i64 4)),(28,is (.int .i64 (i:Int)))]) (fun i=>[own b 5 (flat u8T.toTy (pb n 4 i))]) (fun i=>4 - i) 0 (by decide) ?_ ?_
  · rw [pb_0]
    exact (Sub.same (by repeat' (first|exact trivial|refine ⟨rfl,?_⟩)))
  rintro i hi
  by_cases hlt:i < 4
  · repeat (first|((first|(apply Lq.s;rfl)|apply PRun.s|(apply Lq.run;rfl;rfl;rfl;exact bsB)|(apply PRun.run;rfl;rfl;exact bsB));first|(apply op_mul (c:=((8*i:Nat):Int));rfl;rfl;(rw [show (8:Int)*(i:Int)=((8*i:Nat):Int) by omega];apply wrapi <;> omega))|(apply op_shrn (n:=8*i);rfl;rfl;(show 8*i≤64;omega))|(apply op_convib;rfl)|(apply op_siaddr;rfl;rfl;omega;omega)|(exact bsO))|refine bsA ?_|(apply Lq.al;rfl;rfl;intro b)|(apply Open.cons;intro b)|(apply J.drawN;exact mixed;kernel_rfl)|refine bsC ?_)
    have e:((4:Int) - 1 - (i:Int)).toNat=4 - 1 - i:=by omega
    refine Lq.storeE (φs':=flat u8T.toTy (pb n 4 (i+1))) rfl rfl (List.Perm.refl _) (Seg.is rfl) rfl ?_ ?_ ?_
    · rw [flat_len,pb_len,e]
      show 0+(4 - 1 - i)*1+1≤4*1
      omega
    · rw [e]
      exact (set_flat0 u8T.toTy (by rw [pb_len];omega)).trans (congrArg _ (pb_set n 4 i hlt))
    repeat (first|((first|(apply Lq.s;rfl)|apply PRun.s|(apply Lq.run;rfl;rfl;rfl;exact bsB)|(apply PRun.run;rfl;rfl;exact bsB));first|(exact bsO))|refine bsA ?_|(apply Lq.al;rfl;rfl;intro b)|(apply Open.cons;intro b)|(apply J.drawN;exact mixed;kernel_rfl)|refine bsC ?_)
    exact E.again (i+1) (by omega) (by omega) (Sub.same (by repeat' (first|exact trivial|refine ⟨rfl,?_⟩)))
  · obtain rfl:i=4:=by omega
    rw [pb_all]
    repeat (first|((first|(apply Lq.s;rfl)|apply PRun.s|(apply Lq.run;rfl;rfl;rfl;exact bsB)|(apply PRun.run;rfl;rfl;exact bsB));first|(apply op_str_own (l:=be n 4);rfl;exact bsM;rfl)|(exact bsO))|refine bsA ?_|(apply Lq.al;rfl;rfl;intro b)|(apply Open.cons;intro b)|(apply J.drawN;exact mixed;kernel_rfl)|refine bsC ?_)
    (refine J.ret ?_;(repeat (first|refine E.then_ret ?_|refine E.in_ret ?_)))
    exact E.ret1 rfl rfl
end Go.Proofs.YtljbbajelkkafaaDoor.L
/-
  A block taken in,walked.
-/
namespace Go.Proofs.YtljbbajelkkafaaDoor.L
open Go
set_option linter.unusedSectionVars false
variable [Globs] [Has_sha_table] [Has_sha_begin]
theorem any_h {H:IH} {v:Value}:any.h H v:=trivial
theorem glob_table:(2,sha_table.map fun (n:Nat)=>Value.int .u32 (n:Int)) ∈ globs:=Has_sha_table.h
theorem glob_begin:(0,sha_begin.map fun (n:Nat)=>Value.int .u32 (n:Int)) ∈ globs:=Has_sha_begin.h
theorem table_at (t:Nat) (h:t < 64):u32W.cells (tbl.getD t 0)=(((sha_table.map fun (n:Nat)=>Value.int .u32 (n:Int)).drop (0+((t:Int)).toNat*1)).take 1).map is:=by
  have hl:sha_table.length=64:=rfl
  have h1 : ∀ k:Fin 64,(tbl.getD k.1 0).toNat=sha_table.getD k.1 0:=by decide +kernel
  have h2:sha_table[t]?=some (sha_table.getD t 0):=by rw [List.getD_eq_getElem?_getD,List.getElem?_eq_getElem (by omega)];rfl
  rw [show 0+((t:Int)).toNat*1=t by omega, ← List.map_drop, ← List.map_take]
  have h3:(sha_table.drop t).take 1=[sha_table.getD t 0]:=by
    rw [List.drop_eq_getElem_cons (by omega)]
    show [sha_table[t]]=_
    rw [List.getElem?_eq_getElem (by omega)] at h2
    injection h2 with h2
    exact congrArg (fun z=>[z]) h2
  rw [h3]
  show [is (w32 (tbl.getD t 0))]=[is (.int .u32 ((sha_table.getD t 0:Nat):Int))]
  rw [← h1 ⟨t,h⟩]
  rfl
theorem row_at {φs:List Pr} {ro k:Nat} {bs:List UInt8} (h:(φs.drop ro).take 64=flat u8T.toTy bs) (hl:bs.length=64) (hk:k < 64):(φs.drop (ro+k)).take 1=u8T.cells (bs.getD k 0):=by
  have hx:bs[k]?=some (bs.getD k 0):=by rw [List.getD_eq_getElem?_getD,List.getElem?_eq_getElem (by omega)];rfl
  have h1:=at_flat0 u8T.toTy hx
  rw [← h] at h1
  have e:(0+k*u8T.toTy.sz)=k:=by show 0+k*1=k;omega
  rw [e] at h1
  rw [List.drop_take,List.drop_drop] at h1
  have h2:(List.take (64 - k) (φs.drop (ro+k))).take 1=(φs.drop (ro+k)).take 1:=by rw [List.take_take];congr 1;omega
  rw [← h2]
  exact h1
theorem getD_at {l:List UInt32} {k:Nat} (h:k < l.length):l[k]?=some (l.getD k 0):=by rw [List.getD_eq_getElem?_getD,List.getElem?_eq_getElem h];rfl
theorem sched_set (bs:List UInt8) (t:Nat) (h:t < 64):(sched bs t++List.replicate (64 - t) 0).set t (nextW bs (sched bs t) t)=sched bs (t+1)++List.replicate (64 - (t+1)) 0:=by
  rw [List.set_append,if_neg (by rw [sched_len];omega),sched_len,Nat.sub_self,show 64 - t=(64 - (t+1))+1 by omega,List.replicate_succ,List.set_cons_zero]
  show _=(sched bs t++[nextW bs (sched bs t) t])++_
  simp
theorem sched_at (bs:List UInt8) (t k:Nat) (i:Int) (h:k < t) (hi:i.toNat=k):((flat u32W.toTy (sched bs t++List.replicate (64 - t) 0)).drop (0+i.toNat*1)).take 1=u32W.cells ((sched bs t).getD k 0):=by
  rw [hi]
  exact at_flat0 u32W.toTy (by rw [List.getElem?_append_left (by rw [sched_len];exact h)];exact getD_at (by rw [sched_len];exact h))
theorem op_sl_lt {P:Program} {Γ:Env} {Δ:List Res} {d:Option Nat} {ty t:Nat} {pos:String} {af:Array Edge} {g:Option (Nat × Bool)} {x y:Operand} {b o n cap e sz lo:Nat} {k:IntKind} (h:opd Γ x=some (is (.slice (some ⟨b,o,none⟩) n cap))) (hh:opd Γ y=some (is (.int k (lo:Int)))) [ht:TSl P t e] [TSz P e sz] (h1:lo≤n) (h2:lo < cap):OpP P Γ Δ ⟨d, .slice t x (some y) none none,ty,pos,af,g⟩ (is (.slice (some ⟨b,o+lo*sz,none⟩) (n - lo) (cap - lo))):=by
  have:=op_sl_lo (P:=P) (Δ:=Δ) (d:=d) (ty:=ty) (pos:=pos) (af:=af) (g:=g) (t:=t) (sz:=sz) h hh h1
  rwa [if_neg (by omega)] at this
/-- The state, i of its words added to. -/
def stp (st v:List UInt32) (i:Nat):List UInt32:=(List.range 8).map fun j=>if j < i then st.getD j 0+v.getD j 0 else st.getD j 0
theorem nextW_lo {bs:List UInt8} {l:List UInt32} {t:Nat} (h:t < 16):nextW bs l t=shl32 (UInt32.ofNat (bs.getD (4*t+0) 0).toNat) 24 ||| shl32 (UInt32.ofNat (bs.getD (4*t+1) 0).toNat) 16 ||| shl32 (UInt32.ofNat (bs.getD (4*t+2) 0).toNat) 8 ||| UInt32.ofNat (bs.getD (4*t+3) 0).toNat:=by unfold nextW;rw [if_pos h];rfl
theorem nextW_hi {bs:List UInt8} {l:List UInt32} {t:Nat} (h : ¬ t < 16):nextW bs l t=l.getD (t - 16) 0+(rotr (l.getD (t - 15) 0) 7 ^^^ rotr (l.getD (t - 15) 0) 18 ^^^ shr32 (l.getD (t - 15) 0) 3)+l.getD (t - 7) 0+(rotr (l.getD (t - 2) 0) 17 ^^^ rotr (l.getD (t - 2) 0) 19 ^^^ shr32 (l.getD (t - 2) 0) 10):=by unfold nextW;rw [if_neg h];rfl
theorem sched_0 (bs:List UInt8):sched bs 0=[]:=rfl
theorem rounds_0 (m v:List UInt32):rounds m v 0=v:=rfl
theorem rounds_s (m v:List UInt32) (t:Nat):rounds m v (t+1)=round (rounds m v t) (m.getD t 0) (tbl.getD t 0):=rfl
attribute [local irreducible] sched rounds
theorem load64 (bs:List UInt8):((flat u32W.toTy (sched bs 64++List.replicate (64 - 64) 0)).drop 0).take (arrT 64 u32W (by decide)).sz=(arrT 64 u32W (by decide)).cells ⟨sched bs 64,sched_len bs 64⟩:=by
  rw [List.drop_zero]
  show (flat u32W.toTy (sched bs 64++[])).take 64=flat u32W.toTy (sched bs 64)
  rw [List.append_nil]
  exact List.take_of_length_le (by rw [flat_len,sched_len];decide)
set_option linter.unusedVariables false
set_option linter.unusedSimpArgs false
attribute [local irreducible] J Lq E OpP PRun is any agg tup ptr sl
attribute [local irreducible] nextW word4
set_option maxHeartbeats 1000000 in
set_option maxRecDepth 100000 in
theorem block_fn (st:List UInt32) (hst:st.length=8) (bs:List UInt8) (hbs:bs.length=64) (rest φs:List Pr) (hrest:rest.length=3) (wb rb ro cap e1 e2:Nat) (hcap:64≤cap) (hφ:(φs.drop ro).take 64=flat u8T.toTy bs) :
    FnR Tryd.prog 86 [is (.pointer (some ⟨wb,0,none⟩)),is (.slice (some ⟨rb,ro,none⟩) 64 cap)] [own wb e1 (flat u32W.toTy st++rest),own rb e2 φs]
      (fun ψ Δ=>ψ=any∧Δ=[own wb e1 (flat u32W.toTy (block st bs)++rest),own rb e2 φs]):=by
  match st,hst,rest,hrest with
  | [s0,s1,s2,s3,s4,s5,s6,s7],hst,[r0,r1,r2],_ =>
  refine FnR.mk' 180 Tryd.func86 rfl rfl rfl rfl fun w0 H0=>?_
  repeat (first|((first|(apply Lq.s;rfl)|apply PRun.s|(apply Lq.run;rfl;rfl;rfl;exact bsB)|(apply PRun.run;rfl;rfl;exact bsB));first|(exact bsO))|refine bsA ?_|(apply Lq.al;rfl;rfl;intro b)|(apply Open.cons;intro b)|(apply J.drawN;exact mixed;kernel_rfl)|refine bsC ?_)
  revert b
  intro bm
  refine J.loop (fun t:Nat=>t≤64) (fun t=>[(0,is (.pointer (some ⟨wb,0,none⟩))),(1,is (.slice (some ⟨rb,ro,none⟩) 64 cap)),(4,is (.pointer (some ⟨bm,0,none⟩))),(16,is (.int .i64 (t:Int)))])
    (fun t=>[own bm 150 (flat u32W.toTy (sched bs t++List.replicate (64 - t) 0)),own wb e1 (flat u32W.toTy [s0,s1,s2,s3,s4,s5,s6,s7]++[r0,r1,r2]),own rb e2 φs]) (fun t=>64 - t) 0 (by decide) ?_ ?_
  · dsimp only
    rw [sched_0]
    exact (Sub.same (by repeat' (first|exact trivial|refine ⟨rfl,?_⟩)))
  · rintro t ht
    by_cases h64:t < 64
    · by_cases h16:t < 16
      · have hb : ∀ (j:Nat) (i:Int),i.toNat=j→j < 4→(φs.drop (ro+4*t*1+i.toNat*1)).take 1=u8T.cells (bs.getD (4*t+j) 0):=fun j i hi hj=>by
          rw [hi,show ro+4*t*1+j*1=ro+(4*t+j) by omega]
          exact row_at hφ hbs (by omega)
        repeat (first|((first|(apply Lq.s;rfl)|apply PRun.s|(apply Lq.run;rfl;rfl;rfl;exact bsB)|(apply PRun.run;rfl;rfl;exact bsB));first|(apply op_addw;rfl;rfl)|(apply op_xorw;rfl;rfl)|(apply op_andw;rfl;rfl)|(apply op_orw;rfl;rfl)|(apply op_convbw;rfl)|(apply op_mul (c:=((4*t:Nat):Int));rfl;rfl;(rw [show (4:Int)*(t:Int)=((4*t:Nat):Int) by omega];apply wrapi <;> omega))|(apply op_sl_lt (lo:=4*t);rfl;rfl;omega;omega)|(apply op_siaddr;rfl;rfl;omega;omega)|(apply op_oload u8T;rfl;exact bsM;exact hb 0 0 rfl (by decide))|(apply op_oload u8T;rfl;exact bsM;exact hb 1 1 rfl (by decide))|(apply op_oload u8T;rfl;exact bsM;exact hb 2 2 rfl (by decide))|(apply op_oload u8T;rfl;exact bsM;exact hb 3 3 rfl (by decide))|(apply op_shlw (n:=24);rfl;rfl;decide)|(apply op_shlw (n:=16);rfl;rfl;decide)|(apply op_shlw (n:=8);rfl;rfl;decide)|(exact bsO))|refine bsA ?_|(apply Lq.al;rfl;rfl;intro b)|(apply Open.cons;intro b)|(apply J.drawN;exact mixed;kernel_rfl)|refine bsC ?_)
        refine Lq.storeE (φs':=flat u32W.toTy (sched bs (t+1)++List.replicate (64 - (t+1)) 0)) rfl rfl (List.Perm.refl _) (Seg.is rfl) rfl ?_ ?_ ?_
        · rw [flat_len,List.length_append,sched_len,List.length_replicate]
          show 0+((t:Int)).toNat*1+1≤(t+(64 - t))*1
          omega
        · have hs:=set_flat0 u32W.toTy (xs:=sched bs t++List.replicate (64 - t) 0) (k:=t) (v:=nextW bs (sched bs t) t) (by rw [List.length_append,sched_len,List.length_replicate];omega)
          rw [sched_set bs t h64] at hs
          rw [nextW_lo h16] at hs
          exact hs
        repeat (first|((first|(apply Lq.s;rfl)|apply PRun.s|(apply Lq.run;rfl;rfl;rfl;exact bsB)|(apply PRun.run;rfl;rfl;exact bsB));first|(exact bsO))|refine bsA ?_|(apply Lq.al;rfl;rfl;intro b)|(apply Open.cons;intro b)|(apply J.drawN;exact mixed;kernel_rfl)|refine bsC ?_)
        exact E.again (t+1) (by omega) (by omega) (Sub.same (by repeat' (first|exact trivial|refine ⟨rfl,?_⟩)))
      · repeat (first|((first|(apply Lq.s;rfl)|apply PRun.s|(apply Lq.run;rfl;rfl;rfl;exact bsB)|(apply PRun.run;rfl;rfl;exact bsB));first|(apply op_addw;rfl;rfl)|(apply op_xorw;rfl;rfl)|(apply op_andw;rfl;rfl)|(apply op_orw;rfl;rfl)|(apply op_convbw;rfl)|(apply op_call (turn_fn _ 7 (by decide) (by decide));exact bsD)|(apply op_call (turn_fn _ 18 (by decide) (by decide));exact bsD)|(apply op_call (turn_fn _ 17 (by decide) (by decide));exact bsD)|(apply op_call (turn_fn _ 19 (by decide) (by decide));exact bsD)|(apply op_call (turn_fn _ 6 (by decide) (by decide));exact bsD)|(apply op_call (turn_fn _ 11 (by decide) (by decide));exact bsD)|(apply op_call (turn_fn _ 25 (by decide) (by decide));exact bsD)|(apply op_call (turn_fn _ 2 (by decide) (by decide));exact bsD)|(apply op_call (turn_fn _ 13 (by decide) (by decide));exact bsD)|(apply op_call (turn_fn _ 22 (by decide) (by decide));exact bsD)|(apply op_oload u32W;rfl;exact bsM;exact sched_at bs t (t - 15) ((t:Int) - 15) (by omega) (by omega))|(apply op_oload u32W;rfl;exact bsM;exact sched_at bs t (t - 2) ((t:Int) - 2) (by omega) (by omega))|(apply op_oload u32W;rfl;exact bsM;exact sched_at bs t (t - 16) ((t:Int) - 16) (by omega) (by omega))|(apply op_oload u32W;rfl;exact bsM;exact sched_at bs t (t - 7) ((t:Int) - 7) (by omega) (by omega))|(apply op_shrw (n:=3);rfl;rfl;decide)|(apply op_shrw (n:=10);rfl;rfl;decide)|(exact bsO))|refine bsA ?_|(apply Lq.al;rfl;rfl;intro b)|(apply Open.cons;intro b)|(apply J.drawN;exact mixed;kernel_rfl)|refine bsC ?_)
        refine Lq.storeE (φs':=flat u32W.toTy (sched bs (t+1)++List.replicate (64 - (t+1)) 0)) rfl rfl (List.Perm.refl _) (Seg.is rfl) rfl ?_ ?_ ?_
        · rw [flat_len,List.length_append,sched_len,List.length_replicate]
          show 0+((t:Int)).toNat*1+1≤(t+(64 - t))*1
          omega
        · have hs:=set_flat0 u32W.toTy (xs:=sched bs t++List.replicate (64 - t) 0) (k:=t) (v:=nextW bs (sched bs t) t) (by rw [List.length_append,sched_len,List.length_replicate];omega)
          rw [sched_set bs t h64] at hs
          rw [nextW_hi h16] at hs
          exact hs
        repeat (first|((first|(apply Lq.s;rfl)|apply PRun.s|(apply Lq.run;rfl;rfl;rfl;exact bsB)|(apply PRun.run;rfl;rfl;exact bsB));first|(exact bsO))|refine bsA ?_|(apply Lq.al;rfl;rfl;intro b)|(apply Open.cons;intro b)|(apply J.drawN;exact mixed;kernel_rfl)|refine bsC ?_)
        exact E.again (t+1) (by omega) (by omega) (Sub.same (by repeat' (first|exact trivial|refine ⟨rfl,?_⟩)))
    · obtain rfl:t=64:=by omega
      repeat (first|((first|(apply Lq.s;rfl)|apply PRun.s|(apply Lq.run;rfl;rfl;rfl;exact bsB)|(apply PRun.run;rfl;rfl;exact bsB));first|(apply op_oload (arrT 8 u32W (by decide)) (x:=⟨[s0,s1,s2,s3,s4,s5,s6,s7],rfl⟩);rfl;exact bsM;rfl)|(apply op_oload (arrT 64 u32W (by decide)) (x:=⟨sched bs 64,sched_len bs 64⟩);rfl;exact bsM;exact load64 bs)|(exact bsO))|refine bsA ?_|(apply Lq.al;rfl;rfl;intro b)|(apply Open.cons;intro b)|(apply J.drawN;exact mixed;kernel_rfl)|refine bsC ?_)
      refine J.loop (fun t:Nat=>t≤64) (fun t=>[(0,is (.pointer (some ⟨wb,0,none⟩))),(9,is (.pointer (some ⟨b,0,none⟩))),(91,(arrT 64 u32W (by decide)).val ⟨sched bs 64,sched_len bs 64⟩),(92,is (.int .i64 (t:Int)))])
        (fun t=>[own b 120 (flat u32W.toTy (rounds (sched bs 64) [s0,s1,s2,s3,s4,s5,s6,s7] t)),own bm 150 (flat u32W.toTy (sched bs 64++List.replicate (64 - 64) 0)),own wb e1 (flat u32W.toTy [s0,s1,s2,s3,s4,s5,s6,s7]++[r0,r1,r2]),own rb e2 φs]) (fun t=>64 - t) 0 (by decide) ?_ ?_
      · try dsimp only
        rw [rounds_0]
        exact (Sub.same (by repeat' (first|exact trivial|refine ⟨rfl,?_⟩)))
      rintro t ht
      have h8:=rounds_len (m:=sched bs 64) (v:=[s0,s1,s2,s3,s4,s5,s6,s7]) rfl t
      obtain ⟨a,b1,c,d,e,f,g,h,hv⟩ : ∃ a b1 c d e f g h,rounds (sched bs 64) [s0,s1,s2,s3,s4,s5,s6,s7] t=[a,b1,c,d,e,f,g,h]:=by
        generalize rounds (sched bs 64) [s0,s1,s2,s3,s4,s5,s6,s7] t=v at h8
        match v,h8 with
        | [a,b1,c,d,e,f,g,h],_=>exact ⟨_,_,_,_,_,_,_,_,rfl⟩
      by_cases h64:t < 64
      · dsimp only
        rw [hv]
        repeat (first|((first|(apply Lq.s;rfl)|apply PRun.s|(apply Lq.run;rfl;rfl;rfl;exact bsB)|(apply PRun.run;rfl;rfl;exact bsB));first|(apply op_addw;rfl;rfl)|(apply op_xorw;rfl;rfl)|(apply op_andw;rfl;rfl)|(apply op_orw;rfl;rfl)|(apply op_convbw;rfl)|(apply op_call (turn_fn _ 7 (by decide) (by decide));exact bsD)|(apply op_call (turn_fn _ 18 (by decide) (by decide));exact bsD)|(apply op_call (turn_fn _ 17 (by decide) (by decide));exact bsD)|(apply op_call (turn_fn _ 19 (by decide) (by decide));exact bsD)|(apply op_call (turn_fn _ 6 (by decide) (by decide));exact bsD)|(apply op_call (turn_fn _ 11 (by decide) (by decide));exact bsD)|(apply op_call (turn_fn _ 25 (by decide) (by decide));exact bsD)|(apply op_call (turn_fn _ 2 (by decide) (by decide));exact bsD)|(apply op_call (turn_fn _ 13 (by decide) (by decide));exact bsD)|(apply op_call (turn_fn _ 22 (by decide) (by decide));exact bsD)|(apply op_index u32W;rfl;rfl;omega;exact getD_at (k:=t) (by rw [sched_len];omega))|(apply op_gload u32W (v:=tbl.getD t 0) glob_table;rfl;rfl;exact table_at t h64)|(apply op_oload u32W;rfl;exact bsM;rfl)|(apply op_oslarr_lo (lo:=1);rfl;rfl;decide)|(apply op_oslarr_hi (hi:=7);rfl;rfl;rfl;decide)|(exact bsO))|refine bsA ?_|(apply Lq.al;rfl;rfl;intro b)|(apply Open.cons;intro b)|(apply J.drawN;exact mixed;kernel_rfl)|refine bsC ?_)
        (apply Lq.copy (T:=u32W) (ys:=[a,b1,c,d,e,f,g]) (φs':=flat u32W.toTy [a,a,b1,c,d,e,f,g]);rfl;exact List.Perm.refl _;(apply From.own;rfl;exact List.mem_cons_self;rfl);rfl;exact Nat.le_of_ble_eq_true rfl;exact Nat.le_of_ble_eq_true rfl;rfl)
        repeat (first|((first|(apply Lq.s;rfl)|apply PRun.s|(apply Lq.run;rfl;rfl;rfl;exact bsB)|(apply PRun.run;rfl;rfl;exact bsB));first|(apply op_addw;rfl;rfl)|(apply op_xorw;rfl;rfl)|(apply op_andw;rfl;rfl)|(apply op_orw;rfl;rfl)|(apply op_convbw;rfl)|(apply op_oload u32W;rfl;exact bsM;rfl)|(exact bsO))|refine bsA ?_|(apply Lq.al;rfl;rfl;intro b)|(apply Open.cons;intro b)|(apply J.drawN;exact mixed;kernel_rfl)|refine bsC ?_)
        refine E.again (t+1) (by omega) (by omega) ?_
        have hv':rounds (sched bs 64) [s0,s1,s2,s3,s4,s5,s6,s7] (t+1)=[(sched bs 64).getD t 0+(h+(rotr e 6 ^^^ rotr e 11 ^^^ rotr e 25)+(g ^^^ e &&& (f ^^^ g))+tbl.getD t 0)+((rotr a 2 ^^^ rotr a 13 ^^^ rotr a 22)+(a &&& (b1 ||| c) ||| b1 &&& c)),a,b1,c,d+((sched bs 64).getD t 0+(h+(rotr e 6 ^^^ rotr e 11 ^^^ rotr e 25)+(g ^^^ e &&& (f ^^^ g))+tbl.getD t 0)),e,f,g]:=by
          rw [rounds_s,hv];rfl
        try dsimp only
        rw [hv']
        exact (Sub.same (by repeat' (first|exact trivial|refine ⟨rfl,?_⟩)))
      · obtain rfl:t=64:=by omega
        have hblk:block [s0,s1,s2,s3,s4,s5,s6,s7] bs=stp [s0,s1,s2,s3,s4,s5,s6,s7] [a,b1,c,d,e,f,g,h] 8:=by unfold block;rw [hv];rfl
        try dsimp only
        rw [hv]
        repeat (first|((first|(apply Lq.s;rfl)|apply PRun.s|(apply Lq.run;rfl;rfl;rfl;exact bsB)|(apply PRun.run;rfl;rfl;exact bsB));first|(exact bsO))|refine bsA ?_|(apply Lq.al;rfl;rfl;intro b)|(apply Open.cons;intro b)|(apply J.drawN;exact mixed;kernel_rfl)|refine bsC ?_)
        refine J.loop (fun i:Nat=>i≤8) (fun i=>[(0,is (.pointer (some ⟨wb,0,none⟩))),(9,is (.pointer (some ⟨b,0,none⟩))),(163,is (.int .i64 (i:Int)))])
          (fun i=>[own wb e1 (flat u32W.toTy (stp [s0,s1,s2,s3,s4,s5,s6,s7] [a,b1,c,d,e,f,g,h] i)++[r0,r1,r2]),own b 120 (flat u32W.toTy [a,b1,c,d,e,f,g,h]),own bm 150 (flat u32W.toTy (sched bs 64++List.replicate (64 - 64) 0)),own rb e2 φs]) (fun i=>8 - i) 0 (by decide) ?_ ?_
        · exact ⟨(by repeat' (first|exact trivial|refine ⟨rfl,?_⟩)),[],(((List.Perm.cons _ (List.Perm.swap _ _ _)).trans (List.Perm.swap _ _ _)):[_,_,_,_].Perm [_,_,_,_])⟩
        rintro i hi
        by_cases h8:i < 8
        · obtain rfl|rfl|rfl|rfl|rfl|rfl|rfl|rfl:i=0 ∨ i=1 ∨ i=2 ∨ i=3 ∨ i=4 ∨ i=5 ∨ i=6 ∨ i=7:=by omega
          all_goals
            repeat (first|((first|(apply Lq.s;rfl)|apply PRun.s|(apply Lq.run;rfl;rfl;rfl;exact bsB)|(apply PRun.run;rfl;rfl;exact bsB));first|(apply op_addw;rfl;rfl)|(apply op_xorw;rfl;rfl)|(apply op_andw;rfl;rfl)|(apply op_orw;rfl;rfl)|(apply op_convbw;rfl)|(apply op_oload u32W;rfl;exact bsM;rfl)|(exact bsO))|refine bsA ?_|(apply Lq.al;rfl;rfl;intro b)|(apply Open.cons;intro b)|(apply J.drawN;exact mixed;kernel_rfl)|refine bsC ?_)
          · exact E.again 1 (by decide) (by decide) (Sub.same (by repeat' (first|exact trivial|refine ⟨rfl,?_⟩)))
          · exact E.again 2 (by decide) (by decide) (Sub.same (by repeat' (first|exact trivial|refine ⟨rfl,?_⟩)))
          · exact E.again 3 (by decide) (by decide) (Sub.same (by repeat' (first|exact trivial|refine ⟨rfl,?_⟩)))
          · exact E.again 4 (by decide) (by decide) (Sub.same (by repeat' (first|exact trivial|refine ⟨rfl,?_⟩)))
          · exact E.again 5 (by decide) (by decide) (Sub.same (by repeat' (first|exact trivial|refine ⟨rfl,?_⟩)))
          · exact E.again 6 (by decide) (by decide) (Sub.same (by repeat' (first|exact trivial|refine ⟨rfl,?_⟩)))
          · exact E.again 7 (by decide) (by decide) (Sub.same (by repeat' (first|exact trivial|refine ⟨rfl,?_⟩)))
          · exact E.again 8 (by decide) (by decide) (Sub.same (by repeat' (first|exact trivial|refine ⟨rfl,?_⟩)))
        · obtain rfl:i=8:=by omega
          repeat (first|((first|(apply Lq.s;rfl)|apply PRun.s|(apply Lq.run;rfl;rfl;rfl;exact bsB)|(apply PRun.run;rfl;rfl;exact bsB));first|(exact bsO))|refine bsA ?_|(apply Lq.al;rfl;rfl;intro b)|(apply Open.cons;intro b)|(apply J.drawN;exact mixed;kernel_rfl)|refine bsC ?_)
          exact E.retR0 (Δ':=[own wb e1 (flat u32W.toTy (stp [s0,s1,s2,s3,s4,s5,s6,s7] [a,b1,c,d,e,f,g,h] 8)++[r0,r1,r2]),own rb e2 φs]) .normal (.inr rfl) rfl (fun _=>any_h) ⟨rfl,by rw [hblk]⟩ ((List.Perm.cons _ (List.perm_append_comm (l₁:=[_,_]) (l₂:=[_]))):[_,_,_,_].Perm ([_,_]++[_,_]))
end Go.Proofs.YtljbbajelkkafaaDoor.L
/-
  Bytes taken in,walked.
-/
namespace Go.Proofs.YtljbbajelkkafaaDoor.L
open Go
set_option linter.unusedSectionVars false
variable [Globs] [Has_sha_table] [Has_sha_begin]
theorem run_short {st:List UInt32} {l:List UInt8} (h:l.length < 64):run st l=(st,l):=by
  unfold run;rw [Nat.div_eq_of_lt h];rfl
theorem run_step {st:List UInt32} {l:List UInt8} (h:64≤l.length):run st l=run (block st (l.take 64)) (l.drop 64):=by
  unfold run
  have e:l.length / 64=(l.drop 64).length / 64+1:=by rw [List.length_drop];omega
  rw [e,absorb,if_pos h]
theorem eight {st:List UInt32} (h:st.length=8) : ∃ a b c d e f g i,st=[a,b,c,d,e,f,g,i]:=by
  match st,h with
  | [a,b,c,d,e,f,g,i],_=>exact ⟨_,_,_,_,_,_,_,_,rfl⟩
theorem drop_row {pre post:List Pr} {l:List UInt8} {o cap:Nat} (hp:pre.length=o) (h:64≤l.length) (hr:o+cap*u8T.toTy.sz≤(pre++flat u8T.toTy l++post).length) (hlc:l.length≤cap) :
    (if cap=64 then o else o+64*1)+(cap - 64)*u8T.toTy.sz≤(pre++flat u8T.toTy l++post).length∧((pre++flat u8T.toTy l++post).drop (if cap=64 then o else o+64*1)).take ((l.drop 64).length*u8T.toTy.sz)=flat u8T.toTy (l.drop 64):=by
  have hr:o+cap*1≤(pre++flat u8T.toTy l++post).length:=hr
  show _+(cap - 64)*1≤_∧(List.take ((l.drop 64).length*1) _)=_
  by_cases hc:cap=64
  · rw [if_pos hc]
    have h0:l.drop 64=[]:=List.drop_eq_nil_of_le (by omega)
    rw [h0]
    exact ⟨by omega,by simp [flat]⟩
  · rw [if_neg hc]
    refine ⟨by omega,?_⟩
    have e1:flat u8T.toTy l=flat u8T.toTy (l.take 64)++flat u8T.toTy (l.drop 64):=by rw [← flat_app,List.take_append_drop]
    have l1:(flat u8T.toTy (l.take 64)).length=64:=by rw [flat_len,List.length_take,Nat.min_eq_left h];rfl
    have l2:(flat u8T.toTy (l.drop 64)).length=(l.drop 64).length*1:=flat_len _ _
    rw [e1]
    generalize flat u8T.toTy (l.take 64)=X at *
    generalize flat u8T.toTy (l.drop 64)=Y at *
    have e2:pre++(X++Y)++post=(pre++X)++(Y++post):=by simp
    have l3:(pre++X).length=o+64*1:=by rw [List.length_append,hp,l1]
    rw [e2, ← l3,List.drop_left, ← l2,List.take_left]
theorem take_row {pre post:List Pr} {l:List UInt8} {o:Nat} (hp:pre.length=o) (h:64≤l.length):((pre++flat u8T.toTy l++post).drop o).take 64=flat u8T.toTy (l.take 64):=by
  have e1:flat u8T.toTy l=flat u8T.toTy (l.take 64)++flat u8T.toTy (l.drop 64):=by rw [← flat_app,List.take_append_drop]
  have l1:(flat u8T.toTy (l.take 64)).length=64:=by rw [flat_len,List.length_take,Nat.min_eq_left h];rfl
  rw [e1]
  generalize flat u8T.toTy (l.take 64)=X at *
  generalize flat u8T.toTy (l.drop 64)=Y at *
  rw [List.append_assoc, ← hp,List.drop_left,List.append_assoc]
  exact List.take_left' l1
set_option linter.unusedVariables false
set_option linter.unusedSimpArgs false
attribute [local irreducible] J Lq E OpP PRun is any agg tup ptr sl
attribute [local irreducible] block row
set_option maxHeartbeats 1000000 in
theorem take_fn (st:List UInt32) (hst:st.length=8) (l s:List UInt8) (hl:l.length+s.length≤1000000) (wb e1 c:Nat) (A:Option Addr) (φm φb:Pr) :
    FnR Tryd.prog 73 [is (.pointer (some ⟨wb,0,none⟩)),is (str s)] [own wb e1 (flat u32W.toTy st++[is (.slice A l.length c),φm,φb]),row (.slice A l.length c) 5 u8T.toTy l]
      (fun ψ Δ=>ψ=any ∧ ∃ A' c',Δ=[own wb e1 (flat u32W.toTy (run st (l++s)).1++[is (.slice A' (run st (l++s)).2.length c'),φm,φb]),row (.slice A' (run st (l++s)).2.length c') 5 u8T.toTy (run st (l++s)).2]):=by
  obtain ⟨s0,s1,s2,s3,s4,s5,s6,s7,rfl⟩:=eight hst
  refine FnR.mk' 34 Tryd.func73 rfl rfl rfl rfl fun w0 H0=>?_
  repeat (first|((first|(apply Lq.s;rfl)|apply PRun.s|(apply Lq.run;rfl;rfl;rfl;exact bsB)|(apply PRun.run;rfl;rfl;exact bsB));first|(apply op_ocell;rfl;exact bsM;rfl)|(exact bsO))|refine bsA ?_|(apply Lq.al;rfl;rfl;intro b)|(apply Open.cons;intro b)|(apply J.drawN;exact mixed;kernel_rfl)|refine bsC ?_)
  (apply Lq.append (T:=u8T) (xs:=l) (ys:=s);rfl;exact List.Perm.swap _ _ _;(apply From.str;rfl);rfl;rfl;rfl;(unfold maxLen;omega);omega)
  intro A1 c1
  repeat (first|((first|(apply Lq.s;rfl)|apply PRun.s|(apply Lq.run;rfl;rfl;rfl;exact bsB)|(apply PRun.run;rfl;rfl;exact bsB));first|(apply op_ocell;rfl;exact bsM;rfl)|(exact bsO))|refine bsA ?_|(apply Lq.al;rfl;rfl;intro b)|(apply Open.cons;intro b)|(apply J.drawN;exact mixed;kernel_rfl)|refine bsC ?_)
  refine J.loop (fun x:Option Addr × Nat × List UInt32 × List UInt8=>x.2.2.1.length=8∧run x.2.2.1 x.2.2.2=run [s0,s1,s2,s3,s4,s5,s6,s7] (l++s))
    (fun x=>[(0,is (.pointer (some ⟨wb,0,none⟩)))])
    (fun x=>[own wb e1 (flat u32W.toTy x.2.2.1++[is (.slice x.1 x.2.2.2.length x.2.1),φm,φb]),row (.slice x.1 x.2.2.2.length x.2.1) 5 u8T.toTy x.2.2.2]) (fun x=>x.2.2.2.length) (A1,c1,[s0,s1,s2,s3,s4,s5,s6,s7],l++s) ⟨rfl,rfl⟩ ?_ ?_
  · exact (Sub.same (by repeat' (first|exact trivial|refine ⟨rfl,?_⟩)))
  rintro ⟨A2,c2,st,left⟩ ⟨hst2,hrun⟩
  dsimp only at hst2 hrun ⊢
  obtain ⟨t0,t1,t2,t3,t4,t5,t6,t7,rfl⟩:=eight hst2
  by_cases h64:64≤left.length
  · refine J.open (List.Perm.swap _ _ _) (by intro h;rw [h] at h64;simp at h64) ?_
    intro rb ro cap pre post hR
    obtain ⟨hv,hpre,hle,hcap,hroom,_⟩:=hR
    injection hv with hA _ hc
    subst hA;subst hc
    repeat (first|((first|(apply Lq.s;rfl)|apply PRun.s|(apply Lq.run;rfl;rfl;rfl;exact bsB)|(apply PRun.run;rfl;rfl;exact bsB));first|(apply op_ocell;rfl;exact bsM;rfl)|(apply op_slen;rfl)|(apply op_sl_hi (hi:=64);rfl;rfl;omega)|(exact bsO))|refine bsA ?_|(apply Lq.al;rfl;rfl;intro b)|(apply Open.cons;intro b)|(apply J.drawN;exact mixed;kernel_rfl)|refine bsC ?_)
    have hlt:(left.take 64).length=64:=by rw [List.length_take,Nat.min_eq_left h64]
    refine Lq.callS (Δf:=[]) (block_fn [t0,t1,t2,t3,t4,t5,t6,t7] rfl (left.take 64) hlt [is (.slice (some ⟨rb,ro,none⟩) left.length c2),φm,φb] (pre++flat u8T.toTy left++post) rfl wb rb ro c2 e1 5 (by omega) (take_row hpre h64)) rfl bsD (List.Perm.swap _ _ _) ?_
    rintro ψ Δ' ⟨rfl,rfl⟩
    obtain ⟨d1,d2⟩:=drop_row (post:=post) hpre h64 hroom hle
    have hb8:=block_len (st:=[t0,t1,t2,t3,t4,t5,t6,t7]) (bs:=left.take 64) rfl
    have hrun2:=hrun
    rw [run_step h64] at hrun2
    generalize block [t0,t1,t2,t3,t4,t5,t6,t7] (left.take 64)=B at hb8 hrun2 ⊢
    obtain ⟨u0,u1,u2,u3,u4,u5,u6,u7,rfl⟩:=eight hb8
    repeat (first|((first|(apply Lq.s;rfl)|apply PRun.s|(apply Lq.run;rfl;rfl;rfl;exact bsB)|(apply PRun.run;rfl;rfl;exact bsB));first|(apply op_ocell;rfl;exact bsM;rfl)|(apply op_slen;rfl)|(apply op_sl_lo (lo:=64);rfl;rfl;omega)|(exact bsO))|refine bsA ?_|(apply Lq.al;rfl;rfl;intro b)|(apply Open.cons;intro b)|(apply J.drawN;exact mixed;kernel_rfl)|refine bsC ?_)
    have hdl:left.length - 64=(left.drop 64).length:=by rw [List.length_drop]
    rw [hdl]
    refine E.close u8T.toTy (left.drop 64) (cap:=c2 - 64) (List.Perm.swap _ _ _) d1 (by rw [List.length_drop];omega) (by omega) d2 ?_
    exact E.again (some ⟨rb,if c2=64 then ro else ro+64*1,none⟩,c2 - 64,[u0,u1,u2,u3,u4,u5,u6,u7],left.drop 64) (by simp only [List.length_drop];omega) ⟨rfl,hrun2⟩ ⟨(by repeat' (first|exact trivial|refine ⟨rfl,?_⟩)),[],List.Perm.swap _ _ _⟩
  · have hs:run [t0,t1,t2,t3,t4,t5,t6,t7] left=([t0,t1,t2,t3,t4,t5,t6,t7],left):=run_short (by omega)
    rw [hs] at hrun
    rw [← hrun]
    repeat (first|((first|(apply Lq.s;rfl)|apply PRun.s|(apply Lq.run;rfl;rfl;rfl;exact bsB)|(apply PRun.run;rfl;rfl;exact bsB));first|(apply op_ocell;rfl;exact bsM;rfl)|(apply op_slen;rfl)|(exact bsO))|refine bsA ?_|(apply Lq.al;rfl;rfl;intro b)|(apply Open.cons;intro b)|(apply J.drawN;exact mixed;kernel_rfl)|refine bsC ?_)
    exact E.retR0 .normal (.inr rfl) rfl (fun _=>any_h) ⟨rfl,A2,c2,rfl⟩ (by rw [List.append_nil])
end Go.Proofs.YtljbbajelkkafaaDoor.L
/-
  A writer: made,written to.
-/
namespace Go.Proofs.YtljbbajelkkafaaDoor.L
open Go
set_option linter.unusedSectionVars false
variable [Globs] [Has_sha_table] [Has_sha_begin]
/-- A writer's own cells. -/
def wcells (st:List UInt32) (A:Option Addr) (n c m:Nat):List Pr:=flat u32W.toTy st++[is (.slice A n c),is (.int .i64 (m:Int)),is (.bool true)]
theorem begin_at:(arrT 8 u32W (by decide)).cells ⟨bgn,rfl⟩=(((sha_begin.map fun (n:Nat)=>Value.int .u32 (n:Int)).drop 0).take (arrT 8 u32W (by decide)).sz).map is:=rfl
theorem bgn_len:bgn.length=8:=rfl
set_option linter.unusedVariables false
set_option linter.unusedSimpArgs false
attribute [local irreducible] J Lq E OpP PRun is any agg tup ptr sl
attribute [local irreducible] block row
theorem new_fn:FnR Tryd.prog 52 [] [] (fun ψ Δ => ∃ b,ψ=is (.pointer (some ⟨b,0,none⟩))∧Δ=[own b 123 (wcells bgn none 0 0 0)]):=by
  refine FnR.mk' 4 Tryd.func52 rfl rfl rfl rfl fun w0 H0=>?_
  repeat (first|((first|(apply Lq.s;rfl)|apply PRun.s|(apply Lq.run;rfl;rfl;rfl;exact bsB)|(apply PRun.run;rfl;rfl;exact bsB));first|(apply op_gload (arrT 8 u32W (by decide)) (v:=⟨bgn,rfl⟩) glob_begin;rfl;rfl;exact begin_at)|(exact bsO))|refine bsA ?_|(apply Lq.al;rfl;rfl;intro b)|(apply Open.cons;intro b)|(apply J.drawN;exact mixed;kernel_rfl)|refine bsC ?_)
  (apply Lq.box;rfl;rfl;exact Seg.agg;intro b)
  repeat (first|((first|(apply Lq.s;rfl)|apply PRun.s|(apply Lq.run;rfl;rfl;rfl;exact bsB)|(apply PRun.run;rfl;rfl;exact bsB));first|(exact bsO))|refine bsA ?_|(apply Lq.al;rfl;rfl;intro b)|(apply Open.cons;intro b)|(apply J.drawN;exact mixed;kernel_rfl)|refine bsC ?_)
  (refine J.ret ?_;(repeat (first|refine E.then_ret ?_|refine E.in_ret ?_)))
  exact E.retR1 (Δ':=[own b 123 (wcells bgn none 0 0 0)]) (G:=[]) rfl rfl ⟨b,rfl,rfl⟩ (List.Perm.refl _)
theorem write_fn (st:List UInt32) (hst:st.length=8) (l s:List UInt8) (m:Nat) (hl:l.length+s.length≤1000000) (hm:m+s.length≤1000000) (wb e1 c:Nat) (A:Option Addr) :
    FnR Tryd.prog 53 [is (.pointer (some ⟨wb,0,none⟩)),is (str s)] [own wb e1 (wcells st A l.length c m),row (.slice A l.length c) 5 u8T.toTy l]
      (fun ψ Δ=>ψ=is (.int .i64 0) ∧ ∃ A' c',Δ=[own wb e1 (wcells (run st (l++s)).1 A' (run st (l++s)).2.length c' (m+s.length)),row (.slice A' (run st (l++s)).2.length c') 5 u8T.toTy (run st (l++s)).2]):=by
  obtain ⟨s0,s1,s2,s3,s4,s5,s6,s7,rfl⟩:=eight hst
  unfold wcells
  refine FnR.mk' 26 Tryd.func53 rfl rfl rfl rfl fun w0 H0=>?_
  repeat (first|((first|(apply Lq.s;rfl)|apply PRun.s|(apply Lq.run;rfl;rfl;rfl;exact bsB)|(apply PRun.run;rfl;rfl;exact bsB));first|(apply op_ocell;rfl;exact bsM;rfl)|(apply op_peq;rfl;rfl)|(exact bsO))|refine bsA ?_|(apply Lq.al;rfl;rfl;intro b)|(apply Open.cons;intro b)|(apply J.drawN;exact mixed;kernel_rfl)|refine bsC ?_)
  refine Lq.callS (Δf:=[]) (take_fn [s0,s1,s2,s3,s4,s5,s6,s7] rfl l s hl wb e1 c A (is (.int .i64 ((m:Int)+(s.length:Int)))) (is (.bool true))) rfl bsD (List.Perm.refl _) ?_
  rintro ψ Δ' ⟨rfl,A',c',rfl⟩
  repeat (first|((first|(apply Lq.s;rfl)|apply PRun.s|(apply Lq.run;rfl;rfl;rfl;exact bsB)|(apply PRun.run;rfl;rfl;exact bsB));first|(exact bsO))|refine bsA ?_|(apply Lq.al;rfl;rfl;intro b)|(apply Open.cons;intro b)|(apply J.drawN;exact mixed;kernel_rfl)|refine bsC ?_)
  (refine J.ret ?_;(repeat (first|refine E.then_ret ?_|refine E.in_ret ?_)))
  exact E.retR1 (G:=[]) rfl rfl ⟨rfl,A',c',rfl⟩ (by rw [List.append_nil];exact List.Perm.refl _)
end Go.Proofs.YtljbbajelkkafaaDoor.L
/-
  The hash of a writer,walked.
-/
namespace Go.Proofs.YtljbbajelkkafaaDoor.L
open Go
set_option linter.unusedSectionVars false
variable [Globs] [Has_sha_table] [Has_sha_begin]
def dg (us:List UInt32) (i:Nat):List UInt8:=(us.take i).flatMap (fun x=>be x.toNat 4)++List.replicate (32 - 4*i) 0
theorem u32lt (x:UInt32):x.toNat < 2 ^ 32:=x.toBitVec.isLt
theorem run_len {st:List UInt32} {l:List UInt8} (h:st.length=8):(run st l).1.length=8:=absorb_len _ _ _ h
set_option linter.unusedVariables false
set_option linter.unusedSimpArgs false
attribute [local irreducible] J Lq E OpP PRun is any agg tup ptr sl
attribute [local irreducible] block row run ownAt
theorem be_len (n k:Nat):(be n k).length=k:=by simp [be]
def padOf (n m:Nat):List UInt8:=[0x80]++List.replicate ((119 - n) % 64) 0++be (8*m) 8
set_option maxHeartbeats 400000 in
theorem sum_w (st:List UInt32) (hst:st.length=8) (l:List UInt8) (m:Nat) (hl:l.length < 64) (hm:m≤1000000) (wb e1 c:Nat) (A:Option Addr) :
    FnR Tryd.prog 54 [is (.pointer (some ⟨wb,0,none⟩))] [own wb e1 (wcells st A l.length c m),row (.slice A l.length c) 5 u8T.toTy l]
      (fun ψ Δ => ∃ h:Hash,h.1=digest (run st (l++padOf l.length m)).1∧ψ=hashT.val h∧Δ=[own wb e1 (wcells st A l.length c m),row (.slice A l.length c) 5 u8T.toTy l]):=by
  obtain ⟨s0,s1,s2,s3,s4,s5,s6,s7,rfl⟩:=eight hst
  unfold wcells
  refine FnR.mk' 61 Tryd.func54 rfl rfl rfl rfl fun w0 H0=>?_
  repeat (first|((first|(apply Lq.s;rfl)|apply PRun.s|(apply Lq.run;rfl;rfl;rfl;exact bsB)|(apply PRun.run;rfl;rfl;exact bsB));first|(apply op_ocell;rfl;exact bsM;rfl)|(apply op_peq;rfl;rfl)|(exact bsO))|refine bsA ?_|(apply Lq.al;rfl;rfl;intro b)|(apply Open.cons;intro b)|refine bsC ?_)
  revert b
  intro bh
  refine J.drawR 11 mixed (by kernel_rfl) ?_
  repeat (first|((first|(apply Lq.s;rfl)|apply PRun.s|(apply Lq.run;rfl;rfl;rfl;exact bsB)|(apply PRun.run;rfl;rfl;exact bsB));first|(apply op_oload (arrT 8 u32W (by decide)) (x:=⟨[s0,s1,s2,s3,s4,s5,s6,s7],rfl⟩);rfl;exact bsM;rfl)|(apply op_ocell;rfl;exact bsM;rfl)|(exact bsO))|refine bsA ?_|(apply Lq.al;rfl;rfl;intro b)|(apply Open.cons;intro b)|refine bsC ?_)
  (apply PRun.mk (φ:=anySl l.length) (R:=fun v=>row v 5 u8T.toTy l) (by intro t ps h;cases h) anySl_row;(apply opR_append (T:=u8T) (ys:=l);rfl;(apply From.row;rfl;exact bsM);rfl;rfl;(unfold maxLen;omega);omega))
  repeat (first|((first|(apply Lq.s;rfl)|apply PRun.s|(apply Lq.run;rfl;rfl;rfl;exact bsB)|(apply PRun.run;rfl;rfl;exact bsB));first|(apply op_build;rfl;(apply BP.cons;rfl;rfl;exact Seg.val _ _;rfl;rfl);(apply BP.cons;rfl;rfl;exact Seg.anySl;rfl;rfl);exact BP.nil _)|(exact bsO))|refine bsA ?_|(apply Lq.al;rfl;rfl;intro b)|(apply Open.cons;intro b)|refine bsC ?_)
  refine Open.row fun A2 c2=>?_
  repeat (first|((first|(apply Lq.s;rfl)|apply PRun.s|(apply Lq.run;rfl;rfl;rfl;exact bsB)|(apply PRun.run;rfl;rfl;exact bsB));first|(exact bsO))|refine bsA ?_|(apply Lq.al;rfl;rfl;intro b)|(apply Open.cons;intro b)|refine bsC ?_)
  refine LqR.redo (j:=9) (φ:=agg (flat u32W.toTy [s0,s1,s2,s3,s4,s5,s6,s7]++[is (.slice A2 l.length c2),is (.int .i64 0),is (.bool false)])) (by decide) rfl rfl (blt rfl) opF_build ?_ ?_
  · (apply op_build;rfl;(apply BP.cons;rfl;rfl;exact Seg.val _ _;rfl;rfl);(apply BP.cons;rfl;rfl;exact Seg.is rfl;rfl;rfl);exact BP.nil _)
  obtain ⟨z,hz⟩ : ∃ z,(119 - l.length) % 64=z:=⟨_,rfl⟩
  have hz64:z < 64:=by omega
  repeat (first|((first|(apply Lq.s;rfl)|apply PRun.s|(apply Lq.run;rfl;rfl;rfl;exact bsB)|(apply PRun.run;rfl;rfl;exact bsB));first|(apply op_ocell;rfl;exact bsM;rfl)|(apply op_slen;rfl)|(apply op_sub (c:=((119 - l.length:Nat):Int));rfl;rfl;(rw [show (119:Int) - (l.length:Int)=((119 - l.length:Nat):Int) by omega];apply wrapi <;> omega))|(apply op_rem_nat (b:=64);rfl;rfl;decide)|(exact bsO))|refine bsA ?_|(apply Lq.al;rfl;rfl;intro b)|(apply Open.cons;intro b)|refine bsC ?_)
  rw [hz]
  refine J.draw 11 mixed (by kernel_rfl) ?_
  repeat (first|((first|(apply Lq.s;rfl)|apply PRun.s|(apply Lq.run;rfl;rfl;rfl;exact bsB)|(apply PRun.run;rfl;rfl;exact bsB));first|(apply op_make (T:=u8T) (z0:=0) (n:=z);rfl;rfl;rfl;rfl;rfl;rfl;(show 1*z≤_;omega);(unfold maxLen;omega))|(apply op_str_sl;rfl)|(apply op_sadd (a:=[128]);rfl;rfl;(first|(simp [be_len];done)|(simp [be_len];omega)))|(apply op_sadd (a:=[128]++List.replicate z 0);rfl;rfl;(first|(simp [be_len];done)|(simp [be_len];omega)))|(apply op_ocell;rfl;exact bsM;rfl)|(apply op_mul (c:=((8*m:Nat):Int));rfl;rfl;(rw [show (8:Int)*(m:Int)=((8*m:Nat):Int) by omega];apply wrapi <;> omega))|(apply op_call (put8_fn (8*m) (by omega));exact bsD)|(exact bsO))|refine bsA ?_|(apply Lq.al;rfl;rfl;intro b)|(apply Open.cons;intro b)|refine bsC ?_)
  refine Lq.callS (Δf:=[_,_,_]) (take_fn [s0,s1,s2,s3,s4,s5,s6,s7] rfl l ([128]++List.replicate z 0++be (8*m) 8) (by simp [be_len];omega) b 123 c2 A2 (is (.int .i64 0)) (is (.bool false))) rfl bsD (List.Perm.refl _) ?_
  rintro ψ Δ' ⟨rfl,A3,c3,rfl⟩
  have hpad:l++padOf l.length m=l++([128]++List.replicate z 0++be (8*m) 8):=by unfold padOf;rw [hz]
  rw [hpad]
  have h8:(run [s0,s1,s2,s3,s4,s5,s6,s7] (l++([128]++List.replicate z 0++be (8*m) 8))).1.length=8:=run_len rfl
  generalize run [s0,s1,s2,s3,s4,s5,s6,s7] (l++([128]++List.replicate z 0++be (8*m) 8))=R at h8 ⊢
  obtain ⟨st',lf⟩:=R
  obtain ⟨u0,u1,u2,u3,u4,u5,u6,u7,rfl⟩:=eight h8
  repeat (first|((first|(apply Lq.s;rfl)|apply PRun.s|(apply Lq.run;rfl;rfl;rfl;exact bsB)|(apply PRun.run;rfl;rfl;exact bsB));first|(apply op_oload (arrT 8 u32W (by decide)) (x:=⟨[u0,u1,u2,u3,u4,u5,u6,u7],rfl⟩);rfl;exact bsM;rfl)|(exact bsO))|refine bsA ?_|(apply Lq.al;rfl;rfl;intro b)|(apply Open.cons;intro b)|refine bsC ?_)
  refine J.loop (fun i:Nat=>i≤8) (fun i=>[(2,is (.pointer (some ⟨bh,0,none⟩))),(47,(arrT 8 u32W (by decide)).val ⟨[u0,u1,u2,u3,u4,u5,u6,u7],rfl⟩),(48,is (.int .i64 (i:Int)))])
    (fun i=>[own bh 37 (flat u8T.toTy (dg [u0,u1,u2,u3,u4,u5,u6,u7] i)),own wb e1 (flat u32W.toTy [s0,s1,s2,s3,s4,s5,s6,s7]++[is (.slice A l.length c),is (.int .i64 (m:Int)),is (.bool true)]),row (.slice A l.length c) 5 u8T.toTy l]) (fun i=>8 - i) 0 (by decide) ?_ ?_
  · exact ⟨(by repeat' (first|exact trivial|refine ⟨rfl,?_⟩)),[_,_],List.perm_append_comm (l₁:=[_,_]) (l₂:=[_,_,_])⟩
  rintro i hi
  by_cases hi8:i < 8
  · obtain rfl|rfl|rfl|rfl|rfl|rfl|rfl|rfl:i=0 ∨ i=1 ∨ i=2 ∨ i=3 ∨ i=4 ∨ i=5 ∨ i=6 ∨ i=7:=by omega
    all_goals
      repeat (first|((first|(apply Lq.s;rfl)|apply PRun.s|(apply Lq.run;rfl;rfl;rfl;exact bsB)|(apply PRun.run;rfl;rfl;exact bsB));first|(apply op_index u32W;rfl;rfl;decide;rfl)|(apply op_oslarr_lo (lo:=0);rfl;rfl;decide)|(apply op_oslarr_lo (lo:=4);rfl;rfl;decide)|(apply op_oslarr_lo (lo:=8);rfl;rfl;decide)|(apply op_oslarr_lo (lo:=12);rfl;rfl;decide)|(apply op_oslarr_lo (lo:=16);rfl;rfl;decide)|(apply op_oslarr_lo (lo:=20);rfl;rfl;decide)|(apply op_oslarr_lo (lo:=24);rfl;rfl;decide)|(apply op_oslarr_lo (lo:=28);rfl;rfl;decide)|(apply op_convwi;rfl)|(apply op_call (put4_fn _ (u32lt _));exact bsD)|(exact bsO))|refine bsA ?_|(apply Lq.al;rfl;rfl;intro b)|(apply Open.cons;intro b)|(apply J.drawN;exact mixed;kernel_rfl)|refine bsC ?_)
    · (apply Lq.copy (T:=u8T) (ys:=be u0.toNat 4) (φs':=flat u8T.toTy (dg [u0,u1,u2,u3,u4,u5,u6,u7] 1));rfl;exact List.Perm.refl _;(apply From.str;rfl);rfl;exact Nat.le_of_ble_eq_true rfl;exact Nat.le_of_ble_eq_true rfl;rfl)
      repeat (first|((first|(apply Lq.s;rfl)|apply PRun.s|(apply Lq.run;rfl;rfl;rfl;exact bsB)|(apply PRun.run;rfl;rfl;exact bsB));first|(exact bsO))|refine bsA ?_|(apply Lq.al;rfl;rfl;intro b)|(apply Open.cons;intro b)|(apply J.drawN;exact mixed;kernel_rfl)|refine bsC ?_)
      exact E.again 1 (by decide) (by decide) (Sub.same (by repeat' (first|exact trivial|refine ⟨rfl,?_⟩)))
    · (apply Lq.copy (T:=u8T) (ys:=be u1.toNat 4) (φs':=flat u8T.toTy (dg [u0,u1,u2,u3,u4,u5,u6,u7] 2));rfl;exact List.Perm.refl _;(apply From.str;rfl);rfl;exact Nat.le_of_ble_eq_true rfl;exact Nat.le_of_ble_eq_true rfl;rfl)
      repeat (first|((first|(apply Lq.s;rfl)|apply PRun.s|(apply Lq.run;rfl;rfl;rfl;exact bsB)|(apply PRun.run;rfl;rfl;exact bsB));first|(exact bsO))|refine bsA ?_|(apply Lq.al;rfl;rfl;intro b)|(apply Open.cons;intro b)|(apply J.drawN;exact mixed;kernel_rfl)|refine bsC ?_)
      exact E.again 2 (by decide) (by decide) (Sub.same (by repeat' (first|exact trivial|refine ⟨rfl,?_⟩)))
    · (apply Lq.copy (T:=u8T) (ys:=be u2.toNat 4) (φs':=flat u8T.toTy (dg [u0,u1,u2,u3,u4,u5,u6,u7] 3));rfl;exact List.Perm.refl _;(apply From.str;rfl);rfl;exact Nat.le_of_ble_eq_true rfl;exact Nat.le_of_ble_eq_true rfl;rfl)
      repeat (first|((first|(apply Lq.s;rfl)|apply PRun.s|(apply Lq.run;rfl;rfl;rfl;exact bsB)|(apply PRun.run;rfl;rfl;exact bsB));first|(exact bsO))|refine bsA ?_|(apply Lq.al;rfl;rfl;intro b)|(apply Open.cons;intro b)|(apply J.drawN;exact mixed;kernel_rfl)|refine bsC ?_)
      exact E.again 3 (by decide) (by decide) (Sub.same (by repeat' (first|exact trivial|refine ⟨rfl,?_⟩)))
    · (apply Lq.copy (T:=u8T) (ys:=be u3.toNat 4) (φs':=flat u8T.toTy (dg [u0,u1,u2,u3,u4,u5,u6,u7] 4));rfl;exact List.Perm.refl _;(apply From.str;rfl);rfl;exact Nat.le_of_ble_eq_true rfl;exact Nat.le_of_ble_eq_true rfl;rfl)
      repeat (first|((first|(apply Lq.s;rfl)|apply PRun.s|(apply Lq.run;rfl;rfl;rfl;exact bsB)|(apply PRun.run;rfl;rfl;exact bsB));first|(exact bsO))|refine bsA ?_|(apply Lq.al;rfl;rfl;intro b)|(apply Open.cons;intro b)|(apply J.drawN;exact mixed;kernel_rfl)|refine bsC ?_)
      exact E.again 4 (by decide) (by decide) (Sub.same (by repeat' (first|exact trivial|refine ⟨rfl,?_⟩)))
    · (apply Lq.copy (T:=u8T) (ys:=be u4.toNat 4) (φs':=flat u8T.toTy (dg [u0,u1,u2,u3,u4,u5,u6,u7] 5));rfl;exact List.Perm.refl _;(apply From.str;rfl);rfl;exact Nat.le_of_ble_eq_true rfl;exact Nat.le_of_ble_eq_true rfl;rfl)
      repeat (first|((first|(apply Lq.s;rfl)|apply PRun.s|(apply Lq.run;rfl;rfl;rfl;exact bsB)|(apply PRun.run;rfl;rfl;exact bsB));first|(exact bsO))|refine bsA ?_|(apply Lq.al;rfl;rfl;intro b)|(apply Open.cons;intro b)|(apply J.drawN;exact mixed;kernel_rfl)|refine bsC ?_)
      exact E.again 5 (by decide) (by decide) (Sub.same (by repeat' (first|exact trivial|refine ⟨rfl,?_⟩)))
    · (apply Lq.copy (T:=u8T) (ys:=be u5.toNat 4) (φs':=flat u8T.toTy (dg [u0,u1,u2,u3,u4,u5,u6,u7] 6));rfl;exact List.Perm.refl _;(apply From.str;rfl);rfl;exact Nat.le_of_ble_eq_true rfl;exact Nat.le_of_ble_eq_true rfl;rfl)
      repeat (first|((first|(apply Lq.s;rfl)|apply PRun.s|(apply Lq.run;rfl;rfl;rfl;exact bsB)|(apply PRun.run;rfl;rfl;exact bsB));first|(exact bsO))|refine bsA ?_|(apply Lq.al;rfl;rfl;intro b)|(apply Open.cons;intro b)|(apply J.drawN;exact mixed;kernel_rfl)|refine bsC ?_)
      exact E.again 6 (by decide) (by decide) (Sub.same (by repeat' (first|exact trivial|refine ⟨rfl,?_⟩)))
    · (apply Lq.copy (T:=u8T) (ys:=be u6.toNat 4) (φs':=flat u8T.toTy (dg [u0,u1,u2,u3,u4,u5,u6,u7] 7));rfl;exact List.Perm.refl _;(apply From.str;rfl);rfl;exact Nat.le_of_ble_eq_true rfl;exact Nat.le_of_ble_eq_true rfl;rfl)
      repeat (first|((first|(apply Lq.s;rfl)|apply PRun.s|(apply Lq.run;rfl;rfl;rfl;exact bsB)|(apply PRun.run;rfl;rfl;exact bsB));first|(exact bsO))|refine bsA ?_|(apply Lq.al;rfl;rfl;intro b)|(apply Open.cons;intro b)|(apply J.drawN;exact mixed;kernel_rfl)|refine bsC ?_)
      exact E.again 7 (by decide) (by decide) (Sub.same (by repeat' (first|exact trivial|refine ⟨rfl,?_⟩)))
    · (apply Lq.copy (T:=u8T) (ys:=be u7.toNat 4) (φs':=flat u8T.toTy (dg [u0,u1,u2,u3,u4,u5,u6,u7] 8));rfl;exact List.Perm.refl _;(apply From.str;rfl);rfl;exact Nat.le_of_ble_eq_true rfl;exact Nat.le_of_ble_eq_true rfl;rfl)
      repeat (first|((first|(apply Lq.s;rfl)|apply PRun.s|(apply Lq.run;rfl;rfl;rfl;exact bsB)|(apply PRun.run;rfl;rfl;exact bsB));first|(exact bsO))|refine bsA ?_|(apply Lq.al;rfl;rfl;intro b)|(apply Open.cons;intro b)|(apply J.drawN;exact mixed;kernel_rfl)|refine bsC ?_)
      exact E.again 8 (by decide) (by decide) (Sub.same (by repeat' (first|exact trivial|refine ⟨rfl,?_⟩)))
  · obtain rfl:i=8:=by omega
    repeat (first|((first|(apply Lq.s;rfl)|apply PRun.s|(apply Lq.run;rfl;rfl;rfl;exact bsB)|(apply PRun.run;rfl;rfl;exact bsB));first|(apply op_oload hashT (x:=⟨dg [u0,u1,u2,u3,u4,u5,u6,u7] 8,rfl⟩);rfl;exact bsM;rfl)|(exact bsO))|refine bsA ?_|(apply Lq.al;rfl;rfl;intro b)|(apply Open.cons;intro b)|(apply J.drawN;exact mixed;kernel_rfl)|refine bsC ?_)
    (refine J.ret ?_;(repeat (first|refine E.then_ret ?_|refine E.in_ret ?_)))
    exact E.retRc (Δ':=[_,_]) hashT (x:=⟨dg [u0,u1,u2,u3,u4,u5,u6,u7] 8,rfl⟩) rfl rfl List.mem_cons_self rfl ⟨⟨dg [u0,u1,u2,u3,u4,u5,u6,u7] 8,rfl⟩,rfl,rfl,rfl⟩ (List.perm_append_comm (l₁:=[_]) (l₂:=[_,_]))
end Go.Proofs.YtljbbajelkkafaaDoor.L
/-
  The hash of a text,walked.
-/
namespace Go.Proofs.YtljbbajelkkafaaDoor.L
open Go
set_option linter.unusedSectionVars false
variable [Globs] [Has_sha_table] [Has_sha_begin]
theorem run_nil (st:List UInt32):run st []=(st,[]):=rfl
theorem run_left_lt (st:List UInt32) (l:List UInt8):(run st l).2.length < 64:=by
  unfold run;rw [absorb_left _ _ _ (Nat.le_refl _)];omega
theorem run_left (st:List UInt32) (l:List UInt8):(run st l).2.length=l.length % 64:=by
  unfold run;rw [absorb_left _ _ _ (Nat.le_refl _)]
/-- What the writer tells behind s is the hash of s. -/
theorem sha_of (s:List UInt8):digest (run (run bgn s).1 ((run bgn s).2++padOf (run bgn s).2.length s.length)).1=sha s:=by
  unfold sha pad padOf
  rw [run_left]
  conv=>rhs;rw [run_app]
theorem digest_len {st:List UInt32} (h:st.length=8):(digest st).length=32:=by
  obtain ⟨a,b,c,d,e,f,g,i,rfl⟩:=eight h
  rfl
theorem sha_len (s:List UInt8):(sha s).length=32:=digest_len (run_len bgn_len)
def shaH (s:List UInt8):Hash:=⟨sha s,sha_len s⟩
set_option linter.unusedVariables false
set_option linter.unusedSimpArgs false
attribute [local irreducible] J Lq E OpP PRun is any agg tup ptr sl
attribute [local irreducible] block row run sha ownAt
end Go.Proofs.YtljbbajelkkafaaDoor.L
/-
  The hash of texts,one behind the other,walked.
-/
namespace Go.Proofs.YtljbbajelkkafaaDoor.L
open Go
set_option linter.unusedSectionVars false
variable [Globs] [Has_sha_table] [Has_sha_begin]
theorem flatten_take {xs:List (List UInt8)} {k:Nat} {s:List UInt8} (h:xs[k]?=some s):(xs.take (k+1)).flatten=(xs.take k).flatten++s:=by
  rw [List.take_add_one,h];simp
theorem flatten_le {xs:List (List UInt8)} (k:Nat):(xs.take k).flatten.length≤xs.flatten.length:=by
  conv=>rhs;rw [← List.take_append_drop k xs,List.flatten_append,List.length_append]
  omega
set_option linter.unusedVariables false
set_option linter.unusedSimpArgs false
attribute [local irreducible] J Lq E OpP PRun is any agg tup ptr sl
attribute [local irreducible] block row run sha ownAt
theorem all_fn (xs:List (List UInt8)) (hx:xs.flatten.length≤1000000) (hm:xs.length≤1000000):Fn Tryd.prog 29 [sl strT.toTy xs] (hashT.val (shaH xs.flatten)):=by
  refine Fn.mk' 19 Tryd.func29 rfl rfl rfl rfl fun w0 H0=>?_
  repeat (first|((first|(apply Lq.s;rfl)|apply PRun.s|(apply Lq.run;rfl;rfl;rfl;exact bsB)|(apply PRun.run;rfl;rfl;exact bsB));first|(exact bsO))|refine bsA ?_|(apply Lq.al;rfl;rfl;intro b)|(apply Open.cons;intro b)|(apply J.drawN;exact mixed;kernel_rfl)|refine bsC ?_)
  refine Lq.callS (Δf:=[_]) new_fn rfl trivial (List.Perm.refl _) ?_
  rintro _ _ ⟨bw,rfl,rfl⟩
  refine Lq.nilrow 5 u8T.toTy ?_
  repeat (first|((first|(apply Lq.s;rfl)|apply PRun.s|(apply Lq.run;rfl;rfl;rfl;exact bsB)|(apply PRun.run;rfl;rfl;exact bsB));first|(exact bsO))|refine bsA ?_|(apply Lq.al;rfl;rfl;intro b)|(apply Open.cons;intro b)|(apply J.drawN;exact mixed;kernel_rfl)|refine bsC ?_)
  refine J.loop (fun x:Nat × Option Addr × Nat=>x.1≤xs.length) (fun x=>[(2,is (.pointer (some ⟨b,0,none⟩))),(3,is (.pointer (some ⟨bw,0,none⟩))),(7,sl strT.toTy xs),(8,is (.int .i64 (xs.length:Int))),(9,is (.int .i64 (x.1:Int)))])
    (fun x=>[own bw 123 (wcells (run bgn (xs.take x.1).flatten).1 x.2.1 (run bgn (xs.take x.1).flatten).2.length x.2.2 (xs.take x.1).flatten.length),row (.slice x.2.1 (run bgn (xs.take x.1).flatten).2.length x.2.2) 5 u8T.toTy (run bgn (xs.take x.1).flatten).2,own b 37 (hashT.cells zeroH)]) (fun x=>xs.length - x.1) (0,none,0) (Nat.zero_le _) ?_ ?_
  · try dsimp only
    rw [List.take_zero,List.flatten_nil,run_nil]
    exact ⟨(by repeat' (first|exact trivial|refine ⟨rfl,?_⟩)),[],List.Perm.swap _ _ _⟩
  rintro ⟨k,A,c⟩ hk
  dsimp only at hk ⊢
  by_cases hlt:k < xs.length
  · obtain ⟨s,hs⟩ : ∃ s,xs[k]?=some s:=⟨_,List.getElem?_eq_getElem hlt⟩
    have h1:=flatten_take hs
    have h2:=flatten_le (xs:=xs) (k+1)
    rw [h1,List.length_append] at h2
    have h3:=run_left_lt bgn (xs.take k).flatten
    have h4:=run_left bgn (xs.take k).flatten
    repeat (first|((first|(apply Lq.s;rfl)|apply PRun.s|(apply Lq.run;rfl;rfl;rfl;exact bsB)|(apply PRun.run;rfl;rfl;exact bsB));first|(apply op_iaddr strT.toTy;rfl;rfl;omega;exact hs)|(apply op_load strT;rfl)|(exact bsO))|refine bsA ?_|(apply Lq.al;rfl;rfl;intro b)|(apply Open.cons;intro b)|(apply J.drawN;exact mixed;kernel_rfl)|refine bsC ?_)
    refine Lq.callS (Δf:=[_]) (write_fn (run bgn (xs.take k).flatten).1 (run_len bgn_len) (run bgn (xs.take k).flatten).2 s (xs.take k).flatten.length (by omega) (by omega) bw _ c A) rfl bsD (List.Perm.refl _) ?_
    rintro _ _ ⟨rfl,A',c',rfl⟩
    repeat (first|((first|(apply Lq.s;rfl)|apply PRun.s|(apply Lq.run;rfl;rfl;rfl;exact bsB)|(apply PRun.run;rfl;rfl;exact bsB));first|(exact bsO))|refine bsA ?_|(apply Lq.al;rfl;rfl;intro b)|(apply Open.cons;intro b)|(apply J.drawN;exact mixed;kernel_rfl)|refine bsC ?_)
    rw [← run_app, ← List.length_append, ← h1]
    exact E.again (k+1,A',c') (by dsimp only;omega) (by dsimp only;omega) (Sub.same (by repeat' (first|exact trivial|refine ⟨rfl,?_⟩)))
  · obtain rfl:k=xs.length:=by omega
    rw [List.take_length]
    repeat (first|((first|(apply Lq.s;rfl)|apply PRun.s|(apply Lq.run;rfl;rfl;rfl;exact bsB)|(apply PRun.run;rfl;rfl;exact bsB));first|(exact bsO))|refine bsA ?_|(apply Lq.al;rfl;rfl;intro b)|(apply Open.cons;intro b)|(apply J.drawN;exact mixed;kernel_rfl)|refine bsC ?_)
    refine Lq.callS (Δf:=[_]) (sum_w (run bgn xs.flatten).1 (run_len bgn_len) (run bgn xs.flatten).2 xs.flatten.length (run_left_lt _ _) hx bw _ c A) rfl bsD (List.Perm.refl _) ?_
    rintro _ _ ⟨h,hh,rfl,rfl⟩
    have he:h=shaH xs.flatten:=Subtype.ext (by rw [hh];exact sha_of _)
    subst he
    (apply Lq.store;rfl;rfl;exact List.perm_append_comm;exact Seg.val _ _;exact hashT.len _;rfl)
    repeat (first|((first|(apply Lq.s;rfl)|apply PRun.s|(apply Lq.run;rfl;rfl;rfl;exact bsB)|(apply PRun.run;rfl;rfl;exact bsB));first|(exact bsO))|refine bsA ?_|(apply Lq.al;rfl;rfl;intro b)|(apply Open.cons;intro b)|(apply J.drawN;exact mixed;kernel_rfl)|refine bsC ?_)
    (refine J.ret ?_;(repeat (first|refine E.then_ret ?_|refine E.in_ret ?_)))
    exact E.retc hashT (x:=shaH xs.flatten) rfl rfl List.mem_cons_self (show (List.take 0 _++hashT.cells (shaH xs.flatten)++List.drop _ _).take 32=_ from by rw [List.take_zero,List.nil_append];exact List.take_left' (hashT.len _)) rfl
end Go.Proofs.YtljbbajelkkafaaDoor.L
/-
  Leaves and nodes,walked.
-/
namespace Go.Proofs.YtljbbajelkkafaaDoor.L
open Go
set_option linter.unusedSectionVars false
variable [Globs] [Has_sha_table] [Has_sha_begin]
set_option linter.unusedVariables false
set_option linter.unusedSimpArgs false
attribute [local irreducible] J Lq E OpP PRun is any agg tup ptr sl
attribute [local irreducible] block row run sha ownAt
theorem leaf_fn (s:List UInt8) (hs:s.length≤900000):Fn Tryd.prog 15 [is (str s)] (hashT.val (shaH ([0]++s))):=by
  refine Fn.mk' 6 Tryd.func15 rfl rfl rfl rfl fun w0 H0=>?_
  repeat (first|((first|(apply Lq.s;rfl)|apply PRun.s|(apply Lq.run;rfl;rfl;rfl;exact bsB)|(apply PRun.run;rfl;rfl;exact bsB));first|(apply op_bslice strT (xs:=[[0],s]);(repeat (first|exact PO.nil _|(apply PO.cons;rfl)));rfl;rfl;rfl)|(apply op_call ((all_fn [[0],s] (by simp;omega) (by simp)).to (show _=hashT.val (shaH ([0]++s)) by simp));exact bsD)|(exact bsO))|refine bsA ?_|(apply Lq.al;rfl;rfl;intro b)|(apply Open.cons;intro b)|(apply J.drawN;exact mixed;kernel_rfl)|refine bsC ?_)
  (apply Lq.store;rfl;rfl;exact List.Perm.refl _;exact Seg.val _ _;exact hashT.len _;rfl)
  repeat (first|((first|(apply Lq.s;rfl)|apply PRun.s|(apply Lq.run;rfl;rfl;rfl;exact bsB)|(apply PRun.run;rfl;rfl;exact bsB));first|(exact bsO))|refine bsA ?_|(apply Lq.al;rfl;rfl;intro b)|(apply Open.cons;intro b)|(apply J.drawN;exact mixed;kernel_rfl)|refine bsC ?_)
  (refine J.ret ?_;(repeat (first|refine E.then_ret ?_|refine E.in_ret ?_)))
  exact E.retc hashT (x:=(shaH ([0]++s))) rfl rfl List.mem_cons_self (show (List.take 0 _++hashT.cells (shaH ([0]++s))++List.drop _ _).take 32=_ from by rw [List.take_zero,List.nil_append];exact List.take_left' (hashT.len _)) rfl
end Go.Proofs.YtljbbajelkkafaaDoor.L
/-
  The hash of nothing,walked.
-/
namespace Go.Proofs.YtljbbajelkkafaaDoor.L
open Go
set_option linter.unusedSectionVars false
variable [Globs] [Has_sha_table] [Has_sha_begin]
set_option linter.unusedVariables false
set_option linter.unusedSimpArgs false
attribute [local irreducible] J Lq E OpP PRun is any agg tup ptr sl
attribute [local irreducible] block row run sha ownAt
end Go.Proofs.YtljbbajelkkafaaDoor.L
