import Derived.Test.YtljbbajelkkafaaDoorSj
/-
  The document's numbers,rotations and padded texts,walked.
-/
namespace Go.Proofs.YtljbbajelkkafaaDoor.L
open Go
set_option linter.unusedSectionVars false
variable [Globs] [Has_sha_table] [Has_sha_begin]
theorem ofNat_mod (x:Nat):UInt8.ofNat (x % 256)=UInt8.ofNat x:=by
  apply UInt8.toNat_inj.1
  rw [UInt8.toNat_ofNat',UInt8.toNat_ofNat']
  omega
theorem be_succ (n k:Nat):be n (k+1)=[UInt8.ofNat (n / 2 ^ (8*k))]++be n k:=by
  unfold be
  rw [List.range_succ_eq_map,List.map_cons,List.map_map]
  show UInt8.ofNat (n / 2 ^ (8*(k+1 - 1 - 0)))::_=UInt8.ofNat (n / 2 ^ (8*k))::_
  rw [show k+1 - 1 - 0=k by omega]
  congr 1
  apply List.map_congr_left
  intro j hj
  show UInt8.ofNat (n / 2 ^ (8*(k+1 - 1 - (j+1))))=_
  rw [show k+1 - 1 - (j+1)=k - 1 - j by omega]
theorem be_0 (n:Nat):be n 0=[]:=rfl
theorem be_length (n k:Nat):(be n k).length=k:=by simp [be]
theorem div_256 (n i:Nat):n / 2 ^ (8*i) / 256=n / 2 ^ (8*(i+1)):=by
  rw [Nat.div_div_eq_div_mul,show (256:Nat)=2 ^ 8 from rfl, ← Nat.pow_add,show 8*i+8=8*(i+1) by omega]
def zer (n:Nat):Nat:=(119 - n % 64) % 64
theorem pad_of (s:List UInt8):s++[128]++List.replicate (zer s.length) 0++be (8*s.length) 8=s++pad s.length:=by
  unfold pad zer
  simp
set_option linter.unusedVariables false
set_option linter.unusedSimpArgs false
attribute [local irreducible] J Lq E OpP PRun is any agg tup ptr sl
attribute [local irreducible] be pad zer
theorem refrot_fn (x:UInt32) (n:Nat) (h0:0 < n) (h:n < 32):Fn Tryd.prog 95 [is (w32 x),is (.int .i64 (n:Int))] (is (w32 (rotr x n))):=by
  have e:rotr x n=shr32 x n ||| shl32 x (32 - n):=by unfold rotr;exact UInt32.or_comm _ _
  rw [e]
  refine Fn.mk' 13 Tryd.func95 rfl rfl rfl rfl fun w0 H0=>?_
  repeat (first|((first|(apply Lq.s;rfl)|apply PRun.s|(apply Lq.run;rfl;rfl;rfl;exact bsB)|(apply PRun.run;rfl;rfl;exact bsB));first|(apply op_sub (c:=((32 - n:Nat):Int));rfl;rfl;(rw [show (32:Int) - (n:Int)=((32 - n:Nat):Int) by omega];apply wrapi <;> omega))|(apply op_shrw (n:=n);rfl;rfl;omega)|(apply op_shlw (n:=32 - n);rfl;rfl;omega)|(apply op_orw;rfl;rfl)|(exact bsO))|refine bsA ?_|(apply Lq.al;rfl;rfl;intro b)|(apply Open.cons;intro b)|(apply J.drawN;exact mixed;kernel_rfl)|refine bsC ?_)
  (refine J.ret ?_;(repeat (first|refine E.then_ret ?_|refine E.in_ret ?_)))
  exact E.ret1 rfl rfl
theorem refsize8_fn:Fn Tryd.prog 103 [is (.int .i64 8)] (is (.bool true)):=by
  refine Fn.mk' 17 Tryd.func103 rfl rfl rfl rfl fun w0 H0=>?_
  repeat (first|((first|(apply Lq.s;rfl)|apply PRun.s|(apply Lq.run;rfl;rfl;rfl;exact bsB)|(apply PRun.run;rfl;rfl;exact bsB));first|(exact bsO))|refine bsA ?_|(apply Lq.al;rfl;rfl;intro b)|(apply Open.cons;intro b)|(apply J.drawN;exact mixed;kernel_rfl)|refine bsC ?_)
  (refine J.ret ?_;(repeat (first|refine E.then_ret ?_|refine E.in_ret ?_)))
  exact E.ret1 rfl rfl
theorem refput8_fn (n:Nat) (hn:n < 9223372036854775808):Fn Tryd.prog 101 [is (.int .i64 (n:Int)),is (.int .i64 8)] (is (str (be n 8))):=by
  refine Fn.mk' 31 Tryd.func101 rfl rfl rfl rfl fun w0 H0=>?_
  repeat (first|((first|(apply Lq.s;rfl)|apply PRun.s|(apply Lq.run;rfl;rfl;rfl;exact bsB)|(apply PRun.run;rfl;rfl;exact bsB));first|(apply op_call refsize8_fn;exact bsD)|(exact bsO))|refine bsA ?_|(apply Lq.al;rfl;rfl;intro b)|(apply Open.cons;intro b)|(apply J.drawN;exact mixed;kernel_rfl)|refine bsC ?_)
  refine J.loop (fun i:Nat=>i≤8) (fun i=>[(0,is (.int .i64 ((n / 2 ^ (8*i):Nat):Int))),(1,is (.int .i64 8)),(5,is (str (be n i))),(6,is (.int .i64 (i:Int)))]) (fun _=>[]) (fun i=>8 - i) 0 (Nat.zero_le _) ?_ ?_
  · try dsimp only
    rw [be_0,show n / 2 ^ (8*0)=n by simp]
    exact (Sub.same (by repeat' (first|exact trivial|refine ⟨rfl,?_⟩)))
  rintro i hi
  have hd:n / 2 ^ (8*i)≤n:=Nat.div_le_self _ _
  by_cases hlt:i < 8
  · have hs:=be_succ n i
    have hq:=div_256 n i
    have hl:=be_length n i
    generalize hx:n / 2 ^ (8*i)=x at *
    repeat (first|((first|(apply Lq.s;rfl)|apply PRun.s|(apply Lq.run;rfl;rfl;rfl;exact bsB)|(apply PRun.run;rfl;rfl;exact bsB));first|(apply op_remn (m:=x) (n:=256);rfl;rfl;decide)|(apply op_quon (m:=x) (n:=256);rfl;rfl;decide;omega)|(apply op_convib;rfl)|(apply op_bslice u8T (xs:=[UInt8.ofNat (x % 256)]);(repeat (first|exact PO.nil _|(apply PO.cons;rfl)));rfl;rfl;rfl)|(apply op_str_sl;rfl)|(apply op_sadd;rfl;rfl;(show 1+(be n i).length≤_;omega))|(exact bsO))|refine bsA ?_|(apply Lq.al;rfl;rfl;intro b)|(apply Open.cons;intro b)|(apply J.drawN;exact mixed;kernel_rfl)|refine bsC ?_)
    rw [ofNat_mod, ← hs,hq]
    exact E.again (i+1) (by omega) (by omega) (Sub.same (by repeat' (first|exact trivial|refine ⟨rfl,?_⟩)))
  · obtain rfl:i=8:=by omega
    have h0:n / 2 ^ (8*8)=0:=Nat.div_eq_of_lt (by omega)
    rw [h0]
    repeat (first|((first|(apply Lq.s;rfl)|apply PRun.s|(apply Lq.run;rfl;rfl;rfl;exact bsB)|(apply PRun.run;rfl;rfl;exact bsB));first|(exact bsO))|refine bsA ?_|(apply Lq.al;rfl;rfl;intro b)|(apply Open.cons;intro b)|(apply J.drawN;exact mixed;kernel_rfl)|refine bsC ?_)
    (refine J.ret ?_;(repeat (first|refine E.then_ret ?_|refine E.in_ret ?_)))
    exact E.ret1 rfl rfl
theorem message_fn (s:List UInt8) (hs:s.length≤1000000):Fn Tryd.prog 93 [is (str s)] (is (str (s++pad s.length))):=by
  rw [← pad_of]
  have hz:(s.length+1+zer s.length) % 64=56:=by unfold zer;omega
  have hz2 : ∀ j,j < zer s.length→(s.length+1+j) % 64 ≠ 56:=by intro j hj;unfold zer at hj;omega
  have hz3:zer s.length < 64:=by unfold zer;omega
  generalize zer s.length=z at *
  have hb:=be_length (8*s.length) 8
  refine Fn.mk' 18 Tryd.func93 rfl rfl rfl rfl fun w0 H0=>?_
  repeat (first|((first|(apply Lq.s;rfl)|apply PRun.s|(apply Lq.run;rfl;rfl;rfl;exact bsB)|(apply PRun.run;rfl;rfl;exact bsB));first|(apply op_sadd;rfl;rfl;(show s.length+1≤_;omega))|(exact bsO))|refine bsA ?_|(apply Lq.al;rfl;rfl;intro b)|(apply Open.cons;intro b)|(apply J.drawN;exact mixed;kernel_rfl)|refine bsC ?_)
  refine J.loop (fun j:Nat=>j≤z) (fun j=>[(0,is (str s)),(3,is (str (s++[128]++List.replicate j 0)))]) (fun _=>[]) (fun j=>z - j) 0 (Nat.zero_le _) ?_ ?_
  · try dsimp only
    rw [show List.replicate 0 (0:UInt8)=[] from rfl,List.append_nil]
    exact (Sub.same (by repeat' (first|exact trivial|refine ⟨rfl,?_⟩)))
  rintro j hj
  have hl:(s++[128]++List.replicate j (0:UInt8)).length=s.length+1+j:=by simp;omega
  by_cases hlt:j < z
  · have hne:=hz2 j hlt
    have hr:s++[128]++List.replicate (j+1) (0:UInt8)=s++[128]++List.replicate j 0++[0]:=by rw [List.replicate_succ',List.append_assoc,List.append_assoc,List.append_assoc]
    generalize s++[128]++List.replicate j (0:UInt8)=m at hl hr ⊢
    repeat (first|((first|(apply Lq.s;rfl)|apply PRun.s|(apply Lq.run;rfl;rfl;rfl;exact bsB)|(apply PRun.run;rfl;rfl;exact bsB));first|(apply op_remn (m:=m.length) (n:=64);rfl;rfl;decide)|(apply op_sadd;rfl;rfl;(show m.length+1≤_;omega))|(exact bsO))|refine bsA ?_|(apply Lq.al;rfl;rfl;intro b)|(apply Open.cons;intro b)|(apply J.drawN;exact mixed;kernel_rfl)|refine bsC ?_)
    refine E.again (j+1) (by omega) (by omega) ?_
    try dsimp only
    rw [hr]
    exact (Sub.same (by repeat' (first|exact trivial|refine ⟨rfl,?_⟩)))
  · obtain rfl:j=z:=by omega
    generalize s++[128]++List.replicate j (0:UInt8)=m at hl ⊢
    repeat (first|((first|(apply Lq.s;rfl)|apply PRun.s|(apply Lq.run;rfl;rfl;rfl;exact bsB)|(apply PRun.run;rfl;rfl;exact bsB));first|(apply op_remn (m:=m.length) (n:=64);rfl;rfl;decide)|(apply op_mul (c:=((8*s.length:Nat):Int));rfl;rfl;(rw [show (8:Int)*(s.length:Int)=((8*s.length:Nat):Int) by omega];apply wrapi <;> omega))|(apply op_call (refput8_fn (8*s.length) (by omega));exact bsD)|(apply op_sadd;rfl;rfl;omega)|(exact bsO))|refine bsA ?_|(apply Lq.al;rfl;rfl;intro b)|(apply Open.cons;intro b)|(apply J.drawN;exact mixed;kernel_rfl)|refine bsC ?_)
    (refine J.ret ?_;(repeat (first|refine E.then_ret ?_|refine E.in_ret ?_)))
    exact E.ret1 rfl rfl
theorem refhash_step (p:Hash) {i:Nat} {c:UInt8} (hc:p.1[i]?=some c):p.1.take i++[c]=p.1.take (i+1):=by
  rw [List.take_add_one,hc];rfl
end Go.Proofs.YtljbbajelkkafaaDoor.L
/-
  The document's words of a block,walked.
-/
namespace Go.Proofs.YtljbbajelkkafaaDoor.L
open Go
set_option linter.unusedSectionVars false
variable [Globs] [Has_sha_table] [Has_sha_begin]
/-- A word's bytes taken in, i of them. -/
def acc (bs:List UInt8) (t:Nat):Nat→UInt32
  | 0=>0
  | i+1=>acc bs t i*256+UInt32.ofNat (bs.getD (4*t+i) 0).toNat
theorem acc_toNat (bs:List UInt8) (t:Nat):(acc bs t 4).toNat=(bs.getD (4*t) 0).toNat*2 ^ 24+(bs.getD (4*t+1) 0).toNat*2 ^ 16+(bs.getD (4*t+2) 0).toNat*2 ^ 8+(bs.getD (4*t+3) 0).toNat:=by
  have h0:=(bs.getD (4*t) 0).toNat_lt
  have h1:=(bs.getD (4*t+1) 0).toNat_lt
  have h2:=(bs.getD (4*t+2) 0).toNat_lt
  have h3:=(bs.getD (4*t+3) 0).toNat_lt
  simp only [acc,UInt32.toNat_add,UInt32.toNat_mul,UInt32.toNat_ofNat',Nat.add_zero]
  have e:(256:UInt32).toNat=256:=rfl
  have e0:(0:UInt32).toNat=0:=rfl
  rw [e,e0]
  omega
theorem or_low (a b i:Nat) (h:b < 2 ^ i):a*2 ^ i ||| b=a*2 ^ i+b:=by
  rw [← Nat.shiftLeft_eq,Nat.shiftLeft_add_eq_or_of_lt h]
theorem acc_word (bs:List UInt8) (t:Nat):acc bs t 4=word4 bs t:=by
  apply UInt32.toNat_inj.1
  rw [acc_toNat]
  unfold word4 wb shl32
  have h0:=(bs.getD (4*t) 0).toNat_lt
  have h1:=(bs.getD (4*t+1) 0).toNat_lt
  have h2:=(bs.getD (4*t+2) 0).toNat_lt
  have h3:=(bs.getD (4*t+3) 0).toNat_lt
  generalize (bs.getD (4*t) 0).toNat=a at *
  generalize (bs.getD (4*t+1) 0).toNat=b at *
  generalize (bs.getD (4*t+2) 0).toNat=c at *
  generalize (bs.getD (4*t+3) 0).toNat=d at *
  simp only [UInt32.toNat_or,UInt32.toNat_ofNat']
  rw [Nat.mod_eq_of_lt (show a < 2 ^ 32 by omega),Nat.mod_eq_of_lt (show b < 2 ^ 32 by omega),Nat.mod_eq_of_lt (show c < 2 ^ 32 by omega),Nat.mod_eq_of_lt (show d < 2 ^ 32 by omega),
    Nat.mod_eq_of_lt (show a*2 ^ 24 < 2 ^ 32 by omega),Nat.mod_eq_of_lt (show b*2 ^ 16 < 2 ^ 32 by omega),Nat.mod_eq_of_lt (show c*2 ^ 8 < 2 ^ 32 by omega)]
  rw [or_low a (b*2 ^ 16) 24 (by omega)]
  rw [show a*2 ^ 24+b*2 ^ 16=(a*2 ^ 8+b)*2 ^ 16 by omega,or_low _ (c*2 ^ 8) 16 (by omega)]
  rw [show (a*2 ^ 8+b)*2 ^ 16+c*2 ^ 8=(a*2 ^ 16+b*2 ^ 8+c)*2 ^ 8 by omega,or_low _ d 8 (by omega)]
def part4 (bs:List UInt8) (t i:Nat):List UInt32:=sched bs t++[acc bs t i]++List.replicate (63 - t) 0
theorem part4_len (bs:List UInt8) {t i:Nat} (h:t < 64):(part4 bs t i).length=64:=by
  unfold part4
  rw [List.length_append,List.length_append,sched_len,List.length_replicate]
  show t+1+(63 - t)=64
  omega
theorem part4_0 (bs:List UInt8) {t:Nat} (h:t < 64):part4 bs t 0=sched bs t++List.replicate (64 - t) 0:=by
  unfold part4 acc
  rw [show 64 - t=(63 - t)+1 by omega,List.replicate_succ,List.append_assoc]
  rfl
theorem part4_set (bs:List UInt8) (t i:Nat):(part4 bs t i).set t (acc bs t i*256+UInt32.ofNat (bs.getD (4*t+i) 0).toNat)=part4 bs t (i+1):=by
  unfold part4
  rw [List.append_assoc,List.set_append,if_neg (by rw [sched_len];omega),sched_len,Nat.sub_self]
  show sched bs t++(acc bs t (i+1)::_)=_
  rw [List.append_assoc]
  rfl
theorem part4_4 (bs:List UInt8) {t:Nat} (h:t < 16):part4 bs t 4=sched bs (t+1)++List.replicate (64 - (t+1)) 0:=by
  unfold part4
  have e:nextW bs (sched bs t) t=word4 bs t:=by unfold nextW;rw [if_pos h]
  show _=sched bs t++[nextW bs (sched bs t) t]++_
  rw [e,acc_word,show 64 - (t+1)=63 - t by omega]
theorem part4_at (bs:List UInt8) {t i:Nat}:((flat u32W.toTy (part4 bs t i)).drop (0+((t:Nat):Int).toNat*1)).take 1=u32W.cells (acc bs t i):=by
  rw [Int.toNat_natCast]
  refine at_flat0 u32W.toTy ?_
  unfold part4
  rw [List.append_assoc,List.getElem?_append_right (by rw [sched_len];exact Nat.le_refl _),sched_len,Nat.sub_self]
  rfl
theorem nextW_ref {bs:List UInt8} {l:List UInt32} {t:Nat} (h : ¬ t < 16):nextW bs l t=(rotr (l.getD (t - 2) 0) 17 ^^^ rotr (l.getD (t - 2) 0) 19 ^^^ shr32 (l.getD (t - 2) 0) 10)+l.getD (t - 7) 0+(rotr (l.getD (t - 15) 0) 7 ^^^ rotr (l.getD (t - 15) 0) 18 ^^^ shr32 (l.getD (t - 15) 0) 3)+l.getD (t - 16) 0:=by
  rw [nextW_hi h]
  generalize rotr _ _ ^^^ _ ^^^ _=a
  generalize rotr (l.getD (t - 2) 0) 17 ^^^ _ ^^^ _=b
  ac_rfl
set_option linter.unusedVariables false
set_option linter.unusedSimpArgs false
attribute [local irreducible] J Lq E OpP PRun is any agg tup ptr sl
attribute [local irreducible] nextW word4 sched acc part4
set_option maxHeartbeats 1000000 in
set_option maxRecDepth 100000 in
theorem words_fn (bs:List UInt8) (hbs:bs.length=64):Fn Tryd.prog 94 [is (str bs)] ((arrT 64 u32W (by decide)).val ⟨sched bs 64,sched_len bs 64⟩):=by
  refine Fn.mk' 74 Tryd.func94 rfl rfl rfl rfl fun w0 H0=>?_
  repeat (first|((first|(apply Lq.s;rfl)|apply PRun.s|(apply Lq.run;rfl;rfl;rfl;exact bsB)|(apply PRun.run;rfl;rfl;exact bsB));first|(exact bsO))|refine bsA ?_|(apply Lq.al;rfl;rfl;intro b)|(apply Open.cons;intro b)|(apply J.drawN;exact mixed;kernel_rfl)|refine bsC ?_)
  rename_i br
  refine J.loop (fun t:Nat=>t≤64) (fun t=>[(0,is (str bs)),(2,is (.pointer (some ⟨br,0,none⟩))),(3,is (.pointer (some ⟨b,0,none⟩))),(4,is (.int .i64 (t:Int)))])
    (fun t=>[own b 150 (flat u32W.toTy (sched bs t++List.replicate (64 - t) 0)),own br 150 (flat u32W.toTy (List.replicate 64 0))]) (fun t=>64 - t) 0 (Nat.zero_le _) ?_ ?_
  · try dsimp only
    rw [sched_0]
    exact (Sub.same (by repeat' (first|exact trivial|refine ⟨rfl,?_⟩)))
  rintro t ht
  by_cases h64:t < 64
  · by_cases h16:t < 16
    · dsimp only
      rw [← part4_0 bs h64]
      repeat (first|((first|(apply Lq.s;rfl)|apply PRun.s|(apply Lq.run;rfl;rfl;rfl;exact bsB)|(apply PRun.run;rfl;rfl;exact bsB));first|(exact bsO))|refine bsA ?_|(apply Lq.al;rfl;rfl;intro b)|(apply Open.cons;intro b)|(apply J.drawN;exact mixed;kernel_rfl)|refine bsC ?_)
      refine J.loop (fun i:Nat=>i≤4) (fun i=>[(0,is (str bs)),(2,is (.pointer (some ⟨br,0,none⟩))),(3,is (.pointer (some ⟨b,0,none⟩))),(4,is (.int .i64 (t:Int))),(5,is (.int .i64 (i:Int)))])
        (fun i=>[own b 150 (flat u32W.toTy (part4 bs t i)),own br 150 (flat u32W.toTy (List.replicate 64 0))]) (fun i=>4 - i) 0 (Nat.zero_le _) (Sub.same (by repeat' (first|exact trivial|refine ⟨rfl,?_⟩))) ?_
      rintro i hi
      by_cases h4:i < 4
      · have hx:bs[4*t+i]?=some (bs.getD (4*t+i) 0):=by rw [List.getD_eq_getElem?_getD,List.getElem?_eq_getElem (by omega)];rfl
        have hs:=part4_set bs t i
        repeat (first|((first|(apply Lq.s;rfl)|apply PRun.s|(apply Lq.run;rfl;rfl;rfl;exact bsB)|(apply PRun.run;rfl;rfl;exact bsB));first|(apply op_addw;rfl;rfl)|(apply op_xorw;rfl;rfl)|(apply op_convbw;rfl)|(apply op_mulw (n:=256);rfl;rfl)|(apply op_mul (c:=((4*t:Nat):Int));rfl;rfl;(rw [show (4:Int)*(t:Int)=((4*t:Nat):Int) by omega];apply wrapi <;> omega))|(apply op_oload u32W;rfl;exact bsM;exact part4_at bs)|(apply op_sidx (s:=bs) (b:=bs.getD (4*t+i) 0);rfl;rfl;omega;(rw [show (((4*t:Nat):Int)+(i:Int)).toNat=4*t+i by omega];exact hx))|(exact bsO))|refine bsA ?_|(apply Lq.al;rfl;rfl;intro b)|(apply Open.cons;intro b)|(apply J.drawN;exact mixed;kernel_rfl)|refine bsC ?_)
        refine Lq.storeE (φs':=flat u32W.toTy (part4 bs t (i+1))) rfl rfl (List.Perm.refl _) (Seg.is rfl) rfl ?_ ?_ ?_
        · rw [flat_len,part4_len bs h64]
          show 0+((t:Int)).toNat*1+1≤64*1
          omega
        · rw [← hs]
          exact set_flat0 u32W.toTy (by rw [part4_len bs h64];omega)
        repeat (first|((first|(apply Lq.s;rfl)|apply PRun.s|(apply Lq.run;rfl;rfl;rfl;exact bsB)|(apply PRun.run;rfl;rfl;exact bsB));first|(exact bsO))|refine bsA ?_|(apply Lq.al;rfl;rfl;intro b)|(apply Open.cons;intro b)|(apply J.drawN;exact mixed;kernel_rfl)|refine bsC ?_)
        exact E.again (i+1) (by omega) (by omega) (Sub.same (by repeat' (first|exact trivial|refine ⟨rfl,?_⟩)))
      · obtain rfl:i=4:=by omega
        dsimp only
        rw [part4_4 bs h16]
        repeat (first|((first|(apply Lq.s;rfl)|apply PRun.s|(apply Lq.run;rfl;rfl;rfl;exact bsB)|(apply PRun.run;rfl;rfl;exact bsB));first|(exact bsO))|refine bsA ?_|(apply Lq.al;rfl;rfl;intro b)|(apply Open.cons;intro b)|(apply J.drawN;exact mixed;kernel_rfl)|refine bsC ?_)
        exact E.again (t+1) (by omega) (by omega) (Sub.same (by repeat' (first|exact trivial|refine ⟨rfl,?_⟩)))
    · have hs:=set_flat0 u32W.toTy (xs:=sched bs t++List.replicate (64 - t) 0) (k:=t) (v:=nextW bs (sched bs t) t) (by rw [List.length_append,sched_len,List.length_replicate];omega)
      rw [sched_set bs t h64] at hs
      rw [nextW_ref h16] at hs
      repeat (first|((first|(apply Lq.s;rfl)|apply PRun.s|(apply Lq.run;rfl;rfl;rfl;exact bsB)|(apply PRun.run;rfl;rfl;exact bsB));first|(apply op_addw;rfl;rfl)|(apply op_xorw;rfl;rfl)|(apply op_convbw;rfl)|(apply op_call (refrot_fn _ 7 (by decide) (by decide));exact bsD)|(apply op_call (refrot_fn _ 18 (by decide) (by decide));exact bsD)|(apply op_call (refrot_fn _ 17 (by decide) (by decide));exact bsD)|(apply op_call (refrot_fn _ 19 (by decide) (by decide));exact bsD)|(apply op_oload u32W;rfl;exact bsM;exact sched_at bs t (t - 15) ((t:Int) - 15) (by omega) (by omega))|(apply op_oload u32W;rfl;exact bsM;exact sched_at bs t (t - 2) ((t:Int) - 2) (by omega) (by omega))|(apply op_oload u32W;rfl;exact bsM;exact sched_at bs t (t - 16) ((t:Int) - 16) (by omega) (by omega))|(apply op_oload u32W;rfl;exact bsM;exact sched_at bs t (t - 7) ((t:Int) - 7) (by omega) (by omega))|(apply op_shrw (n:=3);rfl;rfl;decide)|(apply op_shrw (n:=10);rfl;rfl;decide)|(exact bsO))|refine bsA ?_|(apply Lq.al;rfl;rfl;intro b)|(apply Open.cons;intro b)|(apply J.drawN;exact mixed;kernel_rfl)|refine bsC ?_)
      refine Lq.storeE (φs':=flat u32W.toTy (sched bs (t+1)++List.replicate (64 - (t+1)) 0)) rfl rfl (List.Perm.refl _) (Seg.is rfl) rfl ?_ ?_ ?_
      · rw [flat_len,List.length_append,sched_len,List.length_replicate]
        show 0+((t:Int)).toNat*1+1≤(t+(64 - t))*1
        omega
      · exact hs
      repeat (first|((first|(apply Lq.s;rfl)|apply PRun.s|(apply Lq.run;rfl;rfl;rfl;exact bsB)|(apply PRun.run;rfl;rfl;exact bsB));first|(exact bsO))|refine bsA ?_|(apply Lq.al;rfl;rfl;intro b)|(apply Open.cons;intro b)|(apply J.drawN;exact mixed;kernel_rfl)|refine bsC ?_)
      exact E.again (t+1) (by omega) (by omega) (Sub.same (by repeat' (first|exact trivial|refine ⟨rfl,?_⟩)))
  · obtain rfl:t=64:=by omega
    repeat (first|((first|(apply Lq.s;rfl)|apply PRun.s|(apply Lq.run;rfl;rfl;rfl;exact bsB)|(apply PRun.run;rfl;rfl;exact bsB));first|(apply op_oload (arrT 64 u32W (by decide)) (x:=⟨sched bs 64,sched_len bs 64⟩);rfl;exact bsM;exact load64 bs)|(exact bsO))|refine bsA ?_|(apply Lq.al;rfl;rfl;intro b)|(apply Open.cons;intro b)|(apply J.drawN;exact mixed;kernel_rfl)|refine bsC ?_)
    refine Lq.storeE (φs':=(arrT 64 u32W (by decide)).cells ⟨sched bs 64,sched_len bs 64⟩) rfl rfl (List.Perm.swap _ _ _) (Seg.val _ _) ((arrT 64 u32W (by decide)).len _) (Nat.le_refl 64) ?_ ?_
    · have hl:((arrT 64 u32W (by decide)).cells ⟨sched bs 64,sched_len bs 64⟩).length=64:=(arrT 64 u32W (by decide)).len _
      unfold splice
      rw [List.take_zero,List.nil_append,Nat.zero_add,hl,List.drop_of_length_le (by rw [flat_len,List.length_replicate];exact Nat.le_refl 64),List.append_nil]
    repeat (first|((first|(apply Lq.s;rfl)|apply PRun.s|(apply Lq.run;rfl;rfl;rfl;exact bsB)|(apply PRun.run;rfl;rfl;exact bsB));first|(exact bsO))|refine bsA ?_|(apply Lq.al;rfl;rfl;intro b)|(apply Open.cons;intro b)|(apply J.drawN;exact mixed;kernel_rfl)|refine bsC ?_)
    (refine J.ret ?_;(repeat (first|refine E.then_ret ?_|refine E.in_ret ?_)))
    exact E.retc (arrT 64 u32W (by decide)) (x:=⟨sched bs 64,sched_len bs 64⟩) rfl rfl List.mem_cons_self (List.take_of_length_le (Nat.le_of_eq ((arrT 64 u32W (by decide)).len _))) rfl
end Go.Proofs.YtljbbajelkkafaaDoor.L
/-
  The document's hash,walked.
-/
namespace Go.Proofs.YtljbbajelkkafaaDoor.L
open Go
set_option linter.unusedSectionVars false
variable [Globs] [Has_sha_table] [Has_sha_begin]
theorem choose_eq (e f g:UInt32):(e &&& f) ^^^ (~~~e &&& g)=g ^^^ (e &&& (f ^^^ g)):=by
  apply UInt32.toBitVec_inj.1
  simp only [UInt32.toBitVec_xor,UInt32.toBitVec_and,UInt32.toBitVec_not]
  apply BitVec.eq_of_getLsbD_eq
  intro i hi
  simp only [BitVec.getLsbD_xor,BitVec.getLsbD_and,BitVec.getLsbD_not,hi,decide_true,Bool.true_and]
  cases e.toBitVec.getLsbD i <;> cases f.toBitVec.getLsbD i <;> cases g.toBitVec.getLsbD i <;> rfl
theorem major_eq (a b c:UInt32):(a &&& b) ^^^ (a &&& c) ^^^ (b &&& c)=(a &&& (b ||| c)) ||| (b &&& c):=by
  apply UInt32.toBitVec_inj.1
  simp only [UInt32.toBitVec_xor,UInt32.toBitVec_and,UInt32.toBitVec_or]
  apply BitVec.eq_of_getLsbD_eq
  intro i hi
  simp only [BitVec.getLsbD_xor,BitVec.getLsbD_and,BitVec.getLsbD_or]
  cases a.toBitVec.getLsbD i <;> cases b.toBitVec.getLsbD i <;> cases c.toBitVec.getLsbD i <;> rfl
/-- The state behind k blocks of a text. -/
def stK (m:List UInt8):Nat→List UInt32
  | 0=>bgn
  | k+1=>block (stK m k) ((m.drop (64*k)).take 64)
theorem stK_len (m:List UInt8) : ∀ k,(stK m k).length=8
  | 0=>rfl
  | k+1=>block_len (stK_len m k)
theorem absorb_stK (m:List UInt8) : ∀ (n k:Nat),64*(k+n)≤m.length→(absorb n (stK m k) (m.drop (64*k))).1=stK m (k+n)
  | 0,k,_=>rfl
  | n+1,k,h=>by
    have hl:64≤(m.drop (64*k)).length:=by rw [List.length_drop];omega
    have e:absorb (n+1) (stK m k) (m.drop (64*k))=absorb n (block (stK m k) ((m.drop (64*k)).take 64)) ((m.drop (64*k)).drop 64):=by rw [absorb,if_pos hl]
    have e2:(m.drop (64*k)).drop 64=m.drop (64*(k+1)):=by rw [List.drop_drop];congr 1
    have:=absorb_stK m n (k+1) (by omega)
    rw [e,e2,show k+(n+1)=k+1+n by omega]
    exact this
theorem sha_stK (s:List UInt8):sha s=digest (stK (s++pad s.length) ((s++pad s.length).length / 64)):=by
  have:=absorb_stK (s++pad s.length) ((s++pad s.length).length / 64) 0 (by omega)
  unfold sha run
  rw [Nat.zero_add,Nat.mul_zero,List.drop_zero] at this
  exact congrArg digest this
theorem pad_len (n:Nat):(n+(pad n).length) % 64=0∧(pad n).length≤80:=by
  have:(pad n).length=1+(119 - n % 64) % 64+8:=by unfold pad;simp [be];omega
  omega
theorem ref_k:ref02_k=sha_table:=rfl
variable [Has_ref02_k]
theorem glob_k:(1,ref02_k.map fun (n:Nat)=>Value.int .u32 (n:Int)) ∈ globs:=Has_ref02_k.h
theorem ktable_at (t:Nat) (h:t < 64):u32W.cells (tbl.getD t 0)=(((ref02_k.map fun (n:Nat)=>Value.int .u32 (n:Int)).drop (0+((t:Int)).toNat*1)).take 1).map is:=by
  rw [ref_k]
  exact table_at t h
/-- A digest's byte. -/
theorem digest_eq (a b c d e f g h:UInt32):digest [a,b,c,d,e,f,g,h]=be a.toNat 4++(be b.toNat 4++(be c.toNat 4++(be d.toNat 4++(be e.toNat 4++(be f.toNat 4++(be g.toNat 4++(be h.toNat 4++[]))))))):=rfl
theorem digest_at {st:List UInt32} (hst:st.length=8) {i:Nat} (hi:i < 32):(digest st)[i]?=some (UInt8.ofNat ((st.getD (i / 4) 0).toNat / 2 ^ (24 - 8*(i % 4)))):=by
  have hbe : ∀ (n j:Nat),j < 4→(be n 4)[j]?=some (UInt8.ofNat (n / 2 ^ (24 - 8*j))):=by
    intro n j hj
    unfold be
    rw [List.getElem?_map,List.getElem?_range (by omega)]
    show some (UInt8.ofNat (n / 2 ^ (8*(4 - 1 - j))))=_
    rw [show 8*(4 - 1 - j)=24 - 8*j by omega]
  have gen : ∀ (l:List UInt32) (i:Nat),i < 4*l.length→(digest l)[i]?=some (UInt8.ofNat ((l.getD (i / 4) 0).toNat / 2 ^ (24 - 8*(i % 4)))):=by
    intro l
    induction l with
    | nil=>intro i hi;simp at hi
    | cons x l ih =>
      intro i hi
      have e:digest (x::l)=be x.toNat 4++digest l:=rfl
      have hl:(be x.toNat 4).length=4:=be_length _ _
      rw [e]
      by_cases h4:i < 4
      · rw [List.getElem?_append_left (by omega),hbe _ i h4,show i / 4=0 by omega,show i % 4=i by omega]
        rfl
      · rw [List.getElem?_append_right (by omega),hl,ih (i - 4) (by simp only [List.length_cons] at hi;omega),show (i - 4) % 4=i % 4 by omega,show i / 4=(i - 4) / 4+1 by omega]
        rfl
  exact gen st i (by omega)
theorem round_ref (e f g h x k:UInt32):(h+(rotr e 6 ^^^ rotr e 11 ^^^ rotr e 25)+(e &&& f ^^^ ~~~e &&& g)+k+x)=x+(h+bs1 e+(g ^^^ (e &&& (f ^^^ g)))+k):=by
  rw [choose_eq]
  unfold bs1
  generalize rotr e 6 ^^^ _ ^^^ _=p
  generalize g ^^^ _=q
  ac_rfl
theorem round_ref2 (a b c d e f g h x k:UInt32):round [a,b,c,d,e,f,g,h] x k=[(h+(rotr e 6 ^^^ rotr e 11 ^^^ rotr e 25)+(e &&& f ^^^ ~~~e &&& g)+k+x)+((rotr a 2 ^^^ rotr a 13 ^^^ rotr a 22)+(a &&& b ^^^ a &&& c ^^^ b &&& c)),a,b,c,d+(h+(rotr e 6 ^^^ rotr e 11 ^^^ rotr e 25)+(e &&& f ^^^ ~~~e &&& g)+k+x),e,f,g]:=by
  rw [round_ref e f g h x k,major_eq]
  rfl
set_option linter.unusedVariables false
set_option linter.unusedSimpArgs false
attribute [local irreducible] J Lq E OpP PRun is any agg tup ptr sl
attribute [local irreducible] nextW word4 sched rounds rotr stK digest pad sha shaH
theorem whole_store {n:Nat} {φs seg:List Pr} (h:φs.length=n) (h2:seg.length=n):splice φs 0 seg=seg:=by
  unfold splice
  rw [List.take_zero,List.nil_append,Nat.zero_add,h2, ← h,List.drop_length,List.append_nil]
theorem shr_toNat (x:UInt32) (n:Nat):(shr32 x n).toNat=x.toNat / 2 ^ n:=by
  unfold shr32
  rw [UInt32.toNat_ofNat']
  have hlt:x.toNat / 2 ^ n < 2 ^ 32:=Nat.lt_of_le_of_lt (Nat.div_le_self _ _) x.toBitVec.isLt
  exact Nat.mod_eq_of_lt hlt
theorem op_sslice' {P:Program} {Γ:Env} {Δ:List Res} {d:Option Nat} {ty t:Nat} {pos:String} {af:Array Edge} {g:Option (Nat × Bool)} {x y z:Operand} {s:List UInt8} {k k2:IntKind} {lo hi n:Nat} [ht:TStr P t] (h:opd Γ x=some (is (str s))) (h1:opd Γ y=some (is (.int k (lo:Int)))) (h2:opd Γ z=some (is (.int k2 (hi:Int)))) (hn:hi=lo+n) (hhl:hi≤s.length):OpP P Γ Δ ⟨d, .slice t x (some y) (some z) none,ty,pos,af,g⟩ (is (str ((s.drop lo).take n))):=by
  have:=op_sslice (P:=P) (Δ:=Δ) (d:=d) (ty:=ty) (pos:=pos) (af:=af) (g:=g) (t:=t) h h1 h2 (by omega) hhl
  rwa [show hi - lo=n by omega] at this
def hb (l:List UInt8) (i:Nat):List UInt8:=l.take i++List.replicate (32 - i) 0
theorem hb_len {l:List UInt8} {i:Nat} (hl:l.length=32) (hi:i≤32):(hb l i).length=32:=by
  unfold hb
  rw [List.length_append,List.length_take,List.length_replicate];omega
theorem hb_set {l:List UInt8} {i:Nat} {c:UInt8} (hl:l.length=32) (hc:l[i]?=some c):(hb l i).set i c=hb l (i+1):=by
  have hi:i < 32:=by rw [← hl];exact (List.getElem?_eq_some_iff.1 hc).1
  have h1:(l.take i).length=i:=by rw [List.length_take];omega
  unfold hb
  rw [List.set_append_right _ _ (by omega),h1,Nat.sub_self,show 32 - i=(32 - (i+1))+1 by omega,List.replicate_succ,List.set_cons_zero,List.take_add_one,hc]
  simp
set_option maxHeartbeats 2000000 in
set_option maxRecDepth 100000 in
theorem refsum_fn (s:List UInt8) (hs:s.length≤1000000):Fn Tryd.prog 85 [is (str s)] (hashT.val (shaH s)):=by
  have hsha:(shaH s).1=digest (stK (s++pad s.length) ((s++pad s.length).length / 64)):=by unfold shaH;exact sha_stK s
  obtain ⟨hpad,hpad2⟩:=pad_len s.length
  have hml:(s++pad s.length).length=s.length+(pad s.length).length:=List.length_append
  rw [← hml] at hpad
  have hst0:stK (s++pad s.length) 0=bgn:=by unfold stK;rfl
  generalize hm:s++pad s.length=m at *
  have hdl:=(shaH s).2
  generalize hH:shaH s=hh at *
  refine Fn.mk' 144 Tryd.func85 rfl rfl rfl rfl fun w0 H0=>?_
  repeat (first|((first|(apply Lq.s;rfl)|apply PRun.s|(apply Lq.run;rfl;rfl;rfl;exact bsB)|(apply PRun.run;rfl;rfl;exact bsB));first|(apply op_buildT (arrT 8 u32W (by decide)) ⟨bgn,rfl⟩;rfl;rfl;(repeat (first|exact BP.nil _|(apply BP.cons;rfl;rfl;exact bsS;rfl;rfl)));rfl)|(apply op_call ((message_fn s hs).to (by rw [hm]));exact bsD)|(exact bsO))|refine bsA ?_|(apply Lq.al;rfl;rfl;intro b)|(apply Open.cons;intro b)|(apply J.drawN;exact mixed;kernel_rfl)|refine bsC ?_)
  rename_i br
  refine J.loop (fun k:Nat=>64*k≤m.length) (fun k=>[(2,is (.pointer (some ⟨br,0,none⟩))),(3,is (.pointer (some ⟨b,0,none⟩))),(4,is (str m)),(5,is (.int .i64 ((64*k:Nat):Int)))])
    (fun k=>[own b 120 (flat u32W.toTy (stK m k)),own br 37 (hashT.cells zeroH)]) (fun k=>m.length - 64*k) 0 (Nat.zero_le _) ?_ ?_
  · try dsimp only
    rw [hst0]
    exact (Sub.same (by repeat' (first|exact trivial|refine ⟨rfl,?_⟩)))
  rintro k hk
  have hst:=stK_len m k
  by_cases hlt:64*k < m.length
  · have hbl:((m.drop (64*k)).take 64).length=64:=by rw [List.length_take,List.length_drop];omega
    have hstk:stK m (k+1)=block (stK m k) ((m.drop (64*k)).take 64):=by conv=>lhs;unfold stK
    generalize hbs:(m.drop (64*k)).take 64=bs at *
    generalize stK m k=st at *
    repeat (first|((first|(apply Lq.s;rfl)|apply PRun.s|(apply Lq.run;rfl;rfl;rfl;exact bsB)|(apply PRun.run;rfl;rfl;exact bsB));first|(apply op_add (c:=((64*k+64:Nat):Int));rfl;rfl;(rw [show ((64*k:Nat):Int)+64=((64*k+64:Nat):Int) by omega];apply wrapi <;> omega))|(apply op_sslice' (lo:=64*k) (hi:=64*k+64) (n:=64);rfl;rfl;rfl;rfl;omega)|(apply op_call ((words_fn ((m.drop (64*k)).take 64) (by rw [hbs];exact hbl)).to (show _=(arrT 64 u32W (by decide)).val ⟨sched bs 64,sched_len bs 64⟩ by subst hbs;rfl));exact bsD)|(exact bsO))|refine bsA ?_|(apply Lq.al;rfl;rfl;intro b)|(apply Open.cons;intro b)|(apply J.drawN;exact mixed;kernel_rfl)|refine bsC ?_)
    have hwl:((arrT 64 u32W (by decide)).cells ⟨sched bs 64,sched_len bs 64⟩).length=64:=(arrT 64 u32W (by decide)).len _
    refine Lq.storeE (φs':=(arrT 64 u32W (by decide)).cells ⟨sched bs 64,sched_len bs 64⟩) rfl rfl (List.Perm.refl _) (Seg.val _ _) hwl (Nat.le_refl 64) (whole_store rfl hwl) ?_
    rename_i b0
    revert b
    intro bw
    obtain ⟨s0,s1,s2,s3,s4,s5,s6,s7,rfl⟩:=eight hst
    repeat (first|((first|(apply Lq.s;rfl)|apply PRun.s|(apply Lq.run;rfl;rfl;rfl;exact bsB)|(apply PRun.run;rfl;rfl;exact bsB));first|(apply op_oload (arrT 8 u32W (by decide)) (x:=⟨[s0,s1,s2,s3,s4,s5,s6,s7],rfl⟩);rfl;exact bsM;rfl)|(exact bsO))|refine bsA ?_|(apply Lq.al;rfl;rfl;intro b)|(apply Open.cons;intro b)|(apply J.drawN;exact mixed;kernel_rfl)|refine bsC ?_)
    refine J.loop (fun t:Nat=>t≤64) (fun t=>[(2,is (.pointer (some ⟨br,0,none⟩))),(3,is (.pointer (some ⟨b0,0,none⟩))),(4,is (str m)),(5,is (.int .i64 ((64*k:Nat):Int))),(6,is (.pointer (some ⟨bw,0,none⟩))),(7,is (.pointer (some ⟨b,0,none⟩))),(8,is (.int .i64 (t:Int)))])
      (fun t=>[own b 120 (flat u32W.toTy (rounds (sched bs 64) [s0,s1,s2,s3,s4,s5,s6,s7] t)),own bw 150 ((arrT 64 u32W (by decide)).cells ⟨sched bs 64,sched_len bs 64⟩),own b0 120 (flat u32W.toTy [s0,s1,s2,s3,s4,s5,s6,s7]),own br 37 (hashT.cells zeroH)]) (fun t=>64 - t) 0 (by decide) ?_ ?_
    · try dsimp only
      rw [rounds_0]
      exact (Sub.same (by repeat' (first|exact trivial|refine ⟨rfl,?_⟩)))
    rintro t ht
    have h8:=rounds_len (m:=sched bs 64) (v:=[s0,s1,s2,s3,s4,s5,s6,s7]) rfl t
    obtain ⟨v0,v1,v2,v3,v4,v5,v6,v7,hv⟩:=eight h8
    by_cases h64:t < 64
    · have hv':rounds (sched bs 64) [s0,s1,s2,s3,s4,s5,s6,s7] (t+1)=[(v7+(rotr v4 6 ^^^ rotr v4 11 ^^^ rotr v4 25)+(v4 &&& v5 ^^^ ~~~v4 &&& v6)+tbl.getD t 0+(sched bs 64).getD t 0)+((rotr v0 2 ^^^ rotr v0 13 ^^^ rotr v0 22)+(v0 &&& v1 ^^^ v0 &&& v2 ^^^ v1 &&& v2)),v0,v1,v2,v3+(v7+(rotr v4 6 ^^^ rotr v4 11 ^^^ rotr v4 25)+(v4 &&& v5 ^^^ ~~~v4 &&& v6)+tbl.getD t 0+(sched bs 64).getD t 0),v4,v5,v6]:=by
        rw [rounds_s,hv,round_ref2]
      try dsimp only
      rw [hv]
      repeat (first|((first|(apply Lq.s;rfl)|apply PRun.s|(apply Lq.run;rfl;rfl;rfl;exact bsB)|(apply PRun.run;rfl;rfl;exact bsB));first|(apply op_addw;rfl;rfl)|(apply op_xorw;rfl;rfl)|(apply op_andw;rfl;rfl)|(apply op_notw;rfl)|(apply op_call (refrot_fn _ 6 (by decide) (by decide));exact bsD)|(apply op_call (refrot_fn _ 11 (by decide) (by decide));exact bsD)|(apply op_call (refrot_fn _ 25 (by decide) (by decide));exact bsD)|(apply op_call (refrot_fn _ 2 (by decide) (by decide));exact bsD)|(apply op_call (refrot_fn _ 13 (by decide) (by decide));exact bsD)|(apply op_call (refrot_fn _ 22 (by decide) (by decide));exact bsD)|(apply op_gload u32W (v:=tbl.getD t 0) glob_k;rfl;rfl;exact ktable_at t h64)|(apply op_oload u32W (x:=(sched bs 64).getD t 0);rfl;exact bsM;(rw [Int.toNat_natCast];exact at_flat0 u32W.toTy (getD_at (k:=t) (by rw [sched_len];exact h64))))|(apply op_oload u32W;rfl;exact bsM;rfl)|(apply op_buildT (arrT 8 u32W (by decide)) ⟨[(v7+(rotr v4 6 ^^^ rotr v4 11 ^^^ rotr v4 25)+(v4 &&& v5 ^^^ ~~~v4 &&& v6)+tbl.getD t 0+(sched bs 64).getD t 0)+((rotr v0 2 ^^^ rotr v0 13 ^^^ rotr v0 22)+(v0 &&& v1 ^^^ v0 &&& v2 ^^^ v1 &&& v2)),v0,v1,v2,v3+(v7+(rotr v4 6 ^^^ rotr v4 11 ^^^ rotr v4 25)+(v4 &&& v5 ^^^ ~~~v4 &&& v6)+tbl.getD t 0+(sched bs 64).getD t 0),v4,v5,v6],rfl⟩;rfl;rfl;(repeat (first|exact BP.nil _|(apply BP.cons;rfl;rfl;exact bsS;rfl;rfl)));rfl)|(exact bsO))|refine bsA ?_|(apply Lq.al;rfl;rfl;intro b)|(apply Open.cons;intro b)|(apply J.drawN;exact mixed;kernel_rfl)|refine bsC ?_)
      refine E.again (t+1) (by omega) (by omega) ?_
      try dsimp only
      rw [hv']
      exact (Sub.same (by repeat' (first|exact trivial|refine ⟨rfl,?_⟩)))
    · obtain rfl:t=64:=by omega
      have hblk:block [s0,s1,s2,s3,s4,s5,s6,s7] bs=stp [s0,s1,s2,s3,s4,s5,s6,s7] [v0,v1,v2,v3,v4,v5,v6,v7] 8:=by unfold block;rw [hv];rfl
      try dsimp only
      rw [hv]
      repeat (first|((first|(apply Lq.s;rfl)|apply PRun.s|(apply Lq.run;rfl;rfl;rfl;exact bsB)|(apply PRun.run;rfl;rfl;exact bsB));first|(exact bsO))|refine bsA ?_|(apply Lq.al;rfl;rfl;intro b)|(apply Open.cons;intro b)|(apply J.drawN;exact mixed;kernel_rfl)|refine bsC ?_)
      refine J.loop (fun i:Nat=>i≤8) (fun i=>[(2,is (.pointer (some ⟨br,0,none⟩))),(3,is (.pointer (some ⟨b0,0,none⟩))),(4,is (str m)),(5,is (.int .i64 ((64*k:Nat):Int))),(7,is (.pointer (some ⟨b,0,none⟩))),(13,is (.int .i64 (i:Int)))])
        (fun i=>[own b0 120 (flat u32W.toTy (stp [s0,s1,s2,s3,s4,s5,s6,s7] [v0,v1,v2,v3,v4,v5,v6,v7] i)),own b 120 (flat u32W.toTy [v0,v1,v2,v3,v4,v5,v6,v7]),own bw 150 ((arrT 64 u32W (by decide)).cells ⟨sched bs 64,sched_len bs 64⟩),own br 37 (hashT.cells zeroH)]) (fun i=>8 - i) 0 (by decide) ?_ ?_
      · exact ⟨(by repeat' (first|exact trivial|refine ⟨rfl,?_⟩)),[],(((List.Perm.cons _ (List.Perm.swap _ _ _)).trans (List.Perm.swap _ _ _)):[_,_,_,_].Perm [_,_,_,_])⟩
      rintro i hi
      by_cases h8:i < 8
      · obtain rfl|rfl|rfl|rfl|rfl|rfl|rfl|rfl:i=0 ∨ i=1 ∨ i=2 ∨ i=3 ∨ i=4 ∨ i=5 ∨ i=6 ∨ i=7:=by omega
        all_goals
          repeat (first|((first|(apply Lq.s;rfl)|apply PRun.s|(apply Lq.run;rfl;rfl;rfl;exact bsB)|(apply PRun.run;rfl;rfl;exact bsB));first|(apply op_addw;rfl;rfl)|(apply op_xorw;rfl;rfl)|(apply op_andw;rfl;rfl)|(apply op_notw;rfl)|(apply op_oload u32W;rfl;exact bsM;rfl)|(exact bsO))|refine bsA ?_|(apply Lq.al;rfl;rfl;intro b)|(apply Open.cons;intro b)|(apply J.drawN;exact mixed;kernel_rfl)|refine bsC ?_)
        · exact E.again 1 (by decide) (by decide) (Sub.same (by repeat' (first|exact trivial|refine ⟨rfl,?_⟩)))
        · exact E.again 2 (by decide) (by decide) (Sub.same (by repeat' (first|exact trivial|refine ⟨rfl,?_⟩)))
        · exact E.again 3 (by decide) (by decide) (Sub.same (by repeat' (first|exact trivial|refine ⟨rfl,?_⟩)))
        · exact E.again 4 (by decide) (by decide) (Sub.same (by repeat' (first|exact trivial|refine ⟨rfl,?_⟩)))
        · exact E.again 5 (by decide) (by decide) (Sub.same (by repeat' (first|exact trivial|refine ⟨rfl,?_⟩)))
        · exact E.again 6 (by decide) (by decide) (Sub.same (by repeat' (first|exact trivial|refine ⟨rfl,?_⟩)))
        · exact E.again 7 (by decide) (by decide) (Sub.same (by repeat' (first|exact trivial|refine ⟨rfl,?_⟩)))
        · exact E.again 8 (by decide) (by decide) (Sub.same (by repeat' (first|exact trivial|refine ⟨rfl,?_⟩)))
      · obtain rfl:i=8:=by omega
        try dsimp only
        rw [← hblk, ← hstk]
        repeat (first|((first|(apply Lq.s;rfl)|apply PRun.s|(apply Lq.run;rfl;rfl;rfl;exact bsB)|(apply PRun.run;rfl;rfl;exact bsB));first|(apply op_add (c:=((64*(k+1):Nat):Int));rfl;rfl;(rw [show ((64*k:Nat):Int)+64=((64*(k+1):Nat):Int) by omega];apply wrapi <;> omega))|(exact bsO))|refine bsA ?_|(apply Lq.al;rfl;rfl;intro b)|(apply Open.cons;intro b)|(apply J.drawN;exact mixed;kernel_rfl)|refine bsC ?_)
        exact E.again (k+1) (by omega) (by omega) ⟨(by repeat' (first|exact trivial|refine ⟨rfl,?_⟩)),[_,_],((List.Perm.cons _ (List.perm_append_comm (l₁:=[_,_]) (l₂:=[_]))):[_,_,_,_].Perm ([_,_]++[_,_]))⟩
  · obtain rfl:k=m.length / 64:=by omega
    generalize stK m (m.length / 64)=st at *
    repeat (first|((first|(apply Lq.s;rfl)|apply PRun.s|(apply Lq.run;rfl;rfl;rfl;exact bsB)|(apply PRun.run;rfl;rfl;exact bsB));first|(exact bsO))|refine bsA ?_|(apply Lq.al;rfl;rfl;intro b)|(apply Open.cons;intro b)|(apply J.drawN;exact mixed;kernel_rfl)|refine bsC ?_)
    rename_i b0
    refine J.loop (fun i:Nat=>i≤32) (fun i=>[(2,is (.pointer (some ⟨br,0,none⟩))),(3,is (.pointer (some ⟨b0,0,none⟩))),(14,is (.pointer (some ⟨b,0,none⟩))),(15,is (.int .i64 (i:Int)))])
      (fun i=>[own b 37 (flat u8T.toTy (hb hh.1 i)),own b0 120 (flat u32W.toTy st),own br 37 (hashT.cells zeroH)]) (fun i=>32 - i) 0 (by decide) ?_ ?_
    · try dsimp only
      rw [show hb hh.1 0=List.replicate 32 0 from rfl]
      exact (Sub.same (by repeat' (first|exact trivial|refine ⟨rfl,?_⟩)))
    rintro i hi
    by_cases h32:i < 32
    · have hda:=digest_at hst h32
      rw [← hsha] at hda
      have hbs:=hb_set hdl hda
      have hq:st[i / 4]?=some (st.getD (i / 4) 0):=getD_at (by omega)
      repeat (first|((first|(apply Lq.s;rfl)|apply PRun.s|(apply Lq.run;rfl;rfl;rfl;exact bsB)|(apply PRun.run;rfl;rfl;exact bsB));first|(apply op_quon (m:=i) (n:=4);rfl;rfl;decide;omega)|(apply op_remn (m:=i) (n:=4);rfl;rfl;decide)|(apply op_mul (c:=((8*(i % 4):Nat):Int));rfl;rfl;(rw [show (8:Int)*((i % 4:Nat):Int)=((8*(i % 4):Nat):Int) by omega];apply wrapi <;> omega))|(apply op_sub (c:=((24 - 8*(i % 4):Nat):Int));rfl;rfl;(rw [show (24:Int) - ((8*(i % 4):Nat):Int)=((24 - 8*(i % 4):Nat):Int) by omega];apply wrapi <;> omega))|(apply op_oload u32W (x:=st.getD (i / 4) 0);rfl;exact bsM;(rw [Int.toNat_natCast];exact at_flat0 u32W.toTy hq))|(apply op_shrw (n:=24 - 8*(i % 4));rfl;rfl;omega)|(apply op_convwb;rfl)|(exact bsO))|refine bsA ?_|(apply Lq.al;rfl;rfl;intro b)|(apply Open.cons;intro b)|(apply J.drawN;exact mixed;kernel_rfl)|refine bsC ?_)
      rw [shr_toNat]
      refine Lq.storeE (φs':=flat u8T.toTy (hb hh.1 (i+1))) rfl rfl (List.Perm.refl _) (Seg.is rfl) rfl ?_ ?_ ?_
      · rw [flat_len,hb_len hdl hi]
        show 0+((i:Int)).toNat*1+1≤32*1
        omega
      · rw [← hbs,Int.toNat_natCast]
        exact set_flat0 u8T.toTy (by rw [hb_len hdl hi];exact h32)
      repeat (first|((first|(apply Lq.s;rfl)|apply PRun.s|(apply Lq.run;rfl;rfl;rfl;exact bsB)|(apply PRun.run;rfl;rfl;exact bsB));first|(exact bsO))|refine bsA ?_|(apply Lq.al;rfl;rfl;intro b)|(apply Open.cons;intro b)|(apply J.drawN;exact mixed;kernel_rfl)|refine bsC ?_)
      exact E.again (i+1) (by omega) (by omega) (Sub.same (by repeat' (first|exact trivial|refine ⟨rfl,?_⟩)))
    · obtain rfl:i=32:=by omega
      have hall:hb hh.1 32=hh.1:=by
        unfold hb
        rw [List.take_of_length_le (Nat.le_of_eq hdl)]
        exact List.append_nil _
      try dsimp only
      rw [hall]
      repeat (first|((first|(apply Lq.s;rfl)|apply PRun.s|(apply Lq.run;rfl;rfl;rfl;exact bsB)|(apply PRun.run;rfl;rfl;exact bsB));first|(apply op_oload hashT (x:=hh);rfl;exact bsM;exact List.take_of_length_le (Nat.le_of_eq (hashT.len _)))|(exact bsO))|refine bsA ?_|(apply Lq.al;rfl;rfl;intro b)|(apply Open.cons;intro b)|(apply J.drawN;exact mixed;kernel_rfl)|refine bsC ?_)
      refine Lq.storeE (φs':=hashT.cells hh) rfl rfl (((List.Perm.cons _ (List.Perm.swap _ _ _)).trans (List.Perm.swap _ _ _)):[_,_,_].Perm [_,_,_]) (Seg.val hashT _) (hashT.len _) (Nat.le_refl 32) (whole_store rfl (hashT.len _)) ?_
      repeat (first|((first|(apply Lq.s;rfl)|apply PRun.s|(apply Lq.run;rfl;rfl;rfl;exact bsB)|(apply PRun.run;rfl;rfl;exact bsB));first|(exact bsO))|refine bsA ?_|(apply Lq.al;rfl;rfl;intro b)|(apply Open.cons;intro b)|(apply J.drawN;exact mixed;kernel_rfl)|refine bsC ?_)
      (refine J.ret ?_;(repeat (first|refine E.then_ret ?_|refine E.in_ret ?_)))
      exact E.retc hashT (x:=hh) rfl rfl List.mem_cons_self (List.take_of_length_le (Nat.le_of_eq (hashT.len _))) rfl
end Go.Proofs.YtljbbajelkkafaaDoor.L
/-
  The document's leaves and nodes,walked.
-/
namespace Go.Proofs.YtljbbajelkkafaaDoor.L
open Go
set_option linter.unusedSectionVars false
variable [Globs] [Has_sha_table] [Has_sha_begin]
variable [Has_ref02_k]
set_option linter.unusedVariables false
set_option linter.unusedSimpArgs false
attribute [local irreducible] J Lq E OpP PRun is any agg tup ptr sl
attribute [local irreducible] shaH ownAt row
theorem refleaf_fn (s:List UInt8) (hs:s.length≤900000):Fn Tryd.prog 69 [is (str s)] (hashT.val (shaH ([0]++s))):=by
  refine Fn.mk' 6 Tryd.func69 rfl rfl rfl rfl fun w0 H0=>?_
  repeat (first|((first|(apply Lq.s;rfl)|apply PRun.s|(apply Lq.run;rfl;rfl;rfl;exact bsB)|(apply PRun.run;rfl;rfl;exact bsB));first|(apply op_sadd;rfl;rfl;(show 1+s.length≤_;omega))|(apply op_call (refsum_fn ([0]++s) (by simp;omega));exact bsD)|(exact bsO))|refine bsA ?_|(apply Lq.al;rfl;rfl;intro b)|(apply Open.cons;intro b)|(apply J.drawN;exact mixed;kernel_rfl)|refine bsC ?_)
  (apply Lq.store;rfl;rfl;exact List.Perm.refl _;exact Seg.val _ _;exact hashT.len _;rfl)
  repeat (first|((first|(apply Lq.s;rfl)|apply PRun.s|(apply Lq.run;rfl;rfl;rfl;exact bsB)|(apply PRun.run;rfl;rfl;exact bsB));first|(exact bsO))|refine bsA ?_|(apply Lq.al;rfl;rfl;intro b)|(apply Open.cons;intro b)|(apply J.drawN;exact mixed;kernel_rfl)|refine bsC ?_)
  (refine J.ret ?_;(repeat (first|refine E.then_ret ?_|refine E.in_ret ?_)))
  exact E.retc hashT (x:=shaH ([0]++s)) rfl rfl List.mem_cons_self (show (List.take 0 _++hashT.cells _++List.drop _ _).take 32=_ from by rw [List.take_zero,List.nil_append];exact List.take_left' (hashT.len _)) rfl
end Go.Proofs.YtljbbajelkkafaaDoor.L
