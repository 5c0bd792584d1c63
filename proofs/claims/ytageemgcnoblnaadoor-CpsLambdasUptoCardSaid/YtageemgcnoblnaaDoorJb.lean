/- Some texts of the proof, joined. Condition: none. -/
import Derived.Test.YtageemgcnoblnaaDoorJa
import Derived.Test.YtageemgcnoblnaaDoorTmE
import Derived.Test.YtageemgcnoblnaaDoorTmF
set_option maxRecDepth 100000
set_option maxHeartbeats 64000000
set_option linter.unusedSimpArgs false
set_option linter.unusedVariables false
namespace Go.Proofs.YtageemgcnoblnaaDoor
open Go Go.TM
structure AllOK (b0 : Int) (n : Nat) : Prop where
 v : ValueOK b0 n
 vs : ValuesOK b0 n
 l : LamOK b0 n
 d : LaidOK b0 n
 c : CodeOK b0 n
 t : CtlOK b0 n
 s : SeqOK b0 n
theorem allOK {b0 : Int} (hb0 : 0 ≤ b0 ∧ b0 ≤ 1152921504606846976) : ∀ N n,n ≤ N → AllOK b0 n
 | 0,n,h => by
  obtain rfl : n = 0 := by omega
  refine ⟨?_,?_,?_,?_,?_,?_,?_⟩
  ·intro e σ x S jm jf hx; simp [valueM] at hx
  ·intro l g σ x S jm jf hx; simp [valuesM] at hx
  ·intro e σ x S jm jf hx; simp [lambdaM] at hx
  ·intro l r t σ x S jm jf hx; simp [laidM] at hx
  ·intro e k0 k1 σ x S jm jf hx; simp [codeM] at hx
  ·intro e k0 k1 σ x S jm jf hx; simp [ctlM] at hx
  ·intro l g k0 k1 σ x S jm jf hx; simp [seqM] at hx
 | N + 1,n,h => by
  have ih := allOK hb0 N
  by_cases h1 : n ≤ N
  ·exact ih n h1
  ·obtain rfl : n = N + 1 := by omega
   have a := ih N (Nat.le_refl _)
   exact ⟨value_step hb0 a.l a.vs,values_step fun m hm => (ih m hm).v,lam_step hb0 a.c,laid_step hb0 fun m hm => (ih m hm).c,code_step hb0 a.v a.vs a.d a.c a.t a.s,ctl_step hb0 a.vs a.d,seq_step hb0 a.c (fun m hm => (ih m hm).vs) fun m hm => (ih m hm).d⟩
def setsF : Nat → Ex → Bool
 | 0,_ => false
 | n + 1,e => decide (e.k = 4) || e.ks.any (setsF n)
theorem loop70 {n : Nat} (ih : ∀ e : Ex,e.w ≤ n → ∀ S,(lim K).call 19 [.iv (.agg (encE e))] S = .ret (.iv (.bool (setsF n e)),S)) {g : Tag} {ks : List Ex} (hw : ∀ x ∈ ks,x.w ≤ n) (hl : ks.length ≤ 1048576) (x0 x1 x2 : TV) (S : Store) : ∀ (k i : Nat) (x2 x3 x6 x7 : TV),i + k = ks.length →
  ∃ j y2 y3 y5 y6 y7,lp' (lim K) t70L0 [.iv (.sl g (encEs ks)),.fn 19 [] [],x2,x3,.iv (.int .i64 ks.length),.iv (.int .i64 i),x6,x7] S = .ret (j,[.iv (.sl g (encEs ks)),.fn 19 [] [],y2,y3,.iv (.int .i64 ks.length),y5,y6,y7],S) ∧
   ((j = .exit 0 ∧ (ks.drop i).any (setsF n) = false) ∨ (j = .ret ∧ (ks.drop i).any (setsF n) = true ∧ ∃ q : Nat,y2 = .iv (.int .i64 q)))
 | 0,i,x2,x3,x6,x7,h => by
  obtain rfl : i = ks.length := by omega
  refine ⟨.exit 0,x2,x3,.iv (.int .i64 ks.length),.iv (.bool false),x7,loop_at K _ _ t70L0.eq_1 ?_,.inl ⟨rfl,by rw [List.drop_length]; rfl⟩⟩
  simp (config := { maxSteps := 4000000 }) (disch := omega) only [go_sem]
 | k + 1,i,x2,x3,x6,x7,h => by
  have hla : i < ks.length := by omega
  have hix : indexAddrS 5 (.iv (.sl g (encEs ks))) (i : Int) = some (.iv (.cp (encE ks[i]))) := by
   refine ix_ok (by omega) ?_ (encE_len _)
   rw [Int.toNat_natCast,encEs_map,List.getElem?_map,List.getElem?_eq_getElem hla]
   rfl
  have hc := pure_ret (ih ks[i] (hw _ (List.getElem_mem _)) []) rfl
  have hdr := List.drop_eq_getElem_cons hla
  rw [encE_eq] at hix hc
  cases hs : setsF n ks[i] with
  | true =>
   rw [hs] at hc
   refine ⟨.ret,.iv (.int .i64 (i : Nat)),.iv (.int .i64 (i : Nat)),.iv (.int .i64 (i : Nat)),.iv (.bool true),.iv (.bool true),loop_at K _ _ t70L0.eq_1 ?_,.inr ⟨rfl,by rw [hdr,List.any_cons,hs]; rfl,i,rfl⟩⟩
   simp (config := { maxSteps := 4000000 }) (disch := omega) only [go_sem,hix,get_cp5,cpR_pure hc]
  | false =>
   rw [hs] at hc
   obtain ⟨j,y2,y3,y5,y6,y7,hlp,hj⟩ := loop70 ih hw hl x0 x1 x2 S k (i + 1) x2 (.iv (.int .i64 (i : Nat))) (.iv (.bool true)) (.iv (.bool false)) (by omega)
   refine ⟨j,y2,y3,y5,y6,y7,loop_at K _ _ t70L0.eq_1 ?_,by rw [hdr,List.any_cons,hs]; exact hj⟩
   rw [show ((i + 1 : Nat) : Int) = (i : Int) + 1 by omega] at hlp
   simp (config := { maxSteps := 4000000 }) (disch := omega) only [go_sem,hix,get_cp5,cpR_pure hc,wrap_i64]
   exact congrArg er hlp
theorem call19 : ∀ (n : Nat) (e : Ex),e.w ≤ n → n ≤ 1048576 → ∀ S,(lim K).call 19 [.iv (.agg (encE e))] S = .ret (.iv (.bool (setsF n e)),S)
 | 0,e,hw,_,S => by have := Ex.w_eq e; omega
 | n + 1,e,hw,hn,S => by
  have hkl := Ex.ws_len e.ks
  have hwe := Ex.w_eq e
  have ih : ∀ x : Ex,x.w ≤ n → ∀ S,(lim K).call 19 [.iv (.agg (encE x))] S = .ret (.iv (.bool (setsF n x)),S) := fun x hx S => call19 n x hx (by omega) S
  obtain ⟨j,y2,y3,y5,y6,y7,hlp,hj⟩ := loop70 ih (g := e.g) (ks := e.ks) (fun x hx => by have := Ex.kid_lt hx; omega) (by omega) (.tup []) (.tup []) (.tup []) S e.ks.length 0 (.iv (.int .i64 0)) (.tup []) (.tup []) (.tup []) (by omega)
  rw [List.drop_zero] at hj
  have hle := encEs_len e.ks
  have c70 : ∃ q : Int,(lim K).call 70 [.iv (.sl e.g (encEs e.ks)),.fn 19 [] []] S = .ret (.iv (.int .i64 q),S) ∧ decide (0 ≤ q) = e.ks.any (setsF n) := by
   rcases hj with ⟨rfl,ha⟩ | ⟨rfl,ha,q,rfl⟩
   ·refine ⟨-1,call_ret' K _ (fn := t70) rfl rfl ?_,by rw [ha]; rfl⟩
    simp (config := { maxSteps := 4000000 }) (disch := omega) only [t70,go_sem,TM.undef,hle]
    rw [show ((0 : Nat) : Int) = 0 from rfl] at hlp
    rw [hlp]
    simp (config := { maxSteps := 4000000 }) (disch := omega) only [go_sem]
   ·refine ⟨q,call_ret' K _ (fn := t70) rfl rfl ?_,by rw [ha]; simp⟩
    simp (config := { maxSteps := 4000000 }) (disch := omega) only [t70,go_sem,TM.undef,hle]
    rw [show ((0 : Nat) : Int) = 0 from rfl] at hlp
    rw [hlp]
    simp (config := { maxSteps := 4000000 }) (disch := omega) only [go_sem]
  obtain ⟨q,c70,hq⟩ := c70
  have c43 : (lim K).call 43 [.iv (.sl e.g (encEs e.ks)),.fn 19 [] []] S = .ret (.iv (.bool (e.ks.any (setsF n))),S) := by
   refine call_ret' K _ (fn := t43) rfl rfl ?_
   rw [← hq]
   simp (config := { maxSteps := 4000000 }) (disch := omega) only [t43,go_sem,TM.undef,c70]
  refine call_ret' K _ (fn := t19) rfl rfl ?_
  rw [encE_eq,setsF]
  by_cases h4 : e.k = 4
  ·simp (config := { maxSteps := 4000000 }) (disch := omega) only [t19,go_sem,TM.undef,h4,c43]
  ·simp (config := { maxSteps := 4000000 }) (disch := omega) only [t19,go_sem,TM.undef,h4,c43]
def isC (c : Int) : Bool := decide (0 ≤ c) && decide (c ≤ 1114111) && (decide (c < 55296) || decide (57343 < c))
theorem isC_iff (c : Int) : isC c = true ↔ 0 ≤ c ∧ c ≤ 1114111 ∧ (c < 55296 ∨ 57343 < c) := by
 simp [isC]; omega
theorem call103 (c : Int) : (lim K).call 103 [.iv (.int .i32 c)] [] = .ret (.iv (.bool (isC c)),[]) := by
 refine call_ret' K [] (fn := t103) rfl rfl ?_
 simp only [t103,go_sem]
 repeat' (first | (first | refine br_dec' (fun h => ?_) (fun h => ?_) | refine br_beq' (fun h => ?_) (fun h => ?_) | refine br_bne' (fun h => ?_) (fun h => ?_) | refine br_eq' (fun h => ?_) (fun h => ?_)) | simp (disch := omega) only [go_sem])
 all_goals (congr 4; simp [isC, *]; try omega)
theorem call86 (c : Int) : (lim K).call 86 [.iv (.int .i64 c)] [] = .ret (.iv (.bool (isC c)),[]) := by
 refine call_ret' K [] (fn := t86) rfl rfl ?_
 simp only [t86,go_sem]
 repeat' (first | (first | refine br_dec' (fun h => ?_) (fun h => ?_) | refine br_beq' (fun h => ?_) (fun h => ?_) | refine br_bne' (fun h => ?_) (fun h => ?_) | refine br_eq' (fun h => ?_) (fun h => ?_)) | simp (disch := omega) only [go_sem,call103,wrap_i32])
 all_goals (congr 4; simp [isC, *])
 all_goals (try omega)
def bytes (c : Int) : List UInt8 := (Utf8.encode c).data.toList
def bytesR (c : Int) : List UInt8 :=
 if c < 128 then [UInt8.ofNat c.toNat]
 else if c < 2048 then [UInt8.ofNat (192 + c.toNat / 64),UInt8.ofNat (128 + c.toNat % 64)]
 else if c < 65536 then [UInt8.ofNat (224 + c.toNat / 4096),UInt8.ofNat (128 + c.toNat / 64 % 64),UInt8.ofNat (128 + c.toNat % 64)]
 else [UInt8.ofNat (240 + c.toNat / 262144),UInt8.ofNat (128 + c.toNat / 4096 % 64),UInt8.ofNat (128 + c.toNat / 64 % 64),UInt8.ofNat (128 + c.toNat % 64)]
def tab (n : Nat) : Nat :=
 if n < 128 then 240 else if n < 194 then 241 else if n < 224 then 2 else if n = 224 then 19 else if n < 237 then 3 else if n = 237 then 35 else if n < 240 then 3 else if n = 240 then 52 else if n < 244 then 4 else if n = 244 then 68 else 241
theorem tab_all : (List.range 256).all (fun n => match g0[n]? with | some (.int .u8 m) => m == (tab n : Int) | _ => false) = true := by kernel_rfl
theorem tab_get {n : Nat} (h : n < 256) : g0[n]? = some (.int .u8 (tab n)) := by
 have := List.all_eq_true.1 tab_all n (List.mem_range.2 h)
 split at this
 ·rename_i m e; rw [e]; simp at this; rw [this]
 ·cases this
theorem hK0 : K.glob 0 = some g0 := rfl
theorem hK1 : K.glob 1 = some g1 := rfl
theorem g0_len : g0.length = 256 := by kernel_rfl
def fol (b : UInt8) : Bool := decide (128 ≤ b.toNat) && decide (b.toNat ≤ 191)
def D : List UInt8 → Nat × Nat
 | [] => (65533,0)
 | a :: r =>
  if a.toNat < 128 then (a.toNat,1)
  else if a.toNat < 194 then (65533,1)
  else if a.toNat < 224 then match r with
   | b :: _ => if fol b then (a.toNat % 32 * 64 + b.toNat % 64,2) else (65533,1)
   | _ => (65533,1)
  else if a.toNat < 240 then match r with
   | b :: c :: _ => if (decide ((if a.toNat = 224 then 160 else 128) ≤ b.toNat) && decide (b.toNat ≤ (if a.toNat = 237 then 159 else 191))) && fol c then (a.toNat % 16 * 4096 + b.toNat % 64 * 64 + c.toNat % 64,3) else (65533,1)
   | _ => (65533,1)
  else if a.toNat < 245 then match r with
   | b :: c :: d :: _ => if (decide ((if a.toNat = 240 then 144 else 128) ≤ b.toNat) && decide (b.toNat ≤ (if a.toNat = 244 then 143 else 191))) && fol c && fol d then (a.toNat % 8 * 262144 + b.toNat % 64 * 4096 + c.toNat % 64 * 64 + d.toNat % 64,4) else (65533,1)
   | _ => (65533,1)
  else (65533,1)
theorem bl (b : UInt8) : b.toNat < 256 := b.toNat_lt
theorem cons_bytes (a : UInt8) (r : List UInt8) : bytesIV (a :: r) = [.int .u8 a.toNat] :: bytesIV r := rfl
theorem call130_nil (t : Tag) : (lim K).call 130 [.iv (.sl t (bytesIV []))] [] = .ret (.tup [.iv (.int .i32 65533),.iv (.int .i64 0)],[]) := by
 refine call_ret' K [] (fn := t130) rfl rfl ?_
 simp (disch := omega) only [t130,go_sem]
theorem ixA0 {a : UInt8} : ixA 256 1 (.iv (.cp g0)) (.iv (.int .u8 a.toNat)) = some (.iv (.cp (g0.drop a.toNat))) := by
 have := bl a
 rw [ixA_int]
 have h : (0 : Int) ≤ (a.toNat : Int) ∧ (a.toNat : Int) < ((256 : Nat) : Int) := by omega
 simp only [h,and_self,↓reduceIte,Int.toNat_natCast,Nat.mul_one]
 exact addOff_cp (by rw [g0_len]; omega)
theorem ld0 {a : UInt8} (env : Env) (S : Store) : getCells env S (.iv (.cp (g0.drop a.toNat))) 1 = some [.iv (.int .u8 (tab a.toNat))] := get_drop (tab_get (bl a))
theorem w2 : IntKind.u8.wrap (bAnd 8 2 7) = 2 := by decide
theorem w240 : IntKind.i32.wrap 515396075520 = 0 := by decide
theorem w240' : IntKind.i32.wrap 240 = 240 := by decide
theorem w241 : IntKind.i32.wrap 517543559168 = -2147483648 := by decide
theorem w241' : IntKind.i32.wrap 241 = 241 := by decide
theorem m0 : IntKind.i32.wrap (bAnd 32 65533 0) = 0 := by decide
theorem i32_or0 {a : Int} (h : 0 ≤ a ∧ a ≤ 2147483647) : IntKind.i32.wrap (bOr 32 a 0) = a := by
 have e : BitVec.ofInt 32 a ||| BitVec.ofInt 32 0 = BitVec.ofInt 32 a := by simp
 unfold bOr
 rw [e,ofInt_toNat ⟨h.1,by omega⟩,wrap_i32 (by omega)]
 omega
theorem m1 : IntKind.i32.wrap (bAnd 32 65533 (-1)) = 65533 := by decide
theorem o1 : IntKind.i32.wrap (bOr 32 0 65533) = 65533 := by decide
set_option maxHeartbeats 4000000 in
theorem c30_ascii (t : Tag) (a : UInt8) (r : List UInt8) (h1 : a.toNat < 128) : (lim K).call 130 [.iv (.sl t (bytesIV (a :: r)))] [] = .ret (.tup [.iv (.int .i32 a.toNat),.iv (.int .i64 1)],[]) := by
 have ha := bl a
 refine call_ret' K [] (fn := t130) rfl rfl ?_
 have ht : tab a.toNat = 240 := by simp [tab]; omega
 simp (disch := omega) only [t130,go_sem,cons_bytes,Int.natCast_add,Int.cast_ofNat_Int,indexAddrS,hK0,hK1,ixA0,ld0,ht,w240,w240',ti32_andNot0,m0,wrap_i32,i32_or0]
set_option maxHeartbeats 4000000 in
theorem c30_bad (t : Tag) (a : UInt8) (r : List UInt8) (h1 : tab a.toNat = 241) : (lim K).call 130 [.iv (.sl t (bytesIV (a :: r)))] [] = .ret (.tup [.iv (.int .i32 65533),.iv (.int .i64 1)],[]) := by
 have ha := bl a
 refine call_ret' K [] (fn := t130) rfl rfl ?_
 simp (disch := omega) only [t130,go_sem,cons_bytes,Int.natCast_add,Int.cast_ofNat_Int,indexAddrS,hK0,hK1,ixA0,ld0,h1,w241,w241',ti32_andNot1,m1,o1,wrap_i32]
theorem D_ascii (a : UInt8) (r : List UInt8) (h : a.toNat < 128) : D (a :: r) = (a.toNat,1) := by simp [D,h]
theorem D_bad (a : UInt8) (r : List UInt8) (h : 128 ≤ a.toNat ∧ a.toNat < 194 ∨ 245 ≤ a.toNat) : D (a :: r) = (65533,1) := by
 have h1 : ¬ a.toNat < 128 := by omega
 by_cases h2 : a.toNat < 194
 ·simp [D,h1,h2]
 ·have h3 : ¬ a.toNat < 224 := by omega
  have h4 : ¬ a.toNat < 240 := by omega
  have h5 : ¬ a.toNat < 245 := by omega
  simp [D,h1,h2,h3,h4,h5]
theorem D_two (a : UInt8) (r : List UInt8) (h : 194 ≤ a.toNat ∧ a.toNat < 224) : D (a :: r) = match r with
      | b :: _ => if fol b then (a.toNat % 32 * 64 + b.toNat % 64,2) else (65533,1)
      | _ => (65533,1) := by
  have h1 : ¬ a.toNat < 128 := by omega
  have h2 : ¬ a.toNat < 194 := by omega
  simp only [D,h1,h2,h.2,↓reduceIte]
theorem D_three (a : UInt8) (r : List UInt8) (h : 224 ≤ a.toNat ∧ a.toNat < 240) : D (a :: r) = match r with
      | b :: c :: _ => if (decide ((if a.toNat = 224 then 160 else 128) ≤ b.toNat) && decide (b.toNat ≤ (if a.toNat = 237 then 159 else 191))) && fol c then (a.toNat % 16 * 4096 + b.toNat % 64 * 64 + c.toNat % 64,3) else (65533,1)
      | _ => (65533,1) := by
  have h1 : ¬ a.toNat < 128 := by omega
  have h2 : ¬ a.toNat < 194 := by omega
  have h3 : ¬ a.toNat < 224 := by omega
  simp only [D,h1,h2,h3,h.2,↓reduceIte]
theorem D_four (a : UInt8) (r : List UInt8) (h : 240 ≤ a.toNat ∧ a.toNat < 245) : D (a :: r) = match r with
      | b :: c :: d :: _ => if (decide ((if a.toNat = 240 then 144 else 128) ≤ b.toNat) && decide (b.toNat ≤ (if a.toNat = 244 then 143 else 191))) && fol c && fol d then (a.toNat % 8 * 262144 + b.toNat % 64 * 4096 + c.toNat % 64 * 64 + d.toNat % 64,4) else (65533,1)
      | _ => (65533,1) := by
  have h1 : ¬ a.toNat < 128 := by omega
  have h2 : ¬ a.toNat < 194 := by omega
  have h3 : ¬ a.toNat < 224 := by omega
  have h4 : ¬ a.toNat < 240 := by omega
  simp only [D,h1,h2,h3,h4,h.2,↓reduceIte]
theorem fol_t {b : UInt8} (h : 128 ≤ b.toNat ∧ b.toNat ≤ 191) : fol b = true := by simp [fol]; omega
theorem fol_f {b : UInt8} (h : ¬ (128 ≤ b.toNat ∧ b.toNat ≤ 191)) : fol b = false := by simp [fol]; omega
theorem D2_ok (a b : UInt8) (r : List UInt8) (h : 194 ≤ a.toNat ∧ a.toNat < 224) (hb : 128 ≤ b.toNat ∧ b.toNat ≤ 191) : D (a :: b :: r) = (a.toNat % 32 * 64 + b.toNat % 64,2) := by
 rw [D_two a _ h]; simp [fol_t hb]
theorem D2_no (a b : UInt8) (r : List UInt8) (h : 194 ≤ a.toNat ∧ a.toNat < 224) (hb : ¬ (128 ≤ b.toNat ∧ b.toNat ≤ 191)) : D (a :: b :: r) = (65533,1) := by
 rw [D_two a _ h]; simp [fol_f hb]
theorem D3_ok (a b c : UInt8) (r : List UInt8) (h : 224 ≤ a.toNat ∧ a.toNat < 240) (hb : (a.toNat = 224 → 160 ≤ b.toNat) ∧ 128 ≤ b.toNat ∧ (a.toNat = 237 → b.toNat ≤ 159) ∧ b.toNat ≤ 191) (hc : 128 ≤ c.toNat ∧ c.toNat ≤ 191) : D (a :: b :: c :: r) = (a.toNat % 16 * 4096 + b.toNat % 64 * 64 + c.toNat % 64,3) := by
 rw [D_three a _ h]
 have e1 : (if a.toNat = 224 then 160 else 128) ≤ b.toNat := by split <;> omega
 have e2 : b.toNat ≤ (if a.toNat = 237 then 159 else 191) := by split <;> omega
 simp only [fol_t hc,e1,e2,decide_true,Bool.and_self,↓reduceIte]
theorem D3_no (a b c : UInt8) (r : List UInt8) (h : 224 ≤ a.toNat ∧ a.toNat < 240) (hb : ¬ ((a.toNat = 224 → 160 ≤ b.toNat) ∧ 128 ≤ b.toNat ∧ (a.toNat = 237 → b.toNat ≤ 159) ∧ b.toNat ≤ 191) ∨ ¬ (128 ≤ c.toNat ∧ c.toNat ≤ 191)) : D (a :: b :: c :: r) = (65533,1) := by
 rw [D_three a _ h]
 simp only [fol,Bool.and_eq_true,decide_eq_true_eq]
 rw [if_neg]
 intro ⟨⟨h1,h2⟩,h3⟩
 split at h1 <;> split at h2 <;> omega
theorem D4_ok (a b c d : UInt8) (r : List UInt8) (h : 240 ≤ a.toNat ∧ a.toNat < 245) (hb : (a.toNat = 240 → 144 ≤ b.toNat) ∧ 128 ≤ b.toNat ∧ (a.toNat = 244 → b.toNat ≤ 143) ∧ b.toNat ≤ 191) (hc : 128 ≤ c.toNat ∧ c.toNat ≤ 191) (hd : 128 ≤ d.toNat ∧ d.toNat ≤ 191) : D (a :: b :: c :: d :: r) = (a.toNat % 8 * 262144 + b.toNat % 64 * 4096 + c.toNat % 64 * 64 + d.toNat % 64,4) := by
 rw [D_four a _ h]
 have e1 : (if a.toNat = 240 then 144 else 128) ≤ b.toNat := by split <;> omega
 have e2 : b.toNat ≤ (if a.toNat = 244 then 143 else 191) := by split <;> omega
 simp only [fol_t hc,fol_t hd,e1,e2,decide_true,Bool.and_self,↓reduceIte]
theorem D4_no (a b c d : UInt8) (r : List UInt8) (h : 240 ≤ a.toNat ∧ a.toNat < 245) (hb : ¬ ((a.toNat = 240 → 144 ≤ b.toNat) ∧ 128 ≤ b.toNat ∧ (a.toNat = 244 → b.toNat ≤ 143) ∧ b.toNat ≤ 191) ∨ ¬ (128 ≤ c.toNat ∧ c.toNat ≤ 191) ∨ ¬ (128 ≤ d.toNat ∧ d.toNat ≤ 191)) : D (a :: b :: c :: d :: r) = (65533,1) := by
 rw [D_four a _ h]
 simp only [fol,Bool.and_eq_true,decide_eq_true_eq]
 rw [if_neg]
 intro ⟨⟨⟨h1,h2⟩,h3⟩,h4⟩
 split at h1 <;> split at h2 <;> omega
set_option maxHeartbeats 8000000 in
theorem c30_two (t : Tag) (a : UInt8) (r : List UInt8) (h1 : tab a.toNat = 2) (h2 : 194 ≤ a.toNat ∧ a.toNat < 224) : (lim K).call 130 [.iv (.sl t (bytesIV (a :: r)))] [] = .ret (.tup [.iv (.int .i32 (D (a :: r)).1),.iv (.int .i64 (D (a :: r)).2)],[]) := by
 have ha := bl a
 refine call_ret' K [] (fn := t130) rfl rfl ?_
 have e0 : addOff (.iv (.cp g1)) 0 = some (.iv (.cp g1)) := rfl
 have e1 : ∀ env S,getCells env S (.iv (.cp g1)) 2 = some [.iv (.int .u8 128),.iv (.int .u8 191)] := fun _ _ => rfl
 have sz : IntKind.u8.wrap (bAnd 8 2 7) = 2 := by decide
 cases r with
 | nil =>
  simp (disch := omega) only [t130,go_sem,cons_bytes,Int.natCast_add,Int.cast_ofNat_Int,indexAddrS,hK0,hK1,ixA0,ld0,h1,wrap_i32,wrap_i64,e0,e1,sz,tu8_and31,tu8_and15,tu8_and7,tu8_and63,ti32_or6,ti32_or12,ti32_or18]
  repeat' (first | (first | refine br_dec' (fun h => ?_) (fun h => ?_) | refine br_beq' (fun h => ?_) (fun h => ?_) | refine br_bne' (fun h => ?_) (fun h => ?_) | refine br_eq' (fun h => ?_) (fun h => ?_)) | simp (disch := omega) only [go_sem,cons_bytes,Int.natCast_add,Int.cast_ofNat_Int,indexAddrS,hK0,hK1,ixA0,ld0,h1,wrap_i32,wrap_i64,e0,e1,sz,tu8_and31,tu8_and15,tu8_and7,tu8_and63,ti32_or6,ti32_or12,ti32_or18])
  all_goals (rw [D_two a _ (by omega)]; rfl)
 | cons b r =>
  have hb := bl b; simp (disch := omega) only [t130,go_sem,cons_bytes,Int.natCast_add,Int.cast_ofNat_Int,indexAddrS,hK0,hK1,ixA0,ld0,h1,wrap_i32,wrap_i64,e0,e1,sz,tu8_and31,tu8_and15,tu8_and7,tu8_and63,ti32_or6,ti32_or12,ti32_or18]
  repeat' (first | (first | refine br_dec' (fun h => ?_) (fun h => ?_) | refine br_beq' (fun h => ?_) (fun h => ?_) | refine br_bne' (fun h => ?_) (fun h => ?_) | refine br_eq' (fun h => ?_) (fun h => ?_)) | simp (disch := omega) only [go_sem,cons_bytes,Int.natCast_add,Int.cast_ofNat_Int,indexAddrS,hK0,hK1,ixA0,ld0,h1,wrap_i32,wrap_i64,e0,e1,sz,tu8_and31,tu8_and15,tu8_and7,tu8_and63,ti32_or6,ti32_or12,ti32_or18])
  all_goals (first | (rw [D2_no a b _ (by omega) (by omega)]; rfl) | (rw [D2_ok a b _ (by omega) (by omega)]; simp))
set_option maxHeartbeats 8000000 in
theorem c30_e0 (t : Tag) (a : UInt8) (r : List UInt8) (h1 : tab a.toNat = 19) (h2 : a.toNat = 224) : (lim K).call 130 [.iv (.sl t (bytesIV (a :: r)))] [] = .ret (.tup [.iv (.int .i32 (D (a :: r)).1),.iv (.int .i64 (D (a :: r)).2)],[]) := by
 have ha := bl a
 refine call_ret' K [] (fn := t130) rfl rfl ?_
 have e0 : addOff (.iv (.cp g1)) 2 = some (.iv (.cp (g1.drop 2))) := rfl
 have e1 : ∀ env S,getCells env S (.iv (.cp (g1.drop 2))) 2 = some [.iv (.int .u8 160),.iv (.int .u8 191)] := fun _ _ => rfl
 have sz : IntKind.u8.wrap (bAnd 8 19 7) = 3 := by decide
 cases r with
 | nil =>
  simp (disch := omega) only [t130,go_sem,cons_bytes,Int.natCast_add,Int.cast_ofNat_Int,indexAddrS,hK0,hK1,ixA0,ld0,h1,wrap_i32,wrap_i64,e0,e1,sz,tu8_and31,tu8_and15,tu8_and7,tu8_and63,ti32_or6,ti32_or12,ti32_or18]
  repeat' (first | (first | refine br_dec' (fun h => ?_) (fun h => ?_) | refine br_beq' (fun h => ?_) (fun h => ?_) | refine br_bne' (fun h => ?_) (fun h => ?_) | refine br_eq' (fun h => ?_) (fun h => ?_)) | simp (disch := omega) only [go_sem,cons_bytes,Int.natCast_add,Int.cast_ofNat_Int,indexAddrS,hK0,hK1,ixA0,ld0,h1,wrap_i32,wrap_i64,e0,e1,sz,tu8_and31,tu8_and15,tu8_and7,tu8_and63,ti32_or6,ti32_or12,ti32_or18])
  all_goals (rw [D_three a _ (by omega)]; rfl)
 | cons b r =>
  cases r with
  | nil =>
   have hb := bl b; simp (disch := omega) only [t130,go_sem,cons_bytes,Int.natCast_add,Int.cast_ofNat_Int,indexAddrS,hK0,hK1,ixA0,ld0,h1,wrap_i32,wrap_i64,e0,e1,sz,tu8_and31,tu8_and15,tu8_and7,tu8_and63,ti32_or6,ti32_or12,ti32_or18]
   repeat' (first | (first | refine br_dec' (fun h => ?_) (fun h => ?_) | refine br_beq' (fun h => ?_) (fun h => ?_) | refine br_bne' (fun h => ?_) (fun h => ?_) | refine br_eq' (fun h => ?_) (fun h => ?_)) | simp (disch := omega) only [go_sem,cons_bytes,Int.natCast_add,Int.cast_ofNat_Int,indexAddrS,hK0,hK1,ixA0,ld0,h1,wrap_i32,wrap_i64,e0,e1,sz,tu8_and31,tu8_and15,tu8_and7,tu8_and63,ti32_or6,ti32_or12,ti32_or18])
   all_goals (rw [D_three a _ (by omega)]; rfl)
  | cons c r =>
   have hb := bl b; have hc := bl c; simp (disch := omega) only [t130,go_sem,cons_bytes,Int.natCast_add,Int.cast_ofNat_Int,indexAddrS,hK0,hK1,ixA0,ld0,h1,wrap_i32,wrap_i64,e0,e1,sz,tu8_and31,tu8_and15,tu8_and7,tu8_and63,ti32_or6,ti32_or12,ti32_or18]
   repeat' (first | (first | refine br_dec' (fun h => ?_) (fun h => ?_) | refine br_beq' (fun h => ?_) (fun h => ?_) | refine br_bne' (fun h => ?_) (fun h => ?_) | refine br_eq' (fun h => ?_) (fun h => ?_)) | simp (disch := omega) only [go_sem,cons_bytes,Int.natCast_add,Int.cast_ofNat_Int,indexAddrS,hK0,hK1,ixA0,ld0,h1,wrap_i32,wrap_i64,e0,e1,sz,tu8_and31,tu8_and15,tu8_and7,tu8_and63,ti32_or6,ti32_or12,ti32_or18])
   all_goals (first | (rw [D3_no a b c _ (by omega) (by omega)]; rfl) | (rw [D3_ok a b c _ (by omega) (by omega) (by omega)]; simp))
set_option maxHeartbeats 8000000 in
theorem c30_e1 (t : Tag) (a : UInt8) (r : List UInt8) (h1 : tab a.toNat = 3) (h2 : 224 < a.toNat ∧ a.toNat < 237 ∨ 237 < a.toNat ∧ a.toNat < 240) : (lim K).call 130 [.iv (.sl t (bytesIV (a :: r)))] [] = .ret (.tup [.iv (.int .i32 (D (a :: r)).1),.iv (.int .i64 (D (a :: r)).2)],[]) := by
 have ha := bl a
 refine call_ret' K [] (fn := t130) rfl rfl ?_
 have e0 : addOff (.iv (.cp g1)) 0 = some (.iv (.cp g1)) := rfl
 have e1 : ∀ env S,getCells env S (.iv (.cp g1)) 2 = some [.iv (.int .u8 128),.iv (.int .u8 191)] := fun _ _ => rfl
 have sz : IntKind.u8.wrap (bAnd 8 3 7) = 3 := by decide
 cases r with
 | nil =>
  simp (disch := omega) only [t130,go_sem,cons_bytes,Int.natCast_add,Int.cast_ofNat_Int,indexAddrS,hK0,hK1,ixA0,ld0,h1,wrap_i32,wrap_i64,e0,e1,sz,tu8_and31,tu8_and15,tu8_and7,tu8_and63,ti32_or6,ti32_or12,ti32_or18]
  repeat' (first | (first | refine br_dec' (fun h => ?_) (fun h => ?_) | refine br_beq' (fun h => ?_) (fun h => ?_) | refine br_bne' (fun h => ?_) (fun h => ?_) | refine br_eq' (fun h => ?_) (fun h => ?_)) | simp (disch := omega) only [go_sem,cons_bytes,Int.natCast_add,Int.cast_ofNat_Int,indexAddrS,hK0,hK1,ixA0,ld0,h1,wrap_i32,wrap_i64,e0,e1,sz,tu8_and31,tu8_and15,tu8_and7,tu8_and63,ti32_or6,ti32_or12,ti32_or18])
  all_goals (rw [D_three a _ (by omega)]; rfl)
 | cons b r =>
  cases r with
  | nil =>
   have hb := bl b; simp (disch := omega) only [t130,go_sem,cons_bytes,Int.natCast_add,Int.cast_ofNat_Int,indexAddrS,hK0,hK1,ixA0,ld0,h1,wrap_i32,wrap_i64,e0,e1,sz,tu8_and31,tu8_and15,tu8_and7,tu8_and63,ti32_or6,ti32_or12,ti32_or18]
   repeat' (first | (first | refine br_dec' (fun h => ?_) (fun h => ?_) | refine br_beq' (fun h => ?_) (fun h => ?_) | refine br_bne' (fun h => ?_) (fun h => ?_) | refine br_eq' (fun h => ?_) (fun h => ?_)) | simp (disch := omega) only [go_sem,cons_bytes,Int.natCast_add,Int.cast_ofNat_Int,indexAddrS,hK0,hK1,ixA0,ld0,h1,wrap_i32,wrap_i64,e0,e1,sz,tu8_and31,tu8_and15,tu8_and7,tu8_and63,ti32_or6,ti32_or12,ti32_or18])
   all_goals (rw [D_three a _ (by omega)]; rfl)
  | cons c r =>
   have hb := bl b; have hc := bl c; simp (disch := omega) only [t130,go_sem,cons_bytes,Int.natCast_add,Int.cast_ofNat_Int,indexAddrS,hK0,hK1,ixA0,ld0,h1,wrap_i32,wrap_i64,e0,e1,sz,tu8_and31,tu8_and15,tu8_and7,tu8_and63,ti32_or6,ti32_or12,ti32_or18]
   repeat' (first | (first | refine br_dec' (fun h => ?_) (fun h => ?_) | refine br_beq' (fun h => ?_) (fun h => ?_) | refine br_bne' (fun h => ?_) (fun h => ?_) | refine br_eq' (fun h => ?_) (fun h => ?_)) | simp (disch := omega) only [go_sem,cons_bytes,Int.natCast_add,Int.cast_ofNat_Int,indexAddrS,hK0,hK1,ixA0,ld0,h1,wrap_i32,wrap_i64,e0,e1,sz,tu8_and31,tu8_and15,tu8_and7,tu8_and63,ti32_or6,ti32_or12,ti32_or18])
   all_goals (first | (rw [D3_no a b c _ (by omega) (by omega)]; rfl) | (rw [D3_ok a b c _ (by omega) (by omega) (by omega)]; simp))
set_option maxHeartbeats 8000000 in
theorem c30_ed (t : Tag) (a : UInt8) (r : List UInt8) (h1 : tab a.toNat = 35) (h2 : a.toNat = 237) : (lim K).call 130 [.iv (.sl t (bytesIV (a :: r)))] [] = .ret (.tup [.iv (.int .i32 (D (a :: r)).1),.iv (.int .i64 (D (a :: r)).2)],[]) := by
 have ha := bl a
 refine call_ret' K [] (fn := t130) rfl rfl ?_
 have e0 : addOff (.iv (.cp g1)) 4 = some (.iv (.cp (g1.drop 4))) := rfl
 have e1 : ∀ env S,getCells env S (.iv (.cp (g1.drop 4))) 2 = some [.iv (.int .u8 128),.iv (.int .u8 159)] := fun _ _ => rfl
 have sz : IntKind.u8.wrap (bAnd 8 35 7) = 3 := by decide
 cases r with
 | nil =>
  simp (disch := omega) only [t130,go_sem,cons_bytes,Int.natCast_add,Int.cast_ofNat_Int,indexAddrS,hK0,hK1,ixA0,ld0,h1,wrap_i32,wrap_i64,e0,e1,sz,tu8_and31,tu8_and15,tu8_and7,tu8_and63,ti32_or6,ti32_or12,ti32_or18]
  repeat' (first | (first | refine br_dec' (fun h => ?_) (fun h => ?_) | refine br_beq' (fun h => ?_) (fun h => ?_) | refine br_bne' (fun h => ?_) (fun h => ?_) | refine br_eq' (fun h => ?_) (fun h => ?_)) | simp (disch := omega) only [go_sem,cons_bytes,Int.natCast_add,Int.cast_ofNat_Int,indexAddrS,hK0,hK1,ixA0,ld0,h1,wrap_i32,wrap_i64,e0,e1,sz,tu8_and31,tu8_and15,tu8_and7,tu8_and63,ti32_or6,ti32_or12,ti32_or18])
  all_goals (rw [D_three a _ (by omega)]; rfl)
 | cons b r =>
  cases r with
  | nil =>
   have hb := bl b; simp (disch := omega) only [t130,go_sem,cons_bytes,Int.natCast_add,Int.cast_ofNat_Int,indexAddrS,hK0,hK1,ixA0,ld0,h1,wrap_i32,wrap_i64,e0,e1,sz,tu8_and31,tu8_and15,tu8_and7,tu8_and63,ti32_or6,ti32_or12,ti32_or18]
   repeat' (first | (first | refine br_dec' (fun h => ?_) (fun h => ?_) | refine br_beq' (fun h => ?_) (fun h => ?_) | refine br_bne' (fun h => ?_) (fun h => ?_) | refine br_eq' (fun h => ?_) (fun h => ?_)) | simp (disch := omega) only [go_sem,cons_bytes,Int.natCast_add,Int.cast_ofNat_Int,indexAddrS,hK0,hK1,ixA0,ld0,h1,wrap_i32,wrap_i64,e0,e1,sz,tu8_and31,tu8_and15,tu8_and7,tu8_and63,ti32_or6,ti32_or12,ti32_or18])
   all_goals (rw [D_three a _ (by omega)]; rfl)
  | cons c r =>
   have hb := bl b; have hc := bl c; simp (disch := omega) only [t130,go_sem,cons_bytes,Int.natCast_add,Int.cast_ofNat_Int,indexAddrS,hK0,hK1,ixA0,ld0,h1,wrap_i32,wrap_i64,e0,e1,sz,tu8_and31,tu8_and15,tu8_and7,tu8_and63,ti32_or6,ti32_or12,ti32_or18]
   repeat' (first | (first | refine br_dec' (fun h => ?_) (fun h => ?_) | refine br_beq' (fun h => ?_) (fun h => ?_) | refine br_bne' (fun h => ?_) (fun h => ?_) | refine br_eq' (fun h => ?_) (fun h => ?_)) | simp (disch := omega) only [go_sem,cons_bytes,Int.natCast_add,Int.cast_ofNat_Int,indexAddrS,hK0,hK1,ixA0,ld0,h1,wrap_i32,wrap_i64,e0,e1,sz,tu8_and31,tu8_and15,tu8_and7,tu8_and63,ti32_or6,ti32_or12,ti32_or18])
   all_goals (first | (rw [D3_no a b c _ (by omega) (by omega)]; rfl) | (rw [D3_ok a b c _ (by omega) (by omega) (by omega)]; simp))
set_option maxHeartbeats 8000000 in
theorem c30_f0 (t : Tag) (a : UInt8) (r : List UInt8) (h1 : tab a.toNat = 52) (h2 : a.toNat = 240) : (lim K).call 130 [.iv (.sl t (bytesIV (a :: r)))] [] = .ret (.tup [.iv (.int .i32 (D (a :: r)).1),.iv (.int .i64 (D (a :: r)).2)],[]) := by
 have ha := bl a
 refine call_ret' K [] (fn := t130) rfl rfl ?_
 have e0 : addOff (.iv (.cp g1)) 6 = some (.iv (.cp (g1.drop 6))) := rfl
 have e1 : ∀ env S,getCells env S (.iv (.cp (g1.drop 6))) 2 = some [.iv (.int .u8 144),.iv (.int .u8 191)] := fun _ _ => rfl
 have sz : IntKind.u8.wrap (bAnd 8 52 7) = 4 := by decide
 cases r with
 | nil =>
  simp (disch := omega) only [t130,go_sem,cons_bytes,Int.natCast_add,Int.cast_ofNat_Int,indexAddrS,hK0,hK1,ixA0,ld0,h1,wrap_i32,wrap_i64,e0,e1,sz,tu8_and31,tu8_and15,tu8_and7,tu8_and63,ti32_or6,ti32_or12,ti32_or18]
  repeat' (first | (first | refine br_dec' (fun h => ?_) (fun h => ?_) | refine br_beq' (fun h => ?_) (fun h => ?_) | refine br_bne' (fun h => ?_) (fun h => ?_) | refine br_eq' (fun h => ?_) (fun h => ?_)) | simp (disch := omega) only [go_sem,cons_bytes,Int.natCast_add,Int.cast_ofNat_Int,indexAddrS,hK0,hK1,ixA0,ld0,h1,wrap_i32,wrap_i64,e0,e1,sz,tu8_and31,tu8_and15,tu8_and7,tu8_and63,ti32_or6,ti32_or12,ti32_or18])
  all_goals (rw [D_four a _ (by omega)]; rfl)
 | cons b r =>
  cases r with
  | nil =>
   have hb := bl b; simp (disch := omega) only [t130,go_sem,cons_bytes,Int.natCast_add,Int.cast_ofNat_Int,indexAddrS,hK0,hK1,ixA0,ld0,h1,wrap_i32,wrap_i64,e0,e1,sz,tu8_and31,tu8_and15,tu8_and7,tu8_and63,ti32_or6,ti32_or12,ti32_or18]
   repeat' (first | (first | refine br_dec' (fun h => ?_) (fun h => ?_) | refine br_beq' (fun h => ?_) (fun h => ?_) | refine br_bne' (fun h => ?_) (fun h => ?_) | refine br_eq' (fun h => ?_) (fun h => ?_)) | simp (disch := omega) only [go_sem,cons_bytes,Int.natCast_add,Int.cast_ofNat_Int,indexAddrS,hK0,hK1,ixA0,ld0,h1,wrap_i32,wrap_i64,e0,e1,sz,tu8_and31,tu8_and15,tu8_and7,tu8_and63,ti32_or6,ti32_or12,ti32_or18])
   all_goals (rw [D_four a _ (by omega)]; rfl)
  | cons c r =>
   cases r with
   | nil =>
    have hb := bl b; have hc := bl c; simp (disch := omega) only [t130,go_sem,cons_bytes,Int.natCast_add,Int.cast_ofNat_Int,indexAddrS,hK0,hK1,ixA0,ld0,h1,wrap_i32,wrap_i64,e0,e1,sz,tu8_and31,tu8_and15,tu8_and7,tu8_and63,ti32_or6,ti32_or12,ti32_or18]
    repeat' (first | (first | refine br_dec' (fun h => ?_) (fun h => ?_) | refine br_beq' (fun h => ?_) (fun h => ?_) | refine br_bne' (fun h => ?_) (fun h => ?_) | refine br_eq' (fun h => ?_) (fun h => ?_)) | simp (disch := omega) only [go_sem,cons_bytes,Int.natCast_add,Int.cast_ofNat_Int,indexAddrS,hK0,hK1,ixA0,ld0,h1,wrap_i32,wrap_i64,e0,e1,sz,tu8_and31,tu8_and15,tu8_and7,tu8_and63,ti32_or6,ti32_or12,ti32_or18])
    all_goals (rw [D_four a _ (by omega)]; rfl)
   | cons d r =>
    have hb := bl b; have hc := bl c; have hd := bl d; simp (disch := omega) only [t130,go_sem,cons_bytes,Int.natCast_add,Int.cast_ofNat_Int,indexAddrS,hK0,hK1,ixA0,ld0,h1,wrap_i32,wrap_i64,e0,e1,sz,tu8_and31,tu8_and15,tu8_and7,tu8_and63,ti32_or6,ti32_or12,ti32_or18]
    repeat' (first | (first | refine br_dec' (fun h => ?_) (fun h => ?_) | refine br_beq' (fun h => ?_) (fun h => ?_) | refine br_bne' (fun h => ?_) (fun h => ?_) | refine br_eq' (fun h => ?_) (fun h => ?_)) | simp (disch := omega) only [go_sem,cons_bytes,Int.natCast_add,Int.cast_ofNat_Int,indexAddrS,hK0,hK1,ixA0,ld0,h1,wrap_i32,wrap_i64,e0,e1,sz,tu8_and31,tu8_and15,tu8_and7,tu8_and63,ti32_or6,ti32_or12,ti32_or18])
    all_goals (first | (rw [D4_no a b c d _ (by omega) (by omega)]; rfl) | (rw [D4_ok a b c d _ (by omega) (by omega) (by omega) (by omega)]; simp))
set_option maxHeartbeats 8000000 in
theorem c30_f1 (t : Tag) (a : UInt8) (r : List UInt8) (h1 : tab a.toNat = 4) (h2 : 240 < a.toNat ∧ a.toNat < 244) : (lim K).call 130 [.iv (.sl t (bytesIV (a :: r)))] [] = .ret (.tup [.iv (.int .i32 (D (a :: r)).1),.iv (.int .i64 (D (a :: r)).2)],[]) := by
 have ha := bl a
 refine call_ret' K [] (fn := t130) rfl rfl ?_
 have e0 : addOff (.iv (.cp g1)) 0 = some (.iv (.cp g1)) := rfl
 have e1 : ∀ env S,getCells env S (.iv (.cp g1)) 2 = some [.iv (.int .u8 128),.iv (.int .u8 191)] := fun _ _ => rfl
 have sz : IntKind.u8.wrap (bAnd 8 4 7) = 4 := by decide
 cases r with
 | nil =>
  simp (disch := omega) only [t130,go_sem,cons_bytes,Int.natCast_add,Int.cast_ofNat_Int,indexAddrS,hK0,hK1,ixA0,ld0,h1,wrap_i32,wrap_i64,e0,e1,sz,tu8_and31,tu8_and15,tu8_and7,tu8_and63,ti32_or6,ti32_or12,ti32_or18]
  repeat' (first | (first | refine br_dec' (fun h => ?_) (fun h => ?_) | refine br_beq' (fun h => ?_) (fun h => ?_) | refine br_bne' (fun h => ?_) (fun h => ?_) | refine br_eq' (fun h => ?_) (fun h => ?_)) | simp (disch := omega) only [go_sem,cons_bytes,Int.natCast_add,Int.cast_ofNat_Int,indexAddrS,hK0,hK1,ixA0,ld0,h1,wrap_i32,wrap_i64,e0,e1,sz,tu8_and31,tu8_and15,tu8_and7,tu8_and63,ti32_or6,ti32_or12,ti32_or18])
  all_goals (rw [D_four a _ (by omega)]; rfl)
 | cons b r =>
  cases r with
  | nil =>
   have hb := bl b; simp (disch := omega) only [t130,go_sem,cons_bytes,Int.natCast_add,Int.cast_ofNat_Int,indexAddrS,hK0,hK1,ixA0,ld0,h1,wrap_i32,wrap_i64,e0,e1,sz,tu8_and31,tu8_and15,tu8_and7,tu8_and63,ti32_or6,ti32_or12,ti32_or18]
   repeat' (first | (first | refine br_dec' (fun h => ?_) (fun h => ?_) | refine br_beq' (fun h => ?_) (fun h => ?_) | refine br_bne' (fun h => ?_) (fun h => ?_) | refine br_eq' (fun h => ?_) (fun h => ?_)) | simp (disch := omega) only [go_sem,cons_bytes,Int.natCast_add,Int.cast_ofNat_Int,indexAddrS,hK0,hK1,ixA0,ld0,h1,wrap_i32,wrap_i64,e0,e1,sz,tu8_and31,tu8_and15,tu8_and7,tu8_and63,ti32_or6,ti32_or12,ti32_or18])
   all_goals (rw [D_four a _ (by omega)]; rfl)
  | cons c r =>
   cases r with
   | nil =>
    have hb := bl b; have hc := bl c; simp (disch := omega) only [t130,go_sem,cons_bytes,Int.natCast_add,Int.cast_ofNat_Int,indexAddrS,hK0,hK1,ixA0,ld0,h1,wrap_i32,wrap_i64,e0,e1,sz,tu8_and31,tu8_and15,tu8_and7,tu8_and63,ti32_or6,ti32_or12,ti32_or18]
    repeat' (first | (first | refine br_dec' (fun h => ?_) (fun h => ?_) | refine br_beq' (fun h => ?_) (fun h => ?_) | refine br_bne' (fun h => ?_) (fun h => ?_) | refine br_eq' (fun h => ?_) (fun h => ?_)) | simp (disch := omega) only [go_sem,cons_bytes,Int.natCast_add,Int.cast_ofNat_Int,indexAddrS,hK0,hK1,ixA0,ld0,h1,wrap_i32,wrap_i64,e0,e1,sz,tu8_and31,tu8_and15,tu8_and7,tu8_and63,ti32_or6,ti32_or12,ti32_or18])
    all_goals (rw [D_four a _ (by omega)]; rfl)
   | cons d r =>
    have hb := bl b; have hc := bl c; have hd := bl d; simp (disch := omega) only [t130,go_sem,cons_bytes,Int.natCast_add,Int.cast_ofNat_Int,indexAddrS,hK0,hK1,ixA0,ld0,h1,wrap_i32,wrap_i64,e0,e1,sz,tu8_and31,tu8_and15,tu8_and7,tu8_and63,ti32_or6,ti32_or12,ti32_or18]
    repeat' (first | (first | refine br_dec' (fun h => ?_) (fun h => ?_) | refine br_beq' (fun h => ?_) (fun h => ?_) | refine br_bne' (fun h => ?_) (fun h => ?_) | refine br_eq' (fun h => ?_) (fun h => ?_)) | simp (disch := omega) only [go_sem,cons_bytes,Int.natCast_add,Int.cast_ofNat_Int,indexAddrS,hK0,hK1,ixA0,ld0,h1,wrap_i32,wrap_i64,e0,e1,sz,tu8_and31,tu8_and15,tu8_and7,tu8_and63,ti32_or6,ti32_or12,ti32_or18])
    all_goals (first | (rw [D4_no a b c d _ (by omega) (by omega)]; rfl) | (rw [D4_ok a b c d _ (by omega) (by omega) (by omega) (by omega)]; simp))
set_option maxHeartbeats 8000000 in
theorem c30_f4 (t : Tag) (a : UInt8) (r : List UInt8) (h1 : tab a.toNat = 68) (h2 : a.toNat = 244) : (lim K).call 130 [.iv (.sl t (bytesIV (a :: r)))] [] = .ret (.tup [.iv (.int .i32 (D (a :: r)).1),.iv (.int .i64 (D (a :: r)).2)],[]) := by
 have ha := bl a
 refine call_ret' K [] (fn := t130) rfl rfl ?_
 have e0 : addOff (.iv (.cp g1)) 8 = some (.iv (.cp (g1.drop 8))) := rfl
 have e1 : ∀ env S,getCells env S (.iv (.cp (g1.drop 8))) 2 = some [.iv (.int .u8 128),.iv (.int .u8 143)] := fun _ _ => rfl
 have sz : IntKind.u8.wrap (bAnd 8 68 7) = 4 := by decide
 cases r with
 | nil =>
  simp (disch := omega) only [t130,go_sem,cons_bytes,Int.natCast_add,Int.cast_ofNat_Int,indexAddrS,hK0,hK1,ixA0,ld0,h1,wrap_i32,wrap_i64,e0,e1,sz,tu8_and31,tu8_and15,tu8_and7,tu8_and63,ti32_or6,ti32_or12,ti32_or18]
  repeat' (first | (first | refine br_dec' (fun h => ?_) (fun h => ?_) | refine br_beq' (fun h => ?_) (fun h => ?_) | refine br_bne' (fun h => ?_) (fun h => ?_) | refine br_eq' (fun h => ?_) (fun h => ?_)) | simp (disch := omega) only [go_sem,cons_bytes,Int.natCast_add,Int.cast_ofNat_Int,indexAddrS,hK0,hK1,ixA0,ld0,h1,wrap_i32,wrap_i64,e0,e1,sz,tu8_and31,tu8_and15,tu8_and7,tu8_and63,ti32_or6,ti32_or12,ti32_or18])
  all_goals (rw [D_four a _ (by omega)]; rfl)
 | cons b r =>
  cases r with
  | nil =>
   have hb := bl b; simp (disch := omega) only [t130,go_sem,cons_bytes,Int.natCast_add,Int.cast_ofNat_Int,indexAddrS,hK0,hK1,ixA0,ld0,h1,wrap_i32,wrap_i64,e0,e1,sz,tu8_and31,tu8_and15,tu8_and7,tu8_and63,ti32_or6,ti32_or12,ti32_or18]
   repeat' (first | (first | refine br_dec' (fun h => ?_) (fun h => ?_) | refine br_beq' (fun h => ?_) (fun h => ?_) | refine br_bne' (fun h => ?_) (fun h => ?_) | refine br_eq' (fun h => ?_) (fun h => ?_)) | simp (disch := omega) only [go_sem,cons_bytes,Int.natCast_add,Int.cast_ofNat_Int,indexAddrS,hK0,hK1,ixA0,ld0,h1,wrap_i32,wrap_i64,e0,e1,sz,tu8_and31,tu8_and15,tu8_and7,tu8_and63,ti32_or6,ti32_or12,ti32_or18])
   all_goals (rw [D_four a _ (by omega)]; rfl)
  | cons c r =>
   cases r with
   | nil =>
    have hb := bl b; have hc := bl c; simp (disch := omega) only [t130,go_sem,cons_bytes,Int.natCast_add,Int.cast_ofNat_Int,indexAddrS,hK0,hK1,ixA0,ld0,h1,wrap_i32,wrap_i64,e0,e1,sz,tu8_and31,tu8_and15,tu8_and7,tu8_and63,ti32_or6,ti32_or12,ti32_or18]
    repeat' (first | (first | refine br_dec' (fun h => ?_) (fun h => ?_) | refine br_beq' (fun h => ?_) (fun h => ?_) | refine br_bne' (fun h => ?_) (fun h => ?_) | refine br_eq' (fun h => ?_) (fun h => ?_)) | simp (disch := omega) only [go_sem,cons_bytes,Int.natCast_add,Int.cast_ofNat_Int,indexAddrS,hK0,hK1,ixA0,ld0,h1,wrap_i32,wrap_i64,e0,e1,sz,tu8_and31,tu8_and15,tu8_and7,tu8_and63,ti32_or6,ti32_or12,ti32_or18])
    all_goals (rw [D_four a _ (by omega)]; rfl)
   | cons d r =>
    have hb := bl b; have hc := bl c; have hd := bl d; simp (disch := omega) only [t130,go_sem,cons_bytes,Int.natCast_add,Int.cast_ofNat_Int,indexAddrS,hK0,hK1,ixA0,ld0,h1,wrap_i32,wrap_i64,e0,e1,sz,tu8_and31,tu8_and15,tu8_and7,tu8_and63,ti32_or6,ti32_or12,ti32_or18]
    repeat' (first | (first | refine br_dec' (fun h => ?_) (fun h => ?_) | refine br_beq' (fun h => ?_) (fun h => ?_) | refine br_bne' (fun h => ?_) (fun h => ?_) | refine br_eq' (fun h => ?_) (fun h => ?_)) | simp (disch := omega) only [go_sem,cons_bytes,Int.natCast_add,Int.cast_ofNat_Int,indexAddrS,hK0,hK1,ixA0,ld0,h1,wrap_i32,wrap_i64,e0,e1,sz,tu8_and31,tu8_and15,tu8_and7,tu8_and63,ti32_or6,ti32_or12,ti32_or18])
    all_goals (first | (rw [D4_no a b c d _ (by omega) (by omega)]; rfl) | (rw [D4_ok a b c d _ (by omega) (by omega) (by omega) (by omega)]; simp))
theorem call130 (t : Tag) (l : List UInt8) : (lim K).call 130 [.iv (.sl t (bytesIV l))] [] = .ret (.tup [.iv (.int .i32 (D l).1),.iv (.int .i64 (D l).2)],[]) := by
 cases l with
 | nil => exact call130_nil t
 | cons a r =>
  have ha := bl a
  by_cases h1 : a.toNat < 128
  ·rw [c30_ascii t a r h1,D_ascii a r h1]; rfl
  by_cases h2 : a.toNat < 194 ∨ 245 ≤ a.toNat
  ·rw [c30_bad t a r (by simp only [tab]; (repeat' split) <;> omega),D_bad a r (by omega)]; rfl
  by_cases h3 : a.toNat < 224
  ·exact c30_two t a r (by simp only [tab]; (repeat' split) <;> omega) (by omega)
  by_cases h4 : a.toNat = 224
  ·exact c30_e0 t a r (by simp only [tab]; (repeat' split) <;> omega) h4
  by_cases h5 : a.toNat = 237
  ·exact c30_ed t a r (by simp only [tab]; (repeat' split) <;> omega) h5
  by_cases h6 : a.toNat < 240
  ·exact c30_e1 t a r (by simp only [tab]; (repeat' split) <;> omega) (by omega)
  by_cases h7 : a.toNat = 240
  ·exact c30_f0 t a r (by simp only [tab]; (repeat' split) <;> omega) h7
  by_cases h8 : a.toNat = 244
  ·exact c30_f4 t a r (by simp only [tab]; (repeat' split) <;> omega) h8
  ·exact c30_f1 t a r (by simp only [tab]; (repeat' split) <;> omega) (by omega)
theorem loop113_nil (t : Tag) : lp' (lim K) t113L0 [.iv (.sl t (bytesIV [])),.iv (.int .i32 0),.iv (.int .i64 0),.tup [],.iv (.sl t (bytesIV [])),.iv (.int .i64 0),.iv (.int .i64 0),.tup [],.tup []] [] = .ret (.exit 0,[.iv (.sl t (bytesIV [])),.iv (.int .i32 0),.iv (.int .i64 0),.tup [],.iv (.sl t (bytesIV [])),.iv (.int .i64 0),.iv (.int .i64 0),.iv (.bool false),.tup []],[]) := by
 refine loop_ret' K _ _ ?_
 simp (disch := omega) only [t113L0,go_sem]
theorem call113 (t : Tag) (l : List UInt8) : (lim K).call 113 [.iv (.sl t (bytesIV l))] [] = .ret (.tup [.iv (.int .i32 (D l).1),.iv (.int .i64 (D l).2)],[]) := by
 refine call_ret' K [] (fn := t113) rfl rfl ?_
 cases l with
 | nil => simp (disch := omega) only [t113,go_sem,Int.cast_ofNat_Int,loop113_nil,call130]
 | cons a r =>
  have ha := bl a
  by_cases h : a.toNat < 128
  ·have hl : lp' (lim K) t113L0 [.iv (.sl t (bytesIV (a :: r))),.iv (.int .i32 0),.iv (.int .i64 0),.tup [],.iv (.sl t (bytesIV (a :: r))),.iv (.int .i64 ((r.length + 1 : Nat) : Int)),.iv (.int .i64 0),.tup [],.tup []] [] = .ret (.ret,[.iv (.sl t (bytesIV (a :: r))),.iv (.int .i32 a.toNat),.iv (.int .i64 1),.iv (.int .u8 a.toNat),.iv (.sl t (bytesIV (a :: r))),.iv (.int .i64 ((r.length + 1 : Nat) : Int)),.iv (.int .i64 0),.iv (.bool true),.iv (.bool true)],[]) := by
    refine loop_ret' K _ _ ?_
    simp (disch := omega) only [t113L0,go_sem,cons_bytes,indexAddrS,wrap_i32]
   simp (disch := omega) only [t113,go_sem,Int.cast_ofNat_Int,hl,D_ascii a r h]
  ·have hl : lp' (lim K) t113L0 [.iv (.sl t (bytesIV (a :: r))),.iv (.int .i32 0),.iv (.int .i64 0),.tup [],.iv (.sl t (bytesIV (a :: r))),.iv (.int .i64 ((r.length + 1 : Nat) : Int)),.iv (.int .i64 0),.tup [],.tup []] [] = .ret (.exit 0,[.iv (.sl t (bytesIV (a :: r))),.iv (.int .i32 0),.iv (.int .i64 0),.iv (.int .u8 a.toNat),.iv (.sl t (bytesIV (a :: r))),.iv (.int .i64 ((r.length + 1 : Nat) : Int)),.iv (.int .i64 0),.iv (.bool true),.iv (.bool false)],[]) := by
    refine loop_ret' K _ _ ?_
    simp (disch := omega) only [t113L0,go_sem,cons_bytes,indexAddrS,wrap_i32]
   simp (disch := omega) only [t113,go_sem,Int.cast_ofNat_Int,hl,call130]
def bad (l : List UInt8) : Bool := decide ((D l).1 = 65533) && decide ((D l).2 ≤ 1)
theorem call114 (c n : Int) : (lim K).call 114 [.iv (.int .i32 c),.iv (.int .i64 n)] [] = .ret (.iv (.bool (decide (c = 65533) && decide (n ≤ 1))),[]) := by
 refine call_ret' K [] (fn := t114) rfl rfl ?_
 simp only [t114,go_sem]
 repeat' (first | (first | refine br_dec' (fun h => ?_) (fun h => ?_) | refine br_beq' (fun h => ?_) (fun h => ?_) | refine br_bne' (fun h => ?_) (fun h => ?_) | refine br_eq' (fun h => ?_) (fun h => ?_)) | simp (disch := omega) only [go_sem])
 all_goals (congr 4; simp [*])
theorem D_le (l : List UInt8) : (D l).1 < 2097152 ∧ (D l).2 ≤ 4 := by
 cases l with
 | nil => simp [D]
 | cons a r =>
  have ha := bl a
  simp only [D]
  repeat' split
  all_goals (simp only; try omega)
def toldF (n : Int) : List UInt8 → Int
 | [] => n
 | b :: r => toldF (64 * n + b.toNat % 64) r
def toldR : List UInt8 → Int
 | [] => 0
 | a :: r => toldF (if r.length = 1 then a.toNat % 32 else if r.length = 2 then a.toNat % 16 else if r.length = 3 then a.toNat % 8 else a.toNat) r
theorem nat8 {n : Nat} (h : n < 256) : (UInt8.ofNat n).toNat = n := by simp [UInt8.toNat_ofNat]; omega
theorem eq8 {a : UInt8} {n : Nat} (h : a.toNat = n) : a = UInt8.ofNat n := by
 have := bl a
 apply UInt8.toNat_inj.1
 rw [nat8 (by omega),h]
theorem bytes_1 {c : Int} (h : c < 128) : bytesR c = [UInt8.ofNat c.toNat] := by simp [bytesR,h]
theorem bytes_2 {c : Int} (h : 128 ≤ c ∧ c < 2048) : bytesR c = [UInt8.ofNat (192 + c.toNat / 64),UInt8.ofNat (128 + c.toNat % 64)] := by
 have h1 : ¬ c < 128 := by omega
 simp [bytesR,h1,h.2]
theorem bytes_3 {c : Int} (h : 2048 ≤ c ∧ c < 65536) : bytesR c = [UInt8.ofNat (224 + c.toNat / 4096),UInt8.ofNat (128 + c.toNat / 64 % 64),UInt8.ofNat (128 + c.toNat % 64)] := by
 have h1 : ¬ c < 128 := by omega
 have h2 : ¬ c < 2048 := by omega
 simp [bytesR,h1,h2,h.2]
theorem bytes_4 {c : Int} (h : 65536 ≤ c) : bytesR c = [UInt8.ofNat (240 + c.toNat / 262144),UInt8.ofNat (128 + c.toNat / 4096 % 64),UInt8.ofNat (128 + c.toNat / 64 % 64),UInt8.ofNat (128 + c.toNat % 64)] := by
 have h1 : ¬ c < 128 := by omega
 have h2 : ¬ c < 2048 := by omega
 have h3 : ¬ c < 65536 := by omega
 simp [bytesR,h1,h2,h3]
theorem D_good {s : List UInt8} (h : bad s = false) : isC ((D s).1 : Nat) = true ∧ bytesR ((D s).1 : Nat) = s.take (D s).2 ∧ 1 ≤ (D s).2 ∧ (D s).2 ≤ s.length := by
 cases s with
 | nil => simp [bad,D] at h
 | cons a r =>
  have ha := bl a
  by_cases h1 : a.toNat < 128
  ·rw [D_ascii a r h1]
   refine ⟨(isC_iff _).2 (by omega),?_,by simp,by simp⟩
   rw [bytes_1 (by omega)]
   simp
  by_cases h2 : a.toNat < 194 ∨ 245 ≤ a.toNat
  ·simp [bad,D_bad a r (by omega)] at h
  by_cases h3 : a.toNat < 224
  ·cases r with
   | nil => rw [bad,D_two a _ (by omega)] at h; simp at h
   | cons b r =>
    have hb := bl b
    by_cases hf : 128 ≤ b.toNat ∧ b.toNat ≤ 191
    ·rw [D2_ok a b r (by omega) hf]
     refine ⟨(isC_iff _).2 (by simp only; omega),?_,by simp,by simp⟩
     rw [bytes_2 (by simp only; omega)]
     simp only [List.take_succ_cons,List.take_zero,Int.toNat_natCast]
     rw [← eq8 (a := a) (by omega),← eq8 (a := b) (by omega)]
    ·simp [bad,D2_no a b r (by omega) hf] at h
  by_cases h4 : a.toNat < 240
  ·match r with
   | [] => rw [bad,D_three a _ (by omega)] at h; simp at h
   | [b] => rw [bad,D_three a _ (by omega)] at h; simp at h
   | b :: c :: r =>
    have hb := bl b
    have hc := bl c
    by_cases hf : ((a.toNat = 224 → 160 ≤ b.toNat) ∧ 128 ≤ b.toNat ∧ (a.toNat = 237 → b.toNat ≤ 159) ∧ b.toNat ≤ 191) ∧ (128 ≤ c.toNat ∧ c.toNat ≤ 191)
    ·rw [D3_ok a b c r (by omega) hf.1 hf.2]
     refine ⟨(isC_iff _).2 (by simp only; omega),?_,by simp,by simp⟩
     rw [bytes_3 (by simp only; omega)]
     simp only [List.take_succ_cons,List.take_zero,Int.toNat_natCast]
     rw [← eq8 (a := a) (by omega),← eq8 (a := b) (by omega),← eq8 (a := c) (by omega)]
    ·simp [bad,D3_no a b c r (by omega) (by omega)] at h
  ·match r with
   | [] => rw [bad,D_four a _ (by omega)] at h; simp at h
   | [b] => rw [bad,D_four a _ (by omega)] at h; simp at h
   | [b,c] => rw [bad,D_four a _ (by omega)] at h; simp at h
   | b :: c :: d :: r =>
    have hb := bl b
    have hc := bl c
    have hd := bl d
    by_cases hf : ((a.toNat = 240 → 144 ≤ b.toNat) ∧ 128 ≤ b.toNat ∧ (a.toNat = 244 → b.toNat ≤ 143) ∧ b.toNat ≤ 191) ∧ (128 ≤ c.toNat ∧ c.toNat ≤ 191) ∧ (128 ≤ d.toNat ∧ d.toNat ≤ 191)
    ·rw [D4_ok a b c d r (by omega) hf.1 hf.2.1 hf.2.2]
     refine ⟨(isC_iff _).2 (by simp only; omega),?_,by simp,by simp⟩
     rw [bytes_4 (by simp only; omega)]
     simp only [List.take_succ_cons,List.take_zero,Int.toNat_natCast]
     rw [← eq8 (a := a) (by omega),← eq8 (a := b) (by omega),← eq8 (a := c) (by omega),← eq8 (a := d) (by omega)]
    ·simp [bad,D4_no a b c d r (by omega) (by omega)] at h
def fits (s : List UInt8) (n : Nat) : Bool := isC (toldR (s.take n)) && (bytesR (toldR (s.take n)) == s.take n)
def chars : Nat → List UInt8 → Int → List (Int × Int) × Option Int
 | 0,_,_ => ([],none)
 | k + 1,s,i => if s = [] then ([],none) else if bad s then ([],some i) else
  ((((D s).1 : Int),i) :: (chars k (s.drop (D s).2) (i + (D s).2)).1,(chars k (s.drop (D s).2) (i + (D s).2)).2)
def encC (c : Int × Int) : List IV := [.int .i64 c.1,.int .i64 c.2]
theorem encC_ok (c : Int × Int) : (encC c).length = 2 ∧ (encC c).all isCell = true := ⟨rfl,rfl⟩
theorem get_arr (l : List UInt8) (i : Nat) : ByteArray.get! ⟨l.toArray⟩ i = l.getD i 0 := by
 show l.toArray[i]! = _
 simp [List.getD,getElem!_def]
 cases l[i]? <;> rfl
set_option maxHeartbeats 4000000 in
theorem decode_eq (l : List UInt8) (i : Nat) (h : i < l.length) : Utf8.decode ⟨l.toArray⟩ i = D (l.drop i) := by
 have hs : (ByteArray.mk l.toArray).size = l.length := by simp [ByteArray.size]
 have hg : ∀ k,l.getD (i + k) 0 = (l.drop i).getD k 0 := by intro k; simp [List.getD,List.getElem?_drop]
 have hlen : ∀ k,(i + k < l.length) ↔ k < (l.drop i).length := by intro k; rw [List.length_drop]; omega
 have hpos : 0 < (l.drop i).length := by rw [List.length_drop]; omega
 simp only [Utf8.decode,hs,get_arr,hg,hlen]
 generalize l.drop i = s at *
 cases s with
 | nil => simp at hpos
 | cons a r =>
  have ha := bl a
  match r with
  | [] =>
   simp only [List.getD_cons_zero,List.getD_cons_succ,List.getD_nil,List.length_cons,List.length_nil,D,fol,Utf8.valid,Utf8.runeError,Bool.and_eq_true,Bool.or_eq_true,beq_iff_eq,decide_eq_true_eq]
   repeat' split
   all_goals (first | rfl | (simp only [Prod.mk.injEq]; omega) | (exfalso; omega))
  | [b] =>
   have hb := bl b
   simp only [List.getD_cons_zero,List.getD_cons_succ,List.getD_nil,List.length_cons,List.length_nil,D,fol,Utf8.valid,Utf8.runeError,Bool.and_eq_true,Bool.or_eq_true,beq_iff_eq,decide_eq_true_eq]
   repeat' split
   all_goals (first | rfl | (simp only [Prod.mk.injEq]; omega) | (exfalso; omega))
  | [b,c] =>
   have hb := bl b
   have hc := bl c
   simp only [List.getD_cons_zero,List.getD_cons_succ,List.getD_nil,List.length_cons,List.length_nil,D,fol,Utf8.valid,Utf8.runeError,Bool.and_eq_true,Bool.or_eq_true,beq_iff_eq,decide_eq_true_eq]
   repeat' split
   all_goals (first | rfl | (simp only [Prod.mk.injEq]; omega) | (exfalso; omega))
  | b :: c :: d :: r =>
   have hb := bl b
   have hc := bl c
   have hd := bl d
   simp only [List.getD_cons_zero,List.getD_cons_succ,List.getD_nil,List.length_cons,List.length_nil,D,fol,Utf8.valid,Utf8.runeError,Bool.and_eq_true,Bool.or_eq_true,beq_iff_eq,decide_eq_true_eq]
   repeat' split
   all_goals (first | rfl | (simp only [Prod.mk.injEq]; omega) | (exfalso; omega))
set_option maxHeartbeats 4000000 in
theorem loop104 (t : Tag) (l : List UInt8) (ht : TagOk t l) (hl : l.length ≤ 2000000) : ∀ (k : Nat) (i : Nat) (done : List (Int × Int)) (x4 x5 x6 x8 x9 x10 x11 : TV),i ≤ l.length → l.length - i ≤ k → done.length ≤ i →
  ∃ y3 y4 y5 y6 y8 y9 y10 y11 S',lp' (lim K) t104L0 [.iv (.sl t (bytesIV l)),.iv (.sl .nil []),.lb [.iv (.int .i64 0),.iv (.int .i64 0)],acc 1 (done.map encC),x4,x5,x6,.it 0,x8,x9,x10,x11] (.sit l i :: accS 2 170 (done.map encC)) = .ret (match (chars k (l.drop i) i).2 with
   | none => (.exit 0,[.iv (.sl t (bytesIV l)),.iv (.sl .nil []),.lb [.iv (.int .i64 0),.iv (.int .i64 0)],acc 1 ((done ++ (chars k (l.drop i) i).1).map encC),y4,y5,y6,.it 0,y8,y9,y10,y11],S')
   | some p => (.ret,[.iv (.sl t (bytesIV l)),.iv (.sl .nil []),.lb [.iv (.int .i64 4),.iv (.int .i64 p)],y3,y4,y5,y6,.it 0,y8,y9,y10,y11],S'))
 | 0,i,done,x4,x5,x6,x8,x9,x10,x11,h1,h2,h3 => by
  refine ⟨?_,?_,?_,?_,?_,?_,?_,?_,?_,loop_at K _ _ t104L0.eq_1 ?_⟩
  rotate_left 9
  ·simp (disch := omega) only [go_sem,chars,List.append_nil]
   rfl
  exact .hole
 | k + 1,i,done,x4,x5,x6,x8,x9,x10,x11,h1,h2,h3 => by
  by_cases hi : i = l.length
  ·have e : l.drop i = [] := List.drop_of_length_le (by omega)
   refine ⟨?_,?_,?_,?_,?_,?_,?_,?_,?_,loop_at K _ _ t104L0.eq_1 ?_⟩
   rotate_left 9
   ·simp (disch := omega) only [go_sem,chars,e,List.append_nil]
    rfl
   exact .hole
  ·have hs : (l.drop i).length = l.length - i := List.length_drop
   have hde := decode_eq l i (by omega)
   have hne : ¬ l.drop i = [] := by intro e; rw [e] at hs; simp at hs; omega
   have h25 := fun tg => call113 tg (l.drop i)
   have hdl := D_le (l.drop i)
   have hbad : bad (l.drop i) = (decide ((((D (l.drop i)).1 : Nat) : Int) = 65533) && decide ((((D (l.drop i)).2 : Nat) : Int) ≤ 1)) := by
    rw [bad,Bool.eq_iff_iff]; simp; omega
   have hsl := fun S => slice_bytes_lo S (t := t) (l := l) (a := (i : Int)) ht (by omega)
   cases hb : bad (l.drop i)
   ·have hg := D_good hb
    have hdr : (l.drop i).drop (D (l.drop i)).2 = l.drop (i + (D (l.drop i)).2) := by
     rw [List.drop_drop]
    have ih := fun x4 x5 x6 x8 x9 x10 x11 => loop104 t l ht hl k (i + (D (l.drop i)).2) (done ++ [(((D (l.drop i)).1 : Int),(i : Int))]) x4 x5 x6 x8 x9 x10 x11 (by omega) (by omega) (by simp; omega)
    simp only [chars,hne,hb,↓reduceIte,Bool.false_eq_true]
    rw [hdr]
    have ha := ap_accB1 (w := 2) (b := 16) (el := 170) (t := .full) (.sit l (i + (D (l.drop i)).2)) (encC_ok (((D (l.drop i)).1 : Int),(i : Int))) (Elems.map encC_ok done) (roomy_ok (by rw [List.length_map]; omega))
    have em : (done ++ [(((D (l.drop i)).1 : Int),(i : Int))]).map encC = done.map encC ++ [[.int .i64 (D (l.drop i)).1,.int .i64 i]] := by simp [encC]
    rw [em] at ih
    generalize D (l.drop i) = d at *
    simp only [encC] at ha
    rw [hb] at hbad
    by_cases hc : (d.1 : Int) = 65533
    ·have h26 : ¬ (d.2 : Int) ≤ 1 := by intro q; simp [hc,q] at hbad
     obtain ⟨y3,y4,y5,y6,y8,y9,y10,y11,S',ih⟩ := ih (.iv (.int .i64 i)) (.iv (.int .i32 d.1)) (.iv (.int .i64 d.2)) (.tup [.iv (.bool true),.iv (.int .i64 i),.iv (.int .i32 d.1)]) (.iv (.bool true)) (.iv (.bool true)) (.iv (.bool false))
     refine ⟨y3,y4,y5,y6,y8,y9,y10,y11,S',loop_at K _ _ t104L0.eq_1 ?_⟩
     simp (config := { maxSteps := 4000000 }) (disch := omega) only [go_sem,hde,hsl,Int.toNat_natCast,h25,call114,h26,wrap_i64,ha,ih]
     simp only [Int.natCast_add,List.map_append,List.map_cons,List.map_nil,encC,List.append_assoc,List.cons_append,List.nil_append]
     cases (chars k (l.drop (i + d.2)) ((i : Int) + (d.2 : Int))).2 <;> rfl
    ·obtain ⟨y3,y4,y5,y6,y8,y9,y10,y11,S',ih⟩ := ih (.iv (.int .i64 i)) (.iv (.int .i32 d.1)) x6 (.tup [.iv (.bool true),.iv (.int .i64 i),.iv (.int .i32 d.1)]) (.iv (.bool true)) (.iv (.bool false)) x11
     refine ⟨y3,y4,y5,y6,y8,y9,y10,y11,S',loop_at K _ _ t104L0.eq_1 ?_⟩
     simp (config := { maxSteps := 4000000 }) (disch := omega) only [go_sem,hde,wrap_i64,ha,ih]
     simp only [Int.natCast_add,List.map_append,List.map_cons,List.map_nil,encC,List.append_assoc,List.cons_append,List.nil_append]
     cases (chars k (l.drop (i + d.2)) ((i : Int) + (d.2 : Int))).2 <;> rfl
   ·rw [hb] at hbad
    have h26 := hbad.symm
    have hc : (((D (l.drop i)).1 : Nat) : Int) = 65533 := by simp at h26; omega
    have hc2 : (((D (l.drop i)).2 : Nat) : Int) ≤ 1 := by simp at h26; omega
    refine ⟨?_,?_,?_,?_,?_,?_,?_,?_,?_,loop_at K _ _ t104L0.eq_1 ?_⟩
    rotate_left 9
    ·simp (config := { maxSteps := 4000000 }) (disch := omega) only [go_sem,chars,hne,hb,hde,hsl,Int.toNat_natCast,h25,call114,h26,hc]
     rfl
theorem call104 (t : Tag) (l : List UInt8) (ht : TagOk t l) (hl : l.length ≤ 2000000) : Pure K 104 [.iv (.sl t (bytesIV l))] (match (chars l.length l 0).2 with
      | none => .tup [.iv (.sl (sTag (chars l.length l 0).1) ((chars l.length l 0).1.map encC)),.iv (.agg [.int .i64 0,.int .i64 0])]
      | some p => .tup [.iv (.sl .nil []),.iv (.agg [.int .i64 4,.int .i64 p])]) := by
  obtain ⟨y3,y4,y5,y6,y8,y9,y10,y11,S',e⟩ := loop104 t l ht hl l.length 0 [] (.tup []) (.tup []) (.tup []) (.tup []) (.tup []) (.tup []) (.tup []) (by omega) (by omega) (by simp)
  rw [List.map_nil,acc_nil,accS_nil] at e
  simp only [List.nil_append,List.drop_zero,Int.cast_ofNat_Int] at e
  generalize chars l.length l 0 = q at *
  obtain ⟨q1,q2⟩ := q
  refine call_pure t104 rfl rfl ?_
  cases q2 with
  | none =>
    simp only at e ⊢
    simp (disch := omega) only [t104,go_sem,e,sTag_map]
  | some p =>
    simp only at e ⊢
    simp (disch := omega) only [t104,go_sem,e]
theorem sub2 (c : Int × Int) : sub (encC c) 0 2 = some (encC c) := by simp [sub,encC]
theorem i64_cell (a : Int) : isCell (i64 a) = true := rfl
def codes (cs : List (Int × Int)) : List Int := cs.map (·.1)
theorem codes_take (cs : List (Int × Int)) (i : Nat) (h : i < cs.length) : codes (cs.take (i + 1)) = codes (cs.take i) ++ [(cs.getD i default).1] := by
 rw [take_succ_getD (d := default) h]; simp [codes]
theorem chars_len0 : ∀ (k : Nat) (s : List UInt8) (i : Int),(chars k s i).1.length ≤ s.length
 | 0,s,i => by simp [chars]
 | k + 1,s,i => by
  simp only [chars]
  split
  ·simp
  ·split
   ·simp
   ·rename_i h1 h2
    have hb : bad s = false := by simpa using h2
    have hg := D_good hb
    have := chars_len0 k (s.drop (D s).2) (i + (D s).2)
    rw [List.length_drop] at this
    simp only [List.length_cons]
    omega
theorem chars_len (s : List UInt8) (hl : s.length ≤ 2000000) : (chars s.length s 0).1.length ≤ 2000000 := by
 have := chars_len0 s.length s 0
 omega
set_option maxHeartbeats 4000000 in
theorem loop87 (s : TV) (tg : Tag) (cs : List (Int × Int)) (hl : cs.length ≤ 2000000) (f a7 : TV) : ∀ (k i : Nat) (x6 x11 : TV),i + k = cs.length →
  ∃ y6 y11,lp' (lim K) t87L0 [s,.iv (.sl .nil []),.iv (.int .i64 0),.iv (.sl tg (cs.map encC)),f,acc 0 (TM.one i64 (codes (cs.take i))),x6,a7,.iv (.sl tg (cs.map encC)),.iv (.int .i64 cs.length),.iv (.int .i64 i),x11] (accS 1 3 (TM.one i64 (codes (cs.take i)))) = .ret (.exit 0,[s,.iv (.sl .nil []),.iv (.int .i64 0),.iv (.sl tg (cs.map encC)),f,acc 0 (TM.one i64 (codes cs)),y6,a7,.iv (.sl tg (cs.map encC)),.iv (.int .i64 cs.length),.iv (.int .i64 cs.length),y11],accS 1 3 (TM.one i64 (codes cs)))
 | 0,i,x6,x11,h => by
  obtain rfl : i = cs.length := by omega
  rw [List.take_length]
  refine ⟨?_,?_,loop_at K _ _ t87L0.eq_1 ?_⟩
  rotate_left 2
  ·simp (disch := omega) only [go_sem]
   rfl
 | k + 1,i,x6,x11,h => by
  have hc := codes_take cs i (by omega)
  have hcl : (codes (cs.take i)).length ≤ 2000000 := by simp [codes]; omega
  obtain ⟨y6,y11,ih⟩ := loop87 s tg cs hl f a7 k (i + 1) (.lb [.iv (.int .i64 (cs.getD i default).1),.iv (.int .i64 (cs.getD i default).2)]) (.iv (.bool true)) (by omega)
  rw [hc,← one_append] at ih
  have ha := ap_acc1 (w := 1) (b := 8) (el := 3) (t := .full) (l := TM.one i64 (codes (cs.take i))) (c := [.int .i64 (cs.getD i default).1]) ⟨rfl,rfl⟩ (Elems.one i64_cell _) (roomy_ok (by rw [TM.one_length]; omega))
  have hg := ix_map (w := 2) (f := encC) (fun _ => rfl) (t := tg) (l := cs) (i := (i : Int)) (by omega)
  refine ⟨y6,y11,loop_at K _ _ t87L0.eq_1 ?_⟩
  simp (config := { maxSteps := 4000000 }) (disch := omega) only [go_sem,hg,getCells_cp,sub2,Int.toNat_natCast,encC,wrap_i64,ha]
  exact congrArg er ih
theorem call87 (s : List UInt8) (hl : s.length ≤ 2000000) : Pure K 87 [.iv (.str s)] (match (chars s.length s 0).2 with
      | none => .tup [.iv (.sl (sTag (chars s.length s 0).1) (TM.one i64 (codes (chars s.length s 0).1))),.iv (.int .i64 0)]
      | some p => .tup [.iv (.sl .nil []),.iv (.int .i64 4)]) := by
  have h17 := call104 .no s (TagOk.no _) hl
  have hcl : (chars s.length s 0).1.length ≤ 2000000 := chars_len s hl
  generalize chars s.length s 0 = q at *
  obtain ⟨q1,q2⟩ := q
  refine call_pure t87 rfl rfl ?_
  cases q2 with
  | none =>
    simp only at h17 hcl ⊢
    simp (config := { maxSteps := 4000000 }) (disch := omega) only [t87,go_sem,cpR_pure h17,List.length_map]
    obtain ⟨y6,y11,e⟩ := loop87 (.iv (.str s)) (sTag q1) q1 hcl (.lb [.iv (.int .i64 0),.iv (.int .i64 0)]) (.iv (.bool false)) q1.length 0 (.tup []) (.tup []) (by omega)
    rw [List.take_zero,show codes [] = [] from rfl,show TM.one i64 [] = [] from rfl,acc_nil,accS_nil,show ((0 : Nat) : Int) = 0 from rfl] at e
    simp (config := { maxSteps := 4000000 }) (disch := omega) only [go_sem,e]
    simp only [TM.one,codes,sTag_map]
  | some p =>
    simp only at h17 ⊢
    simp (config := { maxSteps := 4000000 }) (disch := omega) only [t87,go_sem,cpR_pure h17]
theorem ite_high {c : Bool} {x n : Nat} (h : c = true → 128 ≤ x) : 128 ≤ (if c = true then (x,n) else (65533,1)).1 := by
 cases c with
 | false => exact (by decide : 128 ≤ 65533)
 | true => exact h rfl
theorem D_high (a : UInt8) (r : List UInt8) (h : 128 ≤ a.toNat) : 128 ≤ (D (a :: r)).1 := by
 have ha := bl a
 by_cases h1 : a.toNat < 194
 ·rw [D_bad a r (.inl ⟨h,h1⟩)]; decide
 by_cases h2 : a.toNat < 224
 ·rw [D_two a r ⟨by omega,h2⟩]
  split
  ·split
   ·simp only; omega
   ·decide
  ·decide
 by_cases h3 : a.toNat < 240
 ·rw [D_three a r ⟨by omega,h3⟩]
  split
  ·rename_i b c t
   have hb := bl b
   by_cases e : a.toNat = 224
   ·simp only [e,↓reduceIte]
    refine ite_high fun hc => ?_
    simp only [Bool.and_eq_true,decide_eq_true_eq] at hc
    rw [if_neg (by decide)] at hc
    omega
   ·simp only [e,↓reduceIte]
    generalize (if a.toNat = 237 then 159 else 191) = z
    exact ite_high fun _ => by omega
  ·decide
 by_cases h4 : a.toNat < 245
 ·rw [D_four a r ⟨by omega,h4⟩]
  split
  ·rename_i b c d t
   have hb := bl b
   by_cases e : a.toNat = 240
   ·simp only [e,↓reduceIte]
    refine ite_high fun hc => ?_
    simp only [Bool.and_eq_true,decide_eq_true_eq] at hc
    rw [if_neg (by decide)] at hc
    omega
   ·simp only [e,↓reduceIte]
    generalize (if a.toNat = 244 then 143 else 191) = z
    exact ite_high fun _ => by omega
  ·decide
 ·rw [D_bad a r (.inr (by omega))]; decide
def isDig (a : UInt8) : Bool := decide (48 ≤ a.toNat ∧ a.toNat ≤ 57)
theorem D_dig (a : UInt8) (r : List UInt8) : (isDig a = true → D (a :: r) = (a.toNat,1)) ∧ (isDig a = false → (D (a :: r)).1 < 48 ∨ 57 < (D (a :: r)).1) := by
 unfold isDig
 constructor
 ·intro h
  simp only [decide_eq_true_eq] at h
  exact D_ascii a r (by omega)
 ·intro h
  simp only [decide_eq_false_iff_not] at h
  by_cases h1 : a.toNat < 128
  ·rw [D_ascii a r h1]; simp only; omega
  ·have := D_high a r (by omega); omega
theorem call102 (c : Int) (S : Store) : (lim K).call 102 [.iv (.int .i32 c)] S = .ret (.iv (.bool (decide (c < 48) || decide (57 < c))),S) := by
 refine call_ret' K S (fn := t102) rfl rfl ?_
 by_cases h1 : c < 48
 ·simp (disch := omega) only [t102,go_sem,TM.undef,Bool.true_or]
 ·by_cases h2 : 57 < c
  ·simp (disch := omega) only [t102,go_sem,TM.undef,Bool.false_or]
  ·simp (disch := omega) only [t102,go_sem,TM.undef,Bool.false_or]
theorem drop_consB {l : List UInt8} {i : Nat} (h : i < l.length) : l.drop i = l.getD i 0 :: l.drop (i + 1) := by
 rw [List.drop_eq_getElem_cons h,List.getD_eq_getElem?_getD,List.getElem?_eq_getElem h]; rfl
theorem loop129 (s : List UInt8) (hs : s.length ≤ 2000000) : ∀ (k i : Nat) (x3 : Int) (x4 x5 x7 x8 x9 : TV),i + k = s.length →
  ∃ j r y4 y5 y7 y8 y9 S',(j = .ret ∧ 0 ≤ r ∧ (s.drop i).all isDig = false ∨ j = .exit 0 ∧ r = x3 ∧ (s.drop i).all isDig = true) ∧
   lp' (lim K) t129L0 [.iv (.str s),.fn 102 [] [],.iv (.bool true),.iv (.int .i64 x3),x4,x5,.it 0,x7,x8,x9] [.sit s i] = .ret (j,[.iv (.str s),.fn 102 [] [],.iv (.bool true),.iv (.int .i64 r),y4,y5,.it 0,y7,y8,y9],S')
 | 0,i,x3,x4,x5,x7,x8,x9,h => by
  refine ⟨.exit 0,x3,?_,?_,?_,?_,?_,?_,.inr ⟨rfl,rfl,by rw [List.drop_eq_nil_of_le (by omega)]; rfl⟩,loop_at K _ _ t129L0.eq_1 ?_⟩
  rotate_left 6
  ·simp (disch := omega) only [go_sem]
   rfl
 | k + 1,i,x3,x4,x5,x7,x8,x9,h => by
  have hla : i < s.length := by omega
  have hde := decode_eq s i hla
  rw [drop_consB hla] at hde
  obtain ⟨hd1,hd2⟩ := D_dig (s.getD i 0) (s.drop (i + 1))
  have hdr := drop_consB hla
  generalize s.getD i 0 = a at *
  cases hb : isDig a with
  | true =>
   rw [hd1 hb] at hde
   have hb' := hb
   unfold isDig at hb'
   simp only [decide_eq_true_eq] at hb'
   obtain ⟨j,r,y4,y5,y7,y8,y9,S',hj,ih⟩ := loop129 s hs k (i + 1) x3 (.iv (.int .i64 i)) (.iv (.int .i32 a.toNat)) (.tup [.iv (.bool true),.iv (.int .i64 i),.iv (.int .i32 a.toNat)]) (.iv (.bool true)) (.iv (.bool false)) (by omega)
   refine ⟨j,r,y4,y5,y7,y8,y9,S',?_,loop_at K _ _ t129L0.eq_1 ?_⟩
   ·rw [hdr,List.all_cons,hb,Bool.true_and]; exact hj
   ·simp (disch := omega) only [go_sem,hla,hde,call102,Bool.or_false]
    exact congrArg er ih
  | false =>
   have hb2 := hd2 hb
   generalize D (a :: s.drop (i + 1)) = d at *
   refine ⟨.ret,(i : Int),?_,?_,?_,?_,?_,?_,.inl ⟨rfl,by omega,by rw [hdr,List.all_cons,hb,Bool.false_and]⟩,loop_at K _ _ t129L0.eq_1 ?_⟩
   rotate_left 6
   ·have hor : (decide ((d.1 : Int) < 48) || decide (57 < (d.1 : Int))) = true := by simp; omega
    simp (disch := omega) only [go_sem,hla,hde,call102,hor]
    rfl
theorem call129 (s : List UInt8) (hs : s.length ≤ 2000000) : ∃ r S',(0 ≤ r ↔ s.all isDig = false) ∧ (lim K).call 129 [.iv (.str s),.fn 102 [] [],.iv (.bool true)] [] = .ret (.iv (.int .i64 r),S') := by
 obtain ⟨j,r,y4,y5,y7,y8,y9,S',hj,ih⟩ := loop129 s hs s.length 0 0 (.tup []) (.tup []) (.tup []) (.tup []) (.tup []) (by omega)
 rw [List.drop_zero] at hj
 rcases hj with ⟨rfl,hr,ha⟩ | ⟨rfl,hr,ha⟩
 ·refine ⟨r,S',by simp [hr,ha],call_ret' K _ (fn := t129) rfl rfl ?_⟩
  simp (config := { maxSteps := 4000000 }) (disch := omega) only [t129,go_sem,TM.undef]
  rw [ih]
  simp (config := { maxSteps := 4000000 }) (disch := omega) only [go_sem]
 ·refine ⟨-1,S',by simp [ha],call_ret' K _ (fn := t129) rfl rfl ?_⟩
  simp (config := { maxSteps := 4000000 }) (disch := omega) only [t129,go_sem,TM.undef]
  rw [ih]
  simp (config := { maxSteps := 4000000 }) (disch := omega) only [go_sem]
theorem call101 (s : List UInt8) (hs : s.length ≤ 2000000) : ∃ S',(lim K).call 101 [.iv (.str s),.fn 102 [] []] [] = .ret (.iv (.bool (!s.all isDig)),S') := by
 obtain ⟨r,S',hr,ih⟩ := call129 s hs
 have h171 : (lim K).call 112 [.iv (.str s),.fn 102 [] []] [] = .ret (.iv (.int .i64 r),S') := by
  refine call_ret' K _ (fn := t112) rfl rfl ?_
  simp (config := { maxSteps := 4000000 }) (disch := omega) only [t112,go_sem,TM.undef,ih]
 refine ⟨S',call_ret' K _ (fn := t101) rfl rfl ?_⟩
 cases ha : s.all isDig with
 | true =>
  have : ¬ 0 ≤ r := fun h => by rw [hr,ha] at h; cases h
  simp (config := { maxSteps := 4000000 }) (disch := omega) only [t101,go_sem,TM.undef,h171,Bool.not_true]
 | false =>
  have : 0 ≤ r := hr.2 ha
  simp (config := { maxSteps := 4000000 }) (disch := omega) only [t101,go_sem,TM.undef,h171,Bool.not_false]
theorem ixs0 (c : UInt8) (r : List UInt8) (k : IntKind) : ixStr (.iv (.str (c :: r))) (.iv (.int k 0)) = some (.iv (.int .u8 c.toNat)) := by
 have := ixStr_ok (s := c :: r) (i := 0) (kd := k) (by simp)
 simpa using this
def trimM : List UInt8 → List UInt8
 | a :: r => if a.toNat = 45 then r else a :: r
 | [] => []
theorem call100 (s : List UInt8) (hs : s.length ≤ 2000000) (S : Store) : (lim K).call 100 [.iv (.str s),.iv (.str [45])] S = .ret (.iv (.str (trimM s)),S) := by
 have h190 : (lim K).call 128 [.iv (.str s),.iv (.str [45])] [] = .ret (.iv (.bool (match s with | a :: _ => decide (a.toNat = 45) | [] => false)),[]) := by
  refine call_ret' K _ (fn := t128) rfl rfl ?_
  cases s with
  | nil => simp (config := { maxSteps := 4000000 }) (disch := omega) only [t128,go_sem,TM.undef,List.length_nil,List.length_cons]
  | cons a r =>
   have hl : (a :: r).length = r.length + 1 := rfl
   have h1 := slice_str_hi [] (s := a :: r) (b := ((1 : Nat) : Int)) (by rw [hl]; omega)
   rw [show (((1 : Nat) : Int)).toNat = 1 from rfl,show (a :: r).take 1 = [a] from rfl] at h1
   have h2 : ([a] == [(45 : UInt8)]) = decide (a.toNat = 45) := by
    rw [Bool.eq_iff_iff]
    simp only [beq_iff_eq,List.cons.injEq,and_true,decide_eq_true_eq]
    constructor
    ·rintro rfl; rfl
    ·intro h; exact UInt8.toNat_inj.1 h
   simp (config := { maxSteps := 4000000 }) (disch := omega) only [t128,go_sem,TM.undef,hl,List.length_nil,List.length_cons,h1,h2]
 have h170 : (lim K).call 111 [.iv (.str s),.iv (.str [45])] [] = .ret (.iv (.str (trimM s)),[]) := by
  refine call_ret' K _ (fn := t111) rfl rfl ?_
  cases s with
  | nil => simp (config := { maxSteps := 4000000 }) (disch := omega) only [t111,go_sem,TM.undef,h190,trimM]
  | cons a r =>
   have hl : (a :: r).length = r.length + 1 := rfl
   have h1 := slice_str_lo [] (s := a :: r) (a := ((1 : Nat) : Int)) (by rw [hl]; omega)
   rw [show (((1 : Nat) : Int)).toNat = 1 from rfl,show (a :: r).drop 1 = r from rfl] at h1
   by_cases ha : a.toNat = 45
   ·simp (config := { maxSteps := 4000000 }) (disch := omega) only [t111,go_sem,TM.undef,h190,trimM,ha,List.length_nil,List.length_cons,h1]
   ·simp (config := { maxSteps := 4000000 }) (disch := omega) only [t111,go_sem,TM.undef,h190,trimM,ha,List.length_nil,List.length_cons,h1]
 refine call_ret' K _ (fn := t100) rfl rfl ?_
 simp (config := { maxSteps := 4000000 }) (disch := omega) only [t100,go_sem,TM.undef,h170]
theorem trimM_le (s : List UInt8) : (trimM s).length ≤ s.length := by
 cases s with
 | nil => simp [trimM]
 | cons a r => simp only [trimM]; split <;> simp
def digF (s : List UInt8) : Bool :=
 match trimM s with
 | [] => false
 | a :: r => if a.toNat = 48 ∧ s ≠ [48] then false else (a :: r).all isDig
theorem call85 (s : List UInt8) (hs : s.length ≤ 2000000) : Pure K 85 [.iv (.str s)] (.iv (.bool (digF s))) := by
 have h1 := call100 s hs []
 have h2 := trimM_le s
 unfold digF
 cases ht : trimM s with
 | nil =>
  rw [ht] at h1
  refine pure_ret (S := []) (call_ret' K _ (fn := t85) rfl rfl ?_) (by rw [resolve_iv])
  simp (config := { maxSteps := 4000000 }) (disch := omega) only [t85,go_sem,TM.undef,h1]
 | cons a r =>
  rw [ht] at h1 h2
  obtain ⟨S',h3⟩ := call101 (a :: r) (by omega)
  have h4 := ixs0 a r .i64
  have h5 : ((a :: r) == ([] : List UInt8)) = false := rfl
  by_cases ha : a.toNat = 48
  ·by_cases hz : s = [48]
   ·have h6 : (s == [(48 : UInt8)]) = true := by simp [hz]
    refine pure_ret (S := S') (r := .iv (.bool ((a :: r).all isDig))) (call_ret' K _ (fn := t85) rfl rfl ?_) (by rw [resolve_iv]; simp [ha,hz])
    simp (config := { maxSteps := 4000000 }) (disch := omega) only [t85,go_sem,TM.undef,h1,h3,h4,h5,h6,ha,Bool.not_not,Bool.not_true]
   ·have h6 : (s == [(48 : UInt8)]) = false := by simp [hz]
    refine pure_ret (S := []) (r := .iv (.bool false)) (call_ret' K _ (fn := t85) rfl rfl ?_) (by rw [resolve_iv]; simp [ha,hz])
    simp (config := { maxSteps := 4000000 }) (disch := omega) only [t85,go_sem,TM.undef,h1,h3,h4,h5,h6,ha,Bool.not_not,Bool.not_false]
  ·refine pure_ret (S := S') (r := .iv (.bool ((a :: r).all isDig))) (call_ret' K _ (fn := t85) rfl rfl ?_) (by rw [resolve_iv]; simp [ha])
   simp (config := { maxSteps := 4000000 }) (disch := omega) only [t85,go_sem,TM.undef,h1,h3,h4,h5,Bool.not_not]
def okC (t : List UInt8) : Bool := (chars t.length t 0).2.isNone
def bareF (d : Dt) : Bool :=
 if d.k = 0 ∨ d.k = 8 ∨ d.k = 9 ∨ d.k = 10 then true else if d.k = 1 then decide (d.n = 0 ∨ d.n = 1) else if d.k = 2 then digF d.t else if d.k = 3 then isC d.n
 else if d.k = 4 then okC d.t else if d.k = 5 then okC d.t && !d.t.isEmpty else false
theorem codes_ok (s : List UInt8) (hl : s.length ≤ 2000000) : ∃ l,Pure K 87 [.iv (.str s)] (.tup [l,.iv (.int .i64 (if okC s then 0 else 4))]) := by
 have h := call87 s hl
 unfold okC
 cases hc : (chars s.length s 0).2 with
 | none => rw [hc] at h; exact ⟨_,h⟩
 | some p => rw [hc] at h; exact ⟨_,h⟩
theorem beq_nil (t : List UInt8) : (t == []) = t.isEmpty := by cases t <;> rfl
theorem call59 (d : Dt) (hd : d.w ≤ 1048576) : Pure K 59 [.iv (.agg (encD d))] (.iv (.bool (bareF d))) := by
 have hw := Dt.w_eq d
 obtain ⟨l,hc⟩ := codes_ok d.t (by omega)
 have h116 := call85 d.t (by omega)
 have h117 := call86 d.n
 unfold bareF
 by_cases hs : d.k = 0 ∨ d.k = 8 ∨ d.k = 9 ∨ d.k = 10
 ·refine pure_ret (S := []) (r := .iv (.bool true)) (call_ret' K _ (fn := t59) rfl rfl ?_) (by rw [resolve_iv]; simp [hs])
  rw [encD_eq]
  rcases hs with h | h | h | h <;> simp (config := { maxSteps := 4000000 }) (disch := omega) only [t59,go_sem,TM.undef]
 ·by_cases h1 : d.k = 1
  ·refine pure_ret (S := []) (r := .iv (.bool (decide (d.n = 0 ∨ d.n = 1)))) (call_ret' K _ (fn := t59) rfl rfl ?_) (by rw [resolve_iv]; simp [h1])
   rw [encD_eq]
   by_cases n0 : d.n = 0
   ·simp (config := { maxSteps := 4000000 }) (disch := omega) only [t59,go_sem,TM.undef]
   ·by_cases n1 : d.n = 1
    ·simp (config := { maxSteps := 4000000 }) (disch := omega) only [t59,go_sem,TM.undef]
    ·simp (config := { maxSteps := 4000000 }) (disch := omega) only [t59,go_sem,TM.undef]
  ·by_cases h2 : d.k = 2
   ·refine pure_ret (S := []) (r := .iv (.bool (digF d.t))) (call_ret' K _ (fn := t59) rfl rfl ?_) (by rw [resolve_iv]; simp [h2])
    rw [encD_eq]
    simp (config := { maxSteps := 4000000 }) (disch := omega) only [t59,go_sem,TM.undef,cpR_pure h116]
   ·by_cases h3 : d.k = 3
    ·refine pure_ret (S := []) (r := .iv (.bool (isC d.n))) (call_ret' K _ (fn := t59) rfl rfl ?_) (by rw [resolve_iv]; simp [h3])
     rw [encD_eq]
     simp (config := { maxSteps := 4000000 }) (disch := omega) only [t59,go_sem,TM.undef,h117]
    ·by_cases h4 : d.k = 4
     ·refine pure_ret (S := []) (r := .iv (.bool (okC d.t))) (call_ret' K _ (fn := t59) rfl rfl ?_) (by rw [resolve_iv]; simp [h4])
      rw [encD_eq]
      cases ho : okC d.t
      ·rw [ho] at hc
       simp (config := { maxSteps := 4000000 }) (disch := omega) only [t59,go_sem,TM.undef,cpR_pure hc,Bool.false_eq_true]
      ·rw [ho] at hc
       simp (config := { maxSteps := 4000000 }) (disch := omega) only [t59,go_sem,TM.undef,cpR_pure hc]
     ·by_cases h5 : d.k = 5
      ·refine pure_ret (S := []) (r := .iv (.bool (okC d.t && !d.t.isEmpty))) (call_ret' K _ (fn := t59) rfl rfl ?_) (by rw [resolve_iv]; simp [h5])
       rw [encD_eq]
       cases ho : okC d.t
       ·rw [ho] at hc
        simp (config := { maxSteps := 4000000 }) (disch := omega) only [t59,go_sem,TM.undef,cpR_pure hc,Bool.false_eq_true,Bool.false_and]
       ·rw [ho] at hc
        simp (config := { maxSteps := 4000000 }) (disch := omega) only [t59,go_sem,TM.undef,cpR_pure hc,Bool.true_and,beq_nil]
      ·refine pure_ret (S := []) (r := .iv (.bool false)) (call_ret' K _ (fn := t59) rfl rfl ?_) (by rw [resolve_iv]; simp [hs,h1,h2,h3,h4,h5])
       rw [encD_eq]
       simp (config := { maxSteps := 4000000 }) (disch := omega) only [t59,go_sem,TM.undef]
theorem loop84 (f : Nat) (act : Dt → Bool) (g : Tag) (ks : List Dt) (hl : ks.length ≤ 2000000) (hf : ∀ x ∈ ks,TM.Pure K f [.iv (.agg (encD x))] (.iv (.bool (act x)))) (x2 : TV) (S : Store) : ∀ (k i : Nat) (x3 x6 x7 : TV),i + k = ks.length →
  ∃ j r y3 y5 y6 y7,(j = .ret ∧ (∃ n : Int,r = .iv (.int .i64 n) ∧ 0 ≤ n) ∧ (ks.drop i).any act = true ∨ j = .exit 0 ∧ r = x2 ∧ (ks.drop i).any act = false) ∧
   lp' (lim K) t84L0 [.iv (.sl g (encDs ks)),.fn f [] [],x2,x3,.iv (.int .i64 ks.length),.iv (.int .i64 (i : Int)),x6,x7] S = .ret (j,[.iv (.sl g (encDs ks)),.fn f [] [],r,y3,.iv (.int .i64 ks.length),y5,y6,y7],S)
 | 0,i,x3,x6,x7,h => by
  obtain rfl : i = ks.length := by omega
  refine ⟨.exit 0,x2,?_,?_,?_,?_,.inr ⟨rfl,rfl,by rw [List.drop_length]; rfl⟩,loop_at K _ _ t84L0.eq_1 ?_⟩
  rotate_left 4
  ·simp (config := { maxSteps := 4000000 }) (disch := omega) only [go_sem]
   rfl
 | k + 1,i,x3,x6,x7,h => by
  have hla : i < ks.length := by omega
  have hix := ixD (g := g) (ks := ks) (i := (i : Int)) (by omega)
  rw [Int.toNat_natCast] at hix
  have hdr := drop_get hla
  have hc := hf _ (get_mem hla)
  generalize hx : ks.getD i default = x at *
  rw [encD_eq] at hc
  cases ha : act x with
  | true =>
   rw [ha] at hc
   refine ⟨.ret,.iv (.int .i64 (i : Int)),?_,?_,?_,?_,.inl ⟨rfl,⟨_,rfl,by omega⟩,by rw [hdr,List.any_cons,ha,Bool.true_or]⟩,loop_at K _ _ t84L0.eq_1 ?_⟩
   rotate_left 4
   ·simp (config := { maxSteps := 4000000 }) (disch := omega) only [go_sem,hix,getD5,cpR_pure hc]
    rfl
  | false =>
   rw [ha] at hc
   obtain ⟨j,r,y3,y5,y6,y7,hj,ih⟩ := loop84 f act g ks hl hf x2 S k (i + 1) (.iv (.int .i64 (i : Int))) (.iv (.bool true)) (.iv (.bool false)) (by omega)
   rw [show ((i + 1 : Nat) : Int) = (i : Int) + 1 by omega] at ih
   refine ⟨j,r,y3,y5,y6,y7,?_,loop_at K _ _ t84L0.eq_1 ?_⟩
   ·rw [hdr,List.any_cons,ha,Bool.false_or]; exact hj
   ·simp (config := { maxSteps := 4000000 }) (disch := omega) only [go_sem,hix,getD5,cpR_pure hc,wrap_i64]
    exact congrArg er ih
theorem call57 (f : Nat) (act : Dt → Bool) (g : Tag) (ks : List Dt) (hl : ks.length ≤ 2000000) (hf : ∀ x ∈ ks,TM.Pure K f [.iv (.agg (encD x))] (.iv (.bool (act x)))) (S : Store) :
  (lim K).call 57 [.iv (.sl g (encDs ks)),.fn f [] []] S = .ret (.iv (.bool (ks.any act)),S) := by
 obtain ⟨j,r,y3,y5,y6,y7,hj,ih⟩ := loop84 f act g ks hl hf (.iv (.int .i64 0)) S ks.length 0 (.tup []) (.tup []) (.tup []) (by omega)
 rw [show ((0 : Nat) : Int) = 0 from rfl,List.drop_zero] at *
 have h115 : ∃ n : Int,(0 ≤ n ↔ ks.any act = true) ∧ (lim K).call 84 [.iv (.sl g (encDs ks)),.fn f [] []] S = .ret (.iv (.int .i64 n),S) := by
  rcases hj with ⟨rfl,⟨n,rfl,hn⟩,ha⟩ | ⟨rfl,rfl,ha⟩
  ·refine ⟨n,by simp [hn,ha],call_ret' K _ (fn := t84) rfl rfl ?_⟩
   simp (config := { maxSteps := 4000000 }) (disch := omega) only [t84,go_sem,TM.undef,encDs_len]
   rw [ih]
   simp (config := { maxSteps := 4000000 }) (disch := omega) only [go_sem]
  ·refine ⟨-1,by simp [ha],call_ret' K _ (fn := t84) rfl rfl ?_⟩
   simp (config := { maxSteps := 4000000 }) (disch := omega) only [t84,go_sem,TM.undef,encDs_len]
   rw [ih]
   simp (config := { maxSteps := 4000000 }) (disch := omega) only [go_sem]
 obtain ⟨n,hn,h115⟩ := h115
 refine call_ret' K _ (fn := t57) rfl rfl ?_
 by_cases h0 : 0 ≤ n
 ·rw [hn.1 h0]
  simp (config := { maxSteps := 4000000 }) (disch := omega) only [t57,go_sem,TM.undef,h115]
 ·have : ks.any act = false := by
   cases h : ks.any act with
   | true => exact absurd (hn.2 h) h0
   | false => rfl
  rw [this]
  simp (config := { maxSteps := 4000000 }) (disch := omega) only [t57,go_sem,TM.undef,h115]
theorem call56 (d : Dt) (hd : d.w ≤ 2000000) (S : Store) : (lim K).call 56 [.iv (.agg (encD d))] S = .ret (.iv (.bool (decide (d.k = 6 ∧ d.ks.length = 2))),S) := by
 have hw := Dt.w_eq d
 have hl := Dt.ws_len d.ks
 refine call_ret' K _ (fn := t56) rfl rfl ?_
 rw [encD_eq]
 by_cases hk : d.k = 6
 ·by_cases h2 : d.ks.length = 2
  ·have : ((d.ks.length : Int) == 2) = true := by simp [h2]
   simp (config := { maxSteps := 4000000 }) (disch := omega) only [t56,go_sem,TM.undef,encDs_len]
  ·simp (config := { maxSteps := 4000000 }) (disch := omega) only [t56,go_sem,TM.undef,encDs_len]
 ·simp (config := { maxSteps := 4000000 }) (disch := omega) only [t56,go_sem,TM.undef,encDs_len]
mutual
def mayF : Dt → Bool
 | .mk k n t g ks p => if k = 6 ∧ ks.length = 2 then mays ks else if k = 7 then mays ks else ks.isEmpty && bareF (.mk k n t g ks p)
def mays : List Dt → Bool
 | [] => true
 | d :: ds => mayF d && mays ds
end
theorem mays_all : ∀ ks : List Dt,mays ks = ks.all mayF
 | [] => by rw [mays]; rfl
 | d :: ds => by rw [mays,mays_all ds]; rfl
theorem mayF_eq (d : Dt) : mayF d = if d.k = 6 ∧ d.ks.length = 2 then d.ks.all mayF else if d.k = 7 then d.ks.all mayF else d.ks.isEmpty && bareF d := by
 cases d; rw [mayF,mays_all]; rfl
abbrev lbD' (d : Dt) : TV := .lb [.iv (.int .i64 d.k),.iv (.int .i64 d.n),.iv (.str d.t),.iv (.sl d.g (encDs d.ks)),.iv (.int .i64 d.p)]
theorem two_of {d : Dt} (h : d.ks.length = 2) : ∃ a b,d.ks = [a,b] := by
 cases hk : d.ks with
 | nil => rw [hk] at h; simp at h
 | cons a r =>
  cases r with
  | nil => rw [hk] at h; simp at h
  | cons b r =>
   cases r with
   | nil => exact ⟨a,b,rfl⟩
   | cons c r => rw [hk] at h; simp at h
theorem ix0 (g : Tag) (a b : Dt) : indexAddrS 5 (.iv (.sl g (encDs [a,b]))) 0 = some (.iv (.cp (encD a))) := ixD (g := g) (ks := [a,b]) (i := 0) (by simp)
theorem ix1 (g : Tag) (a b : Dt) : indexAddrS 5 (.iv (.sl g (encDs [a,b]))) 1 = some (.iv (.cp (encD b))) := ixD (g := g) (ks := [a,b]) (i := 1) (by simp)
theorem loop34 (M : Nat) (hM : M ≤ 1048576) (ih : ∀ d : Dt,d.w ≤ M → TM.Pure K 34 [.iv (.agg (encD d))] (.iv (.bool (mayF d)))) (x0 : TV) (S : Store) : ∀ (N : Nat),N ≤ M + 1 → ∀ (d : Dt) (x2 x3 x4 x5 : TV),d.w ≤ N →
  ∃ j d' r y3 y4,(j = .ret ∧ r = .iv (.bool false) ∧ mayF d = false ∨ j = .exit 0 ∧ r = x2 ∧ mayF d' = mayF d ∧ d'.w ≤ d.w ∧ ¬ (d'.k = 6 ∧ d'.ks.length = 2)) ∧
   lp' (lim K) t34L0 [x0,lbD' d,x2,x3,x4,x5] S = .ret (j,[x0,lbD' d',r,y3,y4,x5],S)
 | 0,hN,d,x2,x3,x4,x5,hd => by have := Dt.w_eq d; omega
 | N + 1,hN,d,x2,x3,x4,x5,hd => by
  have hw := Dt.w_eq d
  have hp := call56 d (by omega) S
  rw [encD_eq] at hp
  by_cases h2 : d.k = 6 ∧ d.ks.length = 2
  ·obtain ⟨a,b,hk⟩ := two_of h2.2
   have hab : a.w + b.w + 1 ≤ d.w := by rw [hw,hk,Dt.ws,Dt.ws,Dt.ws]; omega
   have ha := ih a (by omega)
   rw [encD_eq] at ha
   have hm : mayF d = (mayF a && mayF b) := by rw [mayF_eq d,if_pos h2,hk]; simp
   have i0 := ix0 d.g a b
   have i1 := ix1 d.g a b
   rw [← hk] at i0 i1
   rw [decT h2] at hp
   cases hma : mayF a with
   | false =>
    rw [hma] at ha
    refine ⟨.ret,d,.iv (.bool false),?_,?_,.inl ⟨rfl,rfl,by rw [hm,hma,Bool.false_and]⟩,loop_at K _ _ t34L0.eq_1 ?_⟩
    rotate_left 2
    ·simp (config := { maxSteps := 4000000 }) (disch := omega) only [go_sem,hp,i0,getD5,cpR_pure ha]
     rfl
   | true =>
    rw [hma] at ha
    obtain ⟨j,d',r,y3,y4,hj,ih2⟩ := loop34 M hM ih x0 S N (by omega) b x2 (.iv (.bool true)) (.iv (.bool false)) x5 (by omega)
    refine ⟨j,d',r,y3,y4,?_,loop_at K _ _ t34L0.eq_1 ?_⟩
    ·rw [hm,hma,Bool.true_and]
     rcases hj with h | ⟨h1,h2,h3,h4,h5⟩
     ·exact .inl h
     ·exact .inr ⟨h1,h2,h3,by omega,h5⟩
    ·simp (config := { maxSteps := 4000000 }) (disch := omega) only [go_sem,hp,i0,i1,getD5,cpR_pure ha]
     exact congrArg er ih2
  ·rw [decF h2] at hp
   refine ⟨.exit 0,d,x2,?_,?_,.inr ⟨rfl,rfl,rfl,Nat.le_refl _,h2⟩,loop_at K _ _ t34L0.eq_1 ?_⟩
   rotate_left 2
   ·simp (config := { maxSteps := 4000000 }) (disch := omega) only [go_sem,hp]
    rfl
theorem any_not (ks : List Dt) (f : Dt → Bool) : (!(ks.any fun x => !f x)) = ks.all f := by
 induction ks with
 | nil => rfl
 | cons a r ih => simp only [List.any_cons,List.all_cons,Bool.not_or,Bool.not_not,ih]
theorem call34 : ∀ (N : Nat),N ≤ 1048576 → ∀ d : Dt,d.w ≤ N → TM.Pure K 34 [.iv (.agg (encD d))] (.iv (.bool (mayF d)))
 | 0,hN,d,hd => by have := Dt.w_eq d; omega
 | N + 1,hN,d,hd => by
  have ih := call34 N (by omega)
  obtain ⟨j,d',r,y3,y4,hj,hl⟩ := loop34 N (by omega) ih (.iv (.agg (encD d))) [] (N + 1) (by omega) d (.iv (.bool false)) (.tup []) (.tup []) (.tup []) hd
  rcases hj with ⟨rfl,rfl,hm⟩ | ⟨rfl,rfl,hm,hw',hn⟩
  ·refine pure_ret (S := []) (r := .iv (.bool false)) (call_ret' K _ (fn := t34) rfl rfl ?_) (by rw [resolve_iv,hm])
   rw [encD_eq] at hl ⊢
   simp (config := { maxSteps := 4000000 }) (disch := omega) only [t34,go_sem,TM.undef]
   rw [hl]
   simp (config := { maxSteps := 4000000 }) (disch := omega) only [go_sem]
  ·have hwd := Dt.w_eq d'
   have hwl := Dt.ws_len d'.ks
   have h84 : ∀ x ∈ d'.ks,TM.Pure K 58 [.iv (.agg (encD x))] (.iv (.bool (!mayF x))) := by
    intro x hx
    have hc := ih x (by have := Dt.kid_lt hx; omega)
    refine pure_ret (S := []) (r := .iv (.bool (!mayF x))) (call_ret' K _ (fn := t58) rfl rfl ?_) (by rw [resolve_iv])
    rw [encD_eq] at hc ⊢
    simp (config := { maxSteps := 4000000 }) (disch := omega) only [t58,go_sem,TM.undef,cpR_pure hc]
   have h83 := call57 58 (fun x => !mayF x) d'.g d'.ks (by omega) h84 []
   have h85 := call59 d' (by omega)
   rw [encD_eq] at h85
   refine pure_ret (S := []) (r := .iv (.bool (mayF d'))) (call_ret' K _ (fn := t34) rfl rfl ?_) (by rw [resolve_iv,hm])
   rw [encD_eq] at hl ⊢
   rw [mayF_eq d',if_neg hn]
   simp (config := { maxSteps := 4000000 }) (disch := omega) only [t34,go_sem,TM.undef]
   rw [hl]
   by_cases h7 : d'.k = 7
   ·rw [if_pos h7]
    simp (config := { maxSteps := 4000000 }) (disch := omega) only [go_sem,h83,any_not]
   ·rw [if_neg h7]
    by_cases he : d'.ks.length = 0
    ·have : d'.ks.isEmpty = true := by rw [List.isEmpty_iff]; exact List.eq_nil_of_length_eq_zero he
     have e0 : ((d'.ks.length : Int) == 0) = true := by simp [he]
     simp (config := { maxSteps := 4000000 }) (disch := omega) only [go_sem,encDs_len,e0,cpR_pure h85,this,Bool.true_and]
    ·have : d'.ks.isEmpty = false := by
      cases hk : d'.ks with
      | nil => rw [hk] at he; exact absurd rfl he
      | cons a r => rfl
     simp (config := { maxSteps := 4000000 }) (disch := omega) only [go_sem,encDs_len,this,Bool.false_and]
mutual
def plF : Dt → Bool
 | .mk k n t g ks p => !decide (k = 5 ∧ n ≠ 0) && pls ks
def pls : List Dt → Bool
 | [] => true
 | d :: ds => plF d && pls ds
end
theorem pls_all : ∀ ks : List Dt,pls ks = ks.all plF
 | [] => by rw [pls]; rfl
 | d :: ds => by rw [pls,pls_all ds]; rfl
theorem plF_eq (d : Dt) : plF d = (!decide (d.k = 5 ∧ d.n ≠ 0) && d.ks.all plF) := by
 cases d; rw [plF,pls_all]; rfl
theorem loop35 (M : Nat) (hM : M ≤ 1048576) (ih : ∀ d : Dt,d.w ≤ M → TM.Pure K 35 [.iv (.agg (encD d))] (.iv (.bool (plF d)))) (x0 : TV) (S : Store) : ∀ (N : Nat),N ≤ M + 1 → ∀ (d : Dt) (x2 x3 x4 x5 : TV),d.w ≤ N →
  ∃ j d' r y3 y4,(j = .ret ∧ r = .iv (.bool false) ∧ plF d = false ∨ j = .exit 0 ∧ r = x2 ∧ plF d' = plF d ∧ d'.w ≤ d.w) ∧
   lp' (lim K) t35L0 [x0,lbD' d,x2,x3,x4,x5] S = .ret (j,[x0,lbD' d',r,y3,y4,x5],S)
 | 0,hN,d,x2,x3,x4,x5,hd => by have := Dt.w_eq d; omega
 | N + 1,hN,d,x2,x3,x4,x5,hd => by
  have hw := Dt.w_eq d
  have hl := Dt.ws_len d.ks
  by_cases h2 : d.k = 6 ∧ d.ks.length = 2
  ·obtain ⟨a,b,hk⟩ := two_of h2.2
   have hab : a.w + b.w + 1 ≤ d.w := by rw [hw,hk,Dt.ws,Dt.ws,Dt.ws]; omega
   have ha := ih a (by omega)
   rw [encD_eq] at ha
   have hm : plF d = (plF a && plF b) := by rw [plF_eq d,hk]; simp [h2.1]
   have i0 := ix0 d.g a b
   have i1 := ix1 d.g a b
   rw [← hk] at i0 i1
   have h6 := h2.1
   have hl2 : ((d.ks.length : Int) == 2) = true := by simp [h2.2]
   cases hma : plF a with
   | false =>
    rw [hma] at ha
    refine ⟨.ret,d,.iv (.bool false),?_,?_,.inl ⟨rfl,rfl,by rw [hm,hma,Bool.false_and]⟩,loop_at K _ _ t35L0.eq_1 ?_⟩
    rotate_left 2
    ·simp (config := { maxSteps := 4000000 }) (disch := omega) only [go_sem,encDs_len,hl2,i0,getD5,cpR_pure ha]
     rfl
   | true =>
    rw [hma] at ha
    obtain ⟨j,d',r,y3,y4,hj,ih2⟩ := loop35 M hM ih x0 S N (by omega) b x2 (.iv (.bool true)) (.iv (.bool false)) x5 (by omega)
    refine ⟨j,d',r,y3,y4,?_,loop_at K _ _ t35L0.eq_1 ?_⟩
    ·rw [hm,hma,Bool.true_and]
     rcases hj with h | ⟨h1,h2,h3,h4⟩
     ·exact .inl h
     ·exact .inr ⟨h1,h2,h3,by omega⟩
    ·simp (config := { maxSteps := 4000000 }) (disch := omega) only [go_sem,encDs_len,hl2,i0,i1,getD5,cpR_pure ha]
     exact congrArg er ih2
  ·refine ⟨.exit 0,d,x2,?_,?_,.inr ⟨rfl,rfl,rfl,Nat.le_refl _⟩,loop_at K _ _ t35L0.eq_1 ?_⟩
   rotate_left 2
   ·by_cases h6 : d.k = 6
    ·have hl2 : ((d.ks.length : Int) == 2) = false := by
      have : d.ks.length ≠ 2 := fun e => h2 ⟨h6,e⟩
      simp; omega
     simp (config := { maxSteps := 4000000 }) (disch := omega) only [go_sem,encDs_len,hl2]
     rfl
    ·simp (config := { maxSteps := 4000000 }) (disch := omega) only [go_sem,encDs_len]
     first | done | rfl
theorem call35 : ∀ (N : Nat),N ≤ 1048576 → ∀ d : Dt,d.w ≤ N → TM.Pure K 35 [.iv (.agg (encD d))] (.iv (.bool (plF d)))
 | 0,hN,d,hd => by have := Dt.w_eq d; omega
 | N + 1,hN,d,hd => by
  have ih := call35 N (by omega)
  obtain ⟨j,d',r,y3,y4,hj,hl⟩ := loop35 N (by omega) ih (.iv (.agg (encD d))) [] (N + 1) (by omega) d (.iv (.bool false)) (.tup []) (.tup []) (.tup []) hd
  rcases hj with ⟨rfl,rfl,hm⟩ | ⟨rfl,rfl,hm,hw'⟩
  ·refine pure_ret (S := []) (r := .iv (.bool false)) (call_ret' K _ (fn := t35) rfl rfl ?_) (by rw [resolve_iv,hm])
   rw [encD_eq] at hl ⊢
   simp (config := { maxSteps := 4000000 }) (disch := omega) only [t35,go_sem,TM.undef]
   rw [hl]
   simp (config := { maxSteps := 4000000 }) (disch := omega) only [go_sem]
  ·have hwd := Dt.w_eq d'
   have hwl := Dt.ws_len d'.ks
   have h86 : ∀ x ∈ d'.ks,TM.Pure K 60 [.iv (.agg (encD x))] (.iv (.bool (!plF x))) := by
    intro x hx
    have hc := ih x (by have := Dt.kid_lt hx; omega)
    refine pure_ret (S := []) (r := .iv (.bool (!plF x))) (call_ret' K _ (fn := t60) rfl rfl ?_) (by rw [resolve_iv])
    rw [encD_eq] at hc ⊢
    simp (config := { maxSteps := 4000000 }) (disch := omega) only [t60,go_sem,TM.undef,cpR_pure hc]
   have h83 := call57 60 (fun x => !plF x) d'.g d'.ks (by omega) h86 []
   refine pure_ret (S := []) (r := .iv (.bool (plF d'))) (call_ret' K _ (fn := t35) rfl rfl ?_) (by rw [resolve_iv,hm])
   rw [encD_eq] at hl ⊢
   rw [plF_eq d']
   simp (config := { maxSteps := 4000000 }) (disch := omega) only [t35,go_sem,TM.undef]
   rw [hl]
   by_cases h5 : d'.k = 5
   ·by_cases h0 : d'.n = 0
    ·have : decide (d'.k = 5 ∧ d'.n ≠ 0) = false := by simp [h0]
     simp (config := { maxSteps := 4000000 }) (disch := omega) only [go_sem,h83,any_not,this,Bool.not_false,Bool.true_and]
    ·have : decide (d'.k = 5 ∧ d'.n ≠ 0) = true := by simp [h0,h5]
     simp (config := { maxSteps := 4000000 }) (disch := omega) only [go_sem,this,Bool.not_true,Bool.false_and]
   ·have : decide (d'.k = 5 ∧ d'.n ≠ 0) = false := by simp [h5]
    simp (config := { maxSteps := 4000000 }) (disch := omega) only [go_sem,h83,any_not,this,Bool.not_false,Bool.true_and]
def primTab : List Int := [2,1,2,1,1,2,2,1,2,2,2,2,2,2,2,1,1,1,1,2,1,2,3,1,1,1,1,2,1,2,3,1,2,1,2,3,1,0,1,1,0,0]
def nameTab : List (List UInt8) := [[101,113,63],[112,97,105,114,63],[99,111,110,115],[99,97,114],[99,100,114],[115,101,116,45,99,97,114,33],[115,101,116,45,99,100,114,33],[105,110,116,101,103,101,114,63],[37,43],[37,45],[37,42],[113,117,111,116,105,101,110,116],[114,101,109,97,105,110,100,101,114],[37,61],[37,60],[99,104,97,114,63],[99,104,97,114,45,62,105,110,116,101,103,101,114],[105,110,116,101,103,101,114,45,62,99,104,97,114],[115,116,114,105,110,103,63],[109,97,107,101,45,115,116,114,105,110,103],[115,116,114,105,110,103,45,108,101,110,103,116,104],[115,116,114,105,110,103,45,114,101,102],[115,116,114,105,110,103,45,115,101,116,33],[115,121,109,98,111,108,63],[115,121,109,98,111,108,45,62,115,116,114,105,110,103],[115,116,114,105,110,103,45,62,115,121,109,98,111,108],[118,101,99,116,111,114,63],[109,97,107,101,45,118,101,99,116,111,114],[118,101,99,116,111,114,45,108,101,110,103,116,104],[118,101,99,116,111,114,45,114,101,102],[118,101,99,116,111,114,45,115,101,116,33],[98,121,116,101,118,101,99,116,111,114,63],[109,97,107,101,45,98,121,116,101,118,101,99,116,111,114],[98,121,116,101,118,101,99,116,111,114,45,108,101,110,103,116,104],[98,121,116,101,118,101,99,116,111,114,45,117,56,45,114,101,102],[98,121,116,101,118,101,99,116,111,114,45,117,56,45,115,101,116,33],[112,114,111,99,101,100,117,114,101,63],[114,101,97,100,45,117,56],[119,114,105,116,101,45,117,56],[37,104,97,108,116],[101,111,102,45,111,98,106,101,99,116],[37,110,111,110,101]]
def primA (n : Int) : Int := if 0 ≤ n ∧ n < 42 then primTab.getD n.toNat 0 else -1
theorem sub_map1 {α : Type} (f : α → TV) (d : α) {l : List α} {k : Nat} (h : k < l.length) : sub (l.map f) k 1 = some [f (l.getD k d)] := by
 have e : k + 1 ≤ (l.map f).length := by rw [List.length_map]; omega
 simp only [sub,e,↓reduceIte]
 rw [List.drop_eq_getElem_cons (by rw [List.length_map]; omega)]
 simp [List.getD,List.getElem?_eq_getElem h]
theorem call92 (n : Int) (S : Store) : (lim K).call 92 [.iv (.int .i64 n)] S = .ret (.iv (.int .i64 (primA n)),S) := by
 refine call_ret' K _ (fn := t92) rfl rfl ?_
 unfold primA
 by_cases h : 0 ≤ n ∧ n < 42
 ·rw [if_pos h]
  have hs := sub_map1 (fun a => TV.iv (.int .i64 a)) 0 (l := primTab) (k := 0 + n.toNat * 1) (by rw [show primTab.length = 42 from rfl]; omega)
  rw [show primTab.getD (0 + n.toNat * 1) 0 = primTab.getD n.toNat 0 by congr 1; omega] at hs
  generalize primTab.getD n.toNat 0 = r at *
  simp only [primTab,List.map_cons,List.map_nil] at hs
  simp (config := { maxSteps := 4000000 }) (disch := omega) only [t92,go_sem,TM.undef,hs]
 ·rw [if_neg h]
  by_cases h0 : n < 0
  ·simp (config := { maxSteps := 4000000 }) (disch := omega) only [t92,go_sem,TM.undef]
  ·simp (config := { maxSteps := 4000000 }) (disch := omega) only [t92,go_sem,TM.undef]
def nameA (n : Int) : List UInt8 := if 0 ≤ n ∧ n < 42 then nameTab.getD n.toNat [] else []
theorem call105 (n : Int) (S : Store) : (lim K).call 105 [.iv (.int .i64 n)] S = .ret (.iv (.str (nameA n)),S) := by
 refine call_ret' K _ (fn := t105) rfl rfl ?_
 unfold nameA
 by_cases h : 0 ≤ n ∧ n < 42
 ·rw [if_pos h]
  have hs := sub_map1 (fun a => TV.iv (.str a)) [] (l := nameTab) (k := 0 + n.toNat * 1) (by rw [show nameTab.length = 42 from rfl]; omega)
  rw [show nameTab.getD (0 + n.toNat * 1) [] = nameTab.getD n.toNat [] by congr 1; omega] at hs
  generalize nameTab.getD n.toNat [] = r at *
  simp only [nameTab,List.map_cons,List.map_nil] at hs
  simp (config := { maxSteps := 4000000 }) (disch := omega) only [t105,go_sem,TM.undef,hs]
 ·rw [if_neg h]
  by_cases h0 : n < 0
  ·simp (config := { maxSteps := 4000000 }) (disch := omega) only [t105,go_sem,TM.undef]
  ·simp (config := { maxSteps := 4000000 }) (disch := omega) only [t105,go_sem,TM.undef]
structure FM (S : Store) (ia im : Nat) (A : Int → Int) (B : List Int) (m : Nat) : Prop where
 ne : ia ≠ im
 cnt : ∃ l c,S[ia]? = some (.mp (mpR boxI l) c) ∧ ∀ v,cntR l v = A v
 map : ∃ l c,S[im]? = some (.mp (mpR boxI l) c) ∧ RowsOK l c ∧ l.length ≤ m ∧ ∀ v,hasR l v = true ↔ v ∈ B
mutual
def fr : Ex → List Int
 | .mk k n gv vs r g ks => (if k = 2 ∨ k = 4 then [n] else []) ++ (frs ks).filter fun v => !decide (k = 7 ∧ v ∈ vs)
def frs : List Ex → List Int
 | [] => []
 | d :: ds => fr d ++ frs ds
end
theorem mm_t (a b : Int) : TM.minmax true (.int .i64 a) [.iv (.int .i64 b)] = some (.int .i64 (if a < b then b else a)) := by simp [TM.minmax,min2]
theorem mm_f (a b : Int) : TM.minmax false (.int .i64 a) [.iv (.int .i64 b)] = some (.int .i64 (if b < a then b else a)) := by simp [TM.minmax,min2]
attribute [go_sem] mm_t mm_f
structure Shp where
 num : Bool
 kids : Int
 more : Bool
 word : List UInt8
 is : Bool
def ctlW (n : Int) : List UInt8 := if n = 0 then [99,97,108,108,47,99,99] else if n = 1 then [97,112,112,108,121] else [99,97,108,108,45,119,105,116,104,45,118,97,108,117,101,115]
def ofF (k n : Int) : Shp :=
 if k = 1 then ⟨true,0,false,[99],true⟩ else if k = 2 then ⟨true,0,false,[118],true⟩ else if k = 3 then ⟨true,0,false,[103],true⟩
 else if k = 4 then ⟨true,1,false,[115,101,116,33,32,118],true⟩ else if k = 5 then ⟨true,1,false,[115,101,116,33,32,103],true⟩
 else if k = 6 then ⟨false,3,false,[105,102],true⟩ else if k = 7 then ⟨false,1,false,[108,97,109,98,100,97],true⟩ else if k = 8 then ⟨false,1,true,[99,97,108,108],true⟩
 else if k = 9 then ⟨true,if 0 < primA n then primA n else 0,false,nameA n,decide (0 ≤ primA n)⟩ else if k = 10 then ⟨false,1,true,[98,101,103,105,110],true⟩
 else if k = 11 then (if n < 0 ∨ 2 < n then ⟨false,0,false,[],false⟩ else ⟨true,if 2 < n + 1 then 2 else n + 1,false,ctlW n,true⟩)
 else if k = 12 then ⟨false,1,false,[98,111,120],true⟩ else if k = 13 then ⟨false,1,false,[117,110,98,111,120],true⟩ else if k = 14 then ⟨false,2,false,[115,101,116,45,98,111,120,33],true⟩
 else ⟨false,0,false,[],false⟩
def encS (s : Shp) : TV := .tup [.iv (.agg [.bool s.num,.int .i64 s.kids,.bool s.more,.str s.word]),.iv (.bool s.is)]
theorem call88 (e : Ex) (S : Store) : (lim K).call 88 [.iv (.agg (encE e))] S = .ret (encS (ofF e.k e.n),S) := by
 refine call_ret' K _ (fn := t88) rfl rfl ?_
 rw [encE_eq]
 unfold ofF encS
 by_cases h1 : e.k = 1
 ·rw [if_pos h1]; simp (config := { maxSteps := 4000000 }) (disch := omega) only [t88,go_sem,TM.undef]
 rw [if_neg h1]
 by_cases h2 : e.k = 2
 ·rw [if_pos h2]; simp (config := { maxSteps := 4000000 }) (disch := omega) only [t88,go_sem,TM.undef]
 rw [if_neg h2]
 by_cases h3 : e.k = 3
 ·rw [if_pos h3]; simp (config := { maxSteps := 4000000 }) (disch := omega) only [t88,go_sem,TM.undef]
 rw [if_neg h3]
 by_cases h4 : e.k = 4
 ·rw [if_pos h4]; simp (config := { maxSteps := 4000000 }) (disch := omega) only [t88,go_sem,TM.undef]
 rw [if_neg h4]
 by_cases h5 : e.k = 5
 ·rw [if_pos h5]; simp (config := { maxSteps := 4000000 }) (disch := omega) only [t88,go_sem,TM.undef]
 rw [if_neg h5]
 by_cases h6 : e.k = 6
 ·rw [if_pos h6]; simp (config := { maxSteps := 4000000 }) (disch := omega) only [t88,go_sem,TM.undef]
 rw [if_neg h6]
 by_cases h7 : e.k = 7
 ·rw [if_pos h7]; simp (config := { maxSteps := 4000000 }) (disch := omega) only [t88,go_sem,TM.undef]
 rw [if_neg h7]
 by_cases h8 : e.k = 8
 ·rw [if_pos h8]; simp (config := { maxSteps := 4000000 }) (disch := omega) only [t88,go_sem,TM.undef]
 rw [if_neg h8]
 by_cases h9 : e.k = 9
 ·rw [if_pos h9]; simp (config := { maxSteps := 4000000 }) (disch := omega) only [t88,go_sem,TM.undef,call92,call105]
 rw [if_neg h9]
 by_cases h10 : e.k = 10
 ·rw [if_pos h10]; simp (config := { maxSteps := 4000000 }) (disch := omega) only [t88,go_sem,TM.undef]
 rw [if_neg h10]
 by_cases h11 : e.k = 11
 ·rw [if_pos h11]
  by_cases hn : e.n < 0 ∨ 2 < e.n
  ·rw [if_pos hn]
   rcases hn with hn | hn <;> simp (config := { maxSteps := 4000000 }) (disch := omega) only [t88,go_sem,TM.undef]
  ·rw [if_neg hn]
   have hc : e.n = 0 ∨ e.n = 1 ∨ e.n = 2 := by omega
   rcases hc with hc | hc | hc <;> rw [hc] <;> simp (config := { maxSteps := 4000000 }) (disch := omega) only [t88,go_sem,TM.undef,wrap_i64,ctlW,List.map_cons,List.map_nil]
 rw [if_neg h11]
 by_cases h12 : e.k = 12
 ·rw [if_pos h12]; simp (config := { maxSteps := 4000000 }) (disch := omega) only [t88,go_sem,TM.undef]
 rw [if_neg h12]
 by_cases h13 : e.k = 13
 ·rw [if_pos h13]; simp (config := { maxSteps := 4000000 }) (disch := omega) only [t88,go_sem,TM.undef]
 rw [if_neg h13]
 by_cases h14 : e.k = 14
 ·rw [if_pos h14]; simp (config := { maxSteps := 4000000 }) (disch := omega) only [t88,go_sem,TM.undef]
 rw [if_neg h14]
 simp (config := { maxSteps := 4000000 }) (disch := omega) only [t88,go_sem,TM.undef]
theorem call89 (n m : Int) (S : Store) : (lim K).call 89 [.iv (.int .i64 n),.iv (.int .i64 m)] S = .ret (.iv (.bool (decide (0 ≤ n ∧ n < m))),S) := by
 refine call_ret' K _ (fn := t89) rfl rfl ?_
 by_cases h0 : 0 ≤ n
 ·by_cases h1 : n < m
  ·simp (config := { maxSteps := 4000000 }) (disch := omega) only [t89,go_sem,TM.undef]
  ·simp (config := { maxSteps := 4000000 }) (disch := omega) only [t89,go_sem,TM.undef]
 ·simp (config := { maxSteps := 4000000 }) (disch := omega) only [t89,go_sem,TM.undef]
theorem loop106 (f : Nat) (act : Int → Bool) (a b c d : Nat) (g : Tag) (l : List Int) (hl : l.length ≤ 2000000) (S : Store) (hf : ∀ x ∈ l,(lim K).call f [.iv (.int .i64 x),.ptr a b 0,.ptr c d 0] S = .ret (.iv (.bool (act x)),S)) (x2 : TV) : ∀ (k i : Nat) (x3 x6 x7 : TV),i + k = l.length →
  ∃ j r y3 y5 y6 y7,(j = .ret ∧ (∃ n : Int,r = .iv (.int .i64 n) ∧ 0 ≤ n) ∧ (l.drop i).any act = true ∨ j = .exit 0 ∧ r = x2 ∧ (l.drop i).any act = false) ∧
   lp' (lim K) t106L0 [.iv (.sl g (TM.one (.int .i64) l)),.fn f [] [.ptr a b 0,.ptr c d 0],x2,x3,.iv (.int .i64 l.length),.iv (.int .i64 (i : Int)),x6,x7] S = .ret (j,[.iv (.sl g (TM.one (.int .i64) l)),.fn f [] [.ptr a b 0,.ptr c d 0],r,y3,.iv (.int .i64 l.length),y5,y6,y7],S)
 | 0,i,x3,x6,x7,h => by
  obtain rfl : i = l.length := by omega
  refine ⟨.exit 0,x2,?_,?_,?_,?_,.inr ⟨rfl,rfl,by rw [List.drop_length]; rfl⟩,loop_at K _ _ t106L0.eq_1 ?_⟩
  rotate_left 4
  ·simp (config := { maxSteps := 4000000 }) (disch := omega) only [go_sem]
   rfl
 | k + 1,i,x3,x6,x7,h => by
  have hla : i < l.length := by omega
  have hix := ix_one (f := IV.int .i64) (t := g) (l := l) (i := (i : Int)) (by omega)
  rw [Int.toNat_natCast] at hix
  have hdr := drop_get hla
  have hc := hf _ (get_mem hla)
  generalize hx : l.getD i default = x at *
  cases ha : act x with
  | true =>
   rw [ha] at hc
   refine ⟨.ret,.iv (.int .i64 (i : Int)),?_,?_,?_,?_,.inl ⟨rfl,⟨_,rfl,by omega⟩,by rw [hdr,List.any_cons,ha,Bool.true_or]⟩,loop_at K _ _ t106L0.eq_1 ?_⟩
   rotate_left 4
   ·simp (config := { maxSteps := 4000000 }) (disch := omega) only [go_sem,hix,hc]
    rfl
  | false =>
   rw [ha] at hc
   obtain ⟨j,r,y3,y5,y6,y7,hj,ih⟩ := loop106 f act a b c d g l hl S hf x2 k (i + 1) (.iv (.int .i64 (i : Int))) (.iv (.bool true)) (.iv (.bool false)) (by omega)
   rw [show ((i + 1 : Nat) : Int) = (i : Int) + 1 by omega] at ih
   refine ⟨j,r,y3,y5,y6,y7,?_,loop_at K _ _ t106L0.eq_1 ?_⟩
   ·rw [hdr,List.any_cons,ha,Bool.false_or]; exact hj
   ·simp (config := { maxSteps := 4000000 }) (disch := omega) only [go_sem,hix,hc,wrap_i64]
    exact congrArg er ih
theorem call90 (f : Nat) (act : Int → Bool) (a b c d : Nat) (g : Tag) (l : List Int) (hl : l.length ≤ 2000000) (S : Store) (hf : ∀ x ∈ l,(lim K).call f [.iv (.int .i64 x),.ptr a b 0,.ptr c d 0] S = .ret (.iv (.bool (act x)),S)) :
  (lim K).call 90 [.iv (.sl g (TM.one (.int .i64) l)),.fn f [] [.ptr a b 0,.ptr c d 0]] S = .ret (.iv (.bool (l.any act)),S) := by
 obtain ⟨j,r,y3,y5,y6,y7,hj,ih⟩ := loop106 f act a b c d g l hl S hf (.iv (.int .i64 0)) l.length 0 (.tup []) (.tup []) (.tup []) (by omega)
 rw [show ((0 : Nat) : Int) = 0 from rfl,List.drop_zero] at *
 have h153 : ∃ n : Int,(0 ≤ n ↔ l.any act = true) ∧ (lim K).call 106 [.iv (.sl g (TM.one (.int .i64) l)),.fn f [] [.ptr a b 0,.ptr c d 0]] S = .ret (.iv (.int .i64 n),S) := by
  rcases hj with ⟨rfl,⟨n,rfl,hn⟩,ha⟩ | ⟨rfl,rfl,ha⟩
  ·refine ⟨n,by simp [hn,ha],call_ret' K _ (fn := t106) rfl rfl ?_⟩
   simp (config := { maxSteps := 4000000 }) (disch := omega) only [t106,go_sem,TM.undef,TM.one_length]
   rw [ih]
   simp (config := { maxSteps := 4000000 }) (disch := omega) only [go_sem]
  ·refine ⟨-1,by simp [ha],call_ret' K _ (fn := t106) rfl rfl ?_⟩
   simp (config := { maxSteps := 4000000 }) (disch := omega) only [t106,go_sem,TM.undef,TM.one_length]
   rw [ih]
   simp (config := { maxSteps := 4000000 }) (disch := omega) only [go_sem]
 obtain ⟨n,hn,h153⟩ := h153
 refine call_ret' K _ (fn := t90) rfl rfl ?_
 by_cases h0 : 0 ≤ n
 ·rw [hn.1 h0]
  simp (config := { maxSteps := 4000000 }) (disch := omega) only [t90,go_sem,TM.undef,h153]
 ·have : l.any act = false := by
   cases h : l.any act with
   | true => exact absurd (hn.2 h) h0
   | false => rfl
  rw [this]
  simp (config := { maxSteps := 4000000 }) (disch := omega) only [t90,go_sem,TM.undef,h153]
abbrev cellsP (p : Pg) : List TV := [.iv (.int .i64 p.b.k),.iv (.int .i64 p.b.n),.iv (.sl p.b.gv (TM.one (.int .i64) p.b.vs)),.iv (.bool p.b.r),.iv (.sl p.b.g (encEs p.b.ks)),.iv (.int .i64 p.gl),.iv (.int .i64 p.vr),.iv (.sl p.gc (encDs p.cs))]
abbrev ckB (p : Pg) (ib ik ir : Nat) : Block := .cells 89 false (cellsP p ++ [.map ib,.map ik,.map ir])
theorem call91 (p : Pg) (ib ik ir ic jb jf : Nat) (v : Int) (S : Store) (hc : S[ic]? = some (ckB p ib ik ir)) (hb : S[jb]? = some (.cells 86 false [.ptr ic 89 0])) (hf : S[jf]? = some (.cells 154 false [.fn 89 [] []])) :
  (lim K).call 91 [.iv (.int .i64 v),.ptr jf 154 0,.ptr jb 86 0] S = .ret (.iv (.bool (!decide (0 ≤ v ∧ v < p.vr))),S) := by
 refine call_ret' K _ (fn := t91) rfl rfl ?_
 simp (config := { maxSteps := 4000000 }) (disch := omega) only [t91,go_sem,TM.undef,hc,hb,hf,call89]
def frmA (e : Ex) : Bool :=
 let s := ofF e.k e.n
 !s.is || decide ((e.ks.length : Int) < s.kids) || (decide (s.kids < e.ks.length) && !s.more) || (!s.num && decide (e.n ≠ 0)) || (decide (e.k ≠ 7) && (decide (0 < e.vs.length) || e.r)) || (e.r && decide (e.vs.length = 0))
def frmB (p : Pg) (e : Ex) : Bool :=
 if e.k = 1 then decide (0 ≤ e.n ∧ e.n < p.cs.length) else if e.k = 2 ∨ e.k = 4 then decide (0 ≤ e.n ∧ e.n < p.vr) else if e.k = 3 ∨ e.k = 5 then decide (0 ≤ e.n ∧ e.n < p.gl)
 else e.vs.all fun v => decide (0 ≤ v ∧ v < p.vr)
def frmF (p : Pg) (e : Ex) : Bool := !frmA e && frmB p e
theorem not_any (l : List Int) (f : Int → Bool) : (!(l.any fun x => !f x)) = l.all f := by
 induction l with
 | nil => rfl
 | cons a r ih => simp only [List.any_cons,List.all_cons,Bool.not_or,Bool.not_not,ih]
theorem set_app1 (S : Store) (b b' : Block) : (S ++ [b]).set S.length b' = S ++ [b'] := by simp
def Ends (p : Pg) (ib ik ir ic : Nat) (e : Ex) (S : Store) (b : Bool) : Prop := ∃ S',(lim K).call 61 [.ptr ic 89 0,.iv (.agg (encE e))] S = .ret (.iv (.bool b),S') ∧ Keep [] S S'
def addV : List Int → List Int → Option (List Int)
 | [],B => some B
 | v :: r,B => if v ∈ B then none else addV r (v :: B)
mutual
def chk (p : Pg) : Ex → Nat → List Int → List Int → List Int → Int × List Int × List Int
 | .mk k n gv vs r g ks,depth,B,C,A =>
  if 4000 ≤ depth then (5,B,C) else if frmF p (.mk k n gv vs r g ks) = false then (4,B,C) else
  match addV vs B with
  | none => (14,B,C)
  | some B1 =>
   if k = 1 ∧ n ∈ C then (14,B,C) else
   if (k = 2 ∨ k = 4) ∧ n ∉ vs ++ A then (6,B,C) else
   chks p ks (depth + 1) B1 (if k = 1 then n :: C else C) (vs ++ A)
def chks (p : Pg) : List Ex → Nat → List Int → List Int → List Int → Int × List Int × List Int
 | [],_,B,C,_ => (0,B,C)
 | e :: es,depth,B,C,A =>
  match chk p e depth B C A with
  | (f,B1,C1) => if f = 0 then chks p es depth B1 C1 A else (f,B1,C1)
end
theorem chk_eq (p : Pg) (e : Ex) (depth : Nat) (B C A : List Int) : chk p e depth B C A = if 4000 ≤ depth then (5,B,C) else if frmF p e = false then (4,B,C) else
  match addV e.vs B with
  | none => (14,B,C)
  | some B1 =>
   if e.k = 1 ∧ e.n ∈ C then (14,B,C) else
   if (e.k = 2 ∨ e.k = 4) ∧ e.n ∉ e.vs ++ A then (6,B,C) else
   chks p e.ks (depth + 1) B1 (if e.k = 1 then e.n :: C else C) (e.vs ++ A) := by
 cases e; rw [chk]; rfl
def MapHas (S : Store) (i : Nat) (B : List Int) : Prop := ∃ l c,S[i]? = some (.mp (mpR boxI l) c) ∧ ∀ v,cntR l v = if v ∈ B then 1 else 0
theorem MapHas.congr {S : Store} {i : Nat} {B B' : List Int} (h : MapHas S i B) (hb : ∀ v,v ∈ B ↔ v ∈ B') : MapHas S i B' := by
 obtain ⟨l,c,h1,h2⟩ := h
 refine ⟨l,c,h1,fun v => ?_⟩
 rw [h2 v]
 by_cases hv : v ∈ B
 ·rw [if_pos hv,if_pos ((hb v).1 hv)]
 ·rw [if_neg hv,if_neg (fun h => hv ((hb v).2 h))]
theorem MapHas.put {S : Store} {i : Nat} {B : List Int} {l : List (Nat × Int × Int)} {c : Nat} (h1 : S[i]? = some (.mp (mpR boxI l) c)) (h2 : ∀ v,cntR l v = if v ∈ B then 1 else 0) (k : Int) :
  MapHas (S.set i (.mp (mpR boxI (putR l c k 1)) (clkR l c k))) i (k :: B) := by
 refine ⟨_,_,get_setS (lt_get h1) _,fun v => ?_⟩
 rw [cntR_put]
 by_cases e : k = v
 ·subst e; simp
 ·simp [e,h2 v,Ne.symm e]
theorem MapHas.del {S : Store} {i : Nat} {B B' : List Int} {l : List (Nat × Int × Int)} {c : Nat} (h1 : S[i]? = some (.mp (mpR boxI l) c)) (h2 : ∀ v,cntR l v = if v ∈ B then 1 else 0) (k : Int) (hb : ∀ v,v ∈ B' ↔ v ∈ B ∧ v ≠ k) :
  MapHas (S.set i (.mp (mpR boxI (putR l c k 0)) (clkR l c k))) i B' := by
 refine ⟨_,_,get_setS (lt_get h1) _,fun v => ?_⟩
 rw [cntR_put]
 by_cases e : k = v
 ·subst e
  have : k ∉ B' := fun h => ((hb k).1 h).2 rfl
  simp [this]
 ·rw [if_neg e,h2 v]
  by_cases hv : v ∈ B
  ·rw [if_pos hv,if_pos ((hb v).2 ⟨hv,Ne.symm e⟩)]
  ·rw [if_neg hv,if_neg (fun h => hv ((hb v).1 h).1)]
theorem MapHas.keep {S S' : Store} {i : Nat} {B : List Int} (h : MapHas S i B) (k : S'[i]? = S[i]?) : MapHas S' i B := by
 obtain ⟨l,c,h1,h2⟩ := h
 exact ⟨l,c,k.trans h1,h2⟩
structure CkS (p : Pg) (ic ib ik ir : Nat) (S : Store) (B C A : List Int) : Prop where
 cb : ic ≠ ib
 ck : ic ≠ ik
 cr : ic ≠ ir
 bk : ib ≠ ik
 br : ib ≠ ir
 kr : ik ≠ ir
 at' : S[ic]? = some (ckB p ib ik ir)
 b : MapHas S ib B
 c : MapHas S ik C
 a : MapHas S ir A
 sub : ∀ v ∈ A,v ∈ B
theorem CkS.keep {p : Pg} {ic ib ik ir : Nat} {S S' : Store} {B C A : List Int} (h : CkS p ic ib ik ir S B C A) (k : Keep [] S S') : CkS p ic ib ik ir S' B C A := by
 obtain ⟨lb,cb,b1,b2⟩ := h.b
 obtain ⟨lk,ck,k1,k2⟩ := h.c
 obtain ⟨la,ca,a1,a2⟩ := h.a
 exact ⟨h.cb,h.ck,h.cr,h.bk,h.br,h.kr,k.get _ _ (by simp) h.at',⟨lb,cb,k.get _ _ (by simp) b1,b2⟩,⟨lk,ck,k.get _ _ (by simp) k1,k2⟩,⟨la,ca,k.get _ _ (by simp) a1,a2⟩,h.sub⟩
theorem CkS.congrA {p : Pg} {ic ib ik ir : Nat} {S : Store} {B C A A' : List Int} (h : CkS p ic ib ik ir S B C A) (ha : ∀ v,v ∈ A ↔ v ∈ A') : CkS p ic ib ik ir S B C A' :=
 ⟨h.cb,h.ck,h.cr,h.bk,h.br,h.kr,h.at',h.b,h.c,h.a.congr ha,fun v hv => h.sub v ((ha v).2 hv)⟩
theorem CkS.putV {p : Pg} {ic ib ik ir : Nat} {S : Store} {B C A : List Int} (h : CkS p ic ib ik ir S B C A) {lb : List (Nat × Int × Int)} {cb : Nat} (b1 : S[ib]? = some (.mp (mpR boxI lb) cb)) (b2 : ∀ v,cntR lb v = if v ∈ B then 1 else 0)
  {la : List (Nat × Int × Int)} {ca : Nat} (a1 : S[ir]? = some (.mp (mpR boxI la) ca)) (a2 : ∀ v,cntR la v = if v ∈ A then 1 else 0) (k : Int) :
  CkS p ic ib ik ir ((S.set ib (.mp (mpR boxI (putR lb cb k 1)) (clkR lb cb k))).set ir (.mp (mpR boxI (putR la ca k 1)) (clkR la ca k))) (k :: B) C (k :: A) := by
 have hbr := h.br
 have hkr := h.kr
 have hbk := h.bk
 refine ⟨h.cb,h.ck,h.cr,h.bk,h.br,h.kr,?_,?_,?_,?_,?_⟩
 ·rw [get_setN (Ne.symm h.cr),get_setN (Ne.symm h.cb)]; exact h.at'
 ·exact (MapHas.put b1 b2 k).keep (get_setN (Ne.symm hbr) _)
 ·exact h.c.keep (by rw [get_setN (Ne.symm hkr),get_setN hbk])
 ·exact MapHas.put (by rw [get_setN hbr]; exact a1) a2 k
 ·intro v hv
  rcases List.mem_cons.1 hv with rfl | hv
  ·simp
  ·exact List.mem_cons_of_mem _ (h.sub v hv)
theorem loop36b (p : Pg) (ic ib ik ir : Nat) (e : Ex) (hw : e.w ≤ 1048576) (C : List Int) (x1 x2 x3 x4 x6 x7 x8 x9 x10 x16 x17 x18 x19 x20 x21 x22 x23 x24 x25 x26 x27 : TV) : ∀ (k i : Nat) (x5 x14 x15 : TV) (S : Store) (B A : List Int),i + k = e.vs.length → CkS p ic ib ik ir S B C A →
  ∃ j r y5 y13 y14 y15 S',(j = .ret ∧ r = .iv (.int .i64 14) ∧ addV (e.vs.drop i) B = none ∨ j = .exit 1 ∧ r = x4 ∧ ∃ B1,addV (e.vs.drop i) B = some B1 ∧ CkS p ic ib ik ir S' B1 C ((e.vs.drop i).reverse ++ A)) ∧ Keep [ib,ik,ir] S S' ∧
   lp' (lim K) t36L2 [.ptr ic 89 0,x1,x2,x3,x4,x5,x6,x7,x8,x9,x10,.iv (.sl e.gv (TM.one (.int .i64) e.vs)),.iv (.int .i64 e.vs.length),.iv (.int .i64 (i : Int)),x14,x15,x16,x17,x18,x19,x20,x21,x22,x23,x24,x25,x26,x27] S
    = .ret (j,[.ptr ic 89 0,x1,x2,x3,r,y5,x6,x7,x8,x9,x10,.iv (.sl e.gv (TM.one (.int .i64) e.vs)),.iv (.int .i64 e.vs.length),y13,y14,y15,x16,x17,x18,x19,x20,x21,x22,x23,x24,x25,x26,x27],S')
 | 0,i,x5,x14,x15,S,B,A,h,hs => by
  obtain rfl : i = e.vs.length := by omega
  refine ⟨.exit 1,x4,?_,?_,?_,?_,S,.inr ⟨rfl,rfl,B,by rw [List.drop_length]; rfl,by rw [List.drop_length]; exact hs⟩,.refl _ _,loop_at K _ _ t36L2.eq_1 ?_⟩
  rotate_left 4
  ·simp (config := { maxSteps := 4000000 }) (disch := omega) only [go_sem]
   rfl
 | k + 1,i,x5,x14,x15,S,B,A,h,hs => by
  have hwe := Ex.w_eq e
  have hla : i < e.vs.length := by omega
  have hix := ix_one (f := IV.int .i64) (t := e.gv) (l := e.vs) (i := (i : Int)) (by omega)
  rw [Int.toNat_natCast] at hix
  have hdr := drop_get hla
  obtain ⟨lb,cb,b1,b2⟩ := hs.b
  obtain ⟨la,ca,a1,a2⟩ := hs.a
  have hat := hs.at'
  have n1 := hs.cb
  have n2 := hs.ck
  have n3 := hs.cr
  have n4 := hs.bk
  have n5 := hs.br
  have n6 := hs.kr
  generalize hx : e.vs.getD i default = x at *
  have b2x := b2 x
  by_cases hm : x ∈ B
  ·rw [if_pos hm] at b2x
   refine ⟨.ret,.iv (.int .i64 14),?_,?_,?_,?_,S,.inl ⟨rfl,rfl,by rw [hdr,addV,if_pos hm]⟩,.refl _ _,loop_at K _ _ t36L2.eq_1 ?_⟩
   rotate_left 4
   ·simp (config := { maxSteps := 4000000 }) (disch := omega) only [go_sem,hix,hat,b1,b2x]
    rfl
  ·rw [if_neg hm] at b2x
   obtain ⟨j,r,y5,y13,y14,y15,S',hj,hk,ih⟩ := loop36b p ic ib ik ir e hw C x1 x2 x3 x4 x6 x7 x8 x9 x10 x16 x17 x18 x19 x20 x21 x22 x23 x24 x25 x26 x27 k (i + 1) (.iv (.int .i64 x)) (.iv (.bool true)) (.iv (.bool false)) _ _ _ (by omega) (hs.putV b1 b2 a1 a2 x)
   rw [show ((i + 1 : Nat) : Int) = (i : Int) + 1 by omega] at ih
   refine ⟨j,r,y5,y13,y14,y15,S',?_,((Keep.set S (by simp) _).trans (Keep.set _ (by simp) _)).trans hk,loop_at K _ _ t36L2.eq_1 ?_⟩
   ·rw [hdr,addV,if_neg hm,List.reverse_cons,List.append_assoc]
    exact hj
   ·simp (config := { maxSteps := 4000000 }) (disch := omega) only [go_sem,hix,hat,b1,b2x,a1,get_setN,wrap_i64]
    exact congrArg er ih
theorem addV_mem : ∀ {l B B1 : List Int},addV l B = some B1 → (∀ v,v ∈ B1 ↔ v ∈ l ∨ v ∈ B) ∧ (∀ v ∈ l,v ∉ B) ∧ l.Nodup
 | [],B,B1,h => by simp [addV] at h; subst h; simp
 | x :: r,B,B1,h => by
  unfold addV at h
  split at h
  ·cases h
  ·rename_i hx
   obtain ⟨h1,h2,h3⟩ := addV_mem h
   refine ⟨fun v => ?_,?_,?_⟩
   ·rw [h1 v]
    simp only [List.mem_cons]
    constructor
    ·rintro (h | h | h)
     ·exact .inl (.inr h)
     ·exact .inl (.inl h)
     ·exact .inr h
    ·rintro ((h | h) | h)
     ·exact .inr (.inl h)
     ·exact .inl h
     ·exact .inr (.inr h)
   ·intro v hv
    rcases List.mem_cons.1 hv with rfl | hv
    ·exact hx
    ·exact fun hb => h2 v hv (List.mem_cons_of_mem _ hb)
   ·rw [List.nodup_cons]
    exact ⟨fun hm => h2 x hm (by simp),h3⟩
theorem CkS.delA {p : Pg} {ic ib ik ir : Nat} {S : Store} {B C A : List Int} (h : CkS p ic ib ik ir S B C A) {la : List (Nat × Int × Int)} {ca : Nat} (a1 : S[ir]? = some (.mp (mpR boxI la) ca)) (a2 : ∀ v,cntR la v = if v ∈ A then 1 else 0) (k : Int) {A' : List Int} (ha : ∀ v,v ∈ A' ↔ v ∈ A ∧ v ≠ k) :
  CkS p ic ib ik ir (S.set ir (.mp (mpR boxI (putR la ca k 0)) (clkR la ca k))) B C A' := by
 refine ⟨h.cb,h.ck,h.cr,h.bk,h.br,h.kr,?_,h.b.keep (get_setN (Ne.symm h.br) _),h.c.keep (get_setN (Ne.symm h.kr) _),MapHas.del a1 a2 k ha,fun v hv => h.sub v ((ha v).1 hv).1⟩
 rw [get_setN (Ne.symm h.cr)]; exact h.at'
theorem loop36u (p : Pg) (ic ib ik ir : Nat) (e : Ex) (hw : e.w ≤ 1048576) (B C : List Int) (x1 x2 x3 x4 x5 x6 x7 x9 x10 x11 x12 x13 x14 x15 x16 x17 x18 x19 x20 x21 x22 x23 : TV) : ∀ (k i : Nat) (x8 x27 : TV) (S : Store) (A : List Int),i + k = e.vs.length → CkS p ic ib ik ir S B C A →
  ∃ y8 y27 S',(∀ A',(∀ v,v ∈ A' ↔ v ∈ A ∧ v ∉ e.vs.drop i) → CkS p ic ib ik ir S' B C A') ∧ Keep [ib,ik,ir] S S' ∧
   lp' (lim K) t36L0 [.ptr ic 89 0,x1,x2,x3,x4,x5,x6,x7,x8,x9,x10,x11,x12,x13,x14,x15,x16,x17,x18,x19,x20,x21,x22,x23,.iv (.sl e.gv (TM.one (.int .i64) e.vs)),.iv (.int .i64 e.vs.length),.iv (.int .i64 (i : Int)),x27] S
    = .ret (.exit 5,[.ptr ic 89 0,x1,x2,x3,x4,x5,x6,x7,y8,x9,x10,x11,x12,x13,x14,x15,x16,x17,x18,x19,x20,x21,x22,x23,.iv (.sl e.gv (TM.one (.int .i64) e.vs)),.iv (.int .i64 e.vs.length),.iv (.int .i64 e.vs.length),y27],S')
 | 0,i,x8,x27,S,A,h,hs => by
  obtain rfl : i = e.vs.length := by omega
  refine ⟨?_,?_,S,fun A' ha => hs.congrA (fun v => by rw [ha v,List.drop_length]; simp),.refl _ _,loop_at K _ _ t36L0.eq_1 ?_⟩
  rotate_left 2
  ·simp (config := { maxSteps := 4000000 }) (disch := omega) only [go_sem]
   rfl
 | k + 1,i,x8,x27,S,A,h,hs => by
  have hwe := Ex.w_eq e
  have hla : i < e.vs.length := by omega
  have hix := ix_one (f := IV.int .i64) (t := e.gv) (l := e.vs) (i := (i : Int)) (by omega)
  rw [Int.toNat_natCast] at hix
  have hdr := drop_get hla
  obtain ⟨la,ca,a1,a2⟩ := hs.a
  have hat := hs.at'
  generalize hx : e.vs.getD i default = x at *
  obtain ⟨y8,y27,S',hj,hk,ih⟩ := loop36u p ic ib ik ir e hw B C x1 x2 x3 x4 x5 x6 x7 x9 x10 x11 x12 x13 x14 x15 x16 x17 x18 x19 x20 x21 x22 x23 k (i + 1) (.iv (.int .i64 x)) (.iv (.bool true)) _ (A.filter fun v => decide (v ≠ x)) (by omega) (hs.delA a1 a2 x (fun v => by simp))
  rw [show ((i + 1 : Nat) : Int) = (i : Int) + 1 by omega] at ih
  refine ⟨y8,y27,S',fun A' ha => hj A' (fun v => ?_),(Keep.set S (by simp) _).trans hk,loop_at K _ _ t36L0.eq_1 ?_⟩
  ·rw [ha v,hdr]
   simp only [List.mem_cons,not_or,List.mem_filter,decide_eq_true_eq]
   constructor
   ·rintro ⟨h1,h2,h3⟩; exact ⟨⟨h1,h2⟩,h3⟩
   ·rintro ⟨⟨h1,h2⟩,h3⟩; exact ⟨h1,h2,h3⟩
  ·simp (config := { maxSteps := 4000000 }) (disch := omega) only [go_sem,hix,hat,a1,wrap_i64]
   exact congrArg er ih
def ChkOK (p : Pg) (ic ib ik ir : Nat) (N : Nat) : Prop := ∀ (e : Ex) (depth : Nat) (S : Store) (B C A : List Int),e.w ≤ N → depth ≤ 4000 → CkS p ic ib ik ir S B C A →
 ∃ S',(lim K).call 36 [.ptr ic 89 0,.iv (.agg (encE e)),.iv (.int .i64 depth)] S = .ret (.iv (.int .i64 (chk p e depth B C A).1),S') ∧ Keep [ib,ik,ir] S S' ∧ ((chk p e depth B C A).1 = 0 → CkS p ic ib ik ir S' (chk p e depth B C A).2.1 (chk p e depth B C A).2.2 A)
theorem loop36k {N : Nat} (p : Pg) (ic ib ik ir : Nat) (ih : ChkOK p ic ib ik ir N) (e : Ex) (hw : e.w ≤ N + 1) (hN : N + 1 ≤ 1048576) (depth : Nat) (hd : depth < 4000) (A : List Int) (x1 x3 x4 x5 x8 x9 x10 x11 x12 x13 x14 x15 x16 x17 x18 x24 x25 x26 x27 : TV) : ∀ (k i : Nat) (x6 x7 x22 x23 : TV) (S : Store) (B C : List Int),i + k = e.ks.length → CkS p ic ib ik ir S B C A →
  ∃ j r y6 y7 y21 y22 y23 S',(j = .ret ∧ r = .iv (.int .i64 (chks p (e.ks.drop i) (depth + 1) B C A).1) ∧ (chks p (e.ks.drop i) (depth + 1) B C A).1 ≠ 0 ∨ j = .exit 3 ∧ r = x4 ∧ (chks p (e.ks.drop i) (depth + 1) B C A).1 = 0 ∧ CkS p ic ib ik ir S' (chks p (e.ks.drop i) (depth + 1) B C A).2.1 (chks p (e.ks.drop i) (depth + 1) B C A).2.2 A) ∧ Keep [ib,ik,ir] S S' ∧
   lp' (lim K) t36L1 [.ptr ic 89 0,x1,.iv (.int .i64 depth),x3,x4,x5,x6,x7,x8,x9,x10,x11,x12,x13,x14,x15,x16,x17,x18,.iv (.sl e.g (encEs e.ks)),.iv (.int .i64 e.ks.length),.iv (.int .i64 (i : Int)),x22,x23,x24,x25,x26,x27] S
    = .ret (j,[.ptr ic 89 0,x1,.iv (.int .i64 depth),x3,r,x5,y6,y7,x8,x9,x10,x11,x12,x13,x14,x15,x16,x17,x18,.iv (.sl e.g (encEs e.ks)),.iv (.int .i64 e.ks.length),y21,y22,y23,x24,x25,x26,x27],S')
 | 0,i,x6,x7,x22,x23,S,B,C,h,hs => by
  obtain rfl : i = e.ks.length := by omega
  refine ⟨.exit 3,x4,?_,?_,?_,?_,?_,S,.inr ⟨rfl,rfl,by rw [List.drop_length,chks],by rw [List.drop_length,chks]; exact hs⟩,.refl _ _,loop_at K _ _ t36L1.eq_1 ?_⟩
  rotate_left 5
  ·simp (config := { maxSteps := 4000000 }) (disch := omega) only [go_sem]
   rfl
 | k + 1,i,x6,x7,x22,x23,S,B,C,h,hs => by
  have hla : i < e.ks.length := by omega
  have hwe := Ex.w_eq e
  have hwl := Ex.ws_len e.ks
  have hix := ixE (g := e.g) (ks := e.ks) (i := (i : Int)) (by omega)
  rw [Int.toNat_natCast] at hix
  have hdr := drop_get hla
  have hkw := Ex.kid_lt (d := e) (get_mem hla)
  generalize hx : e.ks.getD i default = x at *
  obtain ⟨S1,hc,hk1,hs1⟩ := ih x (depth + 1) S B C A (by omega) (by omega) hs
  rw [show ((depth + 1 : Nat) : Int) = (depth : Int) + 1 by omega] at hc
  rw [encE_eq] at hc
  have hun : chks p (x :: e.ks.drop (i + 1)) (depth + 1) B C A = if (chk p x (depth + 1) B C A).1 = 0 then chks p (e.ks.drop (i + 1)) (depth + 1) (chk p x (depth + 1) B C A).2.1 (chk p x (depth + 1) B C A).2.2 A else chk p x (depth + 1) B C A := by
   rw [chks]
  rw [hdr,hun]
  generalize hq : chk p x (depth + 1) B C A = q at *
  obtain ⟨f,B1,C1⟩ := q
  simp only at hc hs1 ⊢
  by_cases hf : f = 0
  ·obtain ⟨j,r,y6,y7,y21,y22,y23,S',hj,hk,ih2⟩ := loop36k p ic ib ik ir ih e hw hN depth hd A x1 x3 x4 x5 x8 x9 x10 x11 x12 x13 x14 x15 x16 x17 x18 x24 x25 x26 x27 k (i + 1) (lbE x) (.iv (.int .i64 f)) (.iv (.bool true)) (.iv (.bool false)) S1 B1 C1 (by omega) (hs1 hf)
   rw [show ((i + 1 : Nat) : Int) = (i : Int) + 1 by omega] at ih2
   refine ⟨j,r,y6,y7,y21,y22,y23,S',?_,hk1.trans hk,loop_at K _ _ t36L1.eq_1 ?_⟩
   ·rw [if_pos hf]; exact hj
   ·simp (config := { maxSteps := 4000000 }) (disch := omega) only [go_sem,hix,getE5,hc,wrap_i64]
    exact congrArg er ih2
  ·refine ⟨.ret,.iv (.int .i64 f),?_,?_,?_,?_,?_,S1,.inl ⟨rfl,by rw [if_neg hf],by rw [if_neg hf]; exact hf⟩,hk1,loop_at K _ _ t36L1.eq_1 ?_⟩
   rotate_left 5
   ·simp (config := { maxSteps := 4000000 }) (disch := omega) only [go_sem,hix,getE5,hc,wrap_i64]
    rfl
mutual
def bvE : Ex → List Int
 | .mk k n gv vs r g ks => vs ++ bvEs ks
def bvEs : List Ex → List Int
 | [] => []
 | e :: es => bvE e ++ bvEs es
end
mutual
def ccE : Ex → List Int
 | .mk k n gv vs r g ks => (if k = 1 then [n] else []) ++ ccEs ks
def ccEs : List Ex → List Int
 | [] => []
 | e :: es => ccE e ++ ccEs es
end
mutual
def Sc (A : List Int) : Ex → Prop
 | .mk k n gv vs r g ks => (k = 2 ∨ k = 4 → n ∈ vs ++ A) ∧ Scs (vs ++ A) ks
def Scs (A : List Int) : List Ex → Prop
 | [] => True
 | e :: es => Sc A e ∧ Scs A es
end
mutual
def Fr (p : Pg) : Ex → Prop
 | .mk k n gv vs r g ks => frmF p (.mk k n gv vs r g ks) = true ∧ Frs p ks
def Frs (p : Pg) : List Ex → Prop
 | [] => True
 | e :: es => Fr p e ∧ Frs p es
end
mutual
def dp : Ex → Nat
 | .mk k n gv vs r g ks => dps ks
def dps : List Ex → Nat
 | [] => 0
 | e :: es => max (dp e + 1) (dps es)
end
theorem bv_eq (e : Ex) : bvE e = e.vs ++ bvEs e.ks := by cases e; rw [bvE]; rfl
theorem cc_eq (e : Ex) : ccE e = (if e.k = 1 then [e.n] else []) ++ ccEs e.ks := by cases e; rw [ccE]; rfl
theorem Sc_eq (A : List Int) (e : Ex) : Sc A e ↔ (e.k = 2 ∨ e.k = 4 → e.n ∈ e.vs ++ A) ∧ Scs (e.vs ++ A) e.ks := by cases e; rw [Sc]; rfl
theorem Fr_eq (p : Pg) (e : Ex) : Fr p e ↔ frmF p e = true ∧ Frs p e.ks := by cases e; rw [Fr]; rfl
theorem Frs_iff {p : Pg} : ∀ {l : List Ex},Frs p l ↔ ∀ x ∈ l,Fr p x
 | [] => by simp [Frs]
 | a :: r => by rw [Frs,Frs_iff]; simp
structure Fit (bs cs B C : List Int) : Prop where
 nb : bs.Nodup
 db : ∀ v ∈ bs,v ∉ B
 nc : cs.Nodup
 dc : ∀ n ∈ cs,n ∉ C
theorem Fit.join {b1 b2 c1 c2 B C B1 C1 : List Int} (h : Fit b1 c1 B C) (g : Fit b2 c2 B1 C1) (hb : ∀ v,v ∈ B1 ↔ v ∈ b1 ∨ v ∈ B) (hc : ∀ v,v ∈ C1 ↔ v ∈ c1 ∨ v ∈ C) : Fit (b1 ++ b2) (c1 ++ c2) B C := by
 refine ⟨List.nodup_append.2 ⟨h.nb,g.nb,fun a ha b hb' e => ?_⟩,fun v hv => ?_,List.nodup_append.2 ⟨h.nc,g.nc,fun a ha b hb' e => ?_⟩,fun v hv => ?_⟩
 ·subst e; exact g.db a hb' ((hb a).2 (.inl ha))
 ·rcases List.mem_append.1 hv with h1 | h1
  ·exact h.db v h1
  ·exact fun hB => g.db v h1 ((hb v).2 (.inr hB))
 ·subst e; exact g.dc a hb' ((hc a).2 (.inl ha))
 ·rcases List.mem_append.1 hv with h1 | h1
  ·exact h.dc v h1
  ·exact fun hC => g.dc v h1 ((hc v).2 (.inr hC))
theorem chks_eq (p : Pg) (e : Ex) (es : List Ex) (depth : Nat) (B C A : List Int) : chks p (e :: es) depth B C A = if (chk p e depth B C A).1 = 0 then chks p es depth (chk p e depth B C A).2.1 (chk p e depth B C A).2.2 A else chk p e depth B C A := by rw [chks]
theorem chk_to (p : Pg) : ∀ (N : Nat) (e : Ex),e.w ≤ N → ∀ (depth : Nat) (B C A : List Int),(chk p e depth B C A).1 = 0 →
  Fr p e ∧ Sc A e ∧ Fit (bvE e) (ccE e) B C ∧ (∀ v,v ∈ (chk p e depth B C A).2.1 ↔ v ∈ bvE e ∨ v ∈ B) ∧ (∀ n,n ∈ (chk p e depth B C A).2.2 ↔ n ∈ ccE e ∨ n ∈ C)
 | 0,e,hw,depth,B,C,A,h => by have := Ex.w_eq e; omega
 | N + 1,e,hw,depth,B,C,A,h => by
  have key : ∀ (l : List Ex) (A : List Int) (B C : List Int),(∀ x ∈ l,x.w ≤ N) → (chks p l (depth + 1) B C A).1 = 0 →
    Frs p l ∧ Scs A l ∧ Fit (bvEs l) (ccEs l) B C ∧ (∀ v,v ∈ (chks p l (depth + 1) B C A).2.1 ↔ v ∈ bvEs l ∨ v ∈ B) ∧ (∀ n,n ∈ (chks p l (depth + 1) B C A).2.2 ↔ n ∈ ccEs l ∨ n ∈ C) := by
   intro l A
   induction l with
   | nil => intro B C _ _; rw [chks,bvEs,ccEs,Frs,Scs]; exact ⟨trivial,trivial,⟨by simp,by simp,by simp,by simp⟩,by simp,by simp⟩
   | cons a r ih =>
    intro B C hl h
    rw [chks_eq] at h
    by_cases h0 : (chk p a (depth + 1) B C A).1 = 0
    ·rw [if_pos h0] at h
     obtain ⟨f1,s1,t1,b1,c1⟩ := chk_to p N a (hl a (by simp)) _ _ _ _ h0
     obtain ⟨f2,s2,t2,b2,c2⟩ := ih _ _ (fun x hx => hl x (by simp [hx])) h
     rw [chks_eq,if_pos h0,bvEs,ccEs,Frs,Scs]
     refine ⟨⟨f1,f2⟩,⟨s1,s2⟩,t1.join t2 b1 c1,fun v => ?_,fun v => ?_⟩
     ·rw [b2 v,b1 v,List.mem_append]
      constructor
      ·rintro (h | h | h)
       ·exact .inl (.inr h)
       ·exact .inl (.inl h)
       ·exact .inr h
      ·rintro ((h | h) | h)
       ·exact .inr (.inl h)
       ·exact .inl h
       ·exact .inr (.inr h)
     ·rw [c2 v,c1 v,List.mem_append]
      constructor
      ·rintro (h | h | h)
       ·exact .inl (.inr h)
       ·exact .inl (.inl h)
       ·exact .inr h
      ·rintro ((h | h) | h)
       ·exact .inr (.inl h)
       ·exact .inl h
       ·exact .inr (.inr h)
    ·rw [if_neg h0] at h; exact absurd h h0
  rw [chk_eq] at h ⊢
  split at h
  ·exact absurd h (by decide : ¬ ((5 : Int) = 0))
  rename_i hd
  rw [if_neg hd]
  split at h
  ·exact absurd h (by decide : ¬ ((4 : Int) = 0))
  rename_i hf
  rw [if_neg hf]
  split at h
  ·exact absurd h (by decide : ¬ ((14 : Int) = 0))
  rename_i B1 ha
  split at h
  ·exact absurd h (by decide : ¬ ((14 : Int) = 0))
  rename_i hc0
  rw [if_neg hc0]
  split at h
  ·exact absurd h (by decide : ¬ ((6 : Int) = 0))
  rename_i hn
  rw [if_neg hn]
  obtain ⟨m1,m2,m3⟩ := addV_mem ha
  obtain ⟨f2,s2,t2,b2,c2⟩ := key e.ks (e.vs ++ A) B1 _ (fun x hx => by have := Ex.kid_lt hx; omega) h
  have hC1 : ∀ v,v ∈ (if e.k = 1 then e.n :: C else C) ↔ v ∈ (if e.k = 1 then [e.n] else []) ∨ v ∈ C := by
   intro v; split <;> simp
  have t1 : Fit e.vs (if e.k = 1 then [e.n] else []) B C := by
   refine ⟨m3,m2,by split <;> simp,fun v hv hC => ?_⟩
   split at hv
   ·rename_i hk
    simp at hv; subst hv
    exact hc0 ⟨hk,hC⟩
   ·cases hv
  rw [Fr_eq,Sc_eq,bv_eq,cc_eq]
  refine ⟨⟨by simpa using hf,f2⟩,⟨fun hk => ?_,s2⟩,t1.join t2 m1 hC1,fun v => ?_,fun v => ?_⟩
  ·rcases Classical.em (e.n ∈ e.vs ++ A) with h1 | h1
   ·exact h1
   ·exact absurd ⟨hk,h1⟩ hn
  ·rw [b2 v,m1 v,List.mem_append]
   constructor
   ·rintro (h | h | h)
    ·exact .inl (.inr h)
    ·exact .inl (.inl h)
    ·exact .inr h
   ·rintro ((h | h) | h)
    ·exact .inr (.inl h)
    ·exact .inl h
    ·exact .inr (.inr h)
  ·rw [c2 v,hC1 v,List.mem_append]
   constructor
   ·rintro (h | h | h)
    ·exact .inl (.inr h)
    ·exact .inl (.inl h)
    ·exact .inr h
   ·rintro ((h | h) | h)
    ·exact .inr (.inl h)
    ·exact .inl h
    ·exact .inr (.inr h)
mutual
def sz : Ex → Nat
 | .mk k n gv vs r g ks => szs ks + 1
def szs : List Ex → Nat
 | [] => 0
 | e :: es => sz e + szs es
end
theorem sz_eq (e : Ex) : sz e = szs e.ks + 1 := by cases e; rw [sz]; rfl
theorem szs_app : ∀ (a b : List Ex),szs (a ++ b) = szs a + szs b
 | [],b => by rw [List.nil_append,szs,Nat.zero_add]
 | x :: a,b => by rw [List.cons_append,szs,szs,szs_app a b]; omega
theorem szs_len : ∀ l : List Ex,l.length ≤ szs l
 | [] => by simp [szs]
 | x :: a => by have := szs_len a; have := sz_eq x; rw [szs,List.length_cons]; omega
theorem szs_mem {x : Ex} : ∀ {l : List Ex},x ∈ l → sz x ≤ szs l
 | a :: r,h => by
  rw [szs]
  rcases List.mem_cons.1 h with rfl | h
  ·omega
  ·have := szs_mem h; omega
theorem szs_part (l : List Ex) (a b : Nat) : szs ((l.drop a).take b) + l.length ≤ szs l + ((l.drop a).take b).length := by
 have h1 := szs_app (l.take a) (l.drop a)
 have h2 := szs_app ((l.drop a).take b) ((l.drop a).drop b)
 rw [List.take_append_drop] at h1 h2
 have h3 := szs_len (l.take a)
 have h4 := szs_len ((l.drop a).drop b)
 have h5 : l.length = (l.take a).length + (l.drop a).length := by rw [← List.length_append,List.take_append_drop]
 have h6 : (l.drop a).length = ((l.drop a).take b).length + ((l.drop a).drop b).length := by rw [← List.length_append,List.take_append_drop]
 omega
def wtS : St → Nat
 | .tm _ _ => 1
 | .rs e _ => 11 * sz e
def wts : List St → Nat
 | [] => 0
 | s :: r => wtS s + wts r
def coS : St → Int
 | .tm _ _ => 0
 | .rs e _ => 10 * sz e - 3
def cos : List St → Int
 | [] => 0
 | s :: r => coS s + cos r
theorem wts_app : ∀ (a b : List St),wts (a ++ b) = wts a + wts b
 | [],b => by rw [List.nil_append,wts,Nat.zero_add]
 | x :: a,b => by rw [List.cons_append,wts,wts,wts_app a b]; omega
theorem cos_app : ∀ (a b : List St),cos (a ++ b) = cos a + cos b
 | [],b => by rw [List.nil_append,cos,Int.zero_add]
 | x :: a,b => by rw [List.cons_append,cos,cos,cos_app a b]; omega
theorem wts_rev (l : List St) : wts l.reverse = wts l := by
 induction l with
 | nil => rfl
 | cons a r ih => rw [List.reverse_cons,wts_app,ih,wts,wts,wts]; omega
theorem cos_rev (l : List St) : cos l.reverse = cos l := by
 induction l with
 | nil => rfl
 | cons a r ih => rw [List.reverse_cons,cos_app,ih,cos,cos,cos]; omega
def Gd (p : Pg) (b : Nat) : St → Prop
 | .tm _ _ => True
 | .rs e _ => Fr p e ∧ sz e ≤ b
theorem Gd.mono {p : Pg} {b c : Nat} {s : St} (h : Gd p b s) (hb : b ≤ c) : Gd p c s := by
 cases s with
 | tm t to => trivial
 | rs e to => exact ⟨h.1,by have := h.2; omega⟩
def pot (σ : Mk) : Int := σ.nv + σ.fs.length
theorem pot_var (σ : Mk) : pot σ.var = pot σ + 1 := by show σ.nv + 1 + (σ.fs.length : Int) = σ.nv + σ.fs.length + 1; omega
theorem pot_push (σ : Mk) (f : List IV) : pot (σ.push f) = pot σ + 1 := by unfold pot Mk.push; simp; omega
def Late (e : Ex) : Prop := (e.k = 10 ∧ 64 < e.ks.length) ∨ e.k = 8 ∨ e.k = 6 ∨ e.k = 11
structure VT (p : Pg) (e : Ex) (σ : Mk) (x : List St × List IV × Mk) : Prop where
 g : ∀ s ∈ x.1,Gd p (sz e) s
 c : pot x.2.2 + cos x.1 + 2 ≤ pot σ + 10 * sz e
 w : wts x.1 ≤ 11 * sz e
 n : ¬ Late e → (∀ s ∈ x.1,Gd p (sz e - 1) s) ∧ wts x.1 + 10 ≤ 11 * sz e ∧ pot x.2.2 + cos x.1 + 5 ≤ pot σ + 10 * sz e
def VTot (p : Pg) (e : Ex) : Prop := ∀ n σ,11 * sz e ≤ n + 4 → ∃ x,valueM n e σ = some x ∧ VT p e σ x
def CTot (p : Pg) (e : Ex) : Prop := ∀ n k σ,11 * sz e ≤ n + 1 → ∃ x,codeM n e k σ = some x ∧ pot x.2 + 5 ≤ pot σ + 10 * sz e
theorem laid_tot {p : Pg} {b : Nat} (hC : ∀ e,sz e ≤ b → Fr p e → CTot p e) : ∀ (l : List St) (n : Nat) (t : List IV) (σ : Mk),(∀ s ∈ l,Gd p b s) → wts l + 1 ≤ n → ∃ x,laidM n l t σ = some x ∧ pot x.2 ≤ pot σ + cos l
 | [],n + 1,t,σ,_,_ => ⟨_,by rw [laidM],by show pot σ ≤ pot σ + cos []; rw [cos]; omega⟩
 | [],0,t,σ,_,h => by omega
 | .tm c to :: l,0,t,σ,_,h => by omega
 | .tm c to :: l,n + 1,t,σ,hg,h => by
  rw [wts] at h
  obtain ⟨x,hx,hp⟩ := laid_tot hC l n (c.set 6 (.sl .full [t])) σ (fun s hs => hg s (List.mem_cons_of_mem _ hs)) (by simp only [wtS] at h; omega)
  exact ⟨x,by rw [laidM]; exact hx,by rw [cos,coS]; omega⟩
 | .rs e to :: l,0,t,σ,_,h => by omega
 | .rs e to :: l,n + 1,t,σ,hg,h => by
  rw [wts] at h
  have he := hg _ (List.mem_cons_self)
  have hse := sz_eq e
  simp only [wtS] at h
  obtain ⟨y,hy,hyp⟩ := hC e he.2 he.1 n (aV σ.nv) (σ.push (fnF .full [to] false true t)).var (by omega)
  obtain ⟨x,hx,hp⟩ := laid_tot hC l n (funT σ.nv σ.fs.length (.sl .full [y.1])) y.2 (fun s hs => hg s (List.mem_cons_of_mem _ hs)) (by omega)
  refine ⟨x,by rw [laidM,hy]; exact hx,?_⟩
  rw [pot_var,pot_push] at hyp
  rw [cos,coS]; omega
theorem values_tot {p : Pg} {b : Nat} : ∀ (l : List Ex) (n : Nat) (σ : Mk),(∀ e ∈ l,VTot p e ∧ sz e ≤ b) → 11 * szs l + 1 ≤ n → ∃ x,valuesM n l σ = some x ∧ (∀ s ∈ x.1,Gd p b s) ∧ pot x.2.2 + cos x.1 + 2 * l.length ≤ pot σ + 10 * szs l ∧ wts x.1 ≤ 11 * szs l ∧ x.2.1.length = l.length
 | [],n + 1,σ,_,_ => ⟨_,by rw [valuesM],by simp,by simp [cos,szs],by simp [wts],rfl⟩
 | [],0,σ,_,h => by omega
 | e :: l,0,σ,_,h => by omega
 | e :: l,n + 1,σ,hv,h => by
  rw [szs] at h
  have hse := sz_eq e
  obtain ⟨x,hx,hX⟩ := (hv e (by simp)).1 n σ (by omega)
  obtain ⟨y,hy,g,c,w,hl⟩ := values_tot l n x.2.2 (fun e he => hv e (List.mem_cons_of_mem _ he)) (by omega)
  have h1 := hX.c
  have h2 := hX.w
  refine ⟨_,by rw [valuesM,hx,Option.bind_some,hy,Option.bind_some],fun s hs => ?_,?_,?_,by simp [hl]⟩
  ·rcases List.mem_append.1 hs with hs | hs
   ·exact (hX.g s hs).mono (hv e (by simp)).2
   ·exact g s hs
  ·show pot y.2.2 + cos (x.1 ++ y.1) + 2 * ((l.length + 1 : Nat) : Int) ≤ _
   rw [cos_app,szs]; omega
  ·show wts (x.1 ++ y.1) ≤ _
   rw [wts_app,szs]; omega
structure FN (e : Ex) : Prop where
 k7 : e.k = 7 → e.ks.length = 1
 k8 : e.k = 8 → 1 ≤ e.ks.length
 k10 : e.k = 10 → 1 ≤ e.ks.length
 k6 : e.k = 6 → e.ks.length = 3
 k11 : e.k = 11 → (e.n = 0 ∧ e.ks.length = 1) ∨ (e.n = 1 ∧ e.ks.length = 2) ∨ (e.n = 2 ∧ e.ks.length = 2)
theorem frN {p : Pg} {e : Ex} (h : Fr p e) : FN e := by
 have h1 := ((Fr_eq p e).1 h).1
 unfold frmF at h1
 simp only [Bool.and_eq_true,Bool.not_eq_true'] at h1
 have h2 := h1.1
 unfold frmA at h2
 simp only [Bool.or_eq_false_iff,Bool.and_eq_false_iff,decide_eq_false_iff_not,Bool.not_eq_false'] at h2
 obtain ⟨⟨⟨⟨⟨a1,a2⟩,a3⟩,a4⟩,a5⟩,a6⟩ := h2
 unfold ofF at *
 refine ⟨fun hk => ?_,fun hk => ?_,fun hk => ?_,fun hk => ?_,fun hk => ?_⟩
 ·simp [hk] at a2 a3; omega
 ·simp [hk] at a2; omega
 ·simp [hk] at a2; omega
 ·simp [hk] at a2 a3; omega
 ·simp only [hk] at a1 a2 a3
  by_cases h0 : e.n < 0 ∨ 2 < e.n
  ·simp [h0] at a1
  ·simp [h0] at a2 a3
   split at a2 <;> rename_i h3 <;> simp [h3] at a3 <;> omega
theorem parts_tot {p : Pg} {b : Nat} (hC : ∀ e,sz e ≤ b → Fr p e → CTot p e) {l : List Ex} (hV : ∀ e ∈ l,VTot p e ∧ sz e ≤ b) : ∀ (i n : Nat) (t : List IV) (σ : Mk),64 * i < l.length → 1 ≤ n → (i = 0 ∨ 11 * szs l + 708 ≤ n + 11 * l.length) → ∃ x,partsM (n + i) i l t σ = some x ∧ pot x.2 ≤ pot σ + 10 * szs (l.take (64 * i))
 | 0,n,t,σ,hi,h1,hn => by
  cases n with
  | zero => omega
  | succ n => exact ⟨(t,σ),by rw [Nat.add_zero,partsM],by show pot σ ≤ pot σ + _; omega⟩
 | i + 1,n,t,σ,hi,h1,hn => by
  have hn : 11 * szs l + 708 ≤ n + 11 * l.length := by omega
  have hp1 := szs_part l (64 * i) 64
  have hpl : ((l.drop (64 * i)).take 64).length = 64 := by simp; omega
  have hsp : szs (l.take (64 * (i + 1))) = szs (l.take (64 * i)) + szs ((l.drop (64 * i)).take 64) := by
   rw [← szs_app,show 64 * (i + 1) = 64 * i + 64 by omega,List.take_add]
  have hpz := szs_len ((l.drop (64 * i)).take 64)
  obtain ⟨x,hx,g,c,w,hl⟩ := values_tot (b := b) ((l.drop (64 * i)).take 64) (n + i) (σ.var.push (fnF .full [σ.nv] true true t)).var (fun e he => hV e (List.mem_of_mem_drop (List.mem_of_mem_take he))) (by omega)
  obtain ⟨y,hy,hyp⟩ := laid_tot hC (St.tm (funT (σ.nv + 1) σ.fs.length (.sl .nil [])) (σ.nv + 1) :: x.1).reverse (n + i) (callT .full [aV (σ.nv + 1)]) x.2.2 (fun s hs => by
   rcases List.mem_cons.1 (List.mem_reverse.1 hs) with rfl | hs
   ·trivial
   ·exact g s hs) (by rw [wts_rev,wts]; simp only [wtS]; omega)
  obtain ⟨z,hz,hzp⟩ := parts_tot hC hV i n y.1 y.2 (by omega) h1 (.inr hn)
  refine ⟨z,?_,?_⟩
  ·rw [← Nat.add_assoc,partsM,hx,Option.bind_some,hy,Option.bind_some]
   exact hz
  ·rw [pot_var,pot_push,pot_var] at c
   rw [cos_rev,cos] at hyp
   simp only [coS] at hyp
   rw [hsp]
   rw [hpl] at c
   omega
theorem tot (p : Pg) : ∀ (N : Nat) (e : Ex),sz e ≤ N → Fr p e → VTot p e ∧ CTot p e
 | 0,e,hN,hf => by have := sz_eq e; omega
 | N + 1,e,hN,hf => by
  have hse := sz_eq e
  have hfn := frN hf
  have hK : ∀ x ∈ e.ks,Fr p x := Frs_iff.1 ((Fr_eq p e).1 hf).2
  have hC : ∀ x,sz x ≤ sz e - 1 → Fr p x → CTot p x := fun x hx hf => (tot p N x (by omega) hf).2
  have hKv : ∀ x ∈ e.ks,VTot p x ∧ sz x ≤ sz e - 1 := fun x hx => by
   have := szs_mem hx
   exact ⟨(tot p N x (by omega) (hK x hx)).1,by omega⟩
  have hv : VTot p e := by
   intro n σ hn
   cases n with
   | zero => omega
   | succ n =>
    rw [valueM]
    by_cases h1 : e.k = 1
    ·rw [if_pos h1]
     exact ⟨_,rfl,by simp,by show pot σ + cos [] + 2 ≤ _; rw [cos]; omega,by simp [wts],fun _ => ⟨by simp,by show 0 + 10 ≤ _; omega,by show pot σ + cos [] + 5 ≤ _; rw [cos]; omega⟩⟩
    rw [if_neg h1]
    by_cases h2 : e.k = 2
    ·rw [if_pos h2]
     exact ⟨_,rfl,by simp,by show pot σ + cos [] + 2 ≤ _; rw [cos]; omega,by simp [wts],fun _ => ⟨by simp,by show 0 + 10 ≤ _; omega,by show pot σ + cos [] + 5 ≤ _; rw [cos]; omega⟩⟩
    rw [if_neg h2]
    by_cases h7 : e.k = 7
    ·rw [if_pos h7]
     have hl := hfn.k7 h7
     obtain ⟨b,hb⟩ : ∃ b,e.ks = [b] := List.length_eq_one_iff.1 hl
     have hbm : b ∈ e.ks := by rw [hb]; simp
     have hbz := szs_mem hbm
     cases n with
     | zero => omega
     | succ n =>
      obtain ⟨y,hy,hyp⟩ := hC b (by omega) (hK b hbm) n (aV σ.nv) σ.var (by omega)
      rw [lambdaM,hb]
      simp only [hy,Option.bind_some]
      rw [pot_var] at hyp
      refine ⟨_,rfl,fun s hs => ?_,?_,?_,fun _ => ⟨fun s hs => ?_,?_⟩⟩
      ·rw [List.mem_singleton] at hs; subst hs; trivial
      ·show pot (Mk.var (Mk.push _ _)) + cos [_] + 2 ≤ _
       rw [pot_var,pot_push,cos,cos]; simp only [coS]; omega
      ·show wts [_] ≤ _
       rw [wts,wts]; simp only [wtS]; omega
      ·rw [List.mem_singleton] at hs; subst hs; trivial
      ·refine ⟨?_,?_⟩
       ·show wts [_] + 10 ≤ _
        rw [wts,wts]; simp only [wtS]; omega
       ·show pot (Mk.var (Mk.push _ _)) + cos [_] + 5 ≤ _
        rw [pot_var,pot_push,cos,cos]; simp only [coS]; omega
    rw [if_neg h7]
    by_cases h10 : e.k = 10 ∧ e.ks.length ≤ 64
    ·rw [if_pos h10]
     obtain ⟨x,hx,g,c,w,hl⟩ := values_tot (b := sz e - 1) e.ks n σ hKv (by omega)
     have hl1 := hfn.k10 h10.1
     rw [hx,Option.bind_some]
     have hne : x.2.1 ≠ [] := by intro h0; rw [h0] at hl; simp at hl; omega
     rw [List.getLast?_eq_some_getLast hne,Option.bind_some]
     refine ⟨_,rfl,fun s hs => (g s hs).mono (by omega),?_,?_,fun _ => ⟨g,?_⟩⟩
     ·show pot x.2.2 + cos x.1 + 2 ≤ _; omega
     ·show wts x.1 ≤ _; omega
     ·exact ⟨by show wts x.1 + 10 ≤ _; omega,by show pot x.2.2 + cos x.1 + 5 ≤ _; omega⟩
    rw [if_neg h10]
    by_cases hla : e.k = 10 ∨ e.k = 8 ∨ e.k = 6 ∨ e.k = 11
    ·rw [if_pos hla]
     have hL : Late e := by
      unfold Late
      rcases hla with h | h | h | h
      ·left; exact ⟨h,by omega⟩
      ·right; left; exact h
      ·right; right; left; exact h
      ·right; right; right; exact h
     refine ⟨_,rfl,fun s hs => ?_,?_,?_,fun hn => absurd hL hn⟩
     ·rw [List.mem_singleton] at hs; subst hs; exact ⟨hf,Nat.le_refl _⟩
     ·show pot σ.var + cos [_] + 2 ≤ _
      rw [pot_var,cos,cos]; simp only [coS]; omega
     ·show wts [_] ≤ _
      rw [wts,wts]; simp only [wtS]; omega
    rw [if_neg hla]
    obtain ⟨x,hx,g,c,w,hl⟩ := values_tot (b := sz e - 1) e.ks n σ hKv (by omega)
    rw [hx,Option.bind_some]
    refine ⟨_,rfl,fun s hs => ?_,?_,?_,fun _ => ⟨fun s hs => ?_,?_⟩⟩
    ·rcases List.mem_append.1 hs with hs | hs
     ·exact (g s hs).mono (by omega)
     ·rw [List.mem_singleton] at hs; subst hs; trivial
    ·show pot x.2.2.var + cos (_ ++ [_]) + 2 ≤ _
     rw [pot_var,cos_app,cos,cos]; simp only [coS]; omega
    ·show wts (_ ++ [_]) ≤ _
     rw [wts_app,wts,wts]; simp only [wtS]; omega
    ·rcases List.mem_append.1 hs with hs | hs
     ·exact g s hs
     ·rw [List.mem_singleton] at hs; subst hs; trivial
    ·refine ⟨?_,?_⟩
     ·show wts (_ ++ [_]) + 10 ≤ _
      rw [wts_app,wts,wts]; simp only [wtS]; omega
     ·show pot x.2.2.var + cos (_ ++ [_]) + 5 ≤ _
      rw [pot_var,cos_app,cos,cos]; simp only [coS]; omega
  refine ⟨hv,fun n k σ hn => ?_⟩
  cases n with
  | zero => omega
  | succ n =>
   rw [codeM]
   by_cases h8 : e.k = 8
   ·rw [if_pos h8]
    obtain ⟨x,hx,g,c,w,hl⟩ := values_tot (b := sz e - 1) e.ks n σ hKv (by omega)
    have hl1 := hfn.k8 h8
    rw [hx,Option.bind_some]
    split
    ·rename_i h0; rw [h0] at hl; simp at hl; omega
    ·obtain ⟨y,hy,hyp⟩ := laid_tot hC x.1.reverse n _ x.2.2 (fun s hs => g s (List.mem_reverse.1 hs)) (by rw [wts_rev]; omega)
     rw [cos_rev] at hyp
     exact ⟨y,hy,by omega⟩
   rw [if_neg h8]
   by_cases h6 : e.k = 6
   ·rw [if_pos h6]
    have hl := hfn.k6 h6
    match hks : e.ks,hl with
    | [c0,p0,q0],_ =>
     rw [hks] at hKv hK hse
     simp only [szs] at hse
     obtain ⟨x,hx,hX⟩ := (hKv c0 (by simp)).1 n σ (by omega)
     obtain ⟨y,hy,hyp⟩ := hC p0 (by omega) (hK p0 (by simp)) n k x.2.2 (by omega)
     obtain ⟨z,hz,hzp⟩ := hC q0 (by omega) (hK q0 (by simp)) n k y.2 (by omega)
     have h1 := hX.c
     have h2 := hX.w
     obtain ⟨u,hu,hup⟩ := laid_tot hC x.1.reverse n (ifT x.2.1 y.1 z.1) z.2 (fun s hs => (hX.g s (List.mem_reverse.1 hs)).mono (by omega)) (by rw [wts_rev]; omega)
     rw [cos_rev] at hup
     simp only [hx,hy,hz,Option.bind_some]
     exact ⟨u,hu,by omega⟩
   rw [if_neg h6]
   by_cases h10 : e.k = 10
   ·rw [if_pos h10]
    have hl1 := hfn.k10 h10
    have hne : e.ks ≠ [] := by intro h0; rw [h0] at hl1; simp at hl1
    cases n with
    | zero => omega
    | succ n =>
     rw [seqM,List.getLast?_eq_some_getLast hne]
     generalize hz0 : e.ks.getLast hne = z0
     have hzm : z0 ∈ e.ks := by rw [← hz0]; exact List.getLast_mem hne
     have hzz := szs_mem hzm
     generalize hq : (e.ks.length - 1) / 64 = q
     have hsplit : e.ks = e.ks.take (64 * q) ++ (((e.ks.take (e.ks.length - 1)).drop (64 * q)) ++ [z0]) := by
      have h1 : e.ks = e.ks.take (e.ks.length - 1) ++ [z0] := by rw [← hz0,← List.dropLast_eq_take]; exact (List.dropLast_concat_getLast hne).symm
      have h2 : e.ks.take (64 * q) = (e.ks.take (e.ks.length - 1)).take (64 * q) := by rw [List.take_take,Nat.min_eq_left (by omega)]
      rw [h2,← List.append_assoc,List.take_append_drop]
      exact h1
     have hss := congrArg szs hsplit
     rw [szs_app,szs_app] at hss
     simp only [szs] at hss
     obtain ⟨x,hx,g,c,w,hl⟩ := values_tot (b := sz e - 1) ((e.ks.take (e.ks.length - 1)).drop (64 * q)) n σ (fun y hy => hKv y (List.mem_of_mem_take (List.mem_of_mem_drop hy))) (by omega)
     obtain ⟨y,hy,hyp⟩ := hC z0 (by omega) (hK z0 hzm) n k x.2.2 (by omega)
     obtain ⟨u,hu,hup⟩ := laid_tot hC x.1.reverse n y.1 y.2 (fun s hs => g s (List.mem_reverse.1 hs)) (by rw [wts_rev]; omega)
     rw [cos_rev] at hup
     have hql := szs_len e.ks
     obtain ⟨v,hv,hvp⟩ := parts_tot hC hKv q (n - q) u.1 u.2 (by omega) (by omega) (by omega)
     rw [show n - q + q = n by omega] at hv
     simp only [hx,hy,hu,Option.bind_some]
     exact ⟨v,hv,by omega⟩
   rw [if_neg h10]
   by_cases h11 : e.k = 11
   ·rw [if_pos h11]
    cases n with
    | zero => omega
    | succ n =>
     rw [ctlM]
     obtain ⟨x,hx,g,c,w,hl⟩ := values_tot (b := sz e - 1) e.ks n σ hKv (by omega)
     have h3 := hfn.k11 h11
     rw [hx,Option.bind_some]
     by_cases hn1 : e.n = 1
     ·rw [if_pos hn1]
      split
      ·obtain ⟨y,hy,hyp⟩ := laid_tot hC x.1.reverse n _ x.2.2 (fun s hs => g s (List.mem_reverse.1 hs)) (by rw [wts_rev]; omega)
       rw [cos_rev] at hyp
       exact ⟨y,hy,by omega⟩
      ·rename_i h0
       match ha : x.2.1,hl with
       | [],hl => simp at hl; omega
       | [a],hl => simp at hl; omega
       | a :: b :: r,_ => exact absurd ha (h0 a b r)
     rw [if_neg hn1]
     by_cases hn0 : e.n = 0
     ·rw [if_pos hn0]
      split
      ·obtain ⟨y,hy,hyp⟩ := laid_tot hC (x.1 ++ [St.tm (funT (x.2.2.nv + 2) x.2.2.fs.length (.sl .nil [])) (x.2.2.nv + 2)]).reverse n _ _ (fun s hs => by
        rcases List.mem_append.1 (List.mem_reverse.1 hs) with hs | hs
        ·exact g s hs
        ·rw [List.mem_singleton] at hs; subst hs; trivial) (by rw [wts_rev,wts_app,wts,wts]; simp only [wtS]; omega)
       refine ⟨y,hy,?_⟩
       rw [cos_rev,cos_app,cos,cos,pot_var,pot_push,pot_var,pot_var] at hyp
       simp only [coS] at hyp
       omega
      ·rename_i h0
       match ha : x.2.1,hl with
       | [],hl => simp at hl; omega
       | a :: r,_ => exact absurd ha (h0 a r)
     rw [if_neg hn0]
     split
     ·obtain ⟨y,hy,hyp⟩ := laid_tot hC (x.1 ++ [St.tm (funT (x.2.2.nv + 1) x.2.2.fs.length (.sl .nil [])) (x.2.2.nv + 1)]).reverse n _ _ (fun s hs => by
       rcases List.mem_append.1 (List.mem_reverse.1 hs) with hs | hs
       ·exact g s hs
       ·rw [List.mem_singleton] at hs; subst hs; trivial) (by rw [wts_rev,wts_app,wts,wts]; simp only [wtS]; omega)
      refine ⟨y,hy,?_⟩
      rw [cos_rev,cos_app,cos,cos,pot_var,pot_push,pot_var] at hyp
      simp only [coS] at hyp
      omega
     ·rename_i h0
      match ha : x.2.1,hl with
      | [],hl => simp at hl; omega
      | [a],hl => simp at hl; omega
      | a :: b :: r,_ => exact absurd ha (h0 a b r)
   rw [if_neg h11]
   obtain ⟨x,hx,hX⟩ := hv n σ (by omega)
   have hnl : e.k = 10 ∧ 64 < e.ks.length ∨ e.k = 8 ∨ e.k = 6 ∨ e.k = 11 → False := by omega
   obtain ⟨g,w,h1⟩ := hX.n hnl
   rw [hx,Option.bind_some]
   obtain ⟨y,hy,hyp⟩ := laid_tot hC x.1.reverse n (callT .full [k,x.2.1]) x.2.2 (fun s hs => g s (List.mem_reverse.1 hs)) (by rw [wts_rev]; omega)
   rw [cos_rev] at hyp
   exact ⟨y,hy,by omega⟩
def intsOf : List (List IV) → List Int
 | [.int _ n] :: r => n :: intsOf r
 | _ => []
theorem intsOf_one : ∀ l : List Int,intsOf (TM.one (.int .i64) l) = l
 | [] => rfl
 | a :: r => by
  show a :: intsOf (TM.one (.int .i64) r) = _
  rw [intsOf_one r]
def keyF (vr : Int) : List IV → List (List Int × Bool)
 | .sl _ ps :: .bool r :: .bool c :: _ => if c then [] else if (intsOf ps).drop 1 |>.any fun v => decide (vr ≤ v) then [] else [((intsOf ps).drop 1,r)]
 | _ => []
section
variable (vr : Int) (κ : List Int × Bool)
def cF (f : List IV) : Nat := (keyF vr f).count κ
def cFs : List (List IV) → Nat
 | [] => 0
 | f :: r => cF vr κ f + cFs r
theorem cFs_app : ∀ (a b : List (List IV)),cFs vr κ (a ++ b) = cFs vr κ a + cFs vr κ b
 | [],b => by rw [List.nil_append,cFs,Nat.zero_add]
 | x :: a,b => by rw [List.cons_append,cFs,cFs,cFs_app a b]; omega
theorem cFs_push (σ : Mk) (f : List IV) : cFs vr κ (σ.push f).fs = cFs vr κ σ.fs + cF vr κ f := by
 show cFs vr κ (σ.fs ++ [f]) = _
 rw [cFs_app,cFs,cFs]; omega
theorem cFs_var (σ : Mk) : cFs vr κ σ.var.fs = cFs vr κ σ.fs := rfl
theorem cF_cont (tg : Tag) (ps : List Int) (r : Bool) (b : List IV) : cF vr κ (fnF tg ps r true b) = 0 := rfl
theorem cF_lam (tg : Tag) (k : Int) (vs : List Int) (r : Bool) (b : List IV) (h : ∀ v ∈ vs,v < vr) : cF vr κ (fnF tg (k :: vs) r false b) = if (vs,r) = κ then 1 else 0 := by
 unfold cF fnF keyF
 have h1 : ((intsOf (TM.one (.int .i64) (k :: vs))).drop 1).any (fun v => decide (vr ≤ v)) = false := by
  rw [intsOf_one,List.drop_succ_cons,List.drop_zero,List.any_eq_false]
  intro v hv; have := h v hv; simp; omega
 simp only [Bool.false_eq_true,if_false,h1]
 rw [intsOf_one,List.drop_succ_cons,List.drop_zero,List.count_singleton]
 by_cases hk : (vs,r) = κ
 ·simp [hk]
 ·simp [hk]
theorem cF_cc (tg : Tag) (a b : Int) (r : Bool) (t : List IV) (h : vr ≤ b) : cF vr κ (fnF tg [a,b] r false t) = 0 := by
 unfold cF fnF keyF
 have h1 : ((intsOf (TM.one (.int .i64) [a,b])).drop 1).any (fun v => decide (vr ≤ v)) = true := by
  rw [intsOf_one]; simp; omega
 simp only [Bool.false_eq_true,if_false,h1,if_true]
 rfl
mutual
def cE : Ex → Nat
 | .mk k n gv vs r g ks => (if k = 7 ∧ (vs,r) = κ then 1 else 0) + cEs ks
def cEs : List Ex → Nat
 | [] => 0
 | e :: es => cE e + cEs es
end
theorem cE_eq (e : Ex) : cE κ e = (if e.k = 7 ∧ (e.vs,e.r) = κ then 1 else 0) + cEs κ e.ks := by cases e; rw [cE]; rfl
theorem cEs_app : ∀ (a b : List Ex),cEs κ (a ++ b) = cEs κ a + cEs κ b
 | [],b => by rw [List.nil_append,cEs,Nat.zero_add]
 | x :: a,b => by rw [List.cons_append,cEs,cEs,cEs_app a b]; omega
def cS : St → Nat
 | .tm _ _ => 0
 | .rs e _ => cE κ e
def cSs : List St → Nat
 | [] => 0
 | s :: r => cS κ s + cSs r
theorem cSs_app : ∀ (a b : List St),cSs κ (a ++ b) = cSs κ a + cSs κ b
 | [],b => by rw [List.nil_append,cSs,Nat.zero_add]
 | x :: a,b => by rw [List.cons_append,cSs,cSs,cSs_app a b]; omega
theorem cSs_rev (l : List St) : cSs κ l.reverse = cSs κ l := by
 induction l with
 | nil => rfl
 | cons a r ih => rw [List.reverse_cons,cSs_app,ih,cSs,cSs,cSs]; omega
end
structure FMn (p : Pg) (e : Ex) : Prop where
 k1 : e.k = 1 ∨ e.k = 2 → e.ks = []
 k7 : e.k = 7 → ∀ v ∈ e.vs,v < p.vr
theorem frM {p : Pg} {e : Ex} (h : Fr p e) : FMn p e := by
 have h1 := ((Fr_eq p e).1 h).1
 unfold frmF at h1
 simp only [Bool.and_eq_true,Bool.not_eq_true'] at h1
 have h2 := h1.1
 unfold frmA at h2
 simp only [Bool.or_eq_false_iff,Bool.and_eq_false_iff,decide_eq_false_iff_not,Bool.not_eq_false'] at h2
 obtain ⟨⟨⟨⟨⟨a1,a2⟩,a3⟩,a4⟩,a5⟩,a6⟩ := h2
 unfold ofF at *
 refine ⟨fun hk => ?_,fun hk v hv => ?_⟩
 ·rcases hk with hk | hk <;> simp [hk] at a3 <;> first | exact a3 | exact List.eq_nil_of_length_eq_zero (by omega)
 ·have h3 := h1.2
  unfold frmB at h3
  simp [hk] at h3
  exact (h3 v hv).2
def SF (p : Pg) (l : List St) : Prop := ∀ s ∈ l,∀ e to,s = .rs e to → Fr p e
structure Ct (p : Pg) (κ : List Int × Bool) (n : Nat) : Prop where
 value : ∀ {e σ x},valueM n e σ = some x → Fr p e → p.vr ≤ σ.nv → cFs p.vr κ x.2.2.fs + cSs κ x.1 = cFs p.vr κ σ.fs + cE κ e ∧ SF p x.1
 values : ∀ {l σ x},valuesM n l σ = some x → (∀ e ∈ l,Fr p e) → p.vr ≤ σ.nv → cFs p.vr κ x.2.2.fs + cSs κ x.1 = cFs p.vr κ σ.fs + cEs κ l ∧ SF p x.1
 lam : ∀ {e σ x},lambdaM n e σ = some x → Fr p e → e.k = 7 → p.vr ≤ σ.nv → cFs p.vr κ x.2.fs = cFs p.vr κ σ.fs + cE κ e
 laid : ∀ {l t σ x},laidM n l t σ = some x → SF p l → p.vr ≤ σ.nv → cFs p.vr κ x.2.fs = cFs p.vr κ σ.fs + cSs κ l
 code : ∀ {e k σ x},codeM n e k σ = some x → Fr p e → p.vr ≤ σ.nv → cFs p.vr κ x.2.fs = cFs p.vr κ σ.fs + cE κ e
 ctl : ∀ {e k σ x},ctlM n e k σ = some x → Fr p e → e.k = 11 → p.vr ≤ σ.nv → cFs p.vr κ x.2.fs = cFs p.vr κ σ.fs + cE κ e
 sq : ∀ {l k σ x},seqM n l k σ = some x → (∀ e ∈ l,Fr p e) → p.vr ≤ σ.nv → cFs p.vr κ x.2.fs = cFs p.vr κ σ.fs + cEs κ l
 parts : ∀ {i l t σ x},partsM n i l t σ = some x → (∀ e ∈ l,Fr p e) → p.vr ≤ σ.nv → cFs p.vr κ x.2.fs = cFs p.vr κ σ.fs + cEs κ (l.take (64 * i))
theorem SF.app {p : Pg} {a b : List St} (h : SF p a) (g : SF p b) : SF p (a ++ b) := fun s hs => (List.mem_append.1 hs).elim (h s) (g s)
theorem SF.tm (p : Pg) (t : List IV) (to : Int) : SF p [.tm t to] := fun s hs e to' h => by rw [List.mem_singleton] at hs; subst hs; cases h
theorem SF.nil (p : Pg) : SF p [] := fun s hs => by cases hs
theorem SF.rev {p : Pg} {l : List St} (h : SF p l) : SF p l.reverse := fun s hs => h s (List.mem_reverse.1 hs)
theorem counts (p : Pg) (κ : List Int × Bool) : ∀ n,Ct p κ n
 | 0 => ⟨fun h => by simp [valueM] at h,fun h => by simp [valuesM] at h,fun h => by simp [lambdaM] at h,fun h => by simp [laidM] at h,fun h => by simp [codeM] at h,fun h => by simp [ctlM] at h,fun h => by simp [seqM] at h,fun h => by simp [partsM] at h⟩
 | n + 1 => by
  have m := counts p κ n
  have mo := mono n
  refine ⟨?_,?_,?_,?_,?_,?_,?_,?_⟩
  ·intro e σ x h hf hv
   have hK : ∀ x ∈ e.ks,Fr p x := Frs_iff.1 ((Fr_eq p e).1 hf).2
   have hM := frM hf
   rw [cE_eq]
   rw [valueM] at h
   split at h
   ·rename_i hk; cases h; rw [hM.k1 (.inl hk)]; simp [cSs,cEs,hk,SF.nil]
   ·split at h
    ·rename_i hk; cases h; rw [hM.k1 (.inr hk)]; simp [cSs,cEs,hk,SF.nil]
    ·split at h
     ·rename_i hk
      obtain ⟨y,hy,h⟩ := Option.bind_eq_some_iff.1 h
      have h1 := m.lam hy hf hk hv
      cases h
      rw [cE_eq] at h1
      exact ⟨by show cFs p.vr κ y.2.fs + cSs κ [St.tm _ _] = _; rw [cSs,cSs,cS]; omega,SF.tm _ _ _⟩
     ·rename_i h7
      rw [if_neg (fun hh => h7 hh.1),Nat.zero_add]
      split at h
      ·obtain ⟨y,hy,h⟩ := Option.bind_eq_some_iff.1 h
       obtain ⟨a,ha,h⟩ := Option.bind_eq_some_iff.1 h
       cases h; exact m.values hy hK hv
      ·split at h
       ·cases h
        refine ⟨?_,fun s hs e' to h => by rw [List.mem_singleton] at hs; subst hs; cases h; exact hf⟩
        show cFs p.vr κ σ.fs + cSs κ [St.rs e _] = _
        rw [cSs,cSs,cS,cE_eq,if_neg (fun hh => h7 hh.1)]; omega
       ·obtain ⟨y,hy,h⟩ := Option.bind_eq_some_iff.1 h
        obtain ⟨h1,h2⟩ := m.values hy hK hv
        cases h
        refine ⟨?_,h2.app (SF.tm _ _ _)⟩
        show cFs p.vr κ y.2.2.fs + cSs κ (y.1 ++ [St.tm _ _]) = _
        rw [cSs_app,cSs,cSs,cS]; omega
  ·intro l σ x h hf hv
   cases l with
   | nil => rw [valuesM] at h; cases h; simp [cSs,cEs,SF.nil]
   | cons e l =>
    rw [valuesM] at h
    obtain ⟨y,hy,h⟩ := Option.bind_eq_some_iff.1 h
    obtain ⟨z,hz,h⟩ := Option.bind_eq_some_iff.1 h
    obtain ⟨h1,h2⟩ := m.value hy (hf e (by simp)) hv
    obtain ⟨h3,h4⟩ := m.values hz (fun x hx => hf x (List.mem_cons_of_mem _ hx)) (Int.le_trans hv (mo.value hy).nv)
    cases h
    refine ⟨?_,h2.app h4⟩
    show cFs p.vr κ z.2.2.fs + cSs κ (y.1 ++ z.1) = _
    rw [cSs_app,cEs]; omega
  ·intro e σ x h hf hk hv
   have hK : ∀ x ∈ e.ks,Fr p x := Frs_iff.1 ((Fr_eq p e).1 hf).2
   have hl := (frN hf).k7 hk
   have hM := frM hf
   rw [lambdaM] at h
   split at h
   ·cases h
   ·rename_i b bs hks
    rw [hks] at hl hK
    have hbs : bs = [] := by simpa using hl
    subst hbs
    obtain ⟨y,hy,h⟩ := Option.bind_eq_some_iff.1 h
    have h1 := m.code hy (hK b (by simp)) (by show p.vr ≤ σ.nv + 1; omega)
    cases h
    rw [cFs_push,cF_lam _ _ _ _ _ _ _ (hM.k7 hk),h1,cE_eq κ e,hks,cEs,cEs,cFs_var]
    simp only [hk,true_and]
    omega
  ·intro l t σ x h hs hv
   cases l with
   | nil => rw [laidM] at h; cases h; simp [cSs]
   | cons s l =>
    cases s with
    | tm c to =>
     rw [laidM] at h
     have h1 := m.laid h (fun s hs' => hs s (List.mem_cons_of_mem _ hs')) hv
     rw [cSs,cS]; omega
    | rs e to =>
     rw [laidM] at h
     obtain ⟨y,hy,h⟩ := Option.bind_eq_some_iff.1 h
     have h1 := m.code hy (hs _ (List.mem_cons_self) e to rfl) (by show p.vr ≤ σ.nv + 1; omega)
     have hl : σ.nv + 1 ≤ y.2.nv := (mo.code hy).nv
     have h2 := m.laid h (fun s hs' => hs s (List.mem_cons_of_mem _ hs')) (by omega)
     rw [cFs_var,cFs_push,cF_cont] at h1
     rw [cSs,cS]; omega
  ·intro e k σ x h hf hv
   have hK : ∀ x ∈ e.ks,Fr p x := Frs_iff.1 ((Fr_eq p e).1 hf).2
   rw [codeM] at h
   split at h
   ·rename_i hk
    obtain ⟨y,hy,h⟩ := Option.bind_eq_some_iff.1 h
    obtain ⟨h1,h2⟩ := m.values hy hK hv
    split at h
    ·cases h
    ·have h3 := m.laid h h2.rev (Int.le_trans hv (mo.values hy).nv)
     rw [cSs_rev] at h3
     rw [cE_eq,if_neg (by rw [hk]; simp)]; omega
   ·split at h
    ·rename_i h8 hk
     split at h
     ·rename_i c0 p0 q0 rr hks
      have hl := (frN hf).k6 hk
      rw [hks] at hl hK
      have hrr : rr = [] := by simpa using hl
      subst hrr
      obtain ⟨y,hy,h⟩ := Option.bind_eq_some_iff.1 h
      obtain ⟨z,hz,h⟩ := Option.bind_eq_some_iff.1 h
      obtain ⟨w,hw,h⟩ := Option.bind_eq_some_iff.1 h
      have n1 := (mo.value hy).nv
      have n2 := (mo.code hz).nv
      have n3 := (mo.code hw).nv
      obtain ⟨h1,h2⟩ := m.value hy (hK c0 (by simp)) hv
      have h3 := m.code hz (hK p0 (by simp)) (by omega)
      have h4 := m.code hw (hK q0 (by simp)) (by omega)
      have h5 := m.laid h h2.rev (by omega)
      rw [cSs_rev] at h5
      rw [cE_eq,if_neg (by rw [hk]; simp),hks,cEs,cEs,cEs,cEs]; omega
     ·cases h
    ·split at h
     ·rename_i hk
      rw [cE_eq,if_neg (by rw [hk]; simp),Nat.zero_add]
      exact m.sq h hK hv
     ·split at h
      ·rename_i hk; exact m.ctl h hf hk hv
      ·obtain ⟨y,hy,h⟩ := Option.bind_eq_some_iff.1 h
       obtain ⟨h1,h2⟩ := m.value hy hf hv
       have h3 := m.laid h h2.rev (Int.le_trans hv (mo.value hy).nv)
       rw [cSs_rev] at h3
       omega
  ·intro e k σ x h hf hk hv
   have hK : ∀ x ∈ e.ks,Fr p x := Frs_iff.1 ((Fr_eq p e).1 hf).2
   rw [ctlM] at h
   obtain ⟨y,hy,h⟩ := Option.bind_eq_some_iff.1 h
   obtain ⟨h1,h2⟩ := m.values hy hK hv
   have n1 := (mo.values hy).nv
   rw [cE_eq,if_neg (by rw [hk]; simp),Nat.zero_add]
   split at h
   ·split at h
    ·have h3 := m.laid h h2.rev (by omega)
     rw [cSs_rev] at h3; omega
    ·cases h
   ·split at h
    ·split at h
     ·have h3 := m.laid h (h2.app (SF.tm _ _ _)).rev (by show p.vr ≤ y.2.2.nv + 1 + 1 + 1; omega)
      rw [cSs_rev,cSs_app,cSs,cSs,cS,cFs_var,cFs_push,cF_cc _ _ _ _ _ _ _ (by omega),cFs_var,cFs_var] at h3; omega
     ·cases h
    ·split at h
     ·have h3 := m.laid h (h2.app (SF.tm _ _ _)).rev (by show p.vr ≤ y.2.2.nv + 1 + 1; omega)
      rw [cSs_rev,cSs_app,cSs,cSs,cS,cFs_var,cFs_push,cF_cont,cFs_var] at h3; omega
     ·cases h
  ·intro l k σ x h hf hv
   rw [seqM] at h
   split at h
   ·cases h
   ·rename_i z0 hz0
    obtain ⟨y,hy,h⟩ := Option.bind_eq_some_iff.1 h
    obtain ⟨z,hz,h⟩ := Option.bind_eq_some_iff.1 h
    obtain ⟨w,hw,h⟩ := Option.bind_eq_some_iff.1 h
    have n1 := (mo.values hy).nv
    have n2 := (mo.code hz).nv
    have n3 := (mo.laid hw).nv
    have hne : l ≠ [] := by rintro rfl; simp at hz0
    have hsplit : l = l.take (64 * ((l.length - 1) / 64)) ++ (((l.take (l.length - 1)).drop (64 * ((l.length - 1) / 64))) ++ [z0]) := by
     have h1 : l = l.take (l.length - 1) ++ [z0] := by
      rw [List.getLast?_eq_some_getLast hne] at hz0
      cases hz0
      rw [← List.dropLast_eq_take]; exact (List.dropLast_concat_getLast hne).symm
     have h2 : l.take (64 * ((l.length - 1) / 64)) = (l.take (l.length - 1)).take (64 * ((l.length - 1) / 64)) := by rw [List.take_take,Nat.min_eq_left (by omega)]
     rw [h2,← List.append_assoc,List.take_append_drop]
     exact h1
    have hss := congrArg (cEs κ) hsplit
    rw [cEs_app,cEs_app,cEs,cEs] at hss
    obtain ⟨h1,h2⟩ := m.values hy (fun e he => hf e (List.mem_of_mem_take (List.mem_of_mem_drop he))) hv
    have h3 := m.code hz (hf z0 (List.mem_of_getLast? hz0)) (by omega)
    have h4 := m.laid hw h2.rev (by omega)
    have h5 := m.parts h hf (by omega)
    rw [cSs_rev] at h4
    omega
  ·intro i l t σ x h hf hv
   cases i with
   | zero => rw [partsM] at h; cases h; simp [cEs]
   | succ i =>
    rw [partsM] at h
    obtain ⟨y,hy,h⟩ := Option.bind_eq_some_iff.1 h
    obtain ⟨w,hw,h⟩ := Option.bind_eq_some_iff.1 h
    have n1 : σ.nv + 1 + 1 ≤ y.2.2.nv := (mo.values hy).nv
    have n2 := (mo.laid hw).nv
    obtain ⟨h1,h2⟩ := m.values hy (fun e he => hf e (List.mem_of_mem_drop (List.mem_of_mem_take he))) (by show p.vr ≤ σ.nv + 1 + 1; omega)
    have h3 := m.laid hw (show SF p (St.tm _ _ :: y.1).reverse from ((SF.tm _ _ _).app h2).rev) (by omega)
    have h4 := m.parts h hf (by omega)
    rw [cFs_var,cFs_push,cF_cont,cFs_var] at h1
    rw [cSs_rev,cSs,cS] at h3
    rw [show 64 * (i + 1) = 64 * i + 64 by omega,List.take_add,cEs_app]
    omega
end Go.Proofs.YtageemgcnoblnaaDoor
