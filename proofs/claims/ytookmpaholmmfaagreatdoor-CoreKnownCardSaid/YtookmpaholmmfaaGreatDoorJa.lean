/- Some texts of the proof, joined. Condition: none. -/
import Derived.Test.YtookmpaholmmfaaGreatDoorTmProg
import Derived.Test.YtookmpaholmmfaaGreatDoorTmE
import Derived.Test.YtookmpaholmmfaaGreatDoorTmF
import Derived.Test.YtookmpaholmmfaaGreatDoorRows
set_option maxRecDepth 100000
set_option maxHeartbeats 64000000
set_option linter.unusedSimpArgs false
set_option linter.unusedVariables false
namespace Go.Proofs.YtookmpaholmmfaaGreatDoor
open Go Go.TM
attribute [go_sem] beq_self_eq_true decT decF ifT ifF eqT eqF neT neF bytesIV_length TM.one_length get_cp0 List.replicate List.cons_append List.nil_append decide_true decide_false
attribute [go_sem] Nat.reduceAdd Nat.reduceSub Nat.reduceMul Nat.reduceLT Nat.reduceLeDiff Nat.reduceEqDiff Nat.reduceBEq reduceIte reduceCtorEq Int.reduceEq Int.reduceLT Int.reduceLE Int.reduceAdd Int.reduceSub Int.reduceMul Int.reduceToNat Int.reduceNeg Int.reduceBEq Int.reduceBNe Int.reduceTDiv Int.reduceTMod Int.reducePow Nat.reducePow Nat.reduceDiv Nat.reduceMod Int.reduceMod Int.reduceDiv Int.reduceNe Int.reduceFDiv
inductive Dt where
 | mk (k n : Int) (t : List UInt8) (g : Tag) (ks : List Dt) (p : Int)
instance : Inhabited Dt := ⟨.mk 0 0 [] .nil [] 0⟩
def Dt.k : Dt → Int | .mk k _ _ _ _ _ => k
def Dt.n : Dt → Int | .mk _ n _ _ _ _ => n
def Dt.t : Dt → List UInt8 | .mk _ _ t _ _ _ => t
def Dt.g : Dt → Tag | .mk _ _ _ g _ _ => g
def Dt.ks : Dt → List Dt | .mk _ _ _ _ ks _ => ks
def Dt.p : Dt → Int | .mk _ _ _ _ _ p => p
mutual
def encD : Dt → List IV
 | .mk k n t g ks p => [.int .i64 k,.int .i64 n,.str t,.sl g (encDs ks),.int .i64 p]
def encDs : List Dt → List (List IV)
 | [] => []
 | d :: ds => encD d :: encDs ds
end
mutual
def Dt.w : Dt → Nat
 | .mk _ _ t _ ks _ => t.length + Dt.ws ks + 1
def Dt.ws : List Dt → Nat
 | [] => 0
 | d :: ds => Dt.w d + Dt.ws ds
end
theorem encDs_map : ∀ ks : List Dt,encDs ks = ks.map encD
 | [] => by rw [encDs]; rfl
 | d :: ds => by rw [encDs,encDs_map ds]; rfl
theorem encDs_len (ks : List Dt) : (encDs ks).length = ks.length := by rw [encDs_map,List.length_map]
theorem encD_eq (d : Dt) : encD d = [.int .i64 d.k,.int .i64 d.n,.str d.t,.sl d.g (encDs d.ks),.int .i64 d.p] := by
 cases d; rw [encD]; rfl
theorem encD_len (d : Dt) : (encD d).length = 5 := by rw [encD_eq]; rfl
theorem Dt.w_eq (d : Dt) : d.w = d.t.length + Dt.ws d.ks + 1 := by cases d; rw [Dt.w]; rfl
theorem Dt.ws_mem {d : Dt} : ∀ {ks : List Dt},d ∈ ks → d.w ≤ Dt.ws ks
 | x :: r,h => by
  rw [Dt.ws]
  rcases List.mem_cons.1 h with rfl | h
  ·omega
  ·have := Dt.ws_mem h; omega
theorem Dt.ws_len : ∀ ks : List Dt,ks.length ≤ Dt.ws ks
 | [] => by simp
 | x :: r => by
  have := Dt.ws_len r
  have := Dt.w_eq x
  rw [Dt.ws,List.length_cons]; omega
theorem Dt.kid_lt {d x : Dt} (h : x ∈ d.ks) : x.w < d.w := by
 have := Dt.ws_mem h
 rw [Dt.w_eq d]; omega
theorem ixD {g : Tag} {ks : List Dt} {i : Int} (h : 0 ≤ i ∧ i < ks.length) : indexAddrS 5 (.iv (.sl g (encDs ks))) i = some (.iv (.cp (encD (ks.getD i.toNat default)))) := by
 rw [encDs_map]
 exact ix_map (f := encD) encD_len h
theorem getD5 (env : Env) (S : Store) (d : Dt) : getCells env S (.iv (.cp (encD d))) 5 = some [.iv (.int .i64 d.k),.iv (.int .i64 d.n),.iv (.str d.t),.iv (.sl d.g (encDs d.ks)),.iv (.int .i64 d.p)] := by
 rw [encD_eq]; rfl
theorem drop_get {α : Type} [Inhabited α] {l : List α} {i : Nat} (h : i < l.length) : l.drop i = l.getD i default :: l.drop (i + 1) := by
 rw [List.drop_eq_getElem_cons h,List.getD_eq_getElem?_getD,List.getElem?_eq_getElem h]; rfl
theorem get_mem {α : Type} [Inhabited α] {l : List α} {i : Nat} (h : i < l.length) : l.getD i default ∈ l := by
 rw [List.getD_eq_getElem?_getD,List.getElem?_eq_getElem h]; exact List.getElem_mem h
def isC (c : Int) : Bool := decide (0 ≤ c) && decide (c ≤ 1114111) && (decide (c < 55296) || decide (57343 < c))
theorem isC_iff (c : Int) : isC c = true ↔ 0 ≤ c ∧ c ≤ 1114111 ∧ (c < 55296 ∨ 57343 < c) := by
 simp [isC]; omega
theorem call151 (c : Int) : (lim K).call 151 [.iv (.int .i32 c)] [] = .ret (.iv (.bool (isC c)),[]) := by
 refine call_ret' K [] (fn := t151) rfl rfl ?_
 simp only [t151,go_sem]
 repeat' (first | (first | refine br_dec' (fun h => ?_) (fun h => ?_) | refine br_beq' (fun h => ?_) (fun h => ?_) | refine br_bne' (fun h => ?_) (fun h => ?_) | refine br_eq' (fun h => ?_) (fun h => ?_)) | simp (disch := omega) only [go_sem])
 all_goals (congr 4; simp [isC, *]; try omega)
theorem call117 (c : Int) : (lim K).call 117 [.iv (.int .i64 c)] [] = .ret (.iv (.bool (isC c)),[]) := by
 refine call_ret' K [] (fn := t117) rfl rfl ?_
 simp only [t117,go_sem]
 repeat' (first | (first | refine br_dec' (fun h => ?_) (fun h => ?_) | refine br_beq' (fun h => ?_) (fun h => ?_) | refine br_bne' (fun h => ?_) (fun h => ?_) | refine br_eq' (fun h => ?_) (fun h => ?_)) | simp (disch := omega) only [go_sem,call151,wrap_i32])
 all_goals (congr 4; simp [isC, *])
 all_goals (try omega)
def bytes (c : Int) : List UInt8 := (Utf8.encode c).data.toList
def bytesR (c : Int) : List UInt8 :=
 if c < 128 then [UInt8.ofNat c.toNat]
 else if c < 2048 then [UInt8.ofNat (192 + c.toNat / 64),UInt8.ofNat (128 + c.toNat % 64)]
 else if c < 65536 then [UInt8.ofNat (224 + c.toNat / 4096),UInt8.ofNat (128 + c.toNat / 64 % 64),UInt8.ofNat (128 + c.toNat % 64)]
 else [UInt8.ofNat (240 + c.toNat / 262144),UInt8.ofNat (128 + c.toNat / 4096 % 64),UInt8.ofNat (128 + c.toNat / 64 % 64),UInt8.ofNat (128 + c.toNat % 64)]
def tab (n : Nat) : Nat :=
 if n < 128 then 240 else if n < 194 then 241 else if n < 224 then 2 else if n = 224 then 19 else if n < 237 then 3 else if n = 237 then 35 else if n < 240 then 3 else if n = 240 then 52 else if n < 244 then 4 else if n = 244 then 68 else 241
theorem tab_all : (List.range 256).all (fun n => match g2[n]? with | some (.int .u8 m) => m == (tab n : Int) | _ => false) = true := by kernel_rfl
theorem tab_get {n : Nat} (h : n < 256) : g2[n]? = some (.int .u8 (tab n)) := by
 have := List.all_eq_true.1 tab_all n (List.mem_range.2 h)
 split at this
 ·rename_i m e; rw [e]; simp at this; rw [this]
 ·cases this
theorem hK0 : K.glob 2 = some g2 := rfl
theorem hK1 : K.glob 3 = some g3 := rfl
theorem g2_len : g2.length = 256 := by kernel_rfl
def fol (b : UInt8) : Bool := decide (128 ≤ b.toNat) && decide (b.toNat ≤ 191)
def D : List UInt8 → Nat × Nat
 | [] => (65533,0)
 | a :: r =>
  if a.toNat < 128 then (a.toNat,1)
  else if a.toNat < 194 then (65533,1)
  else if a.toNat < 224 then match r with
   | b :: _ => if fol b then (a.toNat % 32 * 64 + b.toNat % 64,2) else (65533,1)
   | _ => (65533,1)
  else if a.toNat < 240 then match r with
   | b :: c :: _ => if (decide ((if a.toNat = 224 then 160 else 128) ≤ b.toNat) && decide (b.toNat ≤ (if a.toNat = 237 then 159 else 191))) && fol c then (a.toNat % 16 * 4096 + b.toNat % 64 * 64 + c.toNat % 64,3) else (65533,1)
   | _ => (65533,1)
  else if a.toNat < 245 then match r with
   | b :: c :: d :: _ => if (decide ((if a.toNat = 240 then 144 else 128) ≤ b.toNat) && decide (b.toNat ≤ (if a.toNat = 244 then 143 else 191))) && fol c && fol d then (a.toNat % 8 * 262144 + b.toNat % 64 * 4096 + c.toNat % 64 * 64 + d.toNat % 64,4) else (65533,1)
   | _ => (65533,1)
  else (65533,1)
theorem bl (b : UInt8) : b.toNat < 256 := b.toNat_lt
theorem cons_bytes (a : UInt8) (r : List UInt8) : bytesIV (a :: r) = [.int .u8 a.toNat] :: bytesIV r := rfl
theorem call192_nil (t : Tag) : (lim K).call 192 [.iv (.sl t (bytesIV []))] [] = .ret (.tup [.iv (.int .i32 65533),.iv (.int .i64 0)],[]) := by
 refine call_ret' K [] (fn := t192) rfl rfl ?_
 simp (disch := omega) only [t192,go_sem]
theorem ixA0 {a : UInt8} : ixA 256 1 (.iv (.cp g2)) (.iv (.int .u8 a.toNat)) = some (.iv (.cp (g2.drop a.toNat))) := by
 have := bl a
 rw [ixA_int]
 have h : (0 : Int) ≤ (a.toNat : Int) ∧ (a.toNat : Int) < ((256 : Nat) : Int) := by omega
 simp only [h,and_self,↓reduceIte,Int.toNat_natCast,Nat.mul_one]
 exact addOff_cp (by rw [g2_len]; omega)
theorem ld0 {a : UInt8} (env : Env) (S : Store) : getCells env S (.iv (.cp (g2.drop a.toNat))) 1 = some [.iv (.int .u8 (tab a.toNat))] := get_drop (tab_get (bl a))
theorem w2 : IntKind.u8.wrap (bAnd 8 2 7) = 2 := by decide
theorem w240 : IntKind.i32.wrap 515396075520 = 0 := by decide
theorem w240' : IntKind.i32.wrap 240 = 240 := by decide
theorem w241 : IntKind.i32.wrap 517543559168 = -2147483648 := by decide
theorem w241' : IntKind.i32.wrap 241 = 241 := by decide
theorem m0 : IntKind.i32.wrap (bAnd 32 65533 0) = 0 := by decide
theorem i32_or0 {a : Int} (h : 0 ≤ a ∧ a ≤ 2147483647) : IntKind.i32.wrap (bOr 32 a 0) = a := by
 have e : BitVec.ofInt 32 a ||| BitVec.ofInt 32 0 = BitVec.ofInt 32 a := by simp
 unfold bOr
 rw [e,ofInt_toNat ⟨h.1,by omega⟩,wrap_i32 (by omega)]
 omega
theorem m1 : IntKind.i32.wrap (bAnd 32 65533 (-1)) = 65533 := by decide
theorem o1 : IntKind.i32.wrap (bOr 32 0 65533) = 65533 := by decide
set_option maxHeartbeats 4000000 in
theorem c30_ascii (t : Tag) (a : UInt8) (r : List UInt8) (h1 : a.toNat < 128) : (lim K).call 192 [.iv (.sl t (bytesIV (a :: r)))] [] = .ret (.tup [.iv (.int .i32 a.toNat),.iv (.int .i64 1)],[]) := by
 have ha := bl a
 refine call_ret' K [] (fn := t192) rfl rfl ?_
 have ht : tab a.toNat = 240 := by simp [tab]; omega
 simp (disch := omega) only [t192,go_sem,cons_bytes,Int.natCast_add,Int.cast_ofNat_Int,indexAddrS,hK0,hK1,ixA0,ld0,ht,w240,w240',ti32_andNot0,m0,wrap_i32,i32_or0]
set_option maxHeartbeats 4000000 in
theorem c30_bad (t : Tag) (a : UInt8) (r : List UInt8) (h1 : tab a.toNat = 241) : (lim K).call 192 [.iv (.sl t (bytesIV (a :: r)))] [] = .ret (.tup [.iv (.int .i32 65533),.iv (.int .i64 1)],[]) := by
 have ha := bl a
 refine call_ret' K [] (fn := t192) rfl rfl ?_
 simp (disch := omega) only [t192,go_sem,cons_bytes,Int.natCast_add,Int.cast_ofNat_Int,indexAddrS,hK0,hK1,ixA0,ld0,h1,w241,w241',ti32_andNot1,m1,o1,wrap_i32]
theorem D_ascii (a : UInt8) (r : List UInt8) (h : a.toNat < 128) : D (a :: r) = (a.toNat,1) := by simp [D,h]
theorem D_bad (a : UInt8) (r : List UInt8) (h : 128 ≤ a.toNat ∧ a.toNat < 194 ∨ 245 ≤ a.toNat) : D (a :: r) = (65533,1) := by
 have h1 : ¬ a.toNat < 128 := by omega
 by_cases h2 : a.toNat < 194
 ·simp [D,h1,h2]
 ·have h3 : ¬ a.toNat < 224 := by omega
  have h4 : ¬ a.toNat < 240 := by omega
  have h5 : ¬ a.toNat < 245 := by omega
  simp [D,h1,h2,h3,h4,h5]
theorem D_two (a : UInt8) (r : List UInt8) (h : 194 ≤ a.toNat ∧ a.toNat < 224) : D (a :: r) = match r with
      | b :: _ => if fol b then (a.toNat % 32 * 64 + b.toNat % 64,2) else (65533,1)
      | _ => (65533,1) := by
  have h1 : ¬ a.toNat < 128 := by omega
  have h2 : ¬ a.toNat < 194 := by omega
  simp only [D,h1,h2,h.2,↓reduceIte]
theorem D_three (a : UInt8) (r : List UInt8) (h : 224 ≤ a.toNat ∧ a.toNat < 240) : D (a :: r) = match r with
      | b :: c :: _ => if (decide ((if a.toNat = 224 then 160 else 128) ≤ b.toNat) && decide (b.toNat ≤ (if a.toNat = 237 then 159 else 191))) && fol c then (a.toNat % 16 * 4096 + b.toNat % 64 * 64 + c.toNat % 64,3) else (65533,1)
      | _ => (65533,1) := by
  have h1 : ¬ a.toNat < 128 := by omega
  have h2 : ¬ a.toNat < 194 := by omega
  have h3 : ¬ a.toNat < 224 := by omega
  simp only [D,h1,h2,h3,h.2,↓reduceIte]
theorem D_four (a : UInt8) (r : List UInt8) (h : 240 ≤ a.toNat ∧ a.toNat < 245) : D (a :: r) = match r with
      | b :: c :: d :: _ => if (decide ((if a.toNat = 240 then 144 else 128) ≤ b.toNat) && decide (b.toNat ≤ (if a.toNat = 244 then 143 else 191))) && fol c && fol d then (a.toNat % 8 * 262144 + b.toNat % 64 * 4096 + c.toNat % 64 * 64 + d.toNat % 64,4) else (65533,1)
      | _ => (65533,1) := by
  have h1 : ¬ a.toNat < 128 := by omega
  have h2 : ¬ a.toNat < 194 := by omega
  have h3 : ¬ a.toNat < 224 := by omega
  have h4 : ¬ a.toNat < 240 := by omega
  simp only [D,h1,h2,h3,h4,h.2,↓reduceIte]
theorem fol_t {b : UInt8} (h : 128 ≤ b.toNat ∧ b.toNat ≤ 191) : fol b = true := by simp [fol]; omega
theorem fol_f {b : UInt8} (h : ¬ (128 ≤ b.toNat ∧ b.toNat ≤ 191)) : fol b = false := by simp [fol]; omega
theorem D2_ok (a b : UInt8) (r : List UInt8) (h : 194 ≤ a.toNat ∧ a.toNat < 224) (hb : 128 ≤ b.toNat ∧ b.toNat ≤ 191) : D (a :: b :: r) = (a.toNat % 32 * 64 + b.toNat % 64,2) := by
 rw [D_two a _ h]; simp [fol_t hb]
theorem D2_no (a b : UInt8) (r : List UInt8) (h : 194 ≤ a.toNat ∧ a.toNat < 224) (hb : ¬ (128 ≤ b.toNat ∧ b.toNat ≤ 191)) : D (a :: b :: r) = (65533,1) := by
 rw [D_two a _ h]; simp [fol_f hb]
theorem D3_ok (a b c : UInt8) (r : List UInt8) (h : 224 ≤ a.toNat ∧ a.toNat < 240) (hb : (a.toNat = 224 → 160 ≤ b.toNat) ∧ 128 ≤ b.toNat ∧ (a.toNat = 237 → b.toNat ≤ 159) ∧ b.toNat ≤ 191) (hc : 128 ≤ c.toNat ∧ c.toNat ≤ 191) : D (a :: b :: c :: r) = (a.toNat % 16 * 4096 + b.toNat % 64 * 64 + c.toNat % 64,3) := by
 rw [D_three a _ h]
 have e1 : (if a.toNat = 224 then 160 else 128) ≤ b.toNat := by split <;> omega
 have e2 : b.toNat ≤ (if a.toNat = 237 then 159 else 191) := by split <;> omega
 simp only [fol_t hc,e1,e2,decide_true,Bool.and_self,↓reduceIte]
theorem D3_no (a b c : UInt8) (r : List UInt8) (h : 224 ≤ a.toNat ∧ a.toNat < 240) (hb : ¬ ((a.toNat = 224 → 160 ≤ b.toNat) ∧ 128 ≤ b.toNat ∧ (a.toNat = 237 → b.toNat ≤ 159) ∧ b.toNat ≤ 191) ∨ ¬ (128 ≤ c.toNat ∧ c.toNat ≤ 191)) : D (a :: b :: c :: r) = (65533,1) := by
 rw [D_three a _ h]
 simp only [fol,Bool.and_eq_true,decide_eq_true_eq]
 rw [if_neg]
 intro ⟨⟨h1,h2⟩,h3⟩
 split at h1 <;> split at h2 <;> omega
theorem D4_ok (a b c d : UInt8) (r : List UInt8) (h : 240 ≤ a.toNat ∧ a.toNat < 245) (hb : (a.toNat = 240 → 144 ≤ b.toNat) ∧ 128 ≤ b.toNat ∧ (a.toNat = 244 → b.toNat ≤ 143) ∧ b.toNat ≤ 191) (hc : 128 ≤ c.toNat ∧ c.toNat ≤ 191) (hd : 128 ≤ d.toNat ∧ d.toNat ≤ 191) : D (a :: b :: c :: d :: r) = (a.toNat % 8 * 262144 + b.toNat % 64 * 4096 + c.toNat % 64 * 64 + d.toNat % 64,4) := by
 rw [D_four a _ h]
 have e1 : (if a.toNat = 240 then 144 else 128) ≤ b.toNat := by split <;> omega
 have e2 : b.toNat ≤ (if a.toNat = 244 then 143 else 191) := by split <;> omega
 simp only [fol_t hc,fol_t hd,e1,e2,decide_true,Bool.and_self,↓reduceIte]
theorem D4_no (a b c d : UInt8) (r : List UInt8) (h : 240 ≤ a.toNat ∧ a.toNat < 245) (hb : ¬ ((a.toNat = 240 → 144 ≤ b.toNat) ∧ 128 ≤ b.toNat ∧ (a.toNat = 244 → b.toNat ≤ 143) ∧ b.toNat ≤ 191) ∨ ¬ (128 ≤ c.toNat ∧ c.toNat ≤ 191) ∨ ¬ (128 ≤ d.toNat ∧ d.toNat ≤ 191)) : D (a :: b :: c :: d :: r) = (65533,1) := by
 rw [D_four a _ h]
 simp only [fol,Bool.and_eq_true,decide_eq_true_eq]
 rw [if_neg]
 intro ⟨⟨⟨h1,h2⟩,h3⟩,h4⟩
 split at h1 <;> split at h2 <;> omega
set_option maxHeartbeats 8000000 in
theorem c30_two (t : Tag) (a : UInt8) (r : List UInt8) (h1 : tab a.toNat = 2) (h2 : 194 ≤ a.toNat ∧ a.toNat < 224) : (lim K).call 192 [.iv (.sl t (bytesIV (a :: r)))] [] = .ret (.tup [.iv (.int .i32 (D (a :: r)).1),.iv (.int .i64 (D (a :: r)).2)],[]) := by
 have ha := bl a
 refine call_ret' K [] (fn := t192) rfl rfl ?_
 have e0 : addOff (.iv (.cp g3)) 0 = some (.iv (.cp g3)) := rfl
 have e1 : ∀ env S,getCells env S (.iv (.cp g3)) 2 = some [.iv (.int .u8 128),.iv (.int .u8 191)] := fun _ _ => rfl
 have sz : IntKind.u8.wrap (bAnd 8 2 7) = 2 := by decide
 cases r with
 | nil =>
  simp (disch := omega) only [t192,go_sem,cons_bytes,Int.natCast_add,Int.cast_ofNat_Int,indexAddrS,hK0,hK1,ixA0,ld0,h1,wrap_i32,wrap_i64,e0,e1,sz,tu8_and31,tu8_and15,tu8_and7,tu8_and63,ti32_or6,ti32_or12,ti32_or18]
  repeat' (first | (first | refine br_dec' (fun h => ?_) (fun h => ?_) | refine br_beq' (fun h => ?_) (fun h => ?_) | refine br_bne' (fun h => ?_) (fun h => ?_) | refine br_eq' (fun h => ?_) (fun h => ?_)) | simp (disch := omega) only [go_sem,cons_bytes,Int.natCast_add,Int.cast_ofNat_Int,indexAddrS,hK0,hK1,ixA0,ld0,h1,wrap_i32,wrap_i64,e0,e1,sz,tu8_and31,tu8_and15,tu8_and7,tu8_and63,ti32_or6,ti32_or12,ti32_or18])
  all_goals (rw [D_two a _ (by omega)]; rfl)
 | cons b r =>
  have hb := bl b; simp (disch := omega) only [t192,go_sem,cons_bytes,Int.natCast_add,Int.cast_ofNat_Int,indexAddrS,hK0,hK1,ixA0,ld0,h1,wrap_i32,wrap_i64,e0,e1,sz,tu8_and31,tu8_and15,tu8_and7,tu8_and63,ti32_or6,ti32_or12,ti32_or18]
  repeat' (first | (first | refine br_dec' (fun h => ?_) (fun h => ?_) | refine br_beq' (fun h => ?_) (fun h => ?_) | refine br_bne' (fun h => ?_) (fun h => ?_) | refine br_eq' (fun h => ?_) (fun h => ?_)) | simp (disch := omega) only [go_sem,cons_bytes,Int.natCast_add,Int.cast_ofNat_Int,indexAddrS,hK0,hK1,ixA0,ld0,h1,wrap_i32,wrap_i64,e0,e1,sz,tu8_and31,tu8_and15,tu8_and7,tu8_and63,ti32_or6,ti32_or12,ti32_or18])
  all_goals (first | (rw [D2_no a b _ (by omega) (by omega)]; rfl) | (rw [D2_ok a b _ (by omega) (by omega)]; simp))
set_option maxHeartbeats 8000000 in
theorem c30_e0 (t : Tag) (a : UInt8) (r : List UInt8) (h1 : tab a.toNat = 19) (h2 : a.toNat = 224) : (lim K).call 192 [.iv (.sl t (bytesIV (a :: r)))] [] = .ret (.tup [.iv (.int .i32 (D (a :: r)).1),.iv (.int .i64 (D (a :: r)).2)],[]) := by
 have ha := bl a
 refine call_ret' K [] (fn := t192) rfl rfl ?_
 have e0 : addOff (.iv (.cp g3)) 2 = some (.iv (.cp (g3.drop 2))) := rfl
 have e1 : ∀ env S,getCells env S (.iv (.cp (g3.drop 2))) 2 = some [.iv (.int .u8 160),.iv (.int .u8 191)] := fun _ _ => rfl
 have sz : IntKind.u8.wrap (bAnd 8 19 7) = 3 := by decide
 cases r with
 | nil =>
  simp (disch := omega) only [t192,go_sem,cons_bytes,Int.natCast_add,Int.cast_ofNat_Int,indexAddrS,hK0,hK1,ixA0,ld0,h1,wrap_i32,wrap_i64,e0,e1,sz,tu8_and31,tu8_and15,tu8_and7,tu8_and63,ti32_or6,ti32_or12,ti32_or18]
  repeat' (first | (first | refine br_dec' (fun h => ?_) (fun h => ?_) | refine br_beq' (fun h => ?_) (fun h => ?_) | refine br_bne' (fun h => ?_) (fun h => ?_) | refine br_eq' (fun h => ?_) (fun h => ?_)) | simp (disch := omega) only [go_sem,cons_bytes,Int.natCast_add,Int.cast_ofNat_Int,indexAddrS,hK0,hK1,ixA0,ld0,h1,wrap_i32,wrap_i64,e0,e1,sz,tu8_and31,tu8_and15,tu8_and7,tu8_and63,ti32_or6,ti32_or12,ti32_or18])
  all_goals (rw [D_three a _ (by omega)]; rfl)
 | cons b r =>
  cases r with
  | nil =>
   have hb := bl b; simp (disch := omega) only [t192,go_sem,cons_bytes,Int.natCast_add,Int.cast_ofNat_Int,indexAddrS,hK0,hK1,ixA0,ld0,h1,wrap_i32,wrap_i64,e0,e1,sz,tu8_and31,tu8_and15,tu8_and7,tu8_and63,ti32_or6,ti32_or12,ti32_or18]
   repeat' (first | (first | refine br_dec' (fun h => ?_) (fun h => ?_) | refine br_beq' (fun h => ?_) (fun h => ?_) | refine br_bne' (fun h => ?_) (fun h => ?_) | refine br_eq' (fun h => ?_) (fun h => ?_)) | simp (disch := omega) only [go_sem,cons_bytes,Int.natCast_add,Int.cast_ofNat_Int,indexAddrS,hK0,hK1,ixA0,ld0,h1,wrap_i32,wrap_i64,e0,e1,sz,tu8_and31,tu8_and15,tu8_and7,tu8_and63,ti32_or6,ti32_or12,ti32_or18])
   all_goals (rw [D_three a _ (by omega)]; rfl)
  | cons c r =>
   have hb := bl b; have hc := bl c; simp (disch := omega) only [t192,go_sem,cons_bytes,Int.natCast_add,Int.cast_ofNat_Int,indexAddrS,hK0,hK1,ixA0,ld0,h1,wrap_i32,wrap_i64,e0,e1,sz,tu8_and31,tu8_and15,tu8_and7,tu8_and63,ti32_or6,ti32_or12,ti32_or18]
   repeat' (first | (first | refine br_dec' (fun h => ?_) (fun h => ?_) | refine br_beq' (fun h => ?_) (fun h => ?_) | refine br_bne' (fun h => ?_) (fun h => ?_) | refine br_eq' (fun h => ?_) (fun h => ?_)) | simp (disch := omega) only [go_sem,cons_bytes,Int.natCast_add,Int.cast_ofNat_Int,indexAddrS,hK0,hK1,ixA0,ld0,h1,wrap_i32,wrap_i64,e0,e1,sz,tu8_and31,tu8_and15,tu8_and7,tu8_and63,ti32_or6,ti32_or12,ti32_or18])
   all_goals (first | (rw [D3_no a b c _ (by omega) (by omega)]; rfl) | (rw [D3_ok a b c _ (by omega) (by omega) (by omega)]; simp))
set_option maxHeartbeats 8000000 in
theorem c30_e1 (t : Tag) (a : UInt8) (r : List UInt8) (h1 : tab a.toNat = 3) (h2 : 224 < a.toNat ∧ a.toNat < 237 ∨ 237 < a.toNat ∧ a.toNat < 240) : (lim K).call 192 [.iv (.sl t (bytesIV (a :: r)))] [] = .ret (.tup [.iv (.int .i32 (D (a :: r)).1),.iv (.int .i64 (D (a :: r)).2)],[]) := by
 have ha := bl a
 refine call_ret' K [] (fn := t192) rfl rfl ?_
 have e0 : addOff (.iv (.cp g3)) 0 = some (.iv (.cp g3)) := rfl
 have e1 : ∀ env S,getCells env S (.iv (.cp g3)) 2 = some [.iv (.int .u8 128),.iv (.int .u8 191)] := fun _ _ => rfl
 have sz : IntKind.u8.wrap (bAnd 8 3 7) = 3 := by decide
 cases r with
 | nil =>
  simp (disch := omega) only [t192,go_sem,cons_bytes,Int.natCast_add,Int.cast_ofNat_Int,indexAddrS,hK0,hK1,ixA0,ld0,h1,wrap_i32,wrap_i64,e0,e1,sz,tu8_and31,tu8_and15,tu8_and7,tu8_and63,ti32_or6,ti32_or12,ti32_or18]
  repeat' (first | (first | refine br_dec' (fun h => ?_) (fun h => ?_) | refine br_beq' (fun h => ?_) (fun h => ?_) | refine br_bne' (fun h => ?_) (fun h => ?_) | refine br_eq' (fun h => ?_) (fun h => ?_)) | simp (disch := omega) only [go_sem,cons_bytes,Int.natCast_add,Int.cast_ofNat_Int,indexAddrS,hK0,hK1,ixA0,ld0,h1,wrap_i32,wrap_i64,e0,e1,sz,tu8_and31,tu8_and15,tu8_and7,tu8_and63,ti32_or6,ti32_or12,ti32_or18])
  all_goals (rw [D_three a _ (by omega)]; rfl)
 | cons b r =>
  cases r with
  | nil =>
   have hb := bl b; simp (disch := omega) only [t192,go_sem,cons_bytes,Int.natCast_add,Int.cast_ofNat_Int,indexAddrS,hK0,hK1,ixA0,ld0,h1,wrap_i32,wrap_i64,e0,e1,sz,tu8_and31,tu8_and15,tu8_and7,tu8_and63,ti32_or6,ti32_or12,ti32_or18]
   repeat' (first | (first | refine br_dec' (fun h => ?_) (fun h => ?_) | refine br_beq' (fun h => ?_) (fun h => ?_) | refine br_bne' (fun h => ?_) (fun h => ?_) | refine br_eq' (fun h => ?_) (fun h => ?_)) | simp (disch := omega) only [go_sem,cons_bytes,Int.natCast_add,Int.cast_ofNat_Int,indexAddrS,hK0,hK1,ixA0,ld0,h1,wrap_i32,wrap_i64,e0,e1,sz,tu8_and31,tu8_and15,tu8_and7,tu8_and63,ti32_or6,ti32_or12,ti32_or18])
   all_goals (rw [D_three a _ (by omega)]; rfl)
  | cons c r =>
   have hb := bl b; have hc := bl c; simp (disch := omega) only [t192,go_sem,cons_bytes,Int.natCast_add,Int.cast_ofNat_Int,indexAddrS,hK0,hK1,ixA0,ld0,h1,wrap_i32,wrap_i64,e0,e1,sz,tu8_and31,tu8_and15,tu8_and7,tu8_and63,ti32_or6,ti32_or12,ti32_or18]
   repeat' (first | (first | refine br_dec' (fun h => ?_) (fun h => ?_) | refine br_beq' (fun h => ?_) (fun h => ?_) | refine br_bne' (fun h => ?_) (fun h => ?_) | refine br_eq' (fun h => ?_) (fun h => ?_)) | simp (disch := omega) only [go_sem,cons_bytes,Int.natCast_add,Int.cast_ofNat_Int,indexAddrS,hK0,hK1,ixA0,ld0,h1,wrap_i32,wrap_i64,e0,e1,sz,tu8_and31,tu8_and15,tu8_and7,tu8_and63,ti32_or6,ti32_or12,ti32_or18])
   all_goals (first | (rw [D3_no a b c _ (by omega) (by omega)]; rfl) | (rw [D3_ok a b c _ (by omega) (by omega) (by omega)]; simp))
set_option maxHeartbeats 8000000 in
theorem c30_ed (t : Tag) (a : UInt8) (r : List UInt8) (h1 : tab a.toNat = 35) (h2 : a.toNat = 237) : (lim K).call 192 [.iv (.sl t (bytesIV (a :: r)))] [] = .ret (.tup [.iv (.int .i32 (D (a :: r)).1),.iv (.int .i64 (D (a :: r)).2)],[]) := by
 have ha := bl a
 refine call_ret' K [] (fn := t192) rfl rfl ?_
 have e0 : addOff (.iv (.cp g3)) 4 = some (.iv (.cp (g3.drop 4))) := rfl
 have e1 : ∀ env S,getCells env S (.iv (.cp (g3.drop 4))) 2 = some [.iv (.int .u8 128),.iv (.int .u8 159)] := fun _ _ => rfl
 have sz : IntKind.u8.wrap (bAnd 8 35 7) = 3 := by decide
 cases r with
 | nil =>
  simp (disch := omega) only [t192,go_sem,cons_bytes,Int.natCast_add,Int.cast_ofNat_Int,indexAddrS,hK0,hK1,ixA0,ld0,h1,wrap_i32,wrap_i64,e0,e1,sz,tu8_and31,tu8_and15,tu8_and7,tu8_and63,ti32_or6,ti32_or12,ti32_or18]
  repeat' (first | (first | refine br_dec' (fun h => ?_) (fun h => ?_) | refine br_beq' (fun h => ?_) (fun h => ?_) | refine br_bne' (fun h => ?_) (fun h => ?_) | refine br_eq' (fun h => ?_) (fun h => ?_)) | simp (disch := omega) only [go_sem,cons_bytes,Int.natCast_add,Int.cast_ofNat_Int,indexAddrS,hK0,hK1,ixA0,ld0,h1,wrap_i32,wrap_i64,e0,e1,sz,tu8_and31,tu8_and15,tu8_and7,tu8_and63,ti32_or6,ti32_or12,ti32_or18])
  all_goals (rw [D_three a _ (by omega)]; rfl)
 | cons b r =>
  cases r with
  | nil =>
   have hb := bl b; simp (disch := omega) only [t192,go_sem,cons_bytes,Int.natCast_add,Int.cast_ofNat_Int,indexAddrS,hK0,hK1,ixA0,ld0,h1,wrap_i32,wrap_i64,e0,e1,sz,tu8_and31,tu8_and15,tu8_and7,tu8_and63,ti32_or6,ti32_or12,ti32_or18]
   repeat' (first | (first | refine br_dec' (fun h => ?_) (fun h => ?_) | refine br_beq' (fun h => ?_) (fun h => ?_) | refine br_bne' (fun h => ?_) (fun h => ?_) | refine br_eq' (fun h => ?_) (fun h => ?_)) | simp (disch := omega) only [go_sem,cons_bytes,Int.natCast_add,Int.cast_ofNat_Int,indexAddrS,hK0,hK1,ixA0,ld0,h1,wrap_i32,wrap_i64,e0,e1,sz,tu8_and31,tu8_and15,tu8_and7,tu8_and63,ti32_or6,ti32_or12,ti32_or18])
   all_goals (rw [D_three a _ (by omega)]; rfl)
  | cons c r =>
   have hb := bl b; have hc := bl c; simp (disch := omega) only [t192,go_sem,cons_bytes,Int.natCast_add,Int.cast_ofNat_Int,indexAddrS,hK0,hK1,ixA0,ld0,h1,wrap_i32,wrap_i64,e0,e1,sz,tu8_and31,tu8_and15,tu8_and7,tu8_and63,ti32_or6,ti32_or12,ti32_or18]
   repeat' (first | (first | refine br_dec' (fun h => ?_) (fun h => ?_) | refine br_beq' (fun h => ?_) (fun h => ?_) | refine br_bne' (fun h => ?_) (fun h => ?_) | refine br_eq' (fun h => ?_) (fun h => ?_)) | simp (disch := omega) only [go_sem,cons_bytes,Int.natCast_add,Int.cast_ofNat_Int,indexAddrS,hK0,hK1,ixA0,ld0,h1,wrap_i32,wrap_i64,e0,e1,sz,tu8_and31,tu8_and15,tu8_and7,tu8_and63,ti32_or6,ti32_or12,ti32_or18])
   all_goals (first | (rw [D3_no a b c _ (by omega) (by omega)]; rfl) | (rw [D3_ok a b c _ (by omega) (by omega) (by omega)]; simp))
set_option maxHeartbeats 8000000 in
theorem c30_f0 (t : Tag) (a : UInt8) (r : List UInt8) (h1 : tab a.toNat = 52) (h2 : a.toNat = 240) : (lim K).call 192 [.iv (.sl t (bytesIV (a :: r)))] [] = .ret (.tup [.iv (.int .i32 (D (a :: r)).1),.iv (.int .i64 (D (a :: r)).2)],[]) := by
 have ha := bl a
 refine call_ret' K [] (fn := t192) rfl rfl ?_
 have e0 : addOff (.iv (.cp g3)) 6 = some (.iv (.cp (g3.drop 6))) := rfl
 have e1 : ∀ env S,getCells env S (.iv (.cp (g3.drop 6))) 2 = some [.iv (.int .u8 144),.iv (.int .u8 191)] := fun _ _ => rfl
 have sz : IntKind.u8.wrap (bAnd 8 52 7) = 4 := by decide
 cases r with
 | nil =>
  simp (disch := omega) only [t192,go_sem,cons_bytes,Int.natCast_add,Int.cast_ofNat_Int,indexAddrS,hK0,hK1,ixA0,ld0,h1,wrap_i32,wrap_i64,e0,e1,sz,tu8_and31,tu8_and15,tu8_and7,tu8_and63,ti32_or6,ti32_or12,ti32_or18]
  repeat' (first | (first | refine br_dec' (fun h => ?_) (fun h => ?_) | refine br_beq' (fun h => ?_) (fun h => ?_) | refine br_bne' (fun h => ?_) (fun h => ?_) | refine br_eq' (fun h => ?_) (fun h => ?_)) | simp (disch := omega) only [go_sem,cons_bytes,Int.natCast_add,Int.cast_ofNat_Int,indexAddrS,hK0,hK1,ixA0,ld0,h1,wrap_i32,wrap_i64,e0,e1,sz,tu8_and31,tu8_and15,tu8_and7,tu8_and63,ti32_or6,ti32_or12,ti32_or18])
  all_goals (rw [D_four a _ (by omega)]; rfl)
 | cons b r =>
  cases r with
  | nil =>
   have hb := bl b; simp (disch := omega) only [t192,go_sem,cons_bytes,Int.natCast_add,Int.cast_ofNat_Int,indexAddrS,hK0,hK1,ixA0,ld0,h1,wrap_i32,wrap_i64,e0,e1,sz,tu8_and31,tu8_and15,tu8_and7,tu8_and63,ti32_or6,ti32_or12,ti32_or18]
   repeat' (first | (first | refine br_dec' (fun h => ?_) (fun h => ?_) | refine br_beq' (fun h => ?_) (fun h => ?_) | refine br_bne' (fun h => ?_) (fun h => ?_) | refine br_eq' (fun h => ?_) (fun h => ?_)) | simp (disch := omega) only [go_sem,cons_bytes,Int.natCast_add,Int.cast_ofNat_Int,indexAddrS,hK0,hK1,ixA0,ld0,h1,wrap_i32,wrap_i64,e0,e1,sz,tu8_and31,tu8_and15,tu8_and7,tu8_and63,ti32_or6,ti32_or12,ti32_or18])
   all_goals (rw [D_four a _ (by omega)]; rfl)
  | cons c r =>
   cases r with
   | nil =>
    have hb := bl b; have hc := bl c; simp (disch := omega) only [t192,go_sem,cons_bytes,Int.natCast_add,Int.cast_ofNat_Int,indexAddrS,hK0,hK1,ixA0,ld0,h1,wrap_i32,wrap_i64,e0,e1,sz,tu8_and31,tu8_and15,tu8_and7,tu8_and63,ti32_or6,ti32_or12,ti32_or18]
    repeat' (first | (first | refine br_dec' (fun h => ?_) (fun h => ?_) | refine br_beq' (fun h => ?_) (fun h => ?_) | refine br_bne' (fun h => ?_) (fun h => ?_) | refine br_eq' (fun h => ?_) (fun h => ?_)) | simp (disch := omega) only [go_sem,cons_bytes,Int.natCast_add,Int.cast_ofNat_Int,indexAddrS,hK0,hK1,ixA0,ld0,h1,wrap_i32,wrap_i64,e0,e1,sz,tu8_and31,tu8_and15,tu8_and7,tu8_and63,ti32_or6,ti32_or12,ti32_or18])
    all_goals (rw [D_four a _ (by omega)]; rfl)
   | cons d r =>
    have hb := bl b; have hc := bl c; have hd := bl d; simp (disch := omega) only [t192,go_sem,cons_bytes,Int.natCast_add,Int.cast_ofNat_Int,indexAddrS,hK0,hK1,ixA0,ld0,h1,wrap_i32,wrap_i64,e0,e1,sz,tu8_and31,tu8_and15,tu8_and7,tu8_and63,ti32_or6,ti32_or12,ti32_or18]
    repeat' (first | (first | refine br_dec' (fun h => ?_) (fun h => ?_) | refine br_beq' (fun h => ?_) (fun h => ?_) | refine br_bne' (fun h => ?_) (fun h => ?_) | refine br_eq' (fun h => ?_) (fun h => ?_)) | simp (disch := omega) only [go_sem,cons_bytes,Int.natCast_add,Int.cast_ofNat_Int,indexAddrS,hK0,hK1,ixA0,ld0,h1,wrap_i32,wrap_i64,e0,e1,sz,tu8_and31,tu8_and15,tu8_and7,tu8_and63,ti32_or6,ti32_or12,ti32_or18])
    all_goals (first | (rw [D4_no a b c d _ (by omega) (by omega)]; rfl) | (rw [D4_ok a b c d _ (by omega) (by omega) (by omega) (by omega)]; simp))
set_option maxHeartbeats 8000000 in
theorem c30_f1 (t : Tag) (a : UInt8) (r : List UInt8) (h1 : tab a.toNat = 4) (h2 : 240 < a.toNat ∧ a.toNat < 244) : (lim K).call 192 [.iv (.sl t (bytesIV (a :: r)))] [] = .ret (.tup [.iv (.int .i32 (D (a :: r)).1),.iv (.int .i64 (D (a :: r)).2)],[]) := by
 have ha := bl a
 refine call_ret' K [] (fn := t192) rfl rfl ?_
 have e0 : addOff (.iv (.cp g3)) 0 = some (.iv (.cp g3)) := rfl
 have e1 : ∀ env S,getCells env S (.iv (.cp g3)) 2 = some [.iv (.int .u8 128),.iv (.int .u8 191)] := fun _ _ => rfl
 have sz : IntKind.u8.wrap (bAnd 8 4 7) = 4 := by decide
 cases r with
 | nil =>
  simp (disch := omega) only [t192,go_sem,cons_bytes,Int.natCast_add,Int.cast_ofNat_Int,indexAddrS,hK0,hK1,ixA0,ld0,h1,wrap_i32,wrap_i64,e0,e1,sz,tu8_and31,tu8_and15,tu8_and7,tu8_and63,ti32_or6,ti32_or12,ti32_or18]
  repeat' (first | (first | refine br_dec' (fun h => ?_) (fun h => ?_) | refine br_beq' (fun h => ?_) (fun h => ?_) | refine br_bne' (fun h => ?_) (fun h => ?_) | refine br_eq' (fun h => ?_) (fun h => ?_)) | simp (disch := omega) only [go_sem,cons_bytes,Int.natCast_add,Int.cast_ofNat_Int,indexAddrS,hK0,hK1,ixA0,ld0,h1,wrap_i32,wrap_i64,e0,e1,sz,tu8_and31,tu8_and15,tu8_and7,tu8_and63,ti32_or6,ti32_or12,ti32_or18])
  all_goals (rw [D_four a _ (by omega)]; rfl)
 | cons b r =>
  cases r with
  | nil =>
   have hb := bl b; simp (disch := omega) only [t192,go_sem,cons_bytes,Int.natCast_add,Int.cast_ofNat_Int,indexAddrS,hK0,hK1,ixA0,ld0,h1,wrap_i32,wrap_i64,e0,e1,sz,tu8_and31,tu8_and15,tu8_and7,tu8_and63,ti32_or6,ti32_or12,ti32_or18]
   repeat' (first | (first | refine br_dec' (fun h => ?_) (fun h => ?_) | refine br_beq' (fun h => ?_) (fun h => ?_) | refine br_bne' (fun h => ?_) (fun h => ?_) | refine br_eq' (fun h => ?_) (fun h => ?_)) | simp (disch := omega) only [go_sem,cons_bytes,Int.natCast_add,Int.cast_ofNat_Int,indexAddrS,hK0,hK1,ixA0,ld0,h1,wrap_i32,wrap_i64,e0,e1,sz,tu8_and31,tu8_and15,tu8_and7,tu8_and63,ti32_or6,ti32_or12,ti32_or18])
   all_goals (rw [D_four a _ (by omega)]; rfl)
  | cons c r =>
   cases r with
   | nil =>
    have hb := bl b; have hc := bl c; simp (disch := omega) only [t192,go_sem,cons_bytes,Int.natCast_add,Int.cast_ofNat_Int,indexAddrS,hK0,hK1,ixA0,ld0,h1,wrap_i32,wrap_i64,e0,e1,sz,tu8_and31,tu8_and15,tu8_and7,tu8_and63,ti32_or6,ti32_or12,ti32_or18]
    repeat' (first | (first | refine br_dec' (fun h => ?_) (fun h => ?_) | refine br_beq' (fun h => ?_) (fun h => ?_) | refine br_bne' (fun h => ?_) (fun h => ?_) | refine br_eq' (fun h => ?_) (fun h => ?_)) | simp (disch := omega) only [go_sem,cons_bytes,Int.natCast_add,Int.cast_ofNat_Int,indexAddrS,hK0,hK1,ixA0,ld0,h1,wrap_i32,wrap_i64,e0,e1,sz,tu8_and31,tu8_and15,tu8_and7,tu8_and63,ti32_or6,ti32_or12,ti32_or18])
    all_goals (rw [D_four a _ (by omega)]; rfl)
   | cons d r =>
    have hb := bl b; have hc := bl c; have hd := bl d; simp (disch := omega) only [t192,go_sem,cons_bytes,Int.natCast_add,Int.cast_ofNat_Int,indexAddrS,hK0,hK1,ixA0,ld0,h1,wrap_i32,wrap_i64,e0,e1,sz,tu8_and31,tu8_and15,tu8_and7,tu8_and63,ti32_or6,ti32_or12,ti32_or18]
    repeat' (first | (first | refine br_dec' (fun h => ?_) (fun h => ?_) | refine br_beq' (fun h => ?_) (fun h => ?_) | refine br_bne' (fun h => ?_) (fun h => ?_) | refine br_eq' (fun h => ?_) (fun h => ?_)) | simp (disch := omega) only [go_sem,cons_bytes,Int.natCast_add,Int.cast_ofNat_Int,indexAddrS,hK0,hK1,ixA0,ld0,h1,wrap_i32,wrap_i64,e0,e1,sz,tu8_and31,tu8_and15,tu8_and7,tu8_and63,ti32_or6,ti32_or12,ti32_or18])
    all_goals (first | (rw [D4_no a b c d _ (by omega) (by omega)]; rfl) | (rw [D4_ok a b c d _ (by omega) (by omega) (by omega) (by omega)]; simp))
set_option maxHeartbeats 8000000 in
theorem c30_f4 (t : Tag) (a : UInt8) (r : List UInt8) (h1 : tab a.toNat = 68) (h2 : a.toNat = 244) : (lim K).call 192 [.iv (.sl t (bytesIV (a :: r)))] [] = .ret (.tup [.iv (.int .i32 (D (a :: r)).1),.iv (.int .i64 (D (a :: r)).2)],[]) := by
 have ha := bl a
 refine call_ret' K [] (fn := t192) rfl rfl ?_
 have e0 : addOff (.iv (.cp g3)) 8 = some (.iv (.cp (g3.drop 8))) := rfl
 have e1 : ∀ env S,getCells env S (.iv (.cp (g3.drop 8))) 2 = some [.iv (.int .u8 128),.iv (.int .u8 143)] := fun _ _ => rfl
 have sz : IntKind.u8.wrap (bAnd 8 68 7) = 4 := by decide
 cases r with
 | nil =>
  simp (disch := omega) only [t192,go_sem,cons_bytes,Int.natCast_add,Int.cast_ofNat_Int,indexAddrS,hK0,hK1,ixA0,ld0,h1,wrap_i32,wrap_i64,e0,e1,sz,tu8_and31,tu8_and15,tu8_and7,tu8_and63,ti32_or6,ti32_or12,ti32_or18]
  repeat' (first | (first | refine br_dec' (fun h => ?_) (fun h => ?_) | refine br_beq' (fun h => ?_) (fun h => ?_) | refine br_bne' (fun h => ?_) (fun h => ?_) | refine br_eq' (fun h => ?_) (fun h => ?_)) | simp (disch := omega) only [go_sem,cons_bytes,Int.natCast_add,Int.cast_ofNat_Int,indexAddrS,hK0,hK1,ixA0,ld0,h1,wrap_i32,wrap_i64,e0,e1,sz,tu8_and31,tu8_and15,tu8_and7,tu8_and63,ti32_or6,ti32_or12,ti32_or18])
  all_goals (rw [D_four a _ (by omega)]; rfl)
 | cons b r =>
  cases r with
  | nil =>
   have hb := bl b; simp (disch := omega) only [t192,go_sem,cons_bytes,Int.natCast_add,Int.cast_ofNat_Int,indexAddrS,hK0,hK1,ixA0,ld0,h1,wrap_i32,wrap_i64,e0,e1,sz,tu8_and31,tu8_and15,tu8_and7,tu8_and63,ti32_or6,ti32_or12,ti32_or18]
   repeat' (first | (first | refine br_dec' (fun h => ?_) (fun h => ?_) | refine br_beq' (fun h => ?_) (fun h => ?_) | refine br_bne' (fun h => ?_) (fun h => ?_) | refine br_eq' (fun h => ?_) (fun h => ?_)) | simp (disch := omega) only [go_sem,cons_bytes,Int.natCast_add,Int.cast_ofNat_Int,indexAddrS,hK0,hK1,ixA0,ld0,h1,wrap_i32,wrap_i64,e0,e1,sz,tu8_and31,tu8_and15,tu8_and7,tu8_and63,ti32_or6,ti32_or12,ti32_or18])
   all_goals (rw [D_four a _ (by omega)]; rfl)
  | cons c r =>
   cases r with
   | nil =>
    have hb := bl b; have hc := bl c; simp (disch := omega) only [t192,go_sem,cons_bytes,Int.natCast_add,Int.cast_ofNat_Int,indexAddrS,hK0,hK1,ixA0,ld0,h1,wrap_i32,wrap_i64,e0,e1,sz,tu8_and31,tu8_and15,tu8_and7,tu8_and63,ti32_or6,ti32_or12,ti32_or18]
    repeat' (first | (first | refine br_dec' (fun h => ?_) (fun h => ?_) | refine br_beq' (fun h => ?_) (fun h => ?_) | refine br_bne' (fun h => ?_) (fun h => ?_) | refine br_eq' (fun h => ?_) (fun h => ?_)) | simp (disch := omega) only [go_sem,cons_bytes,Int.natCast_add,Int.cast_ofNat_Int,indexAddrS,hK0,hK1,ixA0,ld0,h1,wrap_i32,wrap_i64,e0,e1,sz,tu8_and31,tu8_and15,tu8_and7,tu8_and63,ti32_or6,ti32_or12,ti32_or18])
    all_goals (rw [D_four a _ (by omega)]; rfl)
   | cons d r =>
    have hb := bl b; have hc := bl c; have hd := bl d; simp (disch := omega) only [t192,go_sem,cons_bytes,Int.natCast_add,Int.cast_ofNat_Int,indexAddrS,hK0,hK1,ixA0,ld0,h1,wrap_i32,wrap_i64,e0,e1,sz,tu8_and31,tu8_and15,tu8_and7,tu8_and63,ti32_or6,ti32_or12,ti32_or18]
    repeat' (first | (first | refine br_dec' (fun h => ?_) (fun h => ?_) | refine br_beq' (fun h => ?_) (fun h => ?_) | refine br_bne' (fun h => ?_) (fun h => ?_) | refine br_eq' (fun h => ?_) (fun h => ?_)) | simp (disch := omega) only [go_sem,cons_bytes,Int.natCast_add,Int.cast_ofNat_Int,indexAddrS,hK0,hK1,ixA0,ld0,h1,wrap_i32,wrap_i64,e0,e1,sz,tu8_and31,tu8_and15,tu8_and7,tu8_and63,ti32_or6,ti32_or12,ti32_or18])
    all_goals (first | (rw [D4_no a b c d _ (by omega) (by omega)]; rfl) | (rw [D4_ok a b c d _ (by omega) (by omega) (by omega) (by omega)]; simp))
theorem call192 (t : Tag) (l : List UInt8) : (lim K).call 192 [.iv (.sl t (bytesIV l))] [] = .ret (.tup [.iv (.int .i32 (D l).1),.iv (.int .i64 (D l).2)],[]) := by
 cases l with
 | nil => exact call192_nil t
 | cons a r =>
  have ha := bl a
  by_cases h1 : a.toNat < 128
  ·rw [c30_ascii t a r h1,D_ascii a r h1]; rfl
  by_cases h2 : a.toNat < 194 ∨ 245 ≤ a.toNat
  ·rw [c30_bad t a r (by simp only [tab]; (repeat' split) <;> omega),D_bad a r (by omega)]; rfl
  by_cases h3 : a.toNat < 224
  ·exact c30_two t a r (by simp only [tab]; (repeat' split) <;> omega) (by omega)
  by_cases h4 : a.toNat = 224
  ·exact c30_e0 t a r (by simp only [tab]; (repeat' split) <;> omega) h4
  by_cases h5 : a.toNat = 237
  ·exact c30_ed t a r (by simp only [tab]; (repeat' split) <;> omega) h5
  by_cases h6 : a.toNat < 240
  ·exact c30_e1 t a r (by simp only [tab]; (repeat' split) <;> omega) (by omega)
  by_cases h7 : a.toNat = 240
  ·exact c30_f0 t a r (by simp only [tab]; (repeat' split) <;> omega) h7
  by_cases h8 : a.toNat = 244
  ·exact c30_f4 t a r (by simp only [tab]; (repeat' split) <;> omega) h8
  ·exact c30_f1 t a r (by simp only [tab]; (repeat' split) <;> omega) (by omega)
theorem loop172_nil (t : Tag) : lp' (lim K) t172L0 [.iv (.sl t (bytesIV [])),.iv (.int .i32 0),.iv (.int .i64 0),.tup [],.iv (.sl t (bytesIV [])),.iv (.int .i64 0),.iv (.int .i64 0),.tup [],.tup []] [] = .ret (.exit 0,[.iv (.sl t (bytesIV [])),.iv (.int .i32 0),.iv (.int .i64 0),.tup [],.iv (.sl t (bytesIV [])),.iv (.int .i64 0),.iv (.int .i64 0),.iv (.bool false),.tup []],[]) := by
 refine loop_ret' K _ _ ?_
 simp (disch := omega) only [t172L0,go_sem]
theorem call172 (t : Tag) (l : List UInt8) : (lim K).call 172 [.iv (.sl t (bytesIV l))] [] = .ret (.tup [.iv (.int .i32 (D l).1),.iv (.int .i64 (D l).2)],[]) := by
 refine call_ret' K [] (fn := t172) rfl rfl ?_
 cases l with
 | nil => simp (disch := omega) only [t172,go_sem,Int.cast_ofNat_Int,loop172_nil,call192]
 | cons a r =>
  have ha := bl a
  by_cases h : a.toNat < 128
  ·have hl : lp' (lim K) t172L0 [.iv (.sl t (bytesIV (a :: r))),.iv (.int .i32 0),.iv (.int .i64 0),.tup [],.iv (.sl t (bytesIV (a :: r))),.iv (.int .i64 ((r.length + 1 : Nat) : Int)),.iv (.int .i64 0),.tup [],.tup []] [] = .ret (.ret,[.iv (.sl t (bytesIV (a :: r))),.iv (.int .i32 a.toNat),.iv (.int .i64 1),.iv (.int .u8 a.toNat),.iv (.sl t (bytesIV (a :: r))),.iv (.int .i64 ((r.length + 1 : Nat) : Int)),.iv (.int .i64 0),.iv (.bool true),.iv (.bool true)],[]) := by
    refine loop_ret' K _ _ ?_
    simp (disch := omega) only [t172L0,go_sem,cons_bytes,indexAddrS,wrap_i32]
   simp (disch := omega) only [t172,go_sem,Int.cast_ofNat_Int,hl,D_ascii a r h]
  ·have hl : lp' (lim K) t172L0 [.iv (.sl t (bytesIV (a :: r))),.iv (.int .i32 0),.iv (.int .i64 0),.tup [],.iv (.sl t (bytesIV (a :: r))),.iv (.int .i64 ((r.length + 1 : Nat) : Int)),.iv (.int .i64 0),.tup [],.tup []] [] = .ret (.exit 0,[.iv (.sl t (bytesIV (a :: r))),.iv (.int .i32 0),.iv (.int .i64 0),.iv (.int .u8 a.toNat),.iv (.sl t (bytesIV (a :: r))),.iv (.int .i64 ((r.length + 1 : Nat) : Int)),.iv (.int .i64 0),.iv (.bool true),.iv (.bool false)],[]) := by
    refine loop_ret' K _ _ ?_
    simp (disch := omega) only [t172L0,go_sem,cons_bytes,indexAddrS,wrap_i32]
   simp (disch := omega) only [t172,go_sem,Int.cast_ofNat_Int,hl,call192]
def bad (l : List UInt8) : Bool := decide ((D l).1 = 65533) && decide ((D l).2 ≤ 1)
theorem call173 (c n : Int) : (lim K).call 173 [.iv (.int .i32 c),.iv (.int .i64 n)] [] = .ret (.iv (.bool (decide (c = 65533) && decide (n ≤ 1))),[]) := by
 refine call_ret' K [] (fn := t173) rfl rfl ?_
 simp only [t173,go_sem]
 repeat' (first | (first | refine br_dec' (fun h => ?_) (fun h => ?_) | refine br_beq' (fun h => ?_) (fun h => ?_) | refine br_bne' (fun h => ?_) (fun h => ?_) | refine br_eq' (fun h => ?_) (fun h => ?_)) | simp (disch := omega) only [go_sem])
 all_goals (congr 4; simp [*])
theorem D_le (l : List UInt8) : (D l).1 < 2097152 ∧ (D l).2 ≤ 4 := by
 cases l with
 | nil => simp [D]
 | cons a r =>
  have ha := bl a
  simp only [D]
  repeat' split
  all_goals (simp only; try omega)
def toldF (n : Int) : List UInt8 → Int
 | [] => n
 | b :: r => toldF (64 * n + b.toNat % 64) r
def toldR : List UInt8 → Int
 | [] => 0
 | a :: r => toldF (if r.length = 1 then a.toNat % 32 else if r.length = 2 then a.toNat % 16 else if r.length = 3 then a.toNat % 8 else a.toNat) r
theorem nat8 {n : Nat} (h : n < 256) : (UInt8.ofNat n).toNat = n := by simp [UInt8.toNat_ofNat]; omega
theorem eq8 {a : UInt8} {n : Nat} (h : a.toNat = n) : a = UInt8.ofNat n := by
 have := bl a
 apply UInt8.toNat_inj.1
 rw [nat8 (by omega),h]
theorem bytes_1 {c : Int} (h : c < 128) : bytesR c = [UInt8.ofNat c.toNat] := by simp [bytesR,h]
theorem bytes_2 {c : Int} (h : 128 ≤ c ∧ c < 2048) : bytesR c = [UInt8.ofNat (192 + c.toNat / 64),UInt8.ofNat (128 + c.toNat % 64)] := by
 have h1 : ¬ c < 128 := by omega
 simp [bytesR,h1,h.2]
theorem bytes_3 {c : Int} (h : 2048 ≤ c ∧ c < 65536) : bytesR c = [UInt8.ofNat (224 + c.toNat / 4096),UInt8.ofNat (128 + c.toNat / 64 % 64),UInt8.ofNat (128 + c.toNat % 64)] := by
 have h1 : ¬ c < 128 := by omega
 have h2 : ¬ c < 2048 := by omega
 simp [bytesR,h1,h2,h.2]
theorem bytes_4 {c : Int} (h : 65536 ≤ c) : bytesR c = [UInt8.ofNat (240 + c.toNat / 262144),UInt8.ofNat (128 + c.toNat / 4096 % 64),UInt8.ofNat (128 + c.toNat / 64 % 64),UInt8.ofNat (128 + c.toNat % 64)] := by
 have h1 : ¬ c < 128 := by omega
 have h2 : ¬ c < 2048 := by omega
 have h3 : ¬ c < 65536 := by omega
 simp [bytesR,h1,h2,h3]
theorem D_good {s : List UInt8} (h : bad s = false) : isC ((D s).1 : Nat) = true ∧ bytesR ((D s).1 : Nat) = s.take (D s).2 ∧ 1 ≤ (D s).2 ∧ (D s).2 ≤ s.length := by
 cases s with
 | nil => simp [bad,D] at h
 | cons a r =>
  have ha := bl a
  by_cases h1 : a.toNat < 128
  ·rw [D_ascii a r h1]
   refine ⟨(isC_iff _).2 (by omega),?_,by simp,by simp⟩
   rw [bytes_1 (by omega)]
   simp
  by_cases h2 : a.toNat < 194 ∨ 245 ≤ a.toNat
  ·simp [bad,D_bad a r (by omega)] at h
  by_cases h3 : a.toNat < 224
  ·cases r with
   | nil => rw [bad,D_two a _ (by omega)] at h; simp at h
   | cons b r =>
    have hb := bl b
    by_cases hf : 128 ≤ b.toNat ∧ b.toNat ≤ 191
    ·rw [D2_ok a b r (by omega) hf]
     refine ⟨(isC_iff _).2 (by simp only; omega),?_,by simp,by simp⟩
     rw [bytes_2 (by simp only; omega)]
     simp only [List.take_succ_cons,List.take_zero,Int.toNat_natCast]
     rw [← eq8 (a := a) (by omega),← eq8 (a := b) (by omega)]
    ·simp [bad,D2_no a b r (by omega) hf] at h
  by_cases h4 : a.toNat < 240
  ·match r with
   | [] => rw [bad,D_three a _ (by omega)] at h; simp at h
   | [b] => rw [bad,D_three a _ (by omega)] at h; simp at h
   | b :: c :: r =>
    have hb := bl b
    have hc := bl c
    by_cases hf : ((a.toNat = 224 → 160 ≤ b.toNat) ∧ 128 ≤ b.toNat ∧ (a.toNat = 237 → b.toNat ≤ 159) ∧ b.toNat ≤ 191) ∧ (128 ≤ c.toNat ∧ c.toNat ≤ 191)
    ·rw [D3_ok a b c r (by omega) hf.1 hf.2]
     refine ⟨(isC_iff _).2 (by simp only; omega),?_,by simp,by simp⟩
     rw [bytes_3 (by simp only; omega)]
     simp only [List.take_succ_cons,List.take_zero,Int.toNat_natCast]
     rw [← eq8 (a := a) (by omega),← eq8 (a := b) (by omega),← eq8 (a := c) (by omega)]
    ·simp [bad,D3_no a b c r (by omega) (by omega)] at h
  ·match r with
   | [] => rw [bad,D_four a _ (by omega)] at h; simp at h
   | [b] => rw [bad,D_four a _ (by omega)] at h; simp at h
   | [b,c] => rw [bad,D_four a _ (by omega)] at h; simp at h
   | b :: c :: d :: r =>
    have hb := bl b
    have hc := bl c
    have hd := bl d
    by_cases hf : ((a.toNat = 240 → 144 ≤ b.toNat) ∧ 128 ≤ b.toNat ∧ (a.toNat = 244 → b.toNat ≤ 143) ∧ b.toNat ≤ 191) ∧ (128 ≤ c.toNat ∧ c.toNat ≤ 191) ∧ (128 ≤ d.toNat ∧ d.toNat ≤ 191)
    ·rw [D4_ok a b c d r (by omega) hf.1 hf.2.1 hf.2.2]
     refine ⟨(isC_iff _).2 (by simp only; omega),?_,by simp,by simp⟩
     rw [bytes_4 (by simp only; omega)]
     simp only [List.take_succ_cons,List.take_zero,Int.toNat_natCast]
     rw [← eq8 (a := a) (by omega),← eq8 (a := b) (by omega),← eq8 (a := c) (by omega),← eq8 (a := d) (by omega)]
    ·simp [bad,D4_no a b c d r (by omega) (by omega)] at h
def fits (s : List UInt8) (n : Nat) : Bool := isC (toldR (s.take n)) && (bytesR (toldR (s.take n)) == s.take n)
def chars : Nat → List UInt8 → Int → List (Int × Int) × Option Int
 | 0,_,_ => ([],none)
 | k + 1,s,i => if s = [] then ([],none) else if bad s then ([],some i) else
  ((((D s).1 : Int),i) :: (chars k (s.drop (D s).2) (i + (D s).2)).1,(chars k (s.drop (D s).2) (i + (D s).2)).2)
def encC (c : Int × Int) : List IV := [.int .i64 c.1,.int .i64 c.2]
theorem encC_ok (c : Int × Int) : (encC c).length = 2 ∧ (encC c).all isCell = true := ⟨rfl,rfl⟩
theorem get_arr (l : List UInt8) (i : Nat) : ByteArray.get! ⟨l.toArray⟩ i = l.getD i 0 := by
 show l.toArray[i]! = _
 simp [List.getD,getElem!_def]
 cases l[i]? <;> rfl
set_option maxHeartbeats 4000000 in
theorem decode_eq (l : List UInt8) (i : Nat) (h : i < l.length) : Utf8.decode ⟨l.toArray⟩ i = D (l.drop i) := by
 have hs : (ByteArray.mk l.toArray).size = l.length := by simp [ByteArray.size]
 have hg : ∀ k,l.getD (i + k) 0 = (l.drop i).getD k 0 := by intro k; simp [List.getD,List.getElem?_drop]
 have hlen : ∀ k,(i + k < l.length) ↔ k < (l.drop i).length := by intro k; rw [List.length_drop]; omega
 have hpos : 0 < (l.drop i).length := by rw [List.length_drop]; omega
 simp only [Utf8.decode,hs,get_arr,hg,hlen]
 generalize l.drop i = s at *
 cases s with
 | nil => simp at hpos
 | cons a r =>
  have ha := bl a
  match r with
  | [] =>
   simp only [List.getD_cons_zero,List.getD_cons_succ,List.getD_nil,List.length_cons,List.length_nil,D,fol,Utf8.valid,Utf8.runeError,Bool.and_eq_true,Bool.or_eq_true,beq_iff_eq,decide_eq_true_eq]
   repeat' split
   all_goals (first | rfl | (simp only [Prod.mk.injEq]; omega) | (exfalso; omega))
  | [b] =>
   have hb := bl b
   simp only [List.getD_cons_zero,List.getD_cons_succ,List.getD_nil,List.length_cons,List.length_nil,D,fol,Utf8.valid,Utf8.runeError,Bool.and_eq_true,Bool.or_eq_true,beq_iff_eq,decide_eq_true_eq]
   repeat' split
   all_goals (first | rfl | (simp only [Prod.mk.injEq]; omega) | (exfalso; omega))
  | [b,c] =>
   have hb := bl b
   have hc := bl c
   simp only [List.getD_cons_zero,List.getD_cons_succ,List.getD_nil,List.length_cons,List.length_nil,D,fol,Utf8.valid,Utf8.runeError,Bool.and_eq_true,Bool.or_eq_true,beq_iff_eq,decide_eq_true_eq]
   repeat' split
   all_goals (first | rfl | (simp only [Prod.mk.injEq]; omega) | (exfalso; omega))
  | b :: c :: d :: r =>
   have hb := bl b
   have hc := bl c
   have hd := bl d
   simp only [List.getD_cons_zero,List.getD_cons_succ,List.getD_nil,List.length_cons,List.length_nil,D,fol,Utf8.valid,Utf8.runeError,Bool.and_eq_true,Bool.or_eq_true,beq_iff_eq,decide_eq_true_eq]
   repeat' split
   all_goals (first | rfl | (simp only [Prod.mk.injEq]; omega) | (exfalso; omega))
set_option maxHeartbeats 4000000 in
theorem loop152 (t : Tag) (l : List UInt8) (ht : TagOk t l) (hl : l.length ≤ 2000000) : ∀ (k : Nat) (i : Nat) (done : List (Int × Int)) (x4 x5 x6 x8 x9 x10 x11 : TV),i ≤ l.length → l.length - i ≤ k → done.length ≤ i →
  ∃ y3 y4 y5 y6 y8 y9 y10 y11 S',lp' (lim K) t152L0 [.iv (.sl t (bytesIV l)),.iv (.sl .nil []),.lb [.iv (.int .i64 0),.iv (.int .i64 0)],acc 1 (done.map encC),x4,x5,x6,.it 0,x8,x9,x10,x11] (.sit l i :: accS 2 167 (done.map encC)) = .ret (match (chars k (l.drop i) i).2 with
   | none => (.exit 0,[.iv (.sl t (bytesIV l)),.iv (.sl .nil []),.lb [.iv (.int .i64 0),.iv (.int .i64 0)],acc 1 ((done ++ (chars k (l.drop i) i).1).map encC),y4,y5,y6,.it 0,y8,y9,y10,y11],S')
   | some p => (.ret,[.iv (.sl t (bytesIV l)),.iv (.sl .nil []),.lb [.iv (.int .i64 4),.iv (.int .i64 p)],y3,y4,y5,y6,.it 0,y8,y9,y10,y11],S'))
 | 0,i,done,x4,x5,x6,x8,x9,x10,x11,h1,h2,h3 => by
  refine ⟨?_,?_,?_,?_,?_,?_,?_,?_,?_,loop_at K _ _ t152L0.eq_1 ?_⟩
  rotate_left 9
  ·simp (disch := omega) only [go_sem,chars,List.append_nil]
   rfl
  exact .hole
 | k + 1,i,done,x4,x5,x6,x8,x9,x10,x11,h1,h2,h3 => by
  by_cases hi : i = l.length
  ·have e : l.drop i = [] := List.drop_of_length_le (by omega)
   refine ⟨?_,?_,?_,?_,?_,?_,?_,?_,?_,loop_at K _ _ t152L0.eq_1 ?_⟩
   rotate_left 9
   ·simp (disch := omega) only [go_sem,chars,e,List.append_nil]
    rfl
   exact .hole
  ·have hs : (l.drop i).length = l.length - i := List.length_drop
   have hde := decode_eq l i (by omega)
   have hne : ¬ l.drop i = [] := by intro e; rw [e] at hs; simp at hs; omega
   have h25 := fun tg => call172 tg (l.drop i)
   have hdl := D_le (l.drop i)
   have hbad : bad (l.drop i) = (decide ((((D (l.drop i)).1 : Nat) : Int) = 65533) && decide ((((D (l.drop i)).2 : Nat) : Int) ≤ 1)) := by
    rw [bad,Bool.eq_iff_iff]; simp; omega
   have hsl := fun S => slice_bytes_lo S (t := t) (l := l) (a := (i : Int)) ht (by omega)
   cases hb : bad (l.drop i)
   ·have hg := D_good hb
    have hdr : (l.drop i).drop (D (l.drop i)).2 = l.drop (i + (D (l.drop i)).2) := by
     rw [List.drop_drop]
    have ih := fun x4 x5 x6 x8 x9 x10 x11 => loop152 t l ht hl k (i + (D (l.drop i)).2) (done ++ [(((D (l.drop i)).1 : Int),(i : Int))]) x4 x5 x6 x8 x9 x10 x11 (by omega) (by omega) (by simp; omega)
    simp only [chars,hne,hb,↓reduceIte,Bool.false_eq_true]
    rw [hdr]
    have ha := ap_accB1 (w := 2) (b := 16) (el := 167) (t := .full) (.sit l (i + (D (l.drop i)).2)) (encC_ok (((D (l.drop i)).1 : Int),(i : Int))) (Elems.map encC_ok done) (roomy_ok (by rw [List.length_map]; omega))
    have em : (done ++ [(((D (l.drop i)).1 : Int),(i : Int))]).map encC = done.map encC ++ [[.int .i64 (D (l.drop i)).1,.int .i64 i]] := by simp [encC]
    rw [em] at ih
    generalize D (l.drop i) = d at *
    simp only [encC] at ha
    rw [hb] at hbad
    by_cases hc : (d.1 : Int) = 65533
    ·have h26 : ¬ (d.2 : Int) ≤ 1 := by intro q; simp [hc,q] at hbad
     obtain ⟨y3,y4,y5,y6,y8,y9,y10,y11,S',ih⟩ := ih (.iv (.int .i64 i)) (.iv (.int .i32 d.1)) (.iv (.int .i64 d.2)) (.tup [.iv (.bool true),.iv (.int .i64 i),.iv (.int .i32 d.1)]) (.iv (.bool true)) (.iv (.bool true)) (.iv (.bool false))
     refine ⟨y3,y4,y5,y6,y8,y9,y10,y11,S',loop_at K _ _ t152L0.eq_1 ?_⟩
     simp (config := { maxSteps := 4000000 }) (disch := omega) only [go_sem,hde,hsl,Int.toNat_natCast,h25,call173,h26,wrap_i64,ha,ih]
     simp only [Int.natCast_add,List.map_append,List.map_cons,List.map_nil,encC,List.append_assoc,List.cons_append,List.nil_append]
     cases (chars k (l.drop (i + d.2)) ((i : Int) + (d.2 : Int))).2 <;> rfl
    ·obtain ⟨y3,y4,y5,y6,y8,y9,y10,y11,S',ih⟩ := ih (.iv (.int .i64 i)) (.iv (.int .i32 d.1)) x6 (.tup [.iv (.bool true),.iv (.int .i64 i),.iv (.int .i32 d.1)]) (.iv (.bool true)) (.iv (.bool false)) x11
     refine ⟨y3,y4,y5,y6,y8,y9,y10,y11,S',loop_at K _ _ t152L0.eq_1 ?_⟩
     simp (config := { maxSteps := 4000000 }) (disch := omega) only [go_sem,hde,wrap_i64,ha,ih]
     simp only [Int.natCast_add,List.map_append,List.map_cons,List.map_nil,encC,List.append_assoc,List.cons_append,List.nil_append]
     cases (chars k (l.drop (i + d.2)) ((i : Int) + (d.2 : Int))).2 <;> rfl
   ·rw [hb] at hbad
    have h26 := hbad.symm
    have hc : (((D (l.drop i)).1 : Nat) : Int) = 65533 := by simp at h26; omega
    have hc2 : (((D (l.drop i)).2 : Nat) : Int) ≤ 1 := by simp at h26; omega
    refine ⟨?_,?_,?_,?_,?_,?_,?_,?_,?_,loop_at K _ _ t152L0.eq_1 ?_⟩
    rotate_left 9
    ·simp (config := { maxSteps := 4000000 }) (disch := omega) only [go_sem,chars,hne,hb,hde,hsl,Int.toNat_natCast,h25,call173,h26,hc]
     rfl
theorem call152 (t : Tag) (l : List UInt8) (ht : TagOk t l) (hl : l.length ≤ 2000000) : Pure K 152 [.iv (.sl t (bytesIV l))] (match (chars l.length l 0).2 with
      | none => .tup [.iv (.sl (sTag (chars l.length l 0).1) ((chars l.length l 0).1.map encC)),.iv (.agg [.int .i64 0,.int .i64 0])]
      | some p => .tup [.iv (.sl .nil []),.iv (.agg [.int .i64 4,.int .i64 p])]) := by
  obtain ⟨y3,y4,y5,y6,y8,y9,y10,y11,S',e⟩ := loop152 t l ht hl l.length 0 [] (.tup []) (.tup []) (.tup []) (.tup []) (.tup []) (.tup []) (.tup []) (by omega) (by omega) (by simp)
  rw [List.map_nil,acc_nil,accS_nil] at e
  simp only [List.nil_append,List.drop_zero,Int.cast_ofNat_Int] at e
  generalize chars l.length l 0 = q at *
  obtain ⟨q1,q2⟩ := q
  refine call_pure t152 rfl rfl ?_
  cases q2 with
  | none =>
    simp only at e ⊢
    simp (disch := omega) only [t152,go_sem,e,sTag_map]
  | some p =>
    simp only at e ⊢
    simp (disch := omega) only [t152,go_sem,e]
theorem sub2 (c : Int × Int) : sub (encC c) 0 2 = some (encC c) := by simp [sub,encC]
theorem i64_cell (a : Int) : isCell (i64 a) = true := rfl
def codes (cs : List (Int × Int)) : List Int := cs.map (·.1)
theorem codes_take (cs : List (Int × Int)) (i : Nat) (h : i < cs.length) : codes (cs.take (i + 1)) = codes (cs.take i) ++ [(cs.getD i default).1] := by
 rw [take_succ_getD (d := default) h]; simp [codes]
theorem chars_len0 : ∀ (k : Nat) (s : List UInt8) (i : Int),(chars k s i).1.length ≤ s.length
 | 0,s,i => by simp [chars]
 | k + 1,s,i => by
  simp only [chars]
  split
  ·simp
  ·split
   ·simp
   ·rename_i h1 h2
    have hb : bad s = false := by simpa using h2
    have hg := D_good hb
    have := chars_len0 k (s.drop (D s).2) (i + (D s).2)
    rw [List.length_drop] at this
    simp only [List.length_cons]
    omega
theorem chars_len (s : List UInt8) (hl : s.length ≤ 2000000) : (chars s.length s 0).1.length ≤ 2000000 := by
 have := chars_len0 s.length s 0
 omega
set_option maxHeartbeats 4000000 in
theorem loop118 (s : TV) (tg : Tag) (cs : List (Int × Int)) (hl : cs.length ≤ 2000000) (f a7 : TV) : ∀ (k i : Nat) (x6 x11 : TV),i + k = cs.length →
  ∃ y6 y11,lp' (lim K) t118L0 [s,.iv (.sl .nil []),.iv (.int .i64 0),.iv (.sl tg (cs.map encC)),f,acc 0 (TM.one i64 (codes (cs.take i))),x6,a7,.iv (.sl tg (cs.map encC)),.iv (.int .i64 cs.length),.iv (.int .i64 i),x11] (accS 1 3 (TM.one i64 (codes (cs.take i)))) = .ret (.exit 0,[s,.iv (.sl .nil []),.iv (.int .i64 0),.iv (.sl tg (cs.map encC)),f,acc 0 (TM.one i64 (codes cs)),y6,a7,.iv (.sl tg (cs.map encC)),.iv (.int .i64 cs.length),.iv (.int .i64 cs.length),y11],accS 1 3 (TM.one i64 (codes cs)))
 | 0,i,x6,x11,h => by
  obtain rfl : i = cs.length := by omega
  rw [List.take_length]
  refine ⟨?_,?_,loop_at K _ _ t118L0.eq_1 ?_⟩
  rotate_left 2
  ·simp (disch := omega) only [go_sem]
   rfl
 | k + 1,i,x6,x11,h => by
  have hc := codes_take cs i (by omega)
  have hcl : (codes (cs.take i)).length ≤ 2000000 := by simp [codes]; omega
  obtain ⟨y6,y11,ih⟩ := loop118 s tg cs hl f a7 k (i + 1) (.lb [.iv (.int .i64 (cs.getD i default).1),.iv (.int .i64 (cs.getD i default).2)]) (.iv (.bool true)) (by omega)
  rw [hc,← one_append] at ih
  have ha := ap_acc1 (w := 1) (b := 8) (el := 3) (t := .full) (l := TM.one i64 (codes (cs.take i))) (c := [.int .i64 (cs.getD i default).1]) ⟨rfl,rfl⟩ (Elems.one i64_cell _) (roomy_ok (by rw [TM.one_length]; omega))
  have hg := ix_map (w := 2) (f := encC) (fun _ => rfl) (t := tg) (l := cs) (i := (i : Int)) (by omega)
  refine ⟨y6,y11,loop_at K _ _ t118L0.eq_1 ?_⟩
  simp (config := { maxSteps := 4000000 }) (disch := omega) only [go_sem,hg,getCells_cp,sub2,Int.toNat_natCast,encC,wrap_i64,ha]
  exact congrArg er ih
theorem call118 (s : List UInt8) (hl : s.length ≤ 2000000) : Pure K 118 [.iv (.str s)] (match (chars s.length s 0).2 with
      | none => .tup [.iv (.sl (sTag (chars s.length s 0).1) (TM.one i64 (codes (chars s.length s 0).1))),.iv (.int .i64 0)]
      | some p => .tup [.iv (.sl .nil []),.iv (.int .i64 4)]) := by
  have h17 := call152 .no s (TagOk.no _) hl
  have hcl : (chars s.length s 0).1.length ≤ 2000000 := chars_len s hl
  generalize chars s.length s 0 = q at *
  obtain ⟨q1,q2⟩ := q
  refine call_pure t118 rfl rfl ?_
  cases q2 with
  | none =>
    simp only at h17 hcl ⊢
    simp (config := { maxSteps := 4000000 }) (disch := omega) only [t118,go_sem,cpR_pure h17,List.length_map]
    obtain ⟨y6,y11,e⟩ := loop118 (.iv (.str s)) (sTag q1) q1 hcl (.lb [.iv (.int .i64 0),.iv (.int .i64 0)]) (.iv (.bool false)) q1.length 0 (.tup []) (.tup []) (by omega)
    rw [List.take_zero,show codes [] = [] from rfl,show TM.one i64 [] = [] from rfl,acc_nil,accS_nil,show ((0 : Nat) : Int) = 0 from rfl] at e
    simp (config := { maxSteps := 4000000 }) (disch := omega) only [go_sem,e]
    simp only [TM.one,codes,sTag_map]
  | some p =>
    simp only at h17 ⊢
    simp (config := { maxSteps := 4000000 }) (disch := omega) only [t118,go_sem,cpR_pure h17]
theorem ite_high {c : Bool} {x n : Nat} (h : c = true → 128 ≤ x) : 128 ≤ (if c = true then (x,n) else (65533,1)).1 := by
 cases c with
 | false => exact (by decide : 128 ≤ 65533)
 | true => exact h rfl
theorem D_high (a : UInt8) (r : List UInt8) (h : 128 ≤ a.toNat) : 128 ≤ (D (a :: r)).1 := by
 have ha := bl a
 by_cases h1 : a.toNat < 194
 ·rw [D_bad a r (.inl ⟨h,h1⟩)]; decide
 by_cases h2 : a.toNat < 224
 ·rw [D_two a r ⟨by omega,h2⟩]
  split
  ·split
   ·simp only; omega
   ·decide
  ·decide
 by_cases h3 : a.toNat < 240
 ·rw [D_three a r ⟨by omega,h3⟩]
  split
  ·rename_i b c t
   have hb := bl b
   by_cases e : a.toNat = 224
   ·simp only [e,↓reduceIte]
    refine ite_high fun hc => ?_
    simp only [Bool.and_eq_true,decide_eq_true_eq] at hc
    rw [if_neg (by decide)] at hc
    omega
   ·simp only [e,↓reduceIte]
    generalize (if a.toNat = 237 then 159 else 191) = z
    exact ite_high fun _ => by omega
  ·decide
 by_cases h4 : a.toNat < 245
 ·rw [D_four a r ⟨by omega,h4⟩]
  split
  ·rename_i b c d t
   have hb := bl b
   by_cases e : a.toNat = 240
   ·simp only [e,↓reduceIte]
    refine ite_high fun hc => ?_
    simp only [Bool.and_eq_true,decide_eq_true_eq] at hc
    rw [if_neg (by decide)] at hc
    omega
   ·simp only [e,↓reduceIte]
    generalize (if a.toNat = 244 then 143 else 191) = z
    exact ite_high fun _ => by omega
  ·decide
 ·rw [D_bad a r (.inr (by omega))]; decide
def isDig (a : UInt8) : Bool := decide (48 ≤ a.toNat ∧ a.toNat ≤ 57)
theorem D_dig (a : UInt8) (r : List UInt8) : (isDig a = true → D (a :: r) = (a.toNat,1)) ∧ (isDig a = false → (D (a :: r)).1 < 48 ∨ 57 < (D (a :: r)).1) := by
 unfold isDig
 constructor
 ·intro h
  simp only [decide_eq_true_eq] at h
  exact D_ascii a r (by omega)
 ·intro h
  simp only [decide_eq_false_iff_not] at h
  by_cases h1 : a.toNat < 128
  ·rw [D_ascii a r h1]; simp only; omega
  ·have := D_high a r (by omega); omega
theorem call150 (c : Int) (S : Store) : (lim K).call 150 [.iv (.int .i32 c)] S = .ret (.iv (.bool (decide (c < 48) || decide (57 < c))),S) := by
 refine call_ret' K S (fn := t150) rfl rfl ?_
 by_cases h1 : c < 48
 ·simp (disch := omega) only [t150,go_sem,TM.undef,Bool.true_or]
 ·by_cases h2 : 57 < c
  ·simp (disch := omega) only [t150,go_sem,TM.undef,Bool.false_or]
  ·simp (disch := omega) only [t150,go_sem,TM.undef,Bool.false_or]
theorem drop_consB {l : List UInt8} {i : Nat} (h : i < l.length) : l.drop i = l.getD i 0 :: l.drop (i + 1) := by
 rw [List.drop_eq_getElem_cons h,List.getD_eq_getElem?_getD,List.getElem?_eq_getElem h]; rfl
theorem loop191 (s : List UInt8) (hs : s.length ≤ 2000000) : ∀ (k i : Nat) (x3 : Int) (x4 x5 x7 x8 x9 : TV),i + k = s.length →
  ∃ j r y4 y5 y7 y8 y9 S',(j = .ret ∧ 0 ≤ r ∧ (s.drop i).all isDig = false ∨ j = .exit 0 ∧ r = x3 ∧ (s.drop i).all isDig = true) ∧
   lp' (lim K) t191L0 [.iv (.str s),.fn 150 [] [],.iv (.bool true),.iv (.int .i64 x3),x4,x5,.it 0,x7,x8,x9] [.sit s i] = .ret (j,[.iv (.str s),.fn 150 [] [],.iv (.bool true),.iv (.int .i64 r),y4,y5,.it 0,y7,y8,y9],S')
 | 0,i,x3,x4,x5,x7,x8,x9,h => by
  refine ⟨.exit 0,x3,?_,?_,?_,?_,?_,?_,.inr ⟨rfl,rfl,by rw [List.drop_eq_nil_of_le (by omega)]; rfl⟩,loop_at K _ _ t191L0.eq_1 ?_⟩
  rotate_left 6
  ·simp (disch := omega) only [go_sem]
   rfl
 | k + 1,i,x3,x4,x5,x7,x8,x9,h => by
  have hla : i < s.length := by omega
  have hde := decode_eq s i hla
  rw [drop_consB hla] at hde
  obtain ⟨hd1,hd2⟩ := D_dig (s.getD i 0) (s.drop (i + 1))
  have hdr := drop_consB hla
  generalize s.getD i 0 = a at *
  cases hb : isDig a with
  | true =>
   rw [hd1 hb] at hde
   have hb' := hb
   unfold isDig at hb'
   simp only [decide_eq_true_eq] at hb'
   obtain ⟨j,r,y4,y5,y7,y8,y9,S',hj,ih⟩ := loop191 s hs k (i + 1) x3 (.iv (.int .i64 i)) (.iv (.int .i32 a.toNat)) (.tup [.iv (.bool true),.iv (.int .i64 i),.iv (.int .i32 a.toNat)]) (.iv (.bool true)) (.iv (.bool false)) (by omega)
   refine ⟨j,r,y4,y5,y7,y8,y9,S',?_,loop_at K _ _ t191L0.eq_1 ?_⟩
   ·rw [hdr,List.all_cons,hb,Bool.true_and]; exact hj
   ·simp (disch := omega) only [go_sem,hla,hde,call150,Bool.or_false]
    exact congrArg er ih
  | false =>
   have hb2 := hd2 hb
   generalize D (a :: s.drop (i + 1)) = d at *
   refine ⟨.ret,(i : Int),?_,?_,?_,?_,?_,?_,.inl ⟨rfl,by omega,by rw [hdr,List.all_cons,hb,Bool.false_and]⟩,loop_at K _ _ t191L0.eq_1 ?_⟩
   rotate_left 6
   ·have hor : (decide ((d.1 : Int) < 48) || decide (57 < (d.1 : Int))) = true := by simp; omega
    simp (disch := omega) only [go_sem,hla,hde,call150,hor]
    rfl
theorem call191 (s : List UInt8) (hs : s.length ≤ 2000000) : ∃ r S',(0 ≤ r ↔ s.all isDig = false) ∧ (lim K).call 191 [.iv (.str s),.fn 150 [] [],.iv (.bool true)] [] = .ret (.iv (.int .i64 r),S') := by
 obtain ⟨j,r,y4,y5,y7,y8,y9,S',hj,ih⟩ := loop191 s hs s.length 0 0 (.tup []) (.tup []) (.tup []) (.tup []) (.tup []) (by omega)
 rw [List.drop_zero] at hj
 rcases hj with ⟨rfl,hr,ha⟩ | ⟨rfl,hr,ha⟩
 ·refine ⟨r,S',by simp [hr,ha],call_ret' K _ (fn := t191) rfl rfl ?_⟩
  simp (config := { maxSteps := 4000000 }) (disch := omega) only [t191,go_sem,TM.undef]
  rw [ih]
  simp (config := { maxSteps := 4000000 }) (disch := omega) only [go_sem]
 ·refine ⟨-1,S',by simp [ha],call_ret' K _ (fn := t191) rfl rfl ?_⟩
  simp (config := { maxSteps := 4000000 }) (disch := omega) only [t191,go_sem,TM.undef]
  rw [ih]
  simp (config := { maxSteps := 4000000 }) (disch := omega) only [go_sem]
theorem call149 (s : List UInt8) (hs : s.length ≤ 2000000) : ∃ S',(lim K).call 149 [.iv (.str s),.fn 150 [] []] [] = .ret (.iv (.bool (!s.all isDig)),S') := by
 obtain ⟨r,S',hr,ih⟩ := call191 s hs
 have h171 : (lim K).call 171 [.iv (.str s),.fn 150 [] []] [] = .ret (.iv (.int .i64 r),S') := by
  refine call_ret' K _ (fn := t171) rfl rfl ?_
  simp (config := { maxSteps := 4000000 }) (disch := omega) only [t171,go_sem,TM.undef,ih]
 refine ⟨S',call_ret' K _ (fn := t149) rfl rfl ?_⟩
 cases ha : s.all isDig with
 | true =>
  have : ¬ 0 ≤ r := fun h => by rw [hr,ha] at h; cases h
  simp (config := { maxSteps := 4000000 }) (disch := omega) only [t149,go_sem,TM.undef,h171,Bool.not_true]
 | false =>
  have : 0 ≤ r := hr.2 ha
  simp (config := { maxSteps := 4000000 }) (disch := omega) only [t149,go_sem,TM.undef,h171,Bool.not_false]
theorem ixs0 (c : UInt8) (r : List UInt8) (k : IntKind) : ixStr (.iv (.str (c :: r))) (.iv (.int k 0)) = some (.iv (.int .u8 c.toNat)) := by
 have := ixStr_ok (s := c :: r) (i := 0) (kd := k) (by simp)
 simpa using this
def trimM : List UInt8 → List UInt8
 | a :: r => if a.toNat = 45 then r else a :: r
 | [] => []
theorem call148 (s : List UInt8) (hs : s.length ≤ 2000000) (S : Store) : (lim K).call 148 [.iv (.str s),.iv (.str [45])] S = .ret (.iv (.str (trimM s)),S) := by
 have h190 : (lim K).call 190 [.iv (.str s),.iv (.str [45])] [] = .ret (.iv (.bool (match s with | a :: _ => decide (a.toNat = 45) | [] => false)),[]) := by
  refine call_ret' K _ (fn := t190) rfl rfl ?_
  cases s with
  | nil => simp (config := { maxSteps := 4000000 }) (disch := omega) only [t190,go_sem,TM.undef,List.length_nil,List.length_cons]
  | cons a r =>
   have hl : (a :: r).length = r.length + 1 := rfl
   have h1 := slice_str_hi [] (s := a :: r) (b := ((1 : Nat) : Int)) (by rw [hl]; omega)
   rw [show (((1 : Nat) : Int)).toNat = 1 from rfl,show (a :: r).take 1 = [a] from rfl] at h1
   have h2 : ([a] == [(45 : UInt8)]) = decide (a.toNat = 45) := by
    rw [Bool.eq_iff_iff]
    simp only [beq_iff_eq,List.cons.injEq,and_true,decide_eq_true_eq]
    constructor
    ·rintro rfl; rfl
    ·intro h; exact UInt8.toNat_inj.1 h
   simp (config := { maxSteps := 4000000 }) (disch := omega) only [t190,go_sem,TM.undef,hl,List.length_nil,List.length_cons,h1,h2]
 have h170 : (lim K).call 170 [.iv (.str s),.iv (.str [45])] [] = .ret (.iv (.str (trimM s)),[]) := by
  refine call_ret' K _ (fn := t170) rfl rfl ?_
  cases s with
  | nil => simp (config := { maxSteps := 4000000 }) (disch := omega) only [t170,go_sem,TM.undef,h190,trimM]
  | cons a r =>
   have hl : (a :: r).length = r.length + 1 := rfl
   have h1 := slice_str_lo [] (s := a :: r) (a := ((1 : Nat) : Int)) (by rw [hl]; omega)
   rw [show (((1 : Nat) : Int)).toNat = 1 from rfl,show (a :: r).drop 1 = r from rfl] at h1
   by_cases ha : a.toNat = 45
   ·simp (config := { maxSteps := 4000000 }) (disch := omega) only [t170,go_sem,TM.undef,h190,trimM,ha,List.length_nil,List.length_cons,h1]
   ·simp (config := { maxSteps := 4000000 }) (disch := omega) only [t170,go_sem,TM.undef,h190,trimM,ha,List.length_nil,List.length_cons,h1]
 refine call_ret' K _ (fn := t148) rfl rfl ?_
 simp (config := { maxSteps := 4000000 }) (disch := omega) only [t148,go_sem,TM.undef,h170]
theorem trimM_le (s : List UInt8) : (trimM s).length ≤ s.length := by
 cases s with
 | nil => simp [trimM]
 | cons a r => simp only [trimM]; split <;> simp
def digF (s : List UInt8) : Bool :=
 match trimM s with
 | [] => false
 | a :: r => if a.toNat = 48 ∧ s ≠ [48] then false else (a :: r).all isDig
theorem call116 (s : List UInt8) (hs : s.length ≤ 2000000) : Pure K 116 [.iv (.str s)] (.iv (.bool (digF s))) := by
 have h1 := call148 s hs []
 have h2 := trimM_le s
 unfold digF
 cases ht : trimM s with
 | nil =>
  rw [ht] at h1
  refine pure_ret (S := []) (call_ret' K _ (fn := t116) rfl rfl ?_) (by rw [resolve_iv])
  simp (config := { maxSteps := 4000000 }) (disch := omega) only [t116,go_sem,TM.undef,h1]
 | cons a r =>
  rw [ht] at h1 h2
  obtain ⟨S',h3⟩ := call149 (a :: r) (by omega)
  have h4 := ixs0 a r .i64
  have h5 : ((a :: r) == ([] : List UInt8)) = false := rfl
  by_cases ha : a.toNat = 48
  ·by_cases hz : s = [48]
   ·have h6 : (s == [(48 : UInt8)]) = true := by simp [hz]
    refine pure_ret (S := S') (r := .iv (.bool ((a :: r).all isDig))) (call_ret' K _ (fn := t116) rfl rfl ?_) (by rw [resolve_iv]; simp [ha,hz])
    simp (config := { maxSteps := 4000000 }) (disch := omega) only [t116,go_sem,TM.undef,h1,h3,h4,h5,h6,ha,Bool.not_not,Bool.not_true]
   ·have h6 : (s == [(48 : UInt8)]) = false := by simp [hz]
    refine pure_ret (S := []) (r := .iv (.bool false)) (call_ret' K _ (fn := t116) rfl rfl ?_) (by rw [resolve_iv]; simp [ha,hz])
    simp (config := { maxSteps := 4000000 }) (disch := omega) only [t116,go_sem,TM.undef,h1,h3,h4,h5,h6,ha,Bool.not_not,Bool.not_false]
  ·refine pure_ret (S := S') (r := .iv (.bool ((a :: r).all isDig))) (call_ret' K _ (fn := t116) rfl rfl ?_) (by rw [resolve_iv]; simp [ha])
   simp (config := { maxSteps := 4000000 }) (disch := omega) only [t116,go_sem,TM.undef,h1,h3,h4,h5,Bool.not_not]
def okC (t : List UInt8) : Bool := (chars t.length t 0).2.isNone
def bareF (d : Dt) : Bool :=
 if d.k = 0 ∨ d.k = 8 ∨ d.k = 9 ∨ d.k = 10 then true else if d.k = 1 then decide (d.n = 0 ∨ d.n = 1) else if d.k = 2 then digF d.t else if d.k = 3 then isC d.n
 else if d.k = 4 then okC d.t else if d.k = 5 then okC d.t && !d.t.isEmpty else false
theorem codes_ok (s : List UInt8) (hl : s.length ≤ 2000000) : ∃ l,Pure K 118 [.iv (.str s)] (.tup [l,.iv (.int .i64 (if okC s then 0 else 4))]) := by
 have h := call118 s hl
 unfold okC
 cases hc : (chars s.length s 0).2 with
 | none => rw [hc] at h; exact ⟨_,h⟩
 | some p => rw [hc] at h; exact ⟨_,h⟩
theorem beq_nil (t : List UInt8) : (t == []) = t.isEmpty := by cases t <;> rfl
theorem call85 (d : Dt) (hd : d.w ≤ 1048576) : Pure K 85 [.iv (.agg (encD d))] (.iv (.bool (bareF d))) := by
 have hw := Dt.w_eq d
 obtain ⟨l,hc⟩ := codes_ok d.t (by omega)
 have h116 := call116 d.t (by omega)
 have h117 := call117 d.n
 unfold bareF
 by_cases hs : d.k = 0 ∨ d.k = 8 ∨ d.k = 9 ∨ d.k = 10
 ·refine pure_ret (S := []) (r := .iv (.bool true)) (call_ret' K _ (fn := t85) rfl rfl ?_) (by rw [resolve_iv]; simp [hs])
  rw [encD_eq]
  rcases hs with h | h | h | h <;> simp (config := { maxSteps := 4000000 }) (disch := omega) only [t85,go_sem,TM.undef]
 ·by_cases h1 : d.k = 1
  ·refine pure_ret (S := []) (r := .iv (.bool (decide (d.n = 0 ∨ d.n = 1)))) (call_ret' K _ (fn := t85) rfl rfl ?_) (by rw [resolve_iv]; simp [h1])
   rw [encD_eq]
   by_cases n0 : d.n = 0
   ·simp (config := { maxSteps := 4000000 }) (disch := omega) only [t85,go_sem,TM.undef]
   ·by_cases n1 : d.n = 1
    ·simp (config := { maxSteps := 4000000 }) (disch := omega) only [t85,go_sem,TM.undef]
    ·simp (config := { maxSteps := 4000000 }) (disch := omega) only [t85,go_sem,TM.undef]
  ·by_cases h2 : d.k = 2
   ·refine pure_ret (S := []) (r := .iv (.bool (digF d.t))) (call_ret' K _ (fn := t85) rfl rfl ?_) (by rw [resolve_iv]; simp [h2])
    rw [encD_eq]
    simp (config := { maxSteps := 4000000 }) (disch := omega) only [t85,go_sem,TM.undef,cpR_pure h116]
   ·by_cases h3 : d.k = 3
    ·refine pure_ret (S := []) (r := .iv (.bool (isC d.n))) (call_ret' K _ (fn := t85) rfl rfl ?_) (by rw [resolve_iv]; simp [h3])
     rw [encD_eq]
     simp (config := { maxSteps := 4000000 }) (disch := omega) only [t85,go_sem,TM.undef,h117]
    ·by_cases h4 : d.k = 4
     ·refine pure_ret (S := []) (r := .iv (.bool (okC d.t))) (call_ret' K _ (fn := t85) rfl rfl ?_) (by rw [resolve_iv]; simp [h4])
      rw [encD_eq]
      cases ho : okC d.t
      ·rw [ho] at hc
       simp (config := { maxSteps := 4000000 }) (disch := omega) only [t85,go_sem,TM.undef,cpR_pure hc,Bool.false_eq_true]
      ·rw [ho] at hc
       simp (config := { maxSteps := 4000000 }) (disch := omega) only [t85,go_sem,TM.undef,cpR_pure hc]
     ·by_cases h5 : d.k = 5
      ·refine pure_ret (S := []) (r := .iv (.bool (okC d.t && !d.t.isEmpty))) (call_ret' K _ (fn := t85) rfl rfl ?_) (by rw [resolve_iv]; simp [h5])
       rw [encD_eq]
       cases ho : okC d.t
       ·rw [ho] at hc
        simp (config := { maxSteps := 4000000 }) (disch := omega) only [t85,go_sem,TM.undef,cpR_pure hc,Bool.false_eq_true,Bool.false_and]
       ·rw [ho] at hc
        simp (config := { maxSteps := 4000000 }) (disch := omega) only [t85,go_sem,TM.undef,cpR_pure hc,Bool.true_and,beq_nil]
      ·refine pure_ret (S := []) (r := .iv (.bool false)) (call_ret' K _ (fn := t85) rfl rfl ?_) (by rw [resolve_iv]; simp [hs,h1,h2,h3,h4,h5])
       rw [encD_eq]
       simp (config := { maxSteps := 4000000 }) (disch := omega) only [t85,go_sem,TM.undef]
theorem loop115 (f : Nat) (act : Dt → Bool) (g : Tag) (ks : List Dt) (hl : ks.length ≤ 2000000) (hf : ∀ x ∈ ks,TM.Pure K f [.iv (.agg (encD x))] (.iv (.bool (act x)))) (x2 : TV) (S : Store) : ∀ (k i : Nat) (x3 x6 x7 : TV),i + k = ks.length →
  ∃ j r y3 y5 y6 y7,(j = .ret ∧ (∃ n : Int,r = .iv (.int .i64 n) ∧ 0 ≤ n) ∧ (ks.drop i).any act = true ∨ j = .exit 0 ∧ r = x2 ∧ (ks.drop i).any act = false) ∧
   lp' (lim K) t115L0 [.iv (.sl g (encDs ks)),.fn f [] [],x2,x3,.iv (.int .i64 ks.length),.iv (.int .i64 (i : Int)),x6,x7] S = .ret (j,[.iv (.sl g (encDs ks)),.fn f [] [],r,y3,.iv (.int .i64 ks.length),y5,y6,y7],S)
 | 0,i,x3,x6,x7,h => by
  obtain rfl : i = ks.length := by omega
  refine ⟨.exit 0,x2,?_,?_,?_,?_,.inr ⟨rfl,rfl,by rw [List.drop_length]; rfl⟩,loop_at K _ _ t115L0.eq_1 ?_⟩
  rotate_left 4
  ·simp (config := { maxSteps := 4000000 }) (disch := omega) only [go_sem]
   rfl
 | k + 1,i,x3,x6,x7,h => by
  have hla : i < ks.length := by omega
  have hix := ixD (g := g) (ks := ks) (i := (i : Int)) (by omega)
  rw [Int.toNat_natCast] at hix
  have hdr := drop_get hla
  have hc := hf _ (get_mem hla)
  generalize hx : ks.getD i default = x at *
  rw [encD_eq] at hc
  cases ha : act x with
  | true =>
   rw [ha] at hc
   refine ⟨.ret,.iv (.int .i64 (i : Int)),?_,?_,?_,?_,.inl ⟨rfl,⟨_,rfl,by omega⟩,by rw [hdr,List.any_cons,ha,Bool.true_or]⟩,loop_at K _ _ t115L0.eq_1 ?_⟩
   rotate_left 4
   ·simp (config := { maxSteps := 4000000 }) (disch := omega) only [go_sem,hix,getD5,cpR_pure hc]
    rfl
  | false =>
   rw [ha] at hc
   obtain ⟨j,r,y3,y5,y6,y7,hj,ih⟩ := loop115 f act g ks hl hf x2 S k (i + 1) (.iv (.int .i64 (i : Int))) (.iv (.bool true)) (.iv (.bool false)) (by omega)
   rw [show ((i + 1 : Nat) : Int) = (i : Int) + 1 by omega] at ih
   refine ⟨j,r,y3,y5,y6,y7,?_,loop_at K _ _ t115L0.eq_1 ?_⟩
   ·rw [hdr,List.any_cons,ha,Bool.false_or]; exact hj
   ·simp (config := { maxSteps := 4000000 }) (disch := omega) only [go_sem,hix,getD5,cpR_pure hc,wrap_i64]
    exact congrArg er ih
theorem call83 (f : Nat) (act : Dt → Bool) (g : Tag) (ks : List Dt) (hl : ks.length ≤ 2000000) (hf : ∀ x ∈ ks,TM.Pure K f [.iv (.agg (encD x))] (.iv (.bool (act x)))) (S : Store) :
  (lim K).call 83 [.iv (.sl g (encDs ks)),.fn f [] []] S = .ret (.iv (.bool (ks.any act)),S) := by
 obtain ⟨j,r,y3,y5,y6,y7,hj,ih⟩ := loop115 f act g ks hl hf (.iv (.int .i64 0)) S ks.length 0 (.tup []) (.tup []) (.tup []) (by omega)
 rw [show ((0 : Nat) : Int) = 0 from rfl,List.drop_zero] at *
 have h115 : ∃ n : Int,(0 ≤ n ↔ ks.any act = true) ∧ (lim K).call 115 [.iv (.sl g (encDs ks)),.fn f [] []] S = .ret (.iv (.int .i64 n),S) := by
  rcases hj with ⟨rfl,⟨n,rfl,hn⟩,ha⟩ | ⟨rfl,rfl,ha⟩
  ·refine ⟨n,by simp [hn,ha],call_ret' K _ (fn := t115) rfl rfl ?_⟩
   simp (config := { maxSteps := 4000000 }) (disch := omega) only [t115,go_sem,TM.undef,encDs_len]
   rw [ih]
   simp (config := { maxSteps := 4000000 }) (disch := omega) only [go_sem]
  ·refine ⟨-1,by simp [ha],call_ret' K _ (fn := t115) rfl rfl ?_⟩
   simp (config := { maxSteps := 4000000 }) (disch := omega) only [t115,go_sem,TM.undef,encDs_len]
   rw [ih]
   simp (config := { maxSteps := 4000000 }) (disch := omega) only [go_sem]
 obtain ⟨n,hn,h115⟩ := h115
 refine call_ret' K _ (fn := t83) rfl rfl ?_
 by_cases h0 : 0 ≤ n
 ·rw [hn.1 h0]
  simp (config := { maxSteps := 4000000 }) (disch := omega) only [t83,go_sem,TM.undef,h115]
 ·have : ks.any act = false := by
   cases h : ks.any act with
   | true => exact absurd (hn.2 h) h0
   | false => rfl
  rw [this]
  simp (config := { maxSteps := 4000000 }) (disch := omega) only [t83,go_sem,TM.undef,h115]
theorem call82 (d : Dt) (hd : d.w ≤ 2000000) (S : Store) : (lim K).call 82 [.iv (.agg (encD d))] S = .ret (.iv (.bool (decide (d.k = 6 ∧ d.ks.length = 2))),S) := by
 have hw := Dt.w_eq d
 have hl := Dt.ws_len d.ks
 refine call_ret' K _ (fn := t82) rfl rfl ?_
 rw [encD_eq]
 by_cases hk : d.k = 6
 ·by_cases h2 : d.ks.length = 2
  ·have : ((d.ks.length : Int) == 2) = true := by simp [h2]
   simp (config := { maxSteps := 4000000 }) (disch := omega) only [t82,go_sem,TM.undef,encDs_len]
  ·simp (config := { maxSteps := 4000000 }) (disch := omega) only [t82,go_sem,TM.undef,encDs_len]
 ·simp (config := { maxSteps := 4000000 }) (disch := omega) only [t82,go_sem,TM.undef,encDs_len]
mutual
def mayF : Dt → Bool
 | .mk k n t g ks p => if k = 6 ∧ ks.length = 2 then mays ks else if k = 7 then mays ks else ks.isEmpty && bareF (.mk k n t g ks p)
def mays : List Dt → Bool
 | [] => true
 | d :: ds => mayF d && mays ds
end
theorem mays_all : ∀ ks : List Dt,mays ks = ks.all mayF
 | [] => by rw [mays]; rfl
 | d :: ds => by rw [mays,mays_all ds]; rfl
theorem mayF_eq (d : Dt) : mayF d = if d.k = 6 ∧ d.ks.length = 2 then d.ks.all mayF else if d.k = 7 then d.ks.all mayF else d.ks.isEmpty && bareF d := by
 cases d; rw [mayF,mays_all]; rfl
abbrev lbD' (d : Dt) : TV := .lb [.iv (.int .i64 d.k),.iv (.int .i64 d.n),.iv (.str d.t),.iv (.sl d.g (encDs d.ks)),.iv (.int .i64 d.p)]
theorem two_of {d : Dt} (h : d.ks.length = 2) : ∃ a b,d.ks = [a,b] := by
 cases hk : d.ks with
 | nil => rw [hk] at h; simp at h
 | cons a r =>
  cases r with
  | nil => rw [hk] at h; simp at h
  | cons b r =>
   cases r with
   | nil => exact ⟨a,b,rfl⟩
   | cons c r => rw [hk] at h; simp at h
theorem ix0 (g : Tag) (a b : Dt) : indexAddrS 5 (.iv (.sl g (encDs [a,b]))) 0 = some (.iv (.cp (encD a))) := ixD (g := g) (ks := [a,b]) (i := 0) (by simp)
theorem ix1 (g : Tag) (a b : Dt) : indexAddrS 5 (.iv (.sl g (encDs [a,b]))) 1 = some (.iv (.cp (encD b))) := ixD (g := g) (ks := [a,b]) (i := 1) (by simp)
theorem loop42 (M : Nat) (hM : M ≤ 1048576) (ih : ∀ d : Dt,d.w ≤ M → TM.Pure K 42 [.iv (.agg (encD d))] (.iv (.bool (mayF d)))) (x0 : TV) (S : Store) : ∀ (N : Nat),N ≤ M + 1 → ∀ (d : Dt) (x2 x3 x4 x5 : TV),d.w ≤ N →
  ∃ j d' r y3 y4,(j = .ret ∧ r = .iv (.bool false) ∧ mayF d = false ∨ j = .exit 0 ∧ r = x2 ∧ mayF d' = mayF d ∧ d'.w ≤ d.w ∧ ¬ (d'.k = 6 ∧ d'.ks.length = 2)) ∧
   lp' (lim K) t42L0 [x0,lbD' d,x2,x3,x4,x5] S = .ret (j,[x0,lbD' d',r,y3,y4,x5],S)
 | 0,hN,d,x2,x3,x4,x5,hd => by have := Dt.w_eq d; omega
 | N + 1,hN,d,x2,x3,x4,x5,hd => by
  have hw := Dt.w_eq d
  have hp := call82 d (by omega) S
  rw [encD_eq] at hp
  by_cases h2 : d.k = 6 ∧ d.ks.length = 2
  ·obtain ⟨a,b,hk⟩ := two_of h2.2
   have hab : a.w + b.w + 1 ≤ d.w := by rw [hw,hk,Dt.ws,Dt.ws,Dt.ws]; omega
   have ha := ih a (by omega)
   rw [encD_eq] at ha
   have hm : mayF d = (mayF a && mayF b) := by rw [mayF_eq d,if_pos h2,hk]; simp
   have i0 := ix0 d.g a b
   have i1 := ix1 d.g a b
   rw [← hk] at i0 i1
   rw [decT h2] at hp
   cases hma : mayF a with
   | false =>
    rw [hma] at ha
    refine ⟨.ret,d,.iv (.bool false),?_,?_,.inl ⟨rfl,rfl,by rw [hm,hma,Bool.false_and]⟩,loop_at K _ _ t42L0.eq_1 ?_⟩
    rotate_left 2
    ·simp (config := { maxSteps := 4000000 }) (disch := omega) only [go_sem,hp,i0,getD5,cpR_pure ha]
     rfl
   | true =>
    rw [hma] at ha
    obtain ⟨j,d',r,y3,y4,hj,ih2⟩ := loop42 M hM ih x0 S N (by omega) b x2 (.iv (.bool true)) (.iv (.bool false)) x5 (by omega)
    refine ⟨j,d',r,y3,y4,?_,loop_at K _ _ t42L0.eq_1 ?_⟩
    ·rw [hm,hma,Bool.true_and]
     rcases hj with h | ⟨h1,h2,h3,h4,h5⟩
     ·exact .inl h
     ·exact .inr ⟨h1,h2,h3,by omega,h5⟩
    ·simp (config := { maxSteps := 4000000 }) (disch := omega) only [go_sem,hp,i0,i1,getD5,cpR_pure ha]
     exact congrArg er ih2
  ·rw [decF h2] at hp
   refine ⟨.exit 0,d,x2,?_,?_,.inr ⟨rfl,rfl,rfl,Nat.le_refl _,h2⟩,loop_at K _ _ t42L0.eq_1 ?_⟩
   rotate_left 2
   ·simp (config := { maxSteps := 4000000 }) (disch := omega) only [go_sem,hp]
    rfl
theorem any_not (ks : List Dt) (f : Dt → Bool) : (!(ks.any fun x => !f x)) = ks.all f := by
 induction ks with
 | nil => rfl
 | cons a r ih => simp only [List.any_cons,List.all_cons,Bool.not_or,Bool.not_not,ih]
theorem call42 : ∀ (N : Nat),N ≤ 1048576 → ∀ d : Dt,d.w ≤ N → TM.Pure K 42 [.iv (.agg (encD d))] (.iv (.bool (mayF d)))
 | 0,hN,d,hd => by have := Dt.w_eq d; omega
 | N + 1,hN,d,hd => by
  have ih := call42 N (by omega)
  obtain ⟨j,d',r,y3,y4,hj,hl⟩ := loop42 N (by omega) ih (.iv (.agg (encD d))) [] (N + 1) (by omega) d (.iv (.bool false)) (.tup []) (.tup []) (.tup []) hd
  rcases hj with ⟨rfl,rfl,hm⟩ | ⟨rfl,rfl,hm,hw',hn⟩
  ·refine pure_ret (S := []) (r := .iv (.bool false)) (call_ret' K _ (fn := t42) rfl rfl ?_) (by rw [resolve_iv,hm])
   rw [encD_eq] at hl ⊢
   simp (config := { maxSteps := 4000000 }) (disch := omega) only [t42,go_sem,TM.undef]
   rw [hl]
   simp (config := { maxSteps := 4000000 }) (disch := omega) only [go_sem]
  ·have hwd := Dt.w_eq d'
   have hwl := Dt.ws_len d'.ks
   have h84 : ∀ x ∈ d'.ks,TM.Pure K 84 [.iv (.agg (encD x))] (.iv (.bool (!mayF x))) := by
    intro x hx
    have hc := ih x (by have := Dt.kid_lt hx; omega)
    refine pure_ret (S := []) (r := .iv (.bool (!mayF x))) (call_ret' K _ (fn := t84) rfl rfl ?_) (by rw [resolve_iv])
    rw [encD_eq] at hc ⊢
    simp (config := { maxSteps := 4000000 }) (disch := omega) only [t84,go_sem,TM.undef,cpR_pure hc]
   have h83 := call83 84 (fun x => !mayF x) d'.g d'.ks (by omega) h84 []
   have h85 := call85 d' (by omega)
   rw [encD_eq] at h85
   refine pure_ret (S := []) (r := .iv (.bool (mayF d'))) (call_ret' K _ (fn := t42) rfl rfl ?_) (by rw [resolve_iv,hm])
   rw [encD_eq] at hl ⊢
   rw [mayF_eq d',if_neg hn]
   simp (config := { maxSteps := 4000000 }) (disch := omega) only [t42,go_sem,TM.undef]
   rw [hl]
   by_cases h7 : d'.k = 7
   ·rw [if_pos h7]
    simp (config := { maxSteps := 4000000 }) (disch := omega) only [go_sem,h83,any_not]
   ·rw [if_neg h7]
    by_cases he : d'.ks.length = 0
    ·have : d'.ks.isEmpty = true := by rw [List.isEmpty_iff]; exact List.eq_nil_of_length_eq_zero he
     have e0 : ((d'.ks.length : Int) == 0) = true := by simp [he]
     simp (config := { maxSteps := 4000000 }) (disch := omega) only [go_sem,encDs_len,e0,cpR_pure h85,this,Bool.true_and]
    ·have : d'.ks.isEmpty = false := by
      cases hk : d'.ks with
      | nil => rw [hk] at he; exact absurd rfl he
      | cons a r => rfl
     simp (config := { maxSteps := 4000000 }) (disch := omega) only [go_sem,encDs_len,this,Bool.false_and]
mutual
def plF : Dt → Bool
 | .mk k n t g ks p => !decide (k = 5 ∧ n ≠ 0) && pls ks
def pls : List Dt → Bool
 | [] => true
 | d :: ds => plF d && pls ds
end
theorem pls_all : ∀ ks : List Dt,pls ks = ks.all plF
 | [] => by rw [pls]; rfl
 | d :: ds => by rw [pls,pls_all ds]; rfl
theorem plF_eq (d : Dt) : plF d = (!decide (d.k = 5 ∧ d.n ≠ 0) && d.ks.all plF) := by
 cases d; rw [plF,pls_all]; rfl
theorem loop43 (M : Nat) (hM : M ≤ 1048576) (ih : ∀ d : Dt,d.w ≤ M → TM.Pure K 43 [.iv (.agg (encD d))] (.iv (.bool (plF d)))) (x0 : TV) (S : Store) : ∀ (N : Nat),N ≤ M + 1 → ∀ (d : Dt) (x2 x3 x4 x5 : TV),d.w ≤ N →
  ∃ j d' r y3 y4,(j = .ret ∧ r = .iv (.bool false) ∧ plF d = false ∨ j = .exit 0 ∧ r = x2 ∧ plF d' = plF d ∧ d'.w ≤ d.w) ∧
   lp' (lim K) t43L0 [x0,lbD' d,x2,x3,x4,x5] S = .ret (j,[x0,lbD' d',r,y3,y4,x5],S)
 | 0,hN,d,x2,x3,x4,x5,hd => by have := Dt.w_eq d; omega
 | N + 1,hN,d,x2,x3,x4,x5,hd => by
  have hw := Dt.w_eq d
  have hl := Dt.ws_len d.ks
  by_cases h2 : d.k = 6 ∧ d.ks.length = 2
  ·obtain ⟨a,b,hk⟩ := two_of h2.2
   have hab : a.w + b.w + 1 ≤ d.w := by rw [hw,hk,Dt.ws,Dt.ws,Dt.ws]; omega
   have ha := ih a (by omega)
   rw [encD_eq] at ha
   have hm : plF d = (plF a && plF b) := by rw [plF_eq d,hk]; simp [h2.1]
   have i0 := ix0 d.g a b
   have i1 := ix1 d.g a b
   rw [← hk] at i0 i1
   have h6 := h2.1
   have hl2 : ((d.ks.length : Int) == 2) = true := by simp [h2.2]
   cases hma : plF a with
   | false =>
    rw [hma] at ha
    refine ⟨.ret,d,.iv (.bool false),?_,?_,.inl ⟨rfl,rfl,by rw [hm,hma,Bool.false_and]⟩,loop_at K _ _ t43L0.eq_1 ?_⟩
    rotate_left 2
    ·simp (config := { maxSteps := 4000000 }) (disch := omega) only [go_sem,encDs_len,hl2,i0,getD5,cpR_pure ha]
     rfl
   | true =>
    rw [hma] at ha
    obtain ⟨j,d',r,y3,y4,hj,ih2⟩ := loop43 M hM ih x0 S N (by omega) b x2 (.iv (.bool true)) (.iv (.bool false)) x5 (by omega)
    refine ⟨j,d',r,y3,y4,?_,loop_at K _ _ t43L0.eq_1 ?_⟩
    ·rw [hm,hma,Bool.true_and]
     rcases hj with h | ⟨h1,h2,h3,h4⟩
     ·exact .inl h
     ·exact .inr ⟨h1,h2,h3,by omega⟩
    ·simp (config := { maxSteps := 4000000 }) (disch := omega) only [go_sem,encDs_len,hl2,i0,i1,getD5,cpR_pure ha]
     exact congrArg er ih2
  ·refine ⟨.exit 0,d,x2,?_,?_,.inr ⟨rfl,rfl,rfl,Nat.le_refl _⟩,loop_at K _ _ t43L0.eq_1 ?_⟩
   rotate_left 2
   ·by_cases h6 : d.k = 6
    ·have hl2 : ((d.ks.length : Int) == 2) = false := by
      have : d.ks.length ≠ 2 := fun e => h2 ⟨h6,e⟩
      simp; omega
     simp (config := { maxSteps := 4000000 }) (disch := omega) only [go_sem,encDs_len,hl2]
     rfl
    ·simp (config := { maxSteps := 4000000 }) (disch := omega) only [go_sem,encDs_len]
     first | done | rfl
theorem call43 : ∀ (N : Nat),N ≤ 1048576 → ∀ d : Dt,d.w ≤ N → TM.Pure K 43 [.iv (.agg (encD d))] (.iv (.bool (plF d)))
 | 0,hN,d,hd => by have := Dt.w_eq d; omega
 | N + 1,hN,d,hd => by
  have ih := call43 N (by omega)
  obtain ⟨j,d',r,y3,y4,hj,hl⟩ := loop43 N (by omega) ih (.iv (.agg (encD d))) [] (N + 1) (by omega) d (.iv (.bool false)) (.tup []) (.tup []) (.tup []) hd
  rcases hj with ⟨rfl,rfl,hm⟩ | ⟨rfl,rfl,hm,hw'⟩
  ·refine pure_ret (S := []) (r := .iv (.bool false)) (call_ret' K _ (fn := t43) rfl rfl ?_) (by rw [resolve_iv,hm])
   rw [encD_eq] at hl ⊢
   simp (config := { maxSteps := 4000000 }) (disch := omega) only [t43,go_sem,TM.undef]
   rw [hl]
   simp (config := { maxSteps := 4000000 }) (disch := omega) only [go_sem]
  ·have hwd := Dt.w_eq d'
   have hwl := Dt.ws_len d'.ks
   have h86 : ∀ x ∈ d'.ks,TM.Pure K 86 [.iv (.agg (encD x))] (.iv (.bool (!plF x))) := by
    intro x hx
    have hc := ih x (by have := Dt.kid_lt hx; omega)
    refine pure_ret (S := []) (r := .iv (.bool (!plF x))) (call_ret' K _ (fn := t86) rfl rfl ?_) (by rw [resolve_iv])
    rw [encD_eq] at hc ⊢
    simp (config := { maxSteps := 4000000 }) (disch := omega) only [t86,go_sem,TM.undef,cpR_pure hc]
   have h83 := call83 86 (fun x => !plF x) d'.g d'.ks (by omega) h86 []
   refine pure_ret (S := []) (r := .iv (.bool (plF d'))) (call_ret' K _ (fn := t43) rfl rfl ?_) (by rw [resolve_iv,hm])
   rw [encD_eq] at hl ⊢
   rw [plF_eq d']
   simp (config := { maxSteps := 4000000 }) (disch := omega) only [t43,go_sem,TM.undef]
   rw [hl]
   by_cases h5 : d'.k = 5
   ·by_cases h0 : d'.n = 0
    ·have : decide (d'.k = 5 ∧ d'.n ≠ 0) = false := by simp [h0]
     simp (config := { maxSteps := 4000000 }) (disch := omega) only [go_sem,h83,any_not,this,Bool.not_false,Bool.true_and]
    ·have : decide (d'.k = 5 ∧ d'.n ≠ 0) = true := by simp [h0,h5]
     simp (config := { maxSteps := 4000000 }) (disch := omega) only [go_sem,this,Bool.not_true,Bool.false_and]
   ·have : decide (d'.k = 5 ∧ d'.n ≠ 0) = false := by simp [h5]
    simp (config := { maxSteps := 4000000 }) (disch := omega) only [go_sem,h83,any_not,this,Bool.not_false,Bool.true_and]
def primTab : List Int := [2,1,2,1,1,2,2,1,2,2,2,2,2,2,2,1,1,1,1,2,1,2,3,1,1,1,1,2,1,2,3,1,2,1,2,3,1,0,1,1,0,0]
def nameTab : List (List UInt8) := [[101,113,63],[112,97,105,114,63],[99,111,110,115],[99,97,114],[99,100,114],[115,101,116,45,99,97,114,33],[115,101,116,45,99,100,114,33],[105,110,116,101,103,101,114,63],[37,43],[37,45],[37,42],[113,117,111,116,105,101,110,116],[114,101,109,97,105,110,100,101,114],[37,61],[37,60],[99,104,97,114,63],[99,104,97,114,45,62,105,110,116,101,103,101,114],[105,110,116,101,103,101,114,45,62,99,104,97,114],[115,116,114,105,110,103,63],[109,97,107,101,45,115,116,114,105,110,103],[115,116,114,105,110,103,45,108,101,110,103,116,104],[115,116,114,105,110,103,45,114,101,102],[115,116,114,105,110,103,45,115,101,116,33],[115,121,109,98,111,108,63],[115,121,109,98,111,108,45,62,115,116,114,105,110,103],[115,116,114,105,110,103,45,62,115,121,109,98,111,108],[118,101,99,116,111,114,63],[109,97,107,101,45,118,101,99,116,111,114],[118,101,99,116,111,114,45,108,101,110,103,116,104],[118,101,99,116,111,114,45,114,101,102],[118,101,99,116,111,114,45,115,101,116,33],[98,121,116,101,118,101,99,116,111,114,63],[109,97,107,101,45,98,121,116,101,118,101,99,116,111,114],[98,121,116,101,118,101,99,116,111,114,45,108,101,110,103,116,104],[98,121,116,101,118,101,99,116,111,114,45,117,56,45,114,101,102],[98,121,116,101,118,101,99,116,111,114,45,117,56,45,115,101,116,33],[112,114,111,99,101,100,117,114,101,63],[114,101,97,100,45,117,56],[119,114,105,116,101,45,117,56],[37,104,97,108,116],[101,111,102,45,111,98,106,101,99,116],[37,110,111,110,101]]
def primA (n : Int) : Int := if 0 ≤ n ∧ n < 42 then primTab.getD n.toNat 0 else -1
theorem sub_map1 {α : Type} (f : α → TV) (d : α) {l : List α} {k : Nat} (h : k < l.length) : sub (l.map f) k 1 = some [f (l.getD k d)] := by
 have e : k + 1 ≤ (l.map f).length := by rw [List.length_map]; omega
 simp only [sub,e,↓reduceIte]
 rw [List.drop_eq_getElem_cons (by rw [List.length_map]; omega)]
 simp [List.getD,List.getElem?_eq_getElem h]
theorem call108 (n : Int) (S : Store) : (lim K).call 108 [.iv (.int .i64 n)] S = .ret (.iv (.int .i64 (primA n)),S) := by
 refine call_ret' K _ (fn := t108) rfl rfl ?_
 unfold primA
 by_cases h : 0 ≤ n ∧ n < 42
 ·rw [if_pos h]
  have hs := sub_map1 (fun a => TV.iv (.int .i64 a)) 0 (l := primTab) (k := 0 + n.toNat * 1) (by rw [show primTab.length = 42 from rfl]; omega)
  rw [show primTab.getD (0 + n.toNat * 1) 0 = primTab.getD n.toNat 0 by congr 1; omega] at hs
  generalize primTab.getD n.toNat 0 = r at *
  simp only [primTab,List.map_cons,List.map_nil] at hs
  simp (config := { maxSteps := 4000000 }) (disch := omega) only [t108,go_sem,TM.undef,hs]
 ·rw [if_neg h]
  by_cases h0 : n < 0
  ·simp (config := { maxSteps := 4000000 }) (disch := omega) only [t108,go_sem,TM.undef]
  ·simp (config := { maxSteps := 4000000 }) (disch := omega) only [t108,go_sem,TM.undef]
def nameA (n : Int) : List UInt8 := if 0 ≤ n ∧ n < 42 then nameTab.getD n.toNat [] else []
theorem call109 (n : Int) (S : Store) : (lim K).call 109 [.iv (.int .i64 n)] S = .ret (.iv (.str (nameA n)),S) := by
 refine call_ret' K _ (fn := t109) rfl rfl ?_
 unfold nameA
 by_cases h : 0 ≤ n ∧ n < 42
 ·rw [if_pos h]
  have hs := sub_map1 (fun a => TV.iv (.str a)) [] (l := nameTab) (k := 0 + n.toNat * 1) (by rw [show nameTab.length = 42 from rfl]; omega)
  rw [show nameTab.getD (0 + n.toNat * 1) [] = nameTab.getD n.toNat [] by congr 1; omega] at hs
  generalize nameTab.getD n.toNat [] = r at *
  simp only [nameTab,List.map_cons,List.map_nil] at hs
  simp (config := { maxSteps := 4000000 }) (disch := omega) only [t109,go_sem,TM.undef,hs]
 ·rw [if_neg h]
  by_cases h0 : n < 0
  ·simp (config := { maxSteps := 4000000 }) (disch := omega) only [t109,go_sem,TM.undef]
  ·simp (config := { maxSteps := 4000000 }) (disch := omega) only [t109,go_sem,TM.undef]
inductive Ex where
 | mk (k n : Int) (gv : Tag) (vs : List Int) (r : Bool) (g : Tag) (ks : List Ex)
instance : Inhabited Ex := ⟨.mk 0 0 .nil [] false .nil []⟩
def Ex.k : Ex → Int | .mk k _ _ _ _ _ _ => k
def Ex.n : Ex → Int | .mk _ n _ _ _ _ _ => n
def Ex.gv : Ex → Tag | .mk _ _ gv _ _ _ _ => gv
def Ex.vs : Ex → List Int | .mk _ _ _ vs _ _ _ => vs
def Ex.r : Ex → Bool | .mk _ _ _ _ r _ _ => r
def Ex.g : Ex → Tag | .mk _ _ _ _ _ g _ => g
def Ex.ks : Ex → List Ex | .mk _ _ _ _ _ _ ks => ks
mutual
def encE : Ex → List IV
 | .mk k n gv vs r g ks => [.int .i64 k,.int .i64 n,.sl gv (TM.one (.int .i64) vs),.bool r,.sl g (encEs ks)]
def encEs : List Ex → List (List IV)
 | [] => []
 | d :: ds => encE d :: encEs ds
end
mutual
def Ex.w : Ex → Nat
 | .mk _ _ _ vs _ _ ks => vs.length + Ex.ws ks + 1
def Ex.ws : List Ex → Nat
 | [] => 0
 | d :: ds => Ex.w d + Ex.ws ds
end
theorem encEs_map : ∀ ks : List Ex,encEs ks = ks.map encE
 | [] => by rw [encEs]; rfl
 | d :: ds => by rw [encEs,encEs_map ds]; rfl
theorem encEs_len (ks : List Ex) : (encEs ks).length = ks.length := by rw [encEs_map,List.length_map]
theorem encE_eq (d : Ex) : encE d = [.int .i64 d.k,.int .i64 d.n,.sl d.gv (TM.one (.int .i64) d.vs),.bool d.r,.sl d.g (encEs d.ks)] := by
 cases d; rw [encE]; rfl
theorem encE_len (d : Ex) : (encE d).length = 5 := by rw [encE_eq]; rfl
theorem Ex.w_eq (d : Ex) : d.w = d.vs.length + Ex.ws d.ks + 1 := by cases d; rw [Ex.w]; rfl
theorem Ex.ws_mem {d : Ex} : ∀ {ks : List Ex},d ∈ ks → d.w ≤ Ex.ws ks
 | x :: r,h => by
  rw [Ex.ws]
  rcases List.mem_cons.1 h with rfl | h
  ·omega
  ·have := Ex.ws_mem h; omega
theorem Ex.ws_len : ∀ ks : List Ex,ks.length ≤ Ex.ws ks
 | [] => by simp
 | x :: r => by
  have := Ex.ws_len r
  have := Ex.w_eq x
  rw [Ex.ws,List.length_cons]; omega
theorem Ex.kid_lt {d x : Ex} (h : x ∈ d.ks) : x.w < d.w := by
 have := Ex.ws_mem h
 rw [Ex.w_eq d]; omega
theorem ixE {g : Tag} {ks : List Ex} {i : Int} (h : 0 ≤ i ∧ i < ks.length) : indexAddrS 5 (.iv (.sl g (encEs ks))) i = some (.iv (.cp (encE (ks.getD i.toNat default)))) := by
 rw [encEs_map]
 exact ix_map (f := encE) encE_len h
theorem getE5 (env : Env) (S : Store) (d : Ex) : getCells env S (.iv (.cp (encE d))) 5 = some [.iv (.int .i64 d.k),.iv (.int .i64 d.n),.iv (.sl d.gv (TM.one (.int .i64) d.vs)),.iv (.bool d.r),.iv (.sl d.g (encEs d.ks))] := by
 rw [encE_eq]; rfl
abbrev lbE (d : Ex) : TV := .lb [.iv (.int .i64 d.k),.iv (.int .i64 d.n),.iv (.sl d.gv (TM.one (.int .i64) d.vs)),.iv (.bool d.r),.iv (.sl d.g (encEs d.ks))]
structure Pg where
 b : Ex
 gl : Int
 vr : Int
 gc : Tag
 cs : List Dt
def encP (p : Pg) : List IV := [.int .i64 p.b.k,.int .i64 p.b.n,.sl p.b.gv (TM.one (.int .i64) p.b.vs),.bool p.b.r,.sl p.b.g (encEs p.b.ks),.int .i64 p.gl,.int .i64 p.vr,.sl p.gc (encDs p.cs)]
abbrev lbP (p : Pg) : TV := .lb [.iv (.int .i64 p.b.k),.iv (.int .i64 p.b.n),.iv (.sl p.b.gv (TM.one (.int .i64) p.b.vs)),.iv (.bool p.b.r),.iv (.sl p.b.g (encEs p.b.ks)),.iv (.int .i64 p.gl),.iv (.int .i64 p.vr),.iv (.sl p.gc (encDs p.cs))]
end Go.Proofs.YtookmpaholmmfaaGreatDoor
namespace Go.Proofs.YtookmpaholmmfaaGreatDoor
open Go Go.TM Go.ChangeShapes Go.WideShapes
section
variable {P : Program} {H : Type}
open Rows in
open Rows in
open Rows in
end
def i64r (n : Int) : Prop := -9223372036854775808 ≤ n ∧ n ≤ 9223372036854775807
mutual
def Dt.ok : Dt → Prop
 | .mk k n t g ks p => i64r k ∧ i64r n ∧ i64r p ∧ TagOk g ks ∧ Dt.oks ks
def Dt.oks : List Dt → Prop
 | [] => True
 | d :: ds => Dt.ok d ∧ Dt.oks ds
end
mutual
def Ex.ok : Ex → Prop
 | .mk k n gv vs r g ks => i64r k ∧ i64r n ∧ TagOk gv vs ∧ (∀ v ∈ vs,i64r v) ∧ TagOk g ks ∧ Ex.oks ks
def Ex.oks : List Ex → Prop
 | [] => True
 | d :: ds => Ex.ok d ∧ Ex.oks ds
end
section
variable {H : Type}
open Rows
end
end Go.Proofs.YtookmpaholmmfaaGreatDoor
namespace Go.Proofs.YtookmpaholmmfaaGreatDoor
open Go Go.TM
attribute [go_sem] List.length_set
mutual
def gath (f : Ex → List Int) : Ex → List Int
 | .mk k n gv vs r g ks => f (.mk k n gv vs r g ks) ++ gaths f ks
def gaths (f : Ex → List Int) : List Ex → List Int
 | [] => []
 | d :: ds => gath f d ++ gaths f ds
end
structure AM (S : Store) (ib im : Nat) (B : List Int) (m : Nat) : Prop where
 ne : ib ≠ im
 box : S[ib]? = some (.cells 56 false [.map im])
 map : ∃ l c,S[im]? = some (.mp (mpR boxI l) c) ∧ RowsOK l c ∧ l.length ≤ m ∧ ∀ v,hasR l v = true ↔ v ∈ B
structure RiseOf (l B : List Int) : Prop where
 inc : l.Pairwise (· < ·)
 mem : ∀ v,v ∈ l ↔ v ∈ B
structure FM (S : Store) (ia im : Nat) (A : Int → Int) (B : List Int) (m : Nat) : Prop where
 ne : ia ≠ im
 cnt : ∃ l c,S[ia]? = some (.mp (mpR boxI l) c) ∧ ∀ v,cntR l v = A v
 map : ∃ l c,S[im]? = some (.mp (mpR boxI l) c) ∧ RowsOK l c ∧ l.length ≤ m ∧ ∀ v,hasR l v = true ↔ v ∈ B
mutual
def fr : Ex → List Int
 | .mk k n gv vs r g ks => (if k = 2 ∨ k = 4 then [n] else []) ++ (frs ks).filter fun v => !decide (k = 7 ∧ v ∈ vs)
def frs : List Ex → List Int
 | [] => []
 | d :: ds => fr d ++ frs ds
end
theorem mm_t (a b : Int) : TM.minmax true (.int .i64 a) [.iv (.int .i64 b)] = some (.int .i64 (if a < b then b else a)) := by simp [TM.minmax,min2]
theorem mm_f (a b : Int) : TM.minmax false (.int .i64 a) [.iv (.int .i64 b)] = some (.int .i64 (if b < a then b else a)) := by simp [TM.minmax,min2]
attribute [go_sem] mm_t mm_f
structure Shp where
 num : Bool
 kids : Int
 more : Bool
 word : List UInt8
 is : Bool
def ctlW (n : Int) : List UInt8 := if n = 0 then [99,97,108,108,47,99,99] else if n = 1 then [97,112,112,108,121] else [99,97,108,108,45,119,105,116,104,45,118,97,108,117,101,115]
def ofF (k n : Int) : Shp :=
 if k = 1 then ⟨true,0,false,[99],true⟩ else if k = 2 then ⟨true,0,false,[118],true⟩ else if k = 3 then ⟨true,0,false,[103],true⟩
 else if k = 4 then ⟨true,1,false,[115,101,116,33,32,118],true⟩ else if k = 5 then ⟨true,1,false,[115,101,116,33,32,103],true⟩
 else if k = 6 then ⟨false,3,false,[105,102],true⟩ else if k = 7 then ⟨false,1,false,[108,97,109,98,100,97],true⟩ else if k = 8 then ⟨false,1,true,[99,97,108,108],true⟩
 else if k = 9 then ⟨true,if 0 < primA n then primA n else 0,false,nameA n,decide (0 ≤ primA n)⟩ else if k = 10 then ⟨false,1,true,[98,101,103,105,110],true⟩
 else if k = 11 then (if n < 0 ∨ 2 < n then ⟨false,0,false,[],false⟩ else ⟨true,if 2 < n + 1 then 2 else n + 1,false,ctlW n,true⟩)
 else if k = 12 then ⟨false,1,false,[98,111,120],true⟩ else if k = 13 then ⟨false,1,false,[117,110,98,111,120],true⟩ else if k = 14 then ⟨false,2,false,[115,101,116,45,98,111,120,33],true⟩
 else ⟨false,0,false,[],false⟩
def encS (s : Shp) : TV := .tup [.iv (.agg [.bool s.num,.int .i64 s.kids,.bool s.more,.str s.word]),.iv (.bool s.is)]
theorem call74 (e : Ex) (S : Store) : (lim K).call 74 [.iv (.agg (encE e))] S = .ret (encS (ofF e.k e.n),S) := by
 refine call_ret' K _ (fn := t74) rfl rfl ?_
 rw [encE_eq]
 unfold ofF encS
 by_cases h1 : e.k = 1
 ·rw [if_pos h1]; simp (config := { maxSteps := 4000000 }) (disch := omega) only [t74,go_sem,TM.undef]
 rw [if_neg h1]
 by_cases h2 : e.k = 2
 ·rw [if_pos h2]; simp (config := { maxSteps := 4000000 }) (disch := omega) only [t74,go_sem,TM.undef]
 rw [if_neg h2]
 by_cases h3 : e.k = 3
 ·rw [if_pos h3]; simp (config := { maxSteps := 4000000 }) (disch := omega) only [t74,go_sem,TM.undef]
 rw [if_neg h3]
 by_cases h4 : e.k = 4
 ·rw [if_pos h4]; simp (config := { maxSteps := 4000000 }) (disch := omega) only [t74,go_sem,TM.undef]
 rw [if_neg h4]
 by_cases h5 : e.k = 5
 ·rw [if_pos h5]; simp (config := { maxSteps := 4000000 }) (disch := omega) only [t74,go_sem,TM.undef]
 rw [if_neg h5]
 by_cases h6 : e.k = 6
 ·rw [if_pos h6]; simp (config := { maxSteps := 4000000 }) (disch := omega) only [t74,go_sem,TM.undef]
 rw [if_neg h6]
 by_cases h7 : e.k = 7
 ·rw [if_pos h7]; simp (config := { maxSteps := 4000000 }) (disch := omega) only [t74,go_sem,TM.undef]
 rw [if_neg h7]
 by_cases h8 : e.k = 8
 ·rw [if_pos h8]; simp (config := { maxSteps := 4000000 }) (disch := omega) only [t74,go_sem,TM.undef]
 rw [if_neg h8]
 by_cases h9 : e.k = 9
 ·rw [if_pos h9]; simp (config := { maxSteps := 4000000 }) (disch := omega) only [t74,go_sem,TM.undef,call108,call109]
 rw [if_neg h9]
 by_cases h10 : e.k = 10
 ·rw [if_pos h10]; simp (config := { maxSteps := 4000000 }) (disch := omega) only [t74,go_sem,TM.undef]
 rw [if_neg h10]
 by_cases h11 : e.k = 11
 ·rw [if_pos h11]
  by_cases hn : e.n < 0 ∨ 2 < e.n
  ·rw [if_pos hn]
   rcases hn with hn | hn <;> simp (config := { maxSteps := 4000000 }) (disch := omega) only [t74,go_sem,TM.undef]
  ·rw [if_neg hn]
   have hc : e.n = 0 ∨ e.n = 1 ∨ e.n = 2 := by omega
   rcases hc with hc | hc | hc <;> rw [hc] <;> simp (config := { maxSteps := 4000000 }) (disch := omega) only [t74,go_sem,TM.undef,wrap_i64,ctlW,List.map_cons,List.map_nil]
 rw [if_neg h11]
 by_cases h12 : e.k = 12
 ·rw [if_pos h12]; simp (config := { maxSteps := 4000000 }) (disch := omega) only [t74,go_sem,TM.undef]
 rw [if_neg h12]
 by_cases h13 : e.k = 13
 ·rw [if_pos h13]; simp (config := { maxSteps := 4000000 }) (disch := omega) only [t74,go_sem,TM.undef]
 rw [if_neg h13]
 by_cases h14 : e.k = 14
 ·rw [if_pos h14]; simp (config := { maxSteps := 4000000 }) (disch := omega) only [t74,go_sem,TM.undef]
 rw [if_neg h14]
 simp (config := { maxSteps := 4000000 }) (disch := omega) only [t74,go_sem,TM.undef]
theorem call119 (n m : Int) (S : Store) : (lim K).call 119 [.iv (.int .i64 n),.iv (.int .i64 m)] S = .ret (.iv (.bool (decide (0 ≤ n ∧ n < m))),S) := by
 refine call_ret' K _ (fn := t119) rfl rfl ?_
 by_cases h0 : 0 ≤ n
 ·by_cases h1 : n < m
  ·simp (config := { maxSteps := 4000000 }) (disch := omega) only [t119,go_sem,TM.undef]
  ·simp (config := { maxSteps := 4000000 }) (disch := omega) only [t119,go_sem,TM.undef]
 ·simp (config := { maxSteps := 4000000 }) (disch := omega) only [t119,go_sem,TM.undef]
theorem loop153 (f : Nat) (act : Int → Bool) (a b c d : Nat) (g : Tag) (l : List Int) (hl : l.length ≤ 2000000) (S : Store) (hf : ∀ x ∈ l,(lim K).call f [.iv (.int .i64 x),.ptr a b 0,.ptr c d 0] S = .ret (.iv (.bool (act x)),S)) (x2 : TV) : ∀ (k i : Nat) (x3 x6 x7 : TV),i + k = l.length →
  ∃ j r y3 y5 y6 y7,(j = .ret ∧ (∃ n : Int,r = .iv (.int .i64 n) ∧ 0 ≤ n) ∧ (l.drop i).any act = true ∨ j = .exit 0 ∧ r = x2 ∧ (l.drop i).any act = false) ∧
   lp' (lim K) t153L0 [.iv (.sl g (TM.one (.int .i64) l)),.fn f [] [.ptr a b 0,.ptr c d 0],x2,x3,.iv (.int .i64 l.length),.iv (.int .i64 (i : Int)),x6,x7] S = .ret (j,[.iv (.sl g (TM.one (.int .i64) l)),.fn f [] [.ptr a b 0,.ptr c d 0],r,y3,.iv (.int .i64 l.length),y5,y6,y7],S)
 | 0,i,x3,x6,x7,h => by
  obtain rfl : i = l.length := by omega
  refine ⟨.exit 0,x2,?_,?_,?_,?_,.inr ⟨rfl,rfl,by rw [List.drop_length]; rfl⟩,loop_at K _ _ t153L0.eq_1 ?_⟩
  rotate_left 4
  ·simp (config := { maxSteps := 4000000 }) (disch := omega) only [go_sem]
   rfl
 | k + 1,i,x3,x6,x7,h => by
  have hla : i < l.length := by omega
  have hix := ix_one (f := IV.int .i64) (t := g) (l := l) (i := (i : Int)) (by omega)
  rw [Int.toNat_natCast] at hix
  have hdr := drop_get hla
  have hc := hf _ (get_mem hla)
  generalize hx : l.getD i default = x at *
  cases ha : act x with
  | true =>
   rw [ha] at hc
   refine ⟨.ret,.iv (.int .i64 (i : Int)),?_,?_,?_,?_,.inl ⟨rfl,⟨_,rfl,by omega⟩,by rw [hdr,List.any_cons,ha,Bool.true_or]⟩,loop_at K _ _ t153L0.eq_1 ?_⟩
   rotate_left 4
   ·simp (config := { maxSteps := 4000000 }) (disch := omega) only [go_sem,hix,hc]
    rfl
  | false =>
   rw [ha] at hc
   obtain ⟨j,r,y3,y5,y6,y7,hj,ih⟩ := loop153 f act a b c d g l hl S hf x2 k (i + 1) (.iv (.int .i64 (i : Int))) (.iv (.bool true)) (.iv (.bool false)) (by omega)
   rw [show ((i + 1 : Nat) : Int) = (i : Int) + 1 by omega] at ih
   refine ⟨j,r,y3,y5,y6,y7,?_,loop_at K _ _ t153L0.eq_1 ?_⟩
   ·rw [hdr,List.any_cons,ha,Bool.false_or]; exact hj
   ·simp (config := { maxSteps := 4000000 }) (disch := omega) only [go_sem,hix,hc,wrap_i64]
    exact congrArg er ih
theorem call120 (f : Nat) (act : Int → Bool) (a b c d : Nat) (g : Tag) (l : List Int) (hl : l.length ≤ 2000000) (S : Store) (hf : ∀ x ∈ l,(lim K).call f [.iv (.int .i64 x),.ptr a b 0,.ptr c d 0] S = .ret (.iv (.bool (act x)),S)) :
  (lim K).call 120 [.iv (.sl g (TM.one (.int .i64) l)),.fn f [] [.ptr a b 0,.ptr c d 0]] S = .ret (.iv (.bool (l.any act)),S) := by
 obtain ⟨j,r,y3,y5,y6,y7,hj,ih⟩ := loop153 f act a b c d g l hl S hf (.iv (.int .i64 0)) l.length 0 (.tup []) (.tup []) (.tup []) (by omega)
 rw [show ((0 : Nat) : Int) = 0 from rfl,List.drop_zero] at *
 have h153 : ∃ n : Int,(0 ≤ n ↔ l.any act = true) ∧ (lim K).call 153 [.iv (.sl g (TM.one (.int .i64) l)),.fn f [] [.ptr a b 0,.ptr c d 0]] S = .ret (.iv (.int .i64 n),S) := by
  rcases hj with ⟨rfl,⟨n,rfl,hn⟩,ha⟩ | ⟨rfl,rfl,ha⟩
  ·refine ⟨n,by simp [hn,ha],call_ret' K _ (fn := t153) rfl rfl ?_⟩
   simp (config := { maxSteps := 4000000 }) (disch := omega) only [t153,go_sem,TM.undef,TM.one_length]
   rw [ih]
   simp (config := { maxSteps := 4000000 }) (disch := omega) only [go_sem]
  ·refine ⟨-1,by simp [ha],call_ret' K _ (fn := t153) rfl rfl ?_⟩
   simp (config := { maxSteps := 4000000 }) (disch := omega) only [t153,go_sem,TM.undef,TM.one_length]
   rw [ih]
   simp (config := { maxSteps := 4000000 }) (disch := omega) only [go_sem]
 obtain ⟨n,hn,h153⟩ := h153
 refine call_ret' K _ (fn := t120) rfl rfl ?_
 by_cases h0 : 0 ≤ n
 ·rw [hn.1 h0]
  simp (config := { maxSteps := 4000000 }) (disch := omega) only [t120,go_sem,TM.undef,h153]
 ·have : l.any act = false := by
   cases h : l.any act with
   | true => exact absurd (hn.2 h) h0
   | false => rfl
  rw [this]
  simp (config := { maxSteps := 4000000 }) (disch := omega) only [t120,go_sem,TM.undef,h153]
abbrev cellsP (p : Pg) : List TV := [.iv (.int .i64 p.b.k),.iv (.int .i64 p.b.n),.iv (.sl p.b.gv (TM.one (.int .i64) p.b.vs)),.iv (.bool p.b.r),.iv (.sl p.b.g (encEs p.b.ks)),.iv (.int .i64 p.gl),.iv (.int .i64 p.vr),.iv (.sl p.gc (encDs p.cs))]
abbrev ckB (p : Pg) (ib ik ir : Nat) : Block := .cells 58 false (cellsP p ++ [.map ib,.map ik,.map ir])
theorem call121 (p : Pg) (ib ik ir ic jb jf : Nat) (v : Int) (S : Store) (hc : S[ic]? = some (ckB p ib ik ir)) (hb : S[jb]? = some (.cells 55 false [.ptr ic 58 0])) (hf : S[jf]? = some (.cells 135 false [.fn 119 [] []])) :
  (lim K).call 121 [.iv (.int .i64 v),.ptr jf 135 0,.ptr jb 55 0] S = .ret (.iv (.bool (!decide (0 ≤ v ∧ v < p.vr))),S) := by
 refine call_ret' K _ (fn := t121) rfl rfl ?_
 simp (config := { maxSteps := 4000000 }) (disch := omega) only [t121,go_sem,TM.undef,hc,hb,hf,call119]
def frmA (e : Ex) : Bool :=
 let s := ofF e.k e.n
 !s.is || decide ((e.ks.length : Int) < s.kids) || (decide (s.kids < e.ks.length) && !s.more) || (!s.num && decide (e.n ≠ 0)) || (decide (e.k ≠ 7) && (decide (0 < e.vs.length) || e.r)) || (e.r && decide (e.vs.length = 0))
def frmB (p : Pg) (e : Ex) : Bool :=
 if e.k = 1 then decide (0 ≤ e.n ∧ e.n < p.cs.length) else if e.k = 2 ∨ e.k = 4 then decide (0 ≤ e.n ∧ e.n < p.vr) else if e.k = 3 ∨ e.k = 5 then decide (0 ≤ e.n ∧ e.n < p.gl)
 else e.vs.all fun v => decide (0 ≤ v ∧ v < p.vr)
def frmF (p : Pg) (e : Ex) : Bool := !frmA e && frmB p e
theorem not_any (l : List Int) (f : Int → Bool) : (!(l.any fun x => !f x)) = l.all f := by
 induction l with
 | nil => rfl
 | cons a r ih => simp only [List.any_cons,List.all_cons,Bool.not_or,Bool.not_not,ih]
theorem set_app1 (S : Store) (b b' : Block) : (S ++ [b]).set S.length b' = S ++ [b'] := by simp
def Ends (p : Pg) (ib ik ir ic : Nat) (e : Ex) (S : Store) (b : Bool) : Prop := ∃ S',(lim K).call 87 [.ptr ic 58 0,.iv (.agg (encE e))] S = .ret (.iv (.bool b),S') ∧ Keep [] S S'
def addV : List Int → List Int → Option (List Int)
 | [],B => some B
 | v :: r,B => if v ∈ B then none else addV r (v :: B)
mutual
def chk (p : Pg) : Ex → Nat → List Int → List Int → List Int → Int × List Int × List Int
 | .mk k n gv vs r g ks,depth,B,C,A =>
  if 4000 ≤ depth then (5,B,C) else if frmF p (.mk k n gv vs r g ks) = false then (4,B,C) else
  match addV vs B with
  | none => (14,B,C)
  | some B1 =>
   if k = 1 ∧ n ∈ C then (14,B,C) else
   if (k = 2 ∨ k = 4) ∧ n ∉ vs ++ A then (6,B,C) else
   chks p ks (depth + 1) B1 (if k = 1 then n :: C else C) (vs ++ A)
def chks (p : Pg) : List Ex → Nat → List Int → List Int → List Int → Int × List Int × List Int
 | [],_,B,C,_ => (0,B,C)
 | e :: es,depth,B,C,A =>
  match chk p e depth B C A with
  | (f,B1,C1) => if f = 0 then chks p es depth B1 C1 A else (f,B1,C1)
end
theorem chk_eq (p : Pg) (e : Ex) (depth : Nat) (B C A : List Int) : chk p e depth B C A = if 4000 ≤ depth then (5,B,C) else if frmF p e = false then (4,B,C) else
  match addV e.vs B with
  | none => (14,B,C)
  | some B1 =>
   if e.k = 1 ∧ e.n ∈ C then (14,B,C) else
   if (e.k = 2 ∨ e.k = 4) ∧ e.n ∉ e.vs ++ A then (6,B,C) else
   chks p e.ks (depth + 1) B1 (if e.k = 1 then e.n :: C else C) (e.vs ++ A) := by
 cases e; rw [chk]; rfl
def MapHas (S : Store) (i : Nat) (B : List Int) : Prop := ∃ l c,S[i]? = some (.mp (mpR boxI l) c) ∧ ∀ v,cntR l v = if v ∈ B then 1 else 0
theorem MapHas.congr {S : Store} {i : Nat} {B B' : List Int} (h : MapHas S i B) (hb : ∀ v,v ∈ B ↔ v ∈ B') : MapHas S i B' := by
 obtain ⟨l,c,h1,h2⟩ := h
 refine ⟨l,c,h1,fun v => ?_⟩
 rw [h2 v]
 by_cases hv : v ∈ B
 ·rw [if_pos hv,if_pos ((hb v).1 hv)]
 ·rw [if_neg hv,if_neg (fun h => hv ((hb v).2 h))]
theorem MapHas.put {S : Store} {i : Nat} {B : List Int} {l : List (Nat × Int × Int)} {c : Nat} (h1 : S[i]? = some (.mp (mpR boxI l) c)) (h2 : ∀ v,cntR l v = if v ∈ B then 1 else 0) (k : Int) :
  MapHas (S.set i (.mp (mpR boxI (putR l c k 1)) (clkR l c k))) i (k :: B) := by
 refine ⟨_,_,get_setS (lt_get h1) _,fun v => ?_⟩
 rw [cntR_put]
 by_cases e : k = v
 ·subst e; simp
 ·simp [e,h2 v,Ne.symm e]
theorem MapHas.del {S : Store} {i : Nat} {B B' : List Int} {l : List (Nat × Int × Int)} {c : Nat} (h1 : S[i]? = some (.mp (mpR boxI l) c)) (h2 : ∀ v,cntR l v = if v ∈ B then 1 else 0) (k : Int) (hb : ∀ v,v ∈ B' ↔ v ∈ B ∧ v ≠ k) :
  MapHas (S.set i (.mp (mpR boxI (putR l c k 0)) (clkR l c k))) i B' := by
 refine ⟨_,_,get_setS (lt_get h1) _,fun v => ?_⟩
 rw [cntR_put]
 by_cases e : k = v
 ·subst e
  have : k ∉ B' := fun h => ((hb k).1 h).2 rfl
  simp [this]
 ·rw [if_neg e,h2 v]
  by_cases hv : v ∈ B
  ·rw [if_pos hv,if_pos ((hb v).2 ⟨hv,Ne.symm e⟩)]
  ·rw [if_neg hv,if_neg (fun h => hv ((hb v).1 h).1)]
theorem MapHas.keep {S S' : Store} {i : Nat} {B : List Int} (h : MapHas S i B) (k : S'[i]? = S[i]?) : MapHas S' i B := by
 obtain ⟨l,c,h1,h2⟩ := h
 exact ⟨l,c,k.trans h1,h2⟩
structure CkS (p : Pg) (ic ib ik ir : Nat) (S : Store) (B C A : List Int) : Prop where
 cb : ic ≠ ib
 ck : ic ≠ ik
 cr : ic ≠ ir
 bk : ib ≠ ik
 br : ib ≠ ir
 kr : ik ≠ ir
 at' : S[ic]? = some (ckB p ib ik ir)
 b : MapHas S ib B
 c : MapHas S ik C
 a : MapHas S ir A
 sub : ∀ v ∈ A,v ∈ B
theorem CkS.keep {p : Pg} {ic ib ik ir : Nat} {S S' : Store} {B C A : List Int} (h : CkS p ic ib ik ir S B C A) (k : Keep [] S S') : CkS p ic ib ik ir S' B C A := by
 obtain ⟨lb,cb,b1,b2⟩ := h.b
 obtain ⟨lk,ck,k1,k2⟩ := h.c
 obtain ⟨la,ca,a1,a2⟩ := h.a
 exact ⟨h.cb,h.ck,h.cr,h.bk,h.br,h.kr,k.get _ _ (by simp) h.at',⟨lb,cb,k.get _ _ (by simp) b1,b2⟩,⟨lk,ck,k.get _ _ (by simp) k1,k2⟩,⟨la,ca,k.get _ _ (by simp) a1,a2⟩,h.sub⟩
theorem CkS.congrA {p : Pg} {ic ib ik ir : Nat} {S : Store} {B C A A' : List Int} (h : CkS p ic ib ik ir S B C A) (ha : ∀ v,v ∈ A ↔ v ∈ A') : CkS p ic ib ik ir S B C A' :=
 ⟨h.cb,h.ck,h.cr,h.bk,h.br,h.kr,h.at',h.b,h.c,h.a.congr ha,fun v hv => h.sub v ((ha v).2 hv)⟩
theorem CkS.putV {p : Pg} {ic ib ik ir : Nat} {S : Store} {B C A : List Int} (h : CkS p ic ib ik ir S B C A) {lb : List (Nat × Int × Int)} {cb : Nat} (b1 : S[ib]? = some (.mp (mpR boxI lb) cb)) (b2 : ∀ v,cntR lb v = if v ∈ B then 1 else 0)
  {la : List (Nat × Int × Int)} {ca : Nat} (a1 : S[ir]? = some (.mp (mpR boxI la) ca)) (a2 : ∀ v,cntR la v = if v ∈ A then 1 else 0) (k : Int) :
  CkS p ic ib ik ir ((S.set ib (.mp (mpR boxI (putR lb cb k 1)) (clkR lb cb k))).set ir (.mp (mpR boxI (putR la ca k 1)) (clkR la ca k))) (k :: B) C (k :: A) := by
 have hbr := h.br
 have hkr := h.kr
 have hbk := h.bk
 refine ⟨h.cb,h.ck,h.cr,h.bk,h.br,h.kr,?_,?_,?_,?_,?_⟩
 ·rw [get_setN (Ne.symm h.cr),get_setN (Ne.symm h.cb)]; exact h.at'
 ·exact (MapHas.put b1 b2 k).keep (get_setN (Ne.symm hbr) _)
 ·exact h.c.keep (by rw [get_setN (Ne.symm hkr),get_setN hbk])
 ·exact MapHas.put (by rw [get_setN hbr]; exact a1) a2 k
 ·intro v hv
  rcases List.mem_cons.1 hv with rfl | hv
  ·simp
  ·exact List.mem_cons_of_mem _ (h.sub v hv)
theorem loop44b (p : Pg) (ic ib ik ir : Nat) (e : Ex) (hw : e.w ≤ 1048576) (C : List Int) (x1 x2 x3 x4 x6 x7 x8 x9 x10 x16 x17 x18 x19 x20 x21 x22 x23 x24 x25 x26 x27 : TV) : ∀ (k i : Nat) (x5 x14 x15 : TV) (S : Store) (B A : List Int),i + k = e.vs.length → CkS p ic ib ik ir S B C A →
  ∃ j r y5 y13 y14 y15 S',(j = .ret ∧ r = .iv (.int .i64 14) ∧ addV (e.vs.drop i) B = none ∨ j = .exit 1 ∧ r = x4 ∧ ∃ B1,addV (e.vs.drop i) B = some B1 ∧ CkS p ic ib ik ir S' B1 C ((e.vs.drop i).reverse ++ A)) ∧ Keep [ib,ik,ir] S S' ∧
   lp' (lim K) t44L2 [.ptr ic 58 0,x1,x2,x3,x4,x5,x6,x7,x8,x9,x10,.iv (.sl e.gv (TM.one (.int .i64) e.vs)),.iv (.int .i64 e.vs.length),.iv (.int .i64 (i : Int)),x14,x15,x16,x17,x18,x19,x20,x21,x22,x23,x24,x25,x26,x27] S
    = .ret (j,[.ptr ic 58 0,x1,x2,x3,r,y5,x6,x7,x8,x9,x10,.iv (.sl e.gv (TM.one (.int .i64) e.vs)),.iv (.int .i64 e.vs.length),y13,y14,y15,x16,x17,x18,x19,x20,x21,x22,x23,x24,x25,x26,x27],S')
 | 0,i,x5,x14,x15,S,B,A,h,hs => by
  obtain rfl : i = e.vs.length := by omega
  refine ⟨.exit 1,x4,?_,?_,?_,?_,S,.inr ⟨rfl,rfl,B,by rw [List.drop_length]; rfl,by rw [List.drop_length]; exact hs⟩,.refl _ _,loop_at K _ _ t44L2.eq_1 ?_⟩
  rotate_left 4
  ·simp (config := { maxSteps := 4000000 }) (disch := omega) only [go_sem]
   rfl
 | k + 1,i,x5,x14,x15,S,B,A,h,hs => by
  have hwe := Ex.w_eq e
  have hla : i < e.vs.length := by omega
  have hix := ix_one (f := IV.int .i64) (t := e.gv) (l := e.vs) (i := (i : Int)) (by omega)
  rw [Int.toNat_natCast] at hix
  have hdr := drop_get hla
  obtain ⟨lb,cb,b1,b2⟩ := hs.b
  obtain ⟨la,ca,a1,a2⟩ := hs.a
  have hat := hs.at'
  have n1 := hs.cb
  have n2 := hs.ck
  have n3 := hs.cr
  have n4 := hs.bk
  have n5 := hs.br
  have n6 := hs.kr
  generalize hx : e.vs.getD i default = x at *
  have b2x := b2 x
  by_cases hm : x ∈ B
  ·rw [if_pos hm] at b2x
   refine ⟨.ret,.iv (.int .i64 14),?_,?_,?_,?_,S,.inl ⟨rfl,rfl,by rw [hdr,addV,if_pos hm]⟩,.refl _ _,loop_at K _ _ t44L2.eq_1 ?_⟩
   rotate_left 4
   ·simp (config := { maxSteps := 4000000 }) (disch := omega) only [go_sem,hix,hat,b1,b2x]
    rfl
  ·rw [if_neg hm] at b2x
   obtain ⟨j,r,y5,y13,y14,y15,S',hj,hk,ih⟩ := loop44b p ic ib ik ir e hw C x1 x2 x3 x4 x6 x7 x8 x9 x10 x16 x17 x18 x19 x20 x21 x22 x23 x24 x25 x26 x27 k (i + 1) (.iv (.int .i64 x)) (.iv (.bool true)) (.iv (.bool false)) _ _ _ (by omega) (hs.putV b1 b2 a1 a2 x)
   rw [show ((i + 1 : Nat) : Int) = (i : Int) + 1 by omega] at ih
   refine ⟨j,r,y5,y13,y14,y15,S',?_,((Keep.set S (by simp) _).trans (Keep.set _ (by simp) _)).trans hk,loop_at K _ _ t44L2.eq_1 ?_⟩
   ·rw [hdr,addV,if_neg hm,List.reverse_cons,List.append_assoc]
    exact hj
   ·simp (config := { maxSteps := 4000000 }) (disch := omega) only [go_sem,hix,hat,b1,b2x,a1,get_setN,wrap_i64]
    exact congrArg er ih
theorem addV_mem : ∀ {l B B1 : List Int},addV l B = some B1 → (∀ v,v ∈ B1 ↔ v ∈ l ∨ v ∈ B) ∧ (∀ v ∈ l,v ∉ B) ∧ l.Nodup
 | [],B,B1,h => by simp [addV] at h; subst h; simp
 | x :: r,B,B1,h => by
  unfold addV at h
  split at h
  ·cases h
  ·rename_i hx
   obtain ⟨h1,h2,h3⟩ := addV_mem h
   refine ⟨fun v => ?_,?_,?_⟩
   ·rw [h1 v]
    simp only [List.mem_cons]
    constructor
    ·rintro (h | h | h)
     ·exact .inl (.inr h)
     ·exact .inl (.inl h)
     ·exact .inr h
    ·rintro ((h | h) | h)
     ·exact .inr (.inl h)
     ·exact .inl h
     ·exact .inr (.inr h)
   ·intro v hv
    rcases List.mem_cons.1 hv with rfl | hv
    ·exact hx
    ·exact fun hb => h2 v hv (List.mem_cons_of_mem _ hb)
   ·rw [List.nodup_cons]
    exact ⟨fun hm => h2 x hm (by simp),h3⟩
theorem CkS.delA {p : Pg} {ic ib ik ir : Nat} {S : Store} {B C A : List Int} (h : CkS p ic ib ik ir S B C A) {la : List (Nat × Int × Int)} {ca : Nat} (a1 : S[ir]? = some (.mp (mpR boxI la) ca)) (a2 : ∀ v,cntR la v = if v ∈ A then 1 else 0) (k : Int) {A' : List Int} (ha : ∀ v,v ∈ A' ↔ v ∈ A ∧ v ≠ k) :
  CkS p ic ib ik ir (S.set ir (.mp (mpR boxI (putR la ca k 0)) (clkR la ca k))) B C A' := by
 refine ⟨h.cb,h.ck,h.cr,h.bk,h.br,h.kr,?_,h.b.keep (get_setN (Ne.symm h.br) _),h.c.keep (get_setN (Ne.symm h.kr) _),MapHas.del a1 a2 k ha,fun v hv => h.sub v ((ha v).1 hv).1⟩
 rw [get_setN (Ne.symm h.cr)]; exact h.at'
theorem loop44u (p : Pg) (ic ib ik ir : Nat) (e : Ex) (hw : e.w ≤ 1048576) (B C : List Int) (x1 x2 x3 x4 x5 x6 x7 x9 x10 x11 x12 x13 x14 x15 x16 x17 x18 x19 x20 x21 x22 x23 : TV) : ∀ (k i : Nat) (x8 x27 : TV) (S : Store) (A : List Int),i + k = e.vs.length → CkS p ic ib ik ir S B C A →
  ∃ y8 y27 S',(∀ A',(∀ v,v ∈ A' ↔ v ∈ A ∧ v ∉ e.vs.drop i) → CkS p ic ib ik ir S' B C A') ∧ Keep [ib,ik,ir] S S' ∧
   lp' (lim K) t44L0 [.ptr ic 58 0,x1,x2,x3,x4,x5,x6,x7,x8,x9,x10,x11,x12,x13,x14,x15,x16,x17,x18,x19,x20,x21,x22,x23,.iv (.sl e.gv (TM.one (.int .i64) e.vs)),.iv (.int .i64 e.vs.length),.iv (.int .i64 (i : Int)),x27] S
    = .ret (.exit 5,[.ptr ic 58 0,x1,x2,x3,x4,x5,x6,x7,y8,x9,x10,x11,x12,x13,x14,x15,x16,x17,x18,x19,x20,x21,x22,x23,.iv (.sl e.gv (TM.one (.int .i64) e.vs)),.iv (.int .i64 e.vs.length),.iv (.int .i64 e.vs.length),y27],S')
 | 0,i,x8,x27,S,A,h,hs => by
  obtain rfl : i = e.vs.length := by omega
  refine ⟨?_,?_,S,fun A' ha => hs.congrA (fun v => by rw [ha v,List.drop_length]; simp),.refl _ _,loop_at K _ _ t44L0.eq_1 ?_⟩
  rotate_left 2
  ·simp (config := { maxSteps := 4000000 }) (disch := omega) only [go_sem]
   rfl
 | k + 1,i,x8,x27,S,A,h,hs => by
  have hwe := Ex.w_eq e
  have hla : i < e.vs.length := by omega
  have hix := ix_one (f := IV.int .i64) (t := e.gv) (l := e.vs) (i := (i : Int)) (by omega)
  rw [Int.toNat_natCast] at hix
  have hdr := drop_get hla
  obtain ⟨la,ca,a1,a2⟩ := hs.a
  have hat := hs.at'
  generalize hx : e.vs.getD i default = x at *
  obtain ⟨y8,y27,S',hj,hk,ih⟩ := loop44u p ic ib ik ir e hw B C x1 x2 x3 x4 x5 x6 x7 x9 x10 x11 x12 x13 x14 x15 x16 x17 x18 x19 x20 x21 x22 x23 k (i + 1) (.iv (.int .i64 x)) (.iv (.bool true)) _ (A.filter fun v => decide (v ≠ x)) (by omega) (hs.delA a1 a2 x (fun v => by simp))
  rw [show ((i + 1 : Nat) : Int) = (i : Int) + 1 by omega] at ih
  refine ⟨y8,y27,S',fun A' ha => hj A' (fun v => ?_),(Keep.set S (by simp) _).trans hk,loop_at K _ _ t44L0.eq_1 ?_⟩
  ·rw [ha v,hdr]
   simp only [List.mem_cons,not_or,List.mem_filter,decide_eq_true_eq]
   constructor
   ·rintro ⟨h1,h2,h3⟩; exact ⟨⟨h1,h2⟩,h3⟩
   ·rintro ⟨⟨h1,h2⟩,h3⟩; exact ⟨h1,h2,h3⟩
  ·simp (config := { maxSteps := 4000000 }) (disch := omega) only [go_sem,hix,hat,a1,wrap_i64]
   exact congrArg er ih
def ChkOK (p : Pg) (ic ib ik ir : Nat) (N : Nat) : Prop := ∀ (e : Ex) (depth : Nat) (S : Store) (B C A : List Int),e.w ≤ N → depth ≤ 4000 → CkS p ic ib ik ir S B C A →
 ∃ S',(lim K).call 44 [.ptr ic 58 0,.iv (.agg (encE e)),.iv (.int .i64 depth)] S = .ret (.iv (.int .i64 (chk p e depth B C A).1),S') ∧ Keep [ib,ik,ir] S S' ∧ ((chk p e depth B C A).1 = 0 → CkS p ic ib ik ir S' (chk p e depth B C A).2.1 (chk p e depth B C A).2.2 A)
theorem loop44k {N : Nat} (p : Pg) (ic ib ik ir : Nat) (ih : ChkOK p ic ib ik ir N) (e : Ex) (hw : e.w ≤ N + 1) (hN : N + 1 ≤ 1048576) (depth : Nat) (hd : depth < 4000) (A : List Int) (x1 x3 x4 x5 x8 x9 x10 x11 x12 x13 x14 x15 x16 x17 x18 x24 x25 x26 x27 : TV) : ∀ (k i : Nat) (x6 x7 x22 x23 : TV) (S : Store) (B C : List Int),i + k = e.ks.length → CkS p ic ib ik ir S B C A →
  ∃ j r y6 y7 y21 y22 y23 S',(j = .ret ∧ r = .iv (.int .i64 (chks p (e.ks.drop i) (depth + 1) B C A).1) ∧ (chks p (e.ks.drop i) (depth + 1) B C A).1 ≠ 0 ∨ j = .exit 3 ∧ r = x4 ∧ (chks p (e.ks.drop i) (depth + 1) B C A).1 = 0 ∧ CkS p ic ib ik ir S' (chks p (e.ks.drop i) (depth + 1) B C A).2.1 (chks p (e.ks.drop i) (depth + 1) B C A).2.2 A) ∧ Keep [ib,ik,ir] S S' ∧
   lp' (lim K) t44L1 [.ptr ic 58 0,x1,.iv (.int .i64 depth),x3,x4,x5,x6,x7,x8,x9,x10,x11,x12,x13,x14,x15,x16,x17,x18,.iv (.sl e.g (encEs e.ks)),.iv (.int .i64 e.ks.length),.iv (.int .i64 (i : Int)),x22,x23,x24,x25,x26,x27] S
    = .ret (j,[.ptr ic 58 0,x1,.iv (.int .i64 depth),x3,r,x5,y6,y7,x8,x9,x10,x11,x12,x13,x14,x15,x16,x17,x18,.iv (.sl e.g (encEs e.ks)),.iv (.int .i64 e.ks.length),y21,y22,y23,x24,x25,x26,x27],S')
 | 0,i,x6,x7,x22,x23,S,B,C,h,hs => by
  obtain rfl : i = e.ks.length := by omega
  refine ⟨.exit 3,x4,?_,?_,?_,?_,?_,S,.inr ⟨rfl,rfl,by rw [List.drop_length,chks],by rw [List.drop_length,chks]; exact hs⟩,.refl _ _,loop_at K _ _ t44L1.eq_1 ?_⟩
  rotate_left 5
  ·simp (config := { maxSteps := 4000000 }) (disch := omega) only [go_sem]
   rfl
 | k + 1,i,x6,x7,x22,x23,S,B,C,h,hs => by
  have hla : i < e.ks.length := by omega
  have hwe := Ex.w_eq e
  have hwl := Ex.ws_len e.ks
  have hix := ixE (g := e.g) (ks := e.ks) (i := (i : Int)) (by omega)
  rw [Int.toNat_natCast] at hix
  have hdr := drop_get hla
  have hkw := Ex.kid_lt (d := e) (get_mem hla)
  generalize hx : e.ks.getD i default = x at *
  obtain ⟨S1,hc,hk1,hs1⟩ := ih x (depth + 1) S B C A (by omega) (by omega) hs
  rw [show ((depth + 1 : Nat) : Int) = (depth : Int) + 1 by omega] at hc
  rw [encE_eq] at hc
  have hun : chks p (x :: e.ks.drop (i + 1)) (depth + 1) B C A = if (chk p x (depth + 1) B C A).1 = 0 then chks p (e.ks.drop (i + 1)) (depth + 1) (chk p x (depth + 1) B C A).2.1 (chk p x (depth + 1) B C A).2.2 A else chk p x (depth + 1) B C A := by
   rw [chks]
  rw [hdr,hun]
  generalize hq : chk p x (depth + 1) B C A = q at *
  obtain ⟨f,B1,C1⟩ := q
  simp only at hc hs1 ⊢
  by_cases hf : f = 0
  ·obtain ⟨j,r,y6,y7,y21,y22,y23,S',hj,hk,ih2⟩ := loop44k p ic ib ik ir ih e hw hN depth hd A x1 x3 x4 x5 x8 x9 x10 x11 x12 x13 x14 x15 x16 x17 x18 x24 x25 x26 x27 k (i + 1) (lbE x) (.iv (.int .i64 f)) (.iv (.bool true)) (.iv (.bool false)) S1 B1 C1 (by omega) (hs1 hf)
   rw [show ((i + 1 : Nat) : Int) = (i : Int) + 1 by omega] at ih2
   refine ⟨j,r,y6,y7,y21,y22,y23,S',?_,hk1.trans hk,loop_at K _ _ t44L1.eq_1 ?_⟩
   ·rw [if_pos hf]; exact hj
   ·simp (config := { maxSteps := 4000000 }) (disch := omega) only [go_sem,hix,getE5,hc,wrap_i64]
    exact congrArg er ih2
  ·refine ⟨.ret,.iv (.int .i64 f),?_,?_,?_,?_,?_,S1,.inl ⟨rfl,by rw [if_neg hf],by rw [if_neg hf]; exact hf⟩,hk1,loop_at K _ _ t44L1.eq_1 ?_⟩
   rotate_left 5
   ·simp (config := { maxSteps := 4000000 }) (disch := omega) only [go_sem,hix,getE5,hc,wrap_i64]
    rfl
theorem frm_tf (p : Pg) (ib ik ir ic : Nat) (e : Ex) (hw : e.w ≤ 1048576) (S : Store) (hc : S[ic]? = some (ckB p ib ik ir)) (hcl : p.cs.length ≤ 2000000) (kids : Int) (word : List UInt8) (is : Bool) (hs : ofF e.k e.n = ⟨true,kids,false,word,is⟩) (h7 : e.k ≠ 7) : Ends p ib ik ir ic e S (frmF p e) := by
 have hwe := Ex.w_eq e
 have hwl := Ex.ws_len e.ks
 have h74 := call74 e []
 rw [hs] at h74
 simp only [encS] at h74
 have hlt := lt_get hc
 have h119 := call119
 have hk1 := Keep.app [] S [Block.cells 55 false [.ptr ic 58 0]]
 have hk2 := hk1.trans (Keep.app [] _ [Block.cells 135 false [.fn 119 [] []]])
 have hc1 : (S ++ [Block.cells 55 false [.ptr ic 58 0]])[ic]? = some (ckB p ib ik ir) := get_appO hc _
 have hc2 : (S ++ [Block.cells 55 false [.ptr ic 58 0]] ++ [Block.cells 135 false [.fn 119 [] []]])[ic]? = some (ckB p ib ik ir) := get_appO hc1 _
 have h120 := call120 121 (fun v => !decide (0 ≤ v ∧ v < p.vr)) (S ++ [Block.cells 55 false [TV.ptr ic 58 0]]).length 135 S.length 55 e.gv e.vs (by omega) _ (fun x _ => call121 p ib ik ir ic S.length (S ++ [Block.cells 55 false [.ptr ic 58 0]]).length x (S ++ [Block.cells 55 false [.ptr ic 58 0]] ++ [Block.cells 135 false [.fn 119 [] []]]) hc2 (get_app2 ..) (get_app1 ..))
 have hf : frmF p e = (!(!is || decide ((e.ks.length : Int) < kids) || (decide (kids < e.ks.length) && !false) || (!true && decide (e.n ≠ 0)) || (decide (e.k ≠ 7) && (decide (0 < e.vs.length) || e.r)) || (e.r && decide (e.vs.length = 0))) && frmB p e) := by
  unfold frmF frmA; rw [hs]
 rw [hf]
 clear hf hs
 unfold frmB
 rw [encE_eq] at h74
 unfold Ends
 rw [encE_eq]
 generalize e.r = r at h74 ⊢
 cases is
 ·exact ⟨_,call_ret' K _ (fn := t87) rfl rfl (by simp (config := { maxSteps := 4000000 }) (disch := omega) only [t87,go_sem,TM.undef,h74,encEs_len,TM.one_length,Bool.true_or,Bool.or_true,Bool.false_or,Bool.or_false,Bool.true_and,Bool.false_and,Bool.and_true,Bool.and_false,Bool.not_true,Bool.not_false,not_any] <;> simp (disch := omega) only [go_sem,Bool.true_or,Bool.or_true,Bool.false_or,Bool.or_false,Bool.true_and,Bool.false_and,Bool.and_true,Bool.and_false,Bool.not_true,Bool.not_false,not_any]),hk1⟩
 by_cases b1 : (e.ks.length : Int) < kids
 ·exact ⟨_,call_ret' K _ (fn := t87) rfl rfl (by simp (config := { maxSteps := 4000000 }) (disch := omega) only [t87,go_sem,TM.undef,h74,encEs_len,TM.one_length,Bool.true_or,Bool.or_true,Bool.false_or,Bool.or_false,Bool.true_and,Bool.false_and,Bool.and_true,Bool.and_false,Bool.not_true,Bool.not_false,not_any] <;> simp (disch := omega) only [go_sem,Bool.true_or,Bool.or_true,Bool.false_or,Bool.or_false,Bool.true_and,Bool.false_and,Bool.and_true,Bool.and_false,Bool.not_true,Bool.not_false,not_any]),hk1⟩
 by_cases b2 : kids < (e.ks.length : Int)
 ·exact ⟨_,call_ret' K _ (fn := t87) rfl rfl (by simp (config := { maxSteps := 4000000 }) (disch := omega) only [t87,go_sem,TM.undef,h74,encEs_len,TM.one_length,Bool.true_or,Bool.or_true,Bool.false_or,Bool.or_false,Bool.true_and,Bool.false_and,Bool.and_true,Bool.and_false,Bool.not_true,Bool.not_false,not_any] <;> simp (disch := omega) only [go_sem,Bool.true_or,Bool.or_true,Bool.false_or,Bool.or_false,Bool.true_and,Bool.false_and,Bool.and_true,Bool.and_false,Bool.not_true,Bool.not_false,not_any]),hk1⟩
 by_cases b4 : 0 < e.vs.length
 ·exact ⟨_,call_ret' K _ (fn := t87) rfl rfl (by simp (config := { maxSteps := 4000000 }) (disch := omega) only [t87,go_sem,TM.undef,h74,encEs_len,TM.one_length,Bool.true_or,Bool.or_true,Bool.false_or,Bool.or_false,Bool.true_and,Bool.false_and,Bool.and_true,Bool.and_false,Bool.not_true,Bool.not_false,not_any] <;> simp (disch := omega) only [go_sem,Bool.true_or,Bool.or_true,Bool.false_or,Bool.or_false,Bool.true_and,Bool.false_and,Bool.and_true,Bool.and_false,Bool.not_true,Bool.not_false,not_any]),hk1⟩
 cases r
 rotate_left
 ·exact ⟨_,call_ret' K _ (fn := t87) rfl rfl (by simp (config := { maxSteps := 4000000 }) (disch := omega) only [t87,go_sem,TM.undef,h74,encEs_len,TM.one_length,Bool.true_or,Bool.or_true,Bool.false_or,Bool.or_false,Bool.true_and,Bool.false_and,Bool.and_true,Bool.and_false,Bool.not_true,Bool.not_false,not_any] <;> simp (disch := omega) only [go_sem,Bool.true_or,Bool.or_true,Bool.false_or,Bool.or_false,Bool.true_and,Bool.false_and,Bool.and_true,Bool.and_false,Bool.not_true,Bool.not_false,not_any]),hk1⟩
 by_cases k1 : e.k = 1
 ·exact ⟨_,call_ret' K _ (fn := t87) rfl rfl (by simp (config := { maxSteps := 4000000 }) (disch := omega) only [t87,go_sem,TM.undef,h74,encEs_len,TM.one_length,Bool.true_or,Bool.or_true,Bool.false_or,Bool.or_false,Bool.true_and,Bool.false_and,Bool.and_true,Bool.and_false,Bool.not_true,Bool.not_false,not_any,hc1,hc2,get_app1,get_app2,set_app1,h119,h120,encDs_len] <;> simp (disch := omega) only [go_sem,Bool.true_or,Bool.or_true,Bool.false_or,Bool.or_false,Bool.true_and,Bool.false_and,Bool.and_true,Bool.and_false,Bool.not_true,Bool.not_false,not_any]),hk2⟩
 by_cases k2 : e.k = 2
 ·exact ⟨_,call_ret' K _ (fn := t87) rfl rfl (by simp (config := { maxSteps := 4000000 }) (disch := omega) only [t87,go_sem,TM.undef,h74,encEs_len,TM.one_length,Bool.true_or,Bool.or_true,Bool.false_or,Bool.or_false,Bool.true_and,Bool.false_and,Bool.and_true,Bool.and_false,Bool.not_true,Bool.not_false,not_any,hc1,hc2,get_app1,get_app2,set_app1,h119,h120] <;> simp (disch := omega) only [go_sem,Bool.true_or,Bool.or_true,Bool.false_or,Bool.or_false,Bool.true_and,Bool.false_and,Bool.and_true,Bool.and_false,Bool.not_true,Bool.not_false,not_any]),hk2⟩
 by_cases k4 : e.k = 4
 ·exact ⟨_,call_ret' K _ (fn := t87) rfl rfl (by simp (config := { maxSteps := 4000000 }) (disch := omega) only [t87,go_sem,TM.undef,h74,encEs_len,TM.one_length,Bool.true_or,Bool.or_true,Bool.false_or,Bool.or_false,Bool.true_and,Bool.false_and,Bool.and_true,Bool.and_false,Bool.not_true,Bool.not_false,not_any,hc1,hc2,get_app1,get_app2,set_app1,h119,h120] <;> simp (disch := omega) only [go_sem,Bool.true_or,Bool.or_true,Bool.false_or,Bool.or_false,Bool.true_and,Bool.false_and,Bool.and_true,Bool.and_false,Bool.not_true,Bool.not_false,not_any]),hk2⟩
 by_cases k3 : e.k = 3
 ·exact ⟨_,call_ret' K _ (fn := t87) rfl rfl (by simp (config := { maxSteps := 4000000 }) (disch := omega) only [t87,go_sem,TM.undef,h74,encEs_len,TM.one_length,Bool.true_or,Bool.or_true,Bool.false_or,Bool.or_false,Bool.true_and,Bool.false_and,Bool.and_true,Bool.and_false,Bool.not_true,Bool.not_false,not_any,hc1,hc2,get_app1,get_app2,set_app1,h119,h120] <;> simp (disch := omega) only [go_sem,Bool.true_or,Bool.or_true,Bool.false_or,Bool.or_false,Bool.true_and,Bool.false_and,Bool.and_true,Bool.and_false,Bool.not_true,Bool.not_false,not_any]),hk2⟩
 by_cases k5 : e.k = 5
 ·exact ⟨_,call_ret' K _ (fn := t87) rfl rfl (by simp (config := { maxSteps := 4000000 }) (disch := omega) only [t87,go_sem,TM.undef,h74,encEs_len,TM.one_length,Bool.true_or,Bool.or_true,Bool.false_or,Bool.or_false,Bool.true_and,Bool.false_and,Bool.and_true,Bool.and_false,Bool.not_true,Bool.not_false,not_any,hc1,hc2,get_app1,get_app2,set_app1,h119,h120] <;> simp (disch := omega) only [go_sem,Bool.true_or,Bool.or_true,Bool.false_or,Bool.or_false,Bool.true_and,Bool.false_and,Bool.and_true,Bool.and_false,Bool.not_true,Bool.not_false,not_any]),hk2⟩
 exact ⟨_,call_ret' K _ (fn := t87) rfl rfl (by simp (config := { maxSteps := 4000000 }) (disch := omega) only [t87,go_sem,TM.undef,h74,encEs_len,TM.one_length,Bool.true_or,Bool.or_true,Bool.false_or,Bool.or_false,Bool.true_and,Bool.false_and,Bool.and_true,Bool.and_false,Bool.not_true,Bool.not_false,not_any,hc1,hc2,get_app1,get_app2,set_app1,h119,h120] <;> simp (disch := omega) only [go_sem,Bool.true_or,Bool.or_true,Bool.false_or,Bool.or_false,Bool.true_and,Bool.false_and,Bool.and_true,Bool.and_false,Bool.not_true,Bool.not_false,not_any]),hk2⟩
theorem frm_ff (p : Pg) (ib ik ir ic : Nat) (e : Ex) (hw : e.w ≤ 1048576) (S : Store) (hc : S[ic]? = some (ckB p ib ik ir)) (hcl : p.cs.length ≤ 2000000) (kids : Int) (word : List UInt8) (is : Bool) (hs : ofF e.k e.n = ⟨false,kids,false,word,is⟩) (hk : e.k ≠ 1 ∧ e.k ≠ 2 ∧ e.k ≠ 3 ∧ e.k ≠ 4 ∧ e.k ≠ 5) : Ends p ib ik ir ic e S (frmF p e) := by
 have hwe := Ex.w_eq e
 have hwl := Ex.ws_len e.ks
 have h74 := call74 e []
 rw [hs] at h74
 simp only [encS] at h74
 have hlt := lt_get hc
 have h119 := call119
 have hk1 := Keep.app [] S [Block.cells 55 false [.ptr ic 58 0]]
 have hk2 := hk1.trans (Keep.app [] _ [Block.cells 135 false [.fn 119 [] []]])
 have hc1 : (S ++ [Block.cells 55 false [.ptr ic 58 0]])[ic]? = some (ckB p ib ik ir) := get_appO hc _
 have hc2 : (S ++ [Block.cells 55 false [.ptr ic 58 0]] ++ [Block.cells 135 false [.fn 119 [] []]])[ic]? = some (ckB p ib ik ir) := get_appO hc1 _
 have h120 := call120 121 (fun v => !decide (0 ≤ v ∧ v < p.vr)) (S ++ [Block.cells 55 false [TV.ptr ic 58 0]]).length 135 S.length 55 e.gv e.vs (by omega) _ (fun x _ => call121 p ib ik ir ic S.length (S ++ [Block.cells 55 false [.ptr ic 58 0]]).length x (S ++ [Block.cells 55 false [.ptr ic 58 0]] ++ [Block.cells 135 false [.fn 119 [] []]]) hc2 (get_app2 ..) (get_app1 ..))
 have hf : frmF p e = (!(!is || decide ((e.ks.length : Int) < kids) || (decide (kids < e.ks.length) && !false) || (!false && decide (e.n ≠ 0)) || (decide (e.k ≠ 7) && (decide (0 < e.vs.length) || e.r)) || (e.r && decide (e.vs.length = 0))) && frmB p e) := by
  unfold frmF frmA; rw [hs]
 rw [hf]
 clear hf hs
 unfold frmB
 rw [encE_eq] at h74
 unfold Ends
 rw [encE_eq]
 generalize e.r = r at h74 ⊢
 cases is
 ·exact ⟨_,call_ret' K _ (fn := t87) rfl rfl (by simp (config := { maxSteps := 4000000 }) (disch := omega) only [t87,go_sem,TM.undef,h74,encEs_len,TM.one_length,Bool.true_or,Bool.or_true,Bool.false_or,Bool.or_false,Bool.true_and,Bool.false_and,Bool.and_true,Bool.and_false,Bool.not_true,Bool.not_false,not_any] <;> simp (disch := omega) only [go_sem,Bool.true_or,Bool.or_true,Bool.false_or,Bool.or_false,Bool.true_and,Bool.false_and,Bool.and_true,Bool.and_false,Bool.not_true,Bool.not_false,not_any]),hk1⟩
 by_cases b1 : (e.ks.length : Int) < kids
 ·exact ⟨_,call_ret' K _ (fn := t87) rfl rfl (by simp (config := { maxSteps := 4000000 }) (disch := omega) only [t87,go_sem,TM.undef,h74,encEs_len,TM.one_length,Bool.true_or,Bool.or_true,Bool.false_or,Bool.or_false,Bool.true_and,Bool.false_and,Bool.and_true,Bool.and_false,Bool.not_true,Bool.not_false,not_any] <;> simp (disch := omega) only [go_sem,Bool.true_or,Bool.or_true,Bool.false_or,Bool.or_false,Bool.true_and,Bool.false_and,Bool.and_true,Bool.and_false,Bool.not_true,Bool.not_false,not_any]),hk1⟩
 by_cases b2 : kids < (e.ks.length : Int)
 ·exact ⟨_,call_ret' K _ (fn := t87) rfl rfl (by simp (config := { maxSteps := 4000000 }) (disch := omega) only [t87,go_sem,TM.undef,h74,encEs_len,TM.one_length,Bool.true_or,Bool.or_true,Bool.false_or,Bool.or_false,Bool.true_and,Bool.false_and,Bool.and_true,Bool.and_false,Bool.not_true,Bool.not_false,not_any] <;> simp (disch := omega) only [go_sem,Bool.true_or,Bool.or_true,Bool.false_or,Bool.or_false,Bool.true_and,Bool.false_and,Bool.and_true,Bool.and_false,Bool.not_true,Bool.not_false,not_any]),hk1⟩
 by_cases b3 : e.n = 0
 rotate_left
 ·exact ⟨_,call_ret' K _ (fn := t87) rfl rfl (by simp (config := { maxSteps := 4000000 }) (disch := omega) only [t87,go_sem,TM.undef,h74,encEs_len,TM.one_length,Bool.true_or,Bool.or_true,Bool.false_or,Bool.or_false,Bool.true_and,Bool.false_and,Bool.and_true,Bool.and_false,Bool.not_true,Bool.not_false,not_any] <;> simp (disch := omega) only [go_sem,Bool.true_or,Bool.or_true,Bool.false_or,Bool.or_false,Bool.true_and,Bool.false_and,Bool.and_true,Bool.and_false,Bool.not_true,Bool.not_false,not_any]),hk1⟩
 by_cases k7 : e.k = 7
 ·cases r
  ·exact ⟨_,call_ret' K _ (fn := t87) rfl rfl (by simp (config := { maxSteps := 4000000 }) (disch := omega) only [t87,go_sem,TM.undef,h74,encEs_len,TM.one_length,Bool.true_or,Bool.or_true,Bool.false_or,Bool.or_false,Bool.true_and,Bool.false_and,Bool.and_true,Bool.and_false,Bool.not_true,Bool.not_false,not_any,hc1,hc2,get_app1,get_app2,set_app1,h119,h120] <;> simp (disch := omega) only [go_sem,Bool.true_or,Bool.or_true,Bool.false_or,Bool.or_false,Bool.true_and,Bool.false_and,Bool.and_true,Bool.and_false,Bool.not_true,Bool.not_false,not_any]),hk2⟩
  ·by_cases b5 : e.vs.length = 0
   ·exact ⟨_,call_ret' K _ (fn := t87) rfl rfl (by simp (config := { maxSteps := 4000000 }) (disch := omega) only [t87,go_sem,TM.undef,h74,encEs_len,TM.one_length,Bool.true_or,Bool.or_true,Bool.false_or,Bool.or_false,Bool.true_and,Bool.false_and,Bool.and_true,Bool.and_false,Bool.not_true,Bool.not_false,not_any] <;> simp (disch := omega) only [go_sem,Bool.true_or,Bool.or_true,Bool.false_or,Bool.or_false,Bool.true_and,Bool.false_and,Bool.and_true,Bool.and_false,Bool.not_true,Bool.not_false,not_any]),hk1⟩
   ·exact ⟨_,call_ret' K _ (fn := t87) rfl rfl (by simp (config := { maxSteps := 4000000 }) (disch := omega) only [t87,go_sem,TM.undef,h74,encEs_len,TM.one_length,Bool.true_or,Bool.or_true,Bool.false_or,Bool.or_false,Bool.true_and,Bool.false_and,Bool.and_true,Bool.and_false,Bool.not_true,Bool.not_false,not_any,hc1,hc2,get_app1,get_app2,set_app1,h119,h120] <;> simp (disch := omega) only [go_sem,Bool.true_or,Bool.or_true,Bool.false_or,Bool.or_false,Bool.true_and,Bool.false_and,Bool.and_true,Bool.and_false,Bool.not_true,Bool.not_false,not_any]),hk2⟩
 by_cases b4 : 0 < e.vs.length
 ·exact ⟨_,call_ret' K _ (fn := t87) rfl rfl (by simp (config := { maxSteps := 4000000 }) (disch := omega) only [t87,go_sem,TM.undef,h74,encEs_len,TM.one_length,Bool.true_or,Bool.or_true,Bool.false_or,Bool.or_false,Bool.true_and,Bool.false_and,Bool.and_true,Bool.and_false,Bool.not_true,Bool.not_false,not_any] <;> simp (disch := omega) only [go_sem,Bool.true_or,Bool.or_true,Bool.false_or,Bool.or_false,Bool.true_and,Bool.false_and,Bool.and_true,Bool.and_false,Bool.not_true,Bool.not_false,not_any]),hk1⟩
 cases r
 rotate_left
 ·exact ⟨_,call_ret' K _ (fn := t87) rfl rfl (by simp (config := { maxSteps := 4000000 }) (disch := omega) only [t87,go_sem,TM.undef,h74,encEs_len,TM.one_length,Bool.true_or,Bool.or_true,Bool.false_or,Bool.or_false,Bool.true_and,Bool.false_and,Bool.and_true,Bool.and_false,Bool.not_true,Bool.not_false,not_any] <;> simp (disch := omega) only [go_sem,Bool.true_or,Bool.or_true,Bool.false_or,Bool.or_false,Bool.true_and,Bool.false_and,Bool.and_true,Bool.and_false,Bool.not_true,Bool.not_false,not_any]),hk1⟩
 exact ⟨_,call_ret' K _ (fn := t87) rfl rfl (by simp (config := { maxSteps := 4000000 }) (disch := omega) only [t87,go_sem,TM.undef,h74,encEs_len,TM.one_length,Bool.true_or,Bool.or_true,Bool.false_or,Bool.or_false,Bool.true_and,Bool.false_and,Bool.and_true,Bool.and_false,Bool.not_true,Bool.not_false,not_any,hc1,hc2,get_app1,get_app2,set_app1,h119,h120] <;> simp (disch := omega) only [go_sem,Bool.true_or,Bool.or_true,Bool.false_or,Bool.or_false,Bool.true_and,Bool.false_and,Bool.and_true,Bool.and_false,Bool.not_true,Bool.not_false,not_any]),hk2⟩
theorem frm_ft (p : Pg) (ib ik ir ic : Nat) (e : Ex) (hw : e.w ≤ 1048576) (S : Store) (hc : S[ic]? = some (ckB p ib ik ir)) (hcl : p.cs.length ≤ 2000000) (kids : Int) (word : List UInt8) (is : Bool) (hs : ofF e.k e.n = ⟨false,kids,true,word,is⟩) (h7 : e.k ≠ 7) (hk : e.k ≠ 1 ∧ e.k ≠ 2 ∧ e.k ≠ 3 ∧ e.k ≠ 4 ∧ e.k ≠ 5) : Ends p ib ik ir ic e S (frmF p e) := by
 have hwe := Ex.w_eq e
 have hwl := Ex.ws_len e.ks
 have h74 := call74 e []
 rw [hs] at h74
 simp only [encS] at h74
 have hlt := lt_get hc
 have h119 := call119
 have hk1 := Keep.app [] S [Block.cells 55 false [.ptr ic 58 0]]
 have hk2 := hk1.trans (Keep.app [] _ [Block.cells 135 false [.fn 119 [] []]])
 have hc1 : (S ++ [Block.cells 55 false [.ptr ic 58 0]])[ic]? = some (ckB p ib ik ir) := get_appO hc _
 have hc2 : (S ++ [Block.cells 55 false [.ptr ic 58 0]] ++ [Block.cells 135 false [.fn 119 [] []]])[ic]? = some (ckB p ib ik ir) := get_appO hc1 _
 have h120 := call120 121 (fun v => !decide (0 ≤ v ∧ v < p.vr)) (S ++ [Block.cells 55 false [TV.ptr ic 58 0]]).length 135 S.length 55 e.gv e.vs (by omega) _ (fun x _ => call121 p ib ik ir ic S.length (S ++ [Block.cells 55 false [.ptr ic 58 0]]).length x (S ++ [Block.cells 55 false [.ptr ic 58 0]] ++ [Block.cells 135 false [.fn 119 [] []]]) hc2 (get_app2 ..) (get_app1 ..))
 have hf : frmF p e = (!(!is || decide ((e.ks.length : Int) < kids) || (decide (kids < e.ks.length) && !true) || (!false && decide (e.n ≠ 0)) || (decide (e.k ≠ 7) && (decide (0 < e.vs.length) || e.r)) || (e.r && decide (e.vs.length = 0))) && frmB p e) := by
  unfold frmF frmA; rw [hs]
 rw [hf]
 clear hf hs
 unfold frmB
 rw [encE_eq] at h74
 unfold Ends
 rw [encE_eq]
 generalize e.r = r at h74 ⊢
 cases is
 ·exact ⟨_,call_ret' K _ (fn := t87) rfl rfl (by simp (config := { maxSteps := 4000000 }) (disch := omega) only [t87,go_sem,TM.undef,h74,encEs_len,TM.one_length,Bool.true_or,Bool.or_true,Bool.false_or,Bool.or_false,Bool.true_and,Bool.false_and,Bool.and_true,Bool.and_false,Bool.not_true,Bool.not_false,not_any] <;> simp (disch := omega) only [go_sem,Bool.true_or,Bool.or_true,Bool.false_or,Bool.or_false,Bool.true_and,Bool.false_and,Bool.and_true,Bool.and_false,Bool.not_true,Bool.not_false,not_any]),hk1⟩
 by_cases b1 : (e.ks.length : Int) < kids
 ·exact ⟨_,call_ret' K _ (fn := t87) rfl rfl (by simp (config := { maxSteps := 4000000 }) (disch := omega) only [t87,go_sem,TM.undef,h74,encEs_len,TM.one_length,Bool.true_or,Bool.or_true,Bool.false_or,Bool.or_false,Bool.true_and,Bool.false_and,Bool.and_true,Bool.and_false,Bool.not_true,Bool.not_false,not_any] <;> simp (disch := omega) only [go_sem,Bool.true_or,Bool.or_true,Bool.false_or,Bool.or_false,Bool.true_and,Bool.false_and,Bool.and_true,Bool.and_false,Bool.not_true,Bool.not_false,not_any]),hk1⟩
 by_cases b2 : kids < (e.ks.length : Int)
 ·by_cases b3 : e.n = 0
  rotate_left
  ·exact ⟨_,call_ret' K _ (fn := t87) rfl rfl (by simp (config := { maxSteps := 4000000 }) (disch := omega) only [t87,go_sem,TM.undef,h74,encEs_len,TM.one_length,Bool.true_or,Bool.or_true,Bool.false_or,Bool.or_false,Bool.true_and,Bool.false_and,Bool.and_true,Bool.and_false,Bool.not_true,Bool.not_false,not_any] <;> simp (disch := omega) only [go_sem,Bool.true_or,Bool.or_true,Bool.false_or,Bool.or_false,Bool.true_and,Bool.false_and,Bool.and_true,Bool.and_false,Bool.not_true,Bool.not_false,not_any]),hk1⟩
  by_cases b4 : 0 < e.vs.length
  ·exact ⟨_,call_ret' K _ (fn := t87) rfl rfl (by simp (config := { maxSteps := 4000000 }) (disch := omega) only [t87,go_sem,TM.undef,h74,encEs_len,TM.one_length,Bool.true_or,Bool.or_true,Bool.false_or,Bool.or_false,Bool.true_and,Bool.false_and,Bool.and_true,Bool.and_false,Bool.not_true,Bool.not_false,not_any] <;> simp (disch := omega) only [go_sem,Bool.true_or,Bool.or_true,Bool.false_or,Bool.or_false,Bool.true_and,Bool.false_and,Bool.and_true,Bool.and_false,Bool.not_true,Bool.not_false,not_any]),hk1⟩
  cases r
  rotate_left
  ·exact ⟨_,call_ret' K _ (fn := t87) rfl rfl (by simp (config := { maxSteps := 4000000 }) (disch := omega) only [t87,go_sem,TM.undef,h74,encEs_len,TM.one_length,Bool.true_or,Bool.or_true,Bool.false_or,Bool.or_false,Bool.true_and,Bool.false_and,Bool.and_true,Bool.and_false,Bool.not_true,Bool.not_false,not_any] <;> simp (disch := omega) only [go_sem,Bool.true_or,Bool.or_true,Bool.false_or,Bool.or_false,Bool.true_and,Bool.false_and,Bool.and_true,Bool.and_false,Bool.not_true,Bool.not_false,not_any]),hk1⟩
  exact ⟨_,call_ret' K _ (fn := t87) rfl rfl (by simp (config := { maxSteps := 4000000 }) (disch := omega) only [t87,go_sem,TM.undef,h74,encEs_len,TM.one_length,Bool.true_or,Bool.or_true,Bool.false_or,Bool.or_false,Bool.true_and,Bool.false_and,Bool.and_true,Bool.and_false,Bool.not_true,Bool.not_false,not_any,hc1,hc2,get_app1,get_app2,set_app1,h119,h120] <;> simp (disch := omega) only [go_sem,Bool.true_or,Bool.or_true,Bool.false_or,Bool.or_false,Bool.true_and,Bool.false_and,Bool.and_true,Bool.and_false,Bool.not_true,Bool.not_false,not_any]),hk2⟩
 by_cases b3 : e.n = 0
 rotate_left
 ·exact ⟨_,call_ret' K _ (fn := t87) rfl rfl (by simp (config := { maxSteps := 4000000 }) (disch := omega) only [t87,go_sem,TM.undef,h74,encEs_len,TM.one_length,Bool.true_or,Bool.or_true,Bool.false_or,Bool.or_false,Bool.true_and,Bool.false_and,Bool.and_true,Bool.and_false,Bool.not_true,Bool.not_false,not_any] <;> simp (disch := omega) only [go_sem,Bool.true_or,Bool.or_true,Bool.false_or,Bool.or_false,Bool.true_and,Bool.false_and,Bool.and_true,Bool.and_false,Bool.not_true,Bool.not_false,not_any]),hk1⟩
 by_cases b4 : 0 < e.vs.length
 ·exact ⟨_,call_ret' K _ (fn := t87) rfl rfl (by simp (config := { maxSteps := 4000000 }) (disch := omega) only [t87,go_sem,TM.undef,h74,encEs_len,TM.one_length,Bool.true_or,Bool.or_true,Bool.false_or,Bool.or_false,Bool.true_and,Bool.false_and,Bool.and_true,Bool.and_false,Bool.not_true,Bool.not_false,not_any] <;> simp (disch := omega) only [go_sem,Bool.true_or,Bool.or_true,Bool.false_or,Bool.or_false,Bool.true_and,Bool.false_and,Bool.and_true,Bool.and_false,Bool.not_true,Bool.not_false,not_any]),hk1⟩
 cases r
 rotate_left
 ·exact ⟨_,call_ret' K _ (fn := t87) rfl rfl (by simp (config := { maxSteps := 4000000 }) (disch := omega) only [t87,go_sem,TM.undef,h74,encEs_len,TM.one_length,Bool.true_or,Bool.or_true,Bool.false_or,Bool.or_false,Bool.true_and,Bool.false_and,Bool.and_true,Bool.and_false,Bool.not_true,Bool.not_false,not_any] <;> simp (disch := omega) only [go_sem,Bool.true_or,Bool.or_true,Bool.false_or,Bool.or_false,Bool.true_and,Bool.false_and,Bool.and_true,Bool.and_false,Bool.not_true,Bool.not_false,not_any]),hk1⟩
 exact ⟨_,call_ret' K _ (fn := t87) rfl rfl (by simp (config := { maxSteps := 4000000 }) (disch := omega) only [t87,go_sem,TM.undef,h74,encEs_len,TM.one_length,Bool.true_or,Bool.or_true,Bool.false_or,Bool.or_false,Bool.true_and,Bool.false_and,Bool.and_true,Bool.and_false,Bool.not_true,Bool.not_false,not_any,hc1,hc2,get_app1,get_app2,set_app1,h119,h120] <;> simp (disch := omega) only [go_sem,Bool.true_or,Bool.or_true,Bool.false_or,Bool.or_false,Bool.true_and,Bool.false_and,Bool.and_true,Bool.and_false,Bool.not_true,Bool.not_false,not_any]),hk2⟩
theorem call87 (p : Pg) (ib ik ir ic : Nat) (e : Ex) (hw : e.w ≤ 1048576) (S : Store) (hc : S[ic]? = some (ckB p ib ik ir)) (hcl : p.cs.length ≤ 2000000) : Ends p ib ik ir ic e S (frmF p e) := by
 have hs : ∃ num kids more word is,ofF e.k e.n = ⟨num,kids,more,word,is⟩ := ⟨_,_,_,_,_,rfl⟩
 obtain ⟨num,kids,more,word,is,hs⟩ := hs
 by_cases a : e.k = 1 ∨ e.k = 2 ∨ e.k = 3 ∨ e.k = 4 ∨ e.k = 5 ∨ e.k = 9
 ·have h1 : num = true ∧ more = false := by
   unfold ofF at hs
   rcases a with a | a | a | a | a | a <;> rw [a] at hs <;> simp at hs <;> (first | exact ⟨hs.1.symm,hs.2.2.1.symm⟩ | exact ⟨hs.1,hs.2.2.1⟩ | exact ⟨hs.1,hs.2.2.1.symm⟩ | exact ⟨hs.1.symm,hs.2.2.1⟩)
  obtain ⟨rfl,rfl⟩ := h1
  exact frm_tf p ib ik ir ic e hw S hc hcl kids word is hs (by omega)
 by_cases b : e.k = 8 ∨ e.k = 10
 ·have h1 : num = false ∧ more = true := by
   unfold ofF at hs
   rcases b with a | a <;> rw [a] at hs <;> simp at hs <;> (first | exact ⟨hs.1.symm,hs.2.2.1.symm⟩ | exact ⟨hs.1,hs.2.2.1⟩ | exact ⟨hs.1,hs.2.2.1.symm⟩ | exact ⟨hs.1.symm,hs.2.2.1⟩)
  obtain ⟨rfl,rfl⟩ := h1
  exact frm_ft p ib ik ir ic e hw S hc hcl kids word is hs (by omega) (by omega)
 by_cases c : e.k = 11 ∧ ¬ (e.n < 0 ∨ 2 < e.n)
 ·have h1 : num = true ∧ more = false := by
   unfold ofF at hs
   rw [c.1] at hs
   simp only [Int.reduceEq,↓reduceIte,if_neg c.2,Shp.mk.injEq] at hs
   (first | exact ⟨hs.1.symm,hs.2.2.1.symm⟩ | exact ⟨hs.1,hs.2.2.1⟩ | exact ⟨hs.1,hs.2.2.1.symm⟩ | exact ⟨hs.1.symm,hs.2.2.1⟩)
  obtain ⟨rfl,rfl⟩ := h1
  exact frm_tf p ib ik ir ic e hw S hc hcl kids word is hs (by omega)
 ·have h1 : num = false ∧ more = false := by
   unfold ofF at hs
   have e1 : e.k ≠ 1 := by omega
   have e2 : e.k ≠ 2 := by omega
   have e3 : e.k ≠ 3 := by omega
   have e4 : e.k ≠ 4 := by omega
   have e5 : e.k ≠ 5 := by omega
   have e8 : e.k ≠ 8 := by omega
   have e9 : e.k ≠ 9 := by omega
   have e10 : e.k ≠ 10 := by omega
   simp only [e1,e2,e3,e4,e5,e8,e9,e10,↓reduceIte] at hs
   by_cases e6 : e.k = 6
   ·simp [e6] at hs; (first | exact ⟨hs.1.symm,hs.2.2.1.symm⟩ | exact ⟨hs.1,hs.2.2.1⟩ | exact ⟨hs.1,hs.2.2.1.symm⟩ | exact ⟨hs.1.symm,hs.2.2.1⟩)
   by_cases e7 : e.k = 7
   ·simp [e7] at hs; (first | exact ⟨hs.1.symm,hs.2.2.1.symm⟩ | exact ⟨hs.1,hs.2.2.1⟩ | exact ⟨hs.1,hs.2.2.1.symm⟩ | exact ⟨hs.1.symm,hs.2.2.1⟩)
   by_cases e11 : e.k = 11
   ·have hn : e.n < 0 ∨ 2 < e.n := by
     rcases Classical.em (e.n < 0 ∨ 2 < e.n) with h | h
     ·exact h
     ·exact absurd ⟨e11,h⟩ c
    simp [e11,hn] at hs; (first | exact ⟨hs.1.symm,hs.2.2.1.symm⟩ | exact ⟨hs.1,hs.2.2.1⟩ | exact ⟨hs.1,hs.2.2.1.symm⟩ | exact ⟨hs.1.symm,hs.2.2.1⟩)
   by_cases e12 : e.k = 12
   ·simp [e12] at hs; (first | exact ⟨hs.1.symm,hs.2.2.1.symm⟩ | exact ⟨hs.1,hs.2.2.1⟩ | exact ⟨hs.1,hs.2.2.1.symm⟩ | exact ⟨hs.1.symm,hs.2.2.1⟩)
   by_cases e13 : e.k = 13
   ·simp [e13] at hs; (first | exact ⟨hs.1.symm,hs.2.2.1.symm⟩ | exact ⟨hs.1,hs.2.2.1⟩ | exact ⟨hs.1,hs.2.2.1.symm⟩ | exact ⟨hs.1.symm,hs.2.2.1⟩)
   by_cases e14 : e.k = 14
   ·simp [e14] at hs; (first | exact ⟨hs.1.symm,hs.2.2.1.symm⟩ | exact ⟨hs.1,hs.2.2.1⟩ | exact ⟨hs.1,hs.2.2.1.symm⟩ | exact ⟨hs.1.symm,hs.2.2.1⟩)
   simp [e6,e7,e11,e12,e13,e14] at hs; (first | exact ⟨hs.1.symm,hs.2.2.1.symm⟩ | exact ⟨hs.1,hs.2.2.1⟩ | exact ⟨hs.1,hs.2.2.1.symm⟩ | exact ⟨hs.1.symm,hs.2.2.1⟩)
  obtain ⟨rfl,rfl⟩ := h1
  exact frm_ff p ib ik ir ic e hw S hc hcl kids word is hs (by omega)
end Go.Proofs.YtookmpaholmmfaaGreatDoor
