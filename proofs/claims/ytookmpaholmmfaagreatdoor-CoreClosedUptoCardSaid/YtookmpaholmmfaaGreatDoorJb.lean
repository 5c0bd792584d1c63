/- Some texts of the proof, joined. Condition: none. -/
import Derived.Test.YtookmpaholmmfaaGreatDoorJa
import Derived.Test.YtookmpaholmmfaaGreatDoorTmF
set_option maxRecDepth 100000
set_option maxHeartbeats 64000000
set_option linter.unusedSimpArgs false
set_option linter.unusedVariables false
namespace Go.Proofs.YtookmpaholmmfaaGreatDoor
open Go Go.TM
theorem loop115 (f : Nat) (act : Dt → Bool) (g : Tag) (ks : List Dt) (hl : ks.length ≤ 2000000) (hf : ∀ x ∈ ks,TM.Pure K f [.iv (.agg (encD x))] (.iv (.bool (act x)))) (x2 : TV) (S : Store) : ∀ (k i : Nat) (x3 x6 x7 : TV),i + k = ks.length →
    ∃ j r y3 y5 y6 y7,(j = .ret ∧ (∃ n : Int,r = .iv (.int .i64 n) ∧ 0 ≤ n) ∧ (ks.drop i).any act = true ∨ j = .exit 0 ∧ r = x2 ∧ (ks.drop i).any act = false) ∧
      lp' (lim K) t115L0 [.iv (.sl g (encDs ks)),.fn f [] [],x2,x3,.iv (.int .i64 ks.length),.iv (.int .i64 (i : Int)),x6,x7] S = .ret (j,[.iv (.sl g (encDs ks)),.fn f [] [],r,y3,.iv (.int .i64 ks.length),y5,y6,y7],S)
  | 0,i,x3,x6,x7,h => by
    obtain rfl : i = ks.length := by omega
    refine ⟨.exit 0,x2,?_,?_,?_,?_,.inr ⟨rfl,rfl,by rw [List.drop_length]; rfl⟩,loop_at K _ _ t115L0.eq_1 ?_⟩
    rotate_left 4
    · simp (config := { maxSteps := 4000000 }) (disch := omega) only [go_sem]
      rfl
  | k + 1,i,x3,x6,x7,h => by
    have hla : i < ks.length := by omega
    have hix := ixD (g := g) (ks := ks) (i := (i : Int)) (by omega)
    rw [Int.toNat_natCast] at hix
    have hdr := drop_get hla
    have hc := hf _ (get_mem hla)
    generalize hx : ks.getD i default = x at *
    rw [encD_eq] at hc
    cases ha : act x with
    | true =>
      rw [ha] at hc
      refine ⟨.ret,.iv (.int .i64 (i : Int)),?_,?_,?_,?_,.inl ⟨rfl,⟨_,rfl,by omega⟩,by rw [hdr,List.any_cons,ha,Bool.true_or]⟩,loop_at K _ _ t115L0.eq_1 ?_⟩
      rotate_left 4
      · simp (config := { maxSteps := 4000000 }) (disch := omega) only [go_sem,hix,getD5,cpR_pure hc]
        rfl
    | false =>
      rw [ha] at hc
      obtain ⟨j,r,y3,y5,y6,y7,hj,ih⟩ := loop115 f act g ks hl hf x2 S k (i + 1) (.iv (.int .i64 (i : Int))) (.iv (.bool true)) (.iv (.bool false)) (by omega)
      rw [show ((i + 1 : Nat) : Int) = (i : Int) + 1 by omega] at ih
      refine ⟨j,r,y3,y5,y6,y7,?_,loop_at K _ _ t115L0.eq_1 ?_⟩
      · rw [hdr,List.any_cons,ha,Bool.false_or]; exact hj
      · simp (config := { maxSteps := 4000000 }) (disch := omega) only [go_sem,hix,getD5,cpR_pure hc,wrap_i64]
        exact congrArg er ih
theorem call83 (f : Nat) (act : Dt → Bool) (g : Tag) (ks : List Dt) (hl : ks.length ≤ 2000000) (hf : ∀ x ∈ ks,TM.Pure K f [.iv (.agg (encD x))] (.iv (.bool (act x)))) (S : Store) :
    (lim K).call 83 [.iv (.sl g (encDs ks)),.fn f [] []] S = .ret (.iv (.bool (ks.any act)),S) := by
  obtain ⟨j,r,y3,y5,y6,y7,hj,ih⟩ := loop115 f act g ks hl hf (.iv (.int .i64 0)) S ks.length 0 (.tup []) (.tup []) (.tup []) (by omega)
  rw [show ((0 : Nat) : Int) = 0 from rfl,List.drop_zero] at *
  have h115 : ∃ n : Int,(0 ≤ n ↔ ks.any act = true) ∧ (lim K).call 115 [.iv (.sl g (encDs ks)),.fn f [] []] S = .ret (.iv (.int .i64 n),S) := by
    rcases hj with ⟨rfl,⟨n,rfl,hn⟩,ha⟩ | ⟨rfl,rfl,ha⟩
    · refine ⟨n,by simp [hn,ha],call_ret' K _ (fn := t115) rfl rfl ?_⟩
      simp (config := { maxSteps := 4000000 }) (disch := omega) only [t115,go_sem,TM.undef,encDs_len]
      rw [ih]
      simp (config := { maxSteps := 4000000 }) (disch := omega) only [go_sem]
    · refine ⟨-1,by simp [ha],call_ret' K _ (fn := t115) rfl rfl ?_⟩
      simp (config := { maxSteps := 4000000 }) (disch := omega) only [t115,go_sem,TM.undef,encDs_len]
      rw [ih]
      simp (config := { maxSteps := 4000000 }) (disch := omega) only [go_sem]
  obtain ⟨n,hn,h115⟩ := h115
  refine call_ret' K _ (fn := t83) rfl rfl ?_
  by_cases h0 : 0 ≤ n
  · rw [hn.1 h0]
    simp (config := { maxSteps := 4000000 }) (disch := omega) only [t83,go_sem,TM.undef,h115]
  · have : ks.any act = false := by
      cases h : ks.any act with
      | true => exact absurd (hn.2 h) h0
      | false => rfl
    rw [this]
    simp (config := { maxSteps := 4000000 }) (disch := omega) only [t83,go_sem,TM.undef,h115]
theorem call82 (d : Dt) (hd : d.w ≤ 2000000) (S : Store) : (lim K).call 82 [.iv (.agg (encD d))] S = .ret (.iv (.bool (decide (d.k = 6 ∧ d.ks.length = 2))),S) := by
  have hw := Dt.w_eq d
  have hl := Dt.ws_len d.ks
  refine call_ret' K _ (fn := t82) rfl rfl ?_
  rw [encD_eq]
  by_cases hk : d.k = 6
  · by_cases h2 : d.ks.length = 2
    · have : ((d.ks.length : Int) == 2) = true := by simp [h2]
      simp (config := { maxSteps := 4000000 }) (disch := omega) only [t82,go_sem,TM.undef,encDs_len]
    · simp (config := { maxSteps := 4000000 }) (disch := omega) only [t82,go_sem,TM.undef,encDs_len]
  · simp (config := { maxSteps := 4000000 }) (disch := omega) only [t82,go_sem,TM.undef,encDs_len]
mutual
def mayF : Dt → Bool
  | .mk k n t g ks p => if k = 6 ∧ ks.length = 2 then mays ks else if k = 7 then mays ks else ks.isEmpty && bareF (.mk k n t g ks p)
def mays : List Dt → Bool
  | [] => true
  | d :: ds => mayF d && mays ds
end
theorem mays_all : ∀ ks : List Dt,mays ks = ks.all mayF
  | [] => by rw [mays]; rfl
  | d :: ds => by rw [mays,mays_all ds]; rfl
theorem mayF_eq (d : Dt) : mayF d = if d.k = 6 ∧ d.ks.length = 2 then d.ks.all mayF else if d.k = 7 then d.ks.all mayF else d.ks.isEmpty && bareF d := by
  cases d; rw [mayF,mays_all]; rfl
abbrev lbD' (d : Dt) : TV := .lb [.iv (.int .i64 d.k),.iv (.int .i64 d.n),.iv (.str d.t),.iv (.sl d.g (encDs d.ks)),.iv (.int .i64 d.p)]
theorem two_of {d : Dt} (h : d.ks.length = 2) : ∃ a b,d.ks = [a,b] := by
  cases hk : d.ks with
  | nil => rw [hk] at h; simp at h
  | cons a r =>
    cases r with
    | nil => rw [hk] at h; simp at h
    | cons b r =>
      cases r with
      | nil => exact ⟨a,b,rfl⟩
      | cons c r => rw [hk] at h; simp at h
theorem ix0 (g : Tag) (a b : Dt) : indexAddrS 5 (.iv (.sl g (encDs [a,b]))) 0 = some (.iv (.cp (encD a))) := ixD (g := g) (ks := [a,b]) (i := 0) (by simp)
theorem ix1 (g : Tag) (a b : Dt) : indexAddrS 5 (.iv (.sl g (encDs [a,b]))) 1 = some (.iv (.cp (encD b))) := ixD (g := g) (ks := [a,b]) (i := 1) (by simp)
theorem loop42 (M : Nat) (hM : M ≤ 1048576) (ih : ∀ d : Dt,d.w ≤ M → TM.Pure K 42 [.iv (.agg (encD d))] (.iv (.bool (mayF d)))) (x0 : TV) (S : Store) : ∀ (N : Nat),N ≤ M + 1 → ∀ (d : Dt) (x2 x3 x4 x5 : TV),d.w ≤ N →
    ∃ j d' r y3 y4,(j = .ret ∧ r = .iv (.bool false) ∧ mayF d = false ∨ j = .exit 0 ∧ r = x2 ∧ mayF d' = mayF d ∧ d'.w ≤ d.w ∧ ¬ (d'.k = 6 ∧ d'.ks.length = 2)) ∧
      lp' (lim K) t42L0 [x0,lbD' d,x2,x3,x4,x5] S = .ret (j,[x0,lbD' d',r,y3,y4,x5],S)
  | 0,hN,d,x2,x3,x4,x5,hd => by have := Dt.w_eq d; omega
  | N + 1,hN,d,x2,x3,x4,x5,hd => by
    have hw := Dt.w_eq d
    have hp := call82 d (by omega) S
    rw [encD_eq] at hp
    by_cases h2 : d.k = 6 ∧ d.ks.length = 2
    · obtain ⟨a,b,hk⟩ := two_of h2.2
      have hab : a.w + b.w + 1 ≤ d.w := by rw [hw,hk,Dt.ws,Dt.ws,Dt.ws]; omega
      have ha := ih a (by omega)
      rw [encD_eq] at ha
      have hm : mayF d = (mayF a && mayF b) := by rw [mayF_eq d,if_pos h2,hk]; simp
      have i0 := ix0 d.g a b
      have i1 := ix1 d.g a b
      rw [← hk] at i0 i1
      rw [decT h2] at hp
      cases hma : mayF a with
      | false =>
        rw [hma] at ha
        refine ⟨.ret,d,.iv (.bool false),?_,?_,.inl ⟨rfl,rfl,by rw [hm,hma,Bool.false_and]⟩,loop_at K _ _ t42L0.eq_1 ?_⟩
        rotate_left 2
        · simp (config := { maxSteps := 4000000 }) (disch := omega) only [go_sem,hp,i0,getD5,cpR_pure ha]
          rfl
      | true =>
        rw [hma] at ha
        obtain ⟨j,d',r,y3,y4,hj,ih2⟩ := loop42 M hM ih x0 S N (by omega) b x2 (.iv (.bool true)) (.iv (.bool false)) x5 (by omega)
        refine ⟨j,d',r,y3,y4,?_,loop_at K _ _ t42L0.eq_1 ?_⟩
        · rw [hm,hma,Bool.true_and]
          rcases hj with h | ⟨h1,h2,h3,h4,h5⟩
          · exact .inl h
          · exact .inr ⟨h1,h2,h3,by omega,h5⟩
        · simp (config := { maxSteps := 4000000 }) (disch := omega) only [go_sem,hp,i0,i1,getD5,cpR_pure ha]
          exact congrArg er ih2
    · rw [decF h2] at hp
      refine ⟨.exit 0,d,x2,?_,?_,.inr ⟨rfl,rfl,rfl,Nat.le_refl _,h2⟩,loop_at K _ _ t42L0.eq_1 ?_⟩
      rotate_left 2
      · simp (config := { maxSteps := 4000000 }) (disch := omega) only [go_sem,hp]
        rfl
theorem any_not (ks : List Dt) (f : Dt → Bool) : (!(ks.any fun x => !f x)) = ks.all f := by
  induction ks with
  | nil => rfl
  | cons a r ih => simp only [List.any_cons,List.all_cons,Bool.not_or,Bool.not_not,ih]
theorem call42 : ∀ (N : Nat),N ≤ 1048576 → ∀ d : Dt,d.w ≤ N → TM.Pure K 42 [.iv (.agg (encD d))] (.iv (.bool (mayF d)))
  | 0,hN,d,hd => by have := Dt.w_eq d; omega
  | N + 1,hN,d,hd => by
    have ih := call42 N (by omega)
    obtain ⟨j,d',r,y3,y4,hj,hl⟩ := loop42 N (by omega) ih (.iv (.agg (encD d))) [] (N + 1) (by omega) d (.iv (.bool false)) (.tup []) (.tup []) (.tup []) hd
    rcases hj with ⟨rfl,rfl,hm⟩ | ⟨rfl,rfl,hm,hw',hn⟩
    · refine pure_ret (S := []) (r := .iv (.bool false)) (call_ret' K _ (fn := t42) rfl rfl ?_) (by rw [resolve_iv,hm])
      rw [encD_eq] at hl ⊢
      simp (config := { maxSteps := 4000000 }) (disch := omega) only [t42,go_sem,TM.undef]
      rw [hl]
      simp (config := { maxSteps := 4000000 }) (disch := omega) only [go_sem]
    · have hwd := Dt.w_eq d'
      have hwl := Dt.ws_len d'.ks
      have h84 : ∀ x ∈ d'.ks,TM.Pure K 84 [.iv (.agg (encD x))] (.iv (.bool (!mayF x))) := by
        intro x hx
        have hc := ih x (by have := Dt.kid_lt hx; omega)
        refine pure_ret (S := []) (r := .iv (.bool (!mayF x))) (call_ret' K _ (fn := t84) rfl rfl ?_) (by rw [resolve_iv])
        rw [encD_eq] at hc ⊢
        simp (config := { maxSteps := 4000000 }) (disch := omega) only [t84,go_sem,TM.undef,cpR_pure hc]
      have h83 := call83 84 (fun x => !mayF x) d'.g d'.ks (by omega) h84 []
      have h85 := call85 d' (by omega)
      rw [encD_eq] at h85
      refine pure_ret (S := []) (r := .iv (.bool (mayF d'))) (call_ret' K _ (fn := t42) rfl rfl ?_) (by rw [resolve_iv,hm])
      rw [encD_eq] at hl ⊢
      rw [mayF_eq d',if_neg hn]
      simp (config := { maxSteps := 4000000 }) (disch := omega) only [t42,go_sem,TM.undef]
      rw [hl]
      by_cases h7 : d'.k = 7
      · rw [if_pos h7]
        simp (config := { maxSteps := 4000000 }) (disch := omega) only [go_sem,h83,any_not]
      · rw [if_neg h7]
        by_cases he : d'.ks.length = 0
        · have : d'.ks.isEmpty = true := by rw [List.isEmpty_iff]; exact List.eq_nil_of_length_eq_zero he
          have e0 : ((d'.ks.length : Int) == 0) = true := by simp [he]
          simp (config := { maxSteps := 4000000 }) (disch := omega) only [go_sem,encDs_len,e0,cpR_pure h85,this,Bool.true_and]
        · have : d'.ks.isEmpty = false := by
            cases hk : d'.ks with
            | nil => rw [hk] at he; exact absurd rfl he
            | cons a r => rfl
          simp (config := { maxSteps := 4000000 }) (disch := omega) only [go_sem,encDs_len,this,Bool.false_and]
mutual
def plF : Dt → Bool
  | .mk k n t g ks p => !decide (k = 5 ∧ n ≠ 0) && pls ks
def pls : List Dt → Bool
  | [] => true
  | d :: ds => plF d && pls ds
end
theorem pls_all : ∀ ks : List Dt,pls ks = ks.all plF
  | [] => by rw [pls]; rfl
  | d :: ds => by rw [pls,pls_all ds]; rfl
theorem plF_eq (d : Dt) : plF d = (!decide (d.k = 5 ∧ d.n ≠ 0) && d.ks.all plF) := by
  cases d; rw [plF,pls_all]; rfl
theorem loop43 (M : Nat) (hM : M ≤ 1048576) (ih : ∀ d : Dt,d.w ≤ M → TM.Pure K 43 [.iv (.agg (encD d))] (.iv (.bool (plF d)))) (x0 : TV) (S : Store) : ∀ (N : Nat),N ≤ M + 1 → ∀ (d : Dt) (x2 x3 x4 x5 : TV),d.w ≤ N →
    ∃ j d' r y3 y4,(j = .ret ∧ r = .iv (.bool false) ∧ plF d = false ∨ j = .exit 0 ∧ r = x2 ∧ plF d' = plF d ∧ d'.w ≤ d.w) ∧
      lp' (lim K) t43L0 [x0,lbD' d,x2,x3,x4,x5] S = .ret (j,[x0,lbD' d',r,y3,y4,x5],S)
  | 0,hN,d,x2,x3,x4,x5,hd => by have := Dt.w_eq d; omega
  | N + 1,hN,d,x2,x3,x4,x5,hd => by
    have hw := Dt.w_eq d
    have hl := Dt.ws_len d.ks
    by_cases h2 : d.k = 6 ∧ d.ks.length = 2
    · obtain ⟨a,b,hk⟩ := two_of h2.2
      have hab : a.w + b.w + 1 ≤ d.w := by rw [hw,hk,Dt.ws,Dt.ws,Dt.ws]; omega
      have ha := ih a (by omega)
      rw [encD_eq] at ha
      have hm : plF d = (plF a && plF b) := by rw [plF_eq d,hk]; simp [h2.1]
      have i0 := ix0 d.g a b
      have i1 := ix1 d.g a b
      rw [← hk] at i0 i1
      have h6 := h2.1
      have hl2 : ((d.ks.length : Int) == 2) = true := by simp [h2.2]
      cases hma : plF a with
      | false =>
        rw [hma] at ha
        refine ⟨.ret,d,.iv (.bool false),?_,?_,.inl ⟨rfl,rfl,by rw [hm,hma,Bool.false_and]⟩,loop_at K _ _ t43L0.eq_1 ?_⟩
        rotate_left 2
        · simp (config := { maxSteps := 4000000 }) (disch := omega) only [go_sem,encDs_len,hl2,i0,getD5,cpR_pure ha]
          rfl
      | true =>
        rw [hma] at ha
        obtain ⟨j,d',r,y3,y4,hj,ih2⟩ := loop43 M hM ih x0 S N (by omega) b x2 (.iv (.bool true)) (.iv (.bool false)) x5 (by omega)
        refine ⟨j,d',r,y3,y4,?_,loop_at K _ _ t43L0.eq_1 ?_⟩
        · rw [hm,hma,Bool.true_and]
          rcases hj with h | ⟨h1,h2,h3,h4⟩
          · exact .inl h
          · exact .inr ⟨h1,h2,h3,by omega⟩
        · simp (config := { maxSteps := 4000000 }) (disch := omega) only [go_sem,encDs_len,hl2,i0,i1,getD5,cpR_pure ha]
          exact congrArg er ih2
    · refine ⟨.exit 0,d,x2,?_,?_,.inr ⟨rfl,rfl,rfl,Nat.le_refl _⟩,loop_at K _ _ t43L0.eq_1 ?_⟩
      rotate_left 2
      · by_cases h6 : d.k = 6
        · have hl2 : ((d.ks.length : Int) == 2) = false := by
            have : d.ks.length ≠ 2 := fun e => h2 ⟨h6,e⟩
            simp; omega
          simp (config := { maxSteps := 4000000 }) (disch := omega) only [go_sem,encDs_len,hl2]
          rfl
        · simp (config := { maxSteps := 4000000 }) (disch := omega) only [go_sem,encDs_len]
          first | done | rfl
theorem call43 : ∀ (N : Nat),N ≤ 1048576 → ∀ d : Dt,d.w ≤ N → TM.Pure K 43 [.iv (.agg (encD d))] (.iv (.bool (plF d)))
  | 0,hN,d,hd => by have := Dt.w_eq d; omega
  | N + 1,hN,d,hd => by
    have ih := call43 N (by omega)
    obtain ⟨j,d',r,y3,y4,hj,hl⟩ := loop43 N (by omega) ih (.iv (.agg (encD d))) [] (N + 1) (by omega) d (.iv (.bool false)) (.tup []) (.tup []) (.tup []) hd
    rcases hj with ⟨rfl,rfl,hm⟩ | ⟨rfl,rfl,hm,hw'⟩
    · refine pure_ret (S := []) (r := .iv (.bool false)) (call_ret' K _ (fn := t43) rfl rfl ?_) (by rw [resolve_iv,hm])
      rw [encD_eq] at hl ⊢
      simp (config := { maxSteps := 4000000 }) (disch := omega) only [t43,go_sem,TM.undef]
      rw [hl]
      simp (config := { maxSteps := 4000000 }) (disch := omega) only [go_sem]
    · have hwd := Dt.w_eq d'
      have hwl := Dt.ws_len d'.ks
      have h86 : ∀ x ∈ d'.ks,TM.Pure K 86 [.iv (.agg (encD x))] (.iv (.bool (!plF x))) := by
        intro x hx
        have hc := ih x (by have := Dt.kid_lt hx; omega)
        refine pure_ret (S := []) (r := .iv (.bool (!plF x))) (call_ret' K _ (fn := t86) rfl rfl ?_) (by rw [resolve_iv])
        rw [encD_eq] at hc ⊢
        simp (config := { maxSteps := 4000000 }) (disch := omega) only [t86,go_sem,TM.undef,cpR_pure hc]
      have h83 := call83 86 (fun x => !plF x) d'.g d'.ks (by omega) h86 []
      refine pure_ret (S := []) (r := .iv (.bool (plF d'))) (call_ret' K _ (fn := t43) rfl rfl ?_) (by rw [resolve_iv,hm])
      rw [encD_eq] at hl ⊢
      rw [plF_eq d']
      simp (config := { maxSteps := 4000000 }) (disch := omega) only [t43,go_sem,TM.undef]
      rw [hl]
      by_cases h5 : d'.k = 5
      · by_cases h0 : d'.n = 0
        · have : decide (d'.k = 5 ∧ d'.n ≠ 0) = false := by simp [h0]
          simp (config := { maxSteps := 4000000 }) (disch := omega) only [go_sem,h83,any_not,this,Bool.not_false,Bool.true_and]
        · have : decide (d'.k = 5 ∧ d'.n ≠ 0) = true := by simp [h0,h5]
          simp (config := { maxSteps := 4000000 }) (disch := omega) only [go_sem,this,Bool.not_true,Bool.false_and]
      · have : decide (d'.k = 5 ∧ d'.n ≠ 0) = false := by simp [h5]
        simp (config := { maxSteps := 4000000 }) (disch := omega) only [go_sem,h83,any_not,this,Bool.not_false,Bool.true_and]
def primTab : List Int := [2,1,2,1,1,2,2,1,2,2,2,2,2,2,2,1,1,1,1,2,1,2,3,1,1,1,1,2,1,2,3,1,2,1,2,3,1,0,1,1,0,0]
def nameTab : List (List UInt8) := [[101,113,63],[112,97,105,114,63],[99,111,110,115],[99,97,114],[99,100,114],[115,101,116,45,99,97,114,33],[115,101,116,45,99,100,114,33],[105,110,116,101,103,101,114,63],[37,43],[37,45],[37,42],[113,117,111,116,105,101,110,116],[114,101,109,97,105,110,100,101,114],[37,61],[37,60],[99,104,97,114,63],[99,104,97,114,45,62,105,110,116,101,103,101,114],[105,110,116,101,103,101,114,45,62,99,104,97,114],[115,116,114,105,110,103,63],[109,97,107,101,45,115,116,114,105,110,103],[115,116,114,105,110,103,45,108,101,110,103,116,104],[115,116,114,105,110,103,45,114,101,102],[115,116,114,105,110,103,45,115,101,116,33],[115,121,109,98,111,108,63],[115,121,109,98,111,108,45,62,115,116,114,105,110,103],[115,116,114,105,110,103,45,62,115,121,109,98,111,108],[118,101,99,116,111,114,63],[109,97,107,101,45,118,101,99,116,111,114],[118,101,99,116,111,114,45,108,101,110,103,116,104],[118,101,99,116,111,114,45,114,101,102],[118,101,99,116,111,114,45,115,101,116,33],[98,121,116,101,118,101,99,116,111,114,63],[109,97,107,101,45,98,121,116,101,118,101,99,116,111,114],[98,121,116,101,118,101,99,116,111,114,45,108,101,110,103,116,104],[98,121,116,101,118,101,99,116,111,114,45,117,56,45,114,101,102],[98,121,116,101,118,101,99,116,111,114,45,117,56,45,115,101,116,33],[112,114,111,99,101,100,117,114,101,63],[114,101,97,100,45,117,56],[119,114,105,116,101,45,117,56],[37,104,97,108,116],[101,111,102,45,111,98,106,101,99,116],[37,110,111,110,101]]
def primA (n : Int) : Int := if 0 ≤ n ∧ n < 42 then primTab.getD n.toNat 0 else -1
theorem sub_map1 {α : Type} (f : α → TV) (d : α) {l : List α} {k : Nat} (h : k < l.length) : sub (l.map f) k 1 = some [f (l.getD k d)] := by
  have e : k + 1 ≤ (l.map f).length := by rw [List.length_map]; omega
  simp only [sub,e,↓reduceIte]
  rw [List.drop_eq_getElem_cons (by rw [List.length_map]; omega)]
  simp [List.getD,List.getElem?_eq_getElem h]
theorem call108 (n : Int) (S : Store) : (lim K).call 108 [.iv (.int .i64 n)] S = .ret (.iv (.int .i64 (primA n)),S) := by
  refine call_ret' K _ (fn := t108) rfl rfl ?_
  unfold primA
  by_cases h : 0 ≤ n ∧ n < 42
  · rw [if_pos h]
    have hs := sub_map1 (fun a => TV.iv (.int .i64 a)) 0 (l := primTab) (k := 0 + n.toNat * 1) (by rw [show primTab.length = 42 from rfl]; omega)
    rw [show primTab.getD (0 + n.toNat * 1) 0 = primTab.getD n.toNat 0 by congr 1; omega] at hs
    generalize primTab.getD n.toNat 0 = r at *
    simp only [primTab,List.map_cons,List.map_nil] at hs
    simp (config := { maxSteps := 4000000 }) (disch := omega) only [t108,go_sem,TM.undef,hs]
  · rw [if_neg h]
    by_cases h0 : n < 0
    · simp (config := { maxSteps := 4000000 }) (disch := omega) only [t108,go_sem,TM.undef]
    · simp (config := { maxSteps := 4000000 }) (disch := omega) only [t108,go_sem,TM.undef]
def nameA (n : Int) : List UInt8 := if 0 ≤ n ∧ n < 42 then nameTab.getD n.toNat [] else []
theorem call109 (n : Int) (S : Store) : (lim K).call 109 [.iv (.int .i64 n)] S = .ret (.iv (.str (nameA n)),S) := by
  refine call_ret' K _ (fn := t109) rfl rfl ?_
  unfold nameA
  by_cases h : 0 ≤ n ∧ n < 42
  · rw [if_pos h]
    have hs := sub_map1 (fun a => TV.iv (.str a)) [] (l := nameTab) (k := 0 + n.toNat * 1) (by rw [show nameTab.length = 42 from rfl]; omega)
    rw [show nameTab.getD (0 + n.toNat * 1) [] = nameTab.getD n.toNat [] by congr 1; omega] at hs
    generalize nameTab.getD n.toNat [] = r at *
    simp only [nameTab,List.map_cons,List.map_nil] at hs
    simp (config := { maxSteps := 4000000 }) (disch := omega) only [t109,go_sem,TM.undef,hs]
  · rw [if_neg h]
    by_cases h0 : n < 0
    · simp (config := { maxSteps := 4000000 }) (disch := omega) only [t109,go_sem,TM.undef]
    · simp (config := { maxSteps := 4000000 }) (disch := omega) only [t109,go_sem,TM.undef]
theorem mm_t (a b : Int) : TM.minmax true (.int .i64 a) [.iv (.int .i64 b)] = some (.int .i64 (if a < b then b else a)) := by simp [TM.minmax,min2]
theorem mm_f (a b : Int) : TM.minmax false (.int .i64 a) [.iv (.int .i64 b)] = some (.int .i64 (if b < a then b else a)) := by simp [TM.minmax,min2]
attribute [go_sem] mm_t mm_f
structure Shp where
  num : Bool
  kids : Int
  more : Bool
  word : List UInt8
  is : Bool
def ctlW (n : Int) : List UInt8 := if n = 0 then [99,97,108,108,47,99,99] else if n = 1 then [97,112,112,108,121] else [99,97,108,108,45,119,105,116,104,45,118,97,108,117,101,115]
def ofF (k n : Int) : Shp :=
  if k = 1 then ⟨true,0,false,[99],true⟩ else if k = 2 then ⟨true,0,false,[118],true⟩ else if k = 3 then ⟨true,0,false,[103],true⟩
  else if k = 4 then ⟨true,1,false,[115,101,116,33,32,118],true⟩ else if k = 5 then ⟨true,1,false,[115,101,116,33,32,103],true⟩
  else if k = 6 then ⟨false,3,false,[105,102],true⟩ else if k = 7 then ⟨false,1,false,[108,97,109,98,100,97],true⟩ else if k = 8 then ⟨false,1,true,[99,97,108,108],true⟩
  else if k = 9 then ⟨true,if 0 < primA n then primA n else 0,false,nameA n,decide (0 ≤ primA n)⟩ else if k = 10 then ⟨false,1,true,[98,101,103,105,110],true⟩
  else if k = 11 then (if n < 0 ∨ 2 < n then ⟨false,0,false,[],false⟩ else ⟨true,if 2 < n + 1 then 2 else n + 1,false,ctlW n,true⟩)
  else if k = 12 then ⟨false,1,false,[98,111,120],true⟩ else if k = 13 then ⟨false,1,false,[117,110,98,111,120],true⟩ else if k = 14 then ⟨false,2,false,[115,101,116,45,98,111,120,33],true⟩
  else ⟨false,0,false,[],false⟩
def encS (s : Shp) : TV := .tup [.iv (.agg [.bool s.num,.int .i64 s.kids,.bool s.more,.str s.word]),.iv (.bool s.is)]
theorem call74 (e : Ex) (S : Store) : (lim K).call 74 [.iv (.agg (encE e))] S = .ret (encS (ofF e.k e.n),S) := by
  refine call_ret' K _ (fn := t74) rfl rfl ?_
  rw [encE_eq]
  unfold ofF encS
  by_cases h1 : e.k = 1
  · rw [if_pos h1]; simp (config := { maxSteps := 4000000 }) (disch := omega) only [t74,go_sem,TM.undef]
  rw [if_neg h1]
  by_cases h2 : e.k = 2
  · rw [if_pos h2]; simp (config := { maxSteps := 4000000 }) (disch := omega) only [t74,go_sem,TM.undef]
  rw [if_neg h2]
  by_cases h3 : e.k = 3
  · rw [if_pos h3]; simp (config := { maxSteps := 4000000 }) (disch := omega) only [t74,go_sem,TM.undef]
  rw [if_neg h3]
  by_cases h4 : e.k = 4
  · rw [if_pos h4]; simp (config := { maxSteps := 4000000 }) (disch := omega) only [t74,go_sem,TM.undef]
  rw [if_neg h4]
  by_cases h5 : e.k = 5
  · rw [if_pos h5]; simp (config := { maxSteps := 4000000 }) (disch := omega) only [t74,go_sem,TM.undef]
  rw [if_neg h5]
  by_cases h6 : e.k = 6
  · rw [if_pos h6]; simp (config := { maxSteps := 4000000 }) (disch := omega) only [t74,go_sem,TM.undef]
  rw [if_neg h6]
  by_cases h7 : e.k = 7
  · rw [if_pos h7]; simp (config := { maxSteps := 4000000 }) (disch := omega) only [t74,go_sem,TM.undef]
  rw [if_neg h7]
  by_cases h8 : e.k = 8
  · rw [if_pos h8]; simp (config := { maxSteps := 4000000 }) (disch := omega) only [t74,go_sem,TM.undef]
  rw [if_neg h8]
  by_cases h9 : e.k = 9
  · rw [if_pos h9]; simp (config := { maxSteps := 4000000 }) (disch := omega) only [t74,go_sem,TM.undef,call108,call109]
  rw [if_neg h9]
  by_cases h10 : e.k = 10
  · rw [if_pos h10]; simp (config := { maxSteps := 4000000 }) (disch := omega) only [t74,go_sem,TM.undef]
  rw [if_neg h10]
  by_cases h11 : e.k = 11
  · rw [if_pos h11]
    by_cases hn : e.n < 0 ∨ 2 < e.n
    · rw [if_pos hn]
      rcases hn with hn | hn <;> simp (config := { maxSteps := 4000000 }) (disch := omega) only [t74,go_sem,TM.undef]
    · rw [if_neg hn]
      have hc : e.n = 0 ∨ e.n = 1 ∨ e.n = 2 := by omega
      rcases hc with hc | hc | hc <;> rw [hc] <;> simp (config := { maxSteps := 4000000 }) (disch := omega) only [t74,go_sem,TM.undef,wrap_i64,ctlW,List.map_cons,List.map_nil]
  rw [if_neg h11]
  by_cases h12 : e.k = 12
  · rw [if_pos h12]; simp (config := { maxSteps := 4000000 }) (disch := omega) only [t74,go_sem,TM.undef]
  rw [if_neg h12]
  by_cases h13 : e.k = 13
  · rw [if_pos h13]; simp (config := { maxSteps := 4000000 }) (disch := omega) only [t74,go_sem,TM.undef]
  rw [if_neg h13]
  by_cases h14 : e.k = 14
  · rw [if_pos h14]; simp (config := { maxSteps := 4000000 }) (disch := omega) only [t74,go_sem,TM.undef]
  rw [if_neg h14]
  simp (config := { maxSteps := 4000000 }) (disch := omega) only [t74,go_sem,TM.undef]
theorem call119 (n m : Int) (S : Store) : (lim K).call 119 [.iv (.int .i64 n),.iv (.int .i64 m)] S = .ret (.iv (.bool (decide (0 ≤ n ∧ n < m))),S) := by
  refine call_ret' K _ (fn := t119) rfl rfl ?_
  by_cases h0 : 0 ≤ n
  · by_cases h1 : n < m
    · simp (config := { maxSteps := 4000000 }) (disch := omega) only [t119,go_sem,TM.undef]
    · simp (config := { maxSteps := 4000000 }) (disch := omega) only [t119,go_sem,TM.undef]
  · simp (config := { maxSteps := 4000000 }) (disch := omega) only [t119,go_sem,TM.undef]
theorem loop153 (f : Nat) (act : Int → Bool) (a b c d : Nat) (g : Tag) (l : List Int) (hl : l.length ≤ 2000000) (S : Store) (hf : ∀ x ∈ l,(lim K).call f [.iv (.int .i64 x),.ptr a b 0,.ptr c d 0] S = .ret (.iv (.bool (act x)),S)) (x2 : TV) : ∀ (k i : Nat) (x3 x6 x7 : TV),i + k = l.length →
    ∃ j r y3 y5 y6 y7,(j = .ret ∧ (∃ n : Int,r = .iv (.int .i64 n) ∧ 0 ≤ n) ∧ (l.drop i).any act = true ∨ j = .exit 0 ∧ r = x2 ∧ (l.drop i).any act = false) ∧
      lp' (lim K) t153L0 [.iv (.sl g (TM.one (.int .i64) l)),.fn f [] [.ptr a b 0,.ptr c d 0],x2,x3,.iv (.int .i64 l.length),.iv (.int .i64 (i : Int)),x6,x7] S = .ret (j,[.iv (.sl g (TM.one (.int .i64) l)),.fn f [] [.ptr a b 0,.ptr c d 0],r,y3,.iv (.int .i64 l.length),y5,y6,y7],S)
  | 0,i,x3,x6,x7,h => by
    obtain rfl : i = l.length := by omega
    refine ⟨.exit 0,x2,?_,?_,?_,?_,.inr ⟨rfl,rfl,by rw [List.drop_length]; rfl⟩,loop_at K _ _ t153L0.eq_1 ?_⟩
    rotate_left 4
    · simp (config := { maxSteps := 4000000 }) (disch := omega) only [go_sem]
      rfl
  | k + 1,i,x3,x6,x7,h => by
    have hla : i < l.length := by omega
    have hix := ix_one (f := IV.int .i64) (t := g) (l := l) (i := (i : Int)) (by omega)
    rw [Int.toNat_natCast] at hix
    have hdr := drop_get hla
    have hc := hf _ (get_mem hla)
    generalize hx : l.getD i default = x at *
    cases ha : act x with
    | true =>
      rw [ha] at hc
      refine ⟨.ret,.iv (.int .i64 (i : Int)),?_,?_,?_,?_,.inl ⟨rfl,⟨_,rfl,by omega⟩,by rw [hdr,List.any_cons,ha,Bool.true_or]⟩,loop_at K _ _ t153L0.eq_1 ?_⟩
      rotate_left 4
      · simp (config := { maxSteps := 4000000 }) (disch := omega) only [go_sem,hix,hc]
        rfl
    | false =>
      rw [ha] at hc
      obtain ⟨j,r,y3,y5,y6,y7,hj,ih⟩ := loop153 f act a b c d g l hl S hf x2 k (i + 1) (.iv (.int .i64 (i : Int))) (.iv (.bool true)) (.iv (.bool false)) (by omega)
      rw [show ((i + 1 : Nat) : Int) = (i : Int) + 1 by omega] at ih
      refine ⟨j,r,y3,y5,y6,y7,?_,loop_at K _ _ t153L0.eq_1 ?_⟩
      · rw [hdr,List.any_cons,ha,Bool.false_or]; exact hj
      · simp (config := { maxSteps := 4000000 }) (disch := omega) only [go_sem,hix,hc,wrap_i64]
        exact congrArg er ih
theorem call120 (f : Nat) (act : Int → Bool) (a b c d : Nat) (g : Tag) (l : List Int) (hl : l.length ≤ 2000000) (S : Store) (hf : ∀ x ∈ l,(lim K).call f [.iv (.int .i64 x),.ptr a b 0,.ptr c d 0] S = .ret (.iv (.bool (act x)),S)) :
    (lim K).call 120 [.iv (.sl g (TM.one (.int .i64) l)),.fn f [] [.ptr a b 0,.ptr c d 0]] S = .ret (.iv (.bool (l.any act)),S) := by
  obtain ⟨j,r,y3,y5,y6,y7,hj,ih⟩ := loop153 f act a b c d g l hl S hf (.iv (.int .i64 0)) l.length 0 (.tup []) (.tup []) (.tup []) (by omega)
  rw [show ((0 : Nat) : Int) = 0 from rfl,List.drop_zero] at *
  have h153 : ∃ n : Int,(0 ≤ n ↔ l.any act = true) ∧ (lim K).call 153 [.iv (.sl g (TM.one (.int .i64) l)),.fn f [] [.ptr a b 0,.ptr c d 0]] S = .ret (.iv (.int .i64 n),S) := by
    rcases hj with ⟨rfl,⟨n,rfl,hn⟩,ha⟩ | ⟨rfl,rfl,ha⟩
    · refine ⟨n,by simp [hn,ha],call_ret' K _ (fn := t153) rfl rfl ?_⟩
      simp (config := { maxSteps := 4000000 }) (disch := omega) only [t153,go_sem,TM.undef,TM.one_length]
      rw [ih]
      simp (config := { maxSteps := 4000000 }) (disch := omega) only [go_sem]
    · refine ⟨-1,by simp [ha],call_ret' K _ (fn := t153) rfl rfl ?_⟩
      simp (config := { maxSteps := 4000000 }) (disch := omega) only [t153,go_sem,TM.undef,TM.one_length]
      rw [ih]
      simp (config := { maxSteps := 4000000 }) (disch := omega) only [go_sem]
  obtain ⟨n,hn,h153⟩ := h153
  refine call_ret' K _ (fn := t120) rfl rfl ?_
  by_cases h0 : 0 ≤ n
  · rw [hn.1 h0]
    simp (config := { maxSteps := 4000000 }) (disch := omega) only [t120,go_sem,TM.undef,h153]
  · have : l.any act = false := by
      cases h : l.any act with
      | true => exact absurd (hn.2 h) h0
      | false => rfl
    rw [this]
    simp (config := { maxSteps := 4000000 }) (disch := omega) only [t120,go_sem,TM.undef,h153]
abbrev cellsP (p : Pg) : List TV := [.iv (.int .i64 p.b.k),.iv (.int .i64 p.b.n),.iv (.sl p.b.gv (TM.one (.int .i64) p.b.vs)),.iv (.bool p.b.r),.iv (.sl p.b.g (encEs p.b.ks)),.iv (.int .i64 p.gl),.iv (.int .i64 p.vr),.iv (.sl p.gc (encDs p.cs))]
abbrev ckB (p : Pg) (ib ik ir : Nat) : Block := .cells 58 false (cellsP p ++ [.map ib,.map ik,.map ir])
theorem call121 (p : Pg) (ib ik ir ic jb jf : Nat) (v : Int) (S : Store) (hc : S[ic]? = some (ckB p ib ik ir)) (hb : S[jb]? = some (.cells 55 false [.ptr ic 58 0])) (hf : S[jf]? = some (.cells 135 false [.fn 119 [] []])) :
    (lim K).call 121 [.iv (.int .i64 v),.ptr jf 135 0,.ptr jb 55 0] S = .ret (.iv (.bool (!decide (0 ≤ v ∧ v < p.vr))),S) := by
  refine call_ret' K _ (fn := t121) rfl rfl ?_
  simp (config := { maxSteps := 4000000 }) (disch := omega) only [t121,go_sem,TM.undef,hc,hb,hf,call119]
def frmA (e : Ex) : Bool :=
  let s := ofF e.k e.n
  !s.is || decide ((e.ks.length : Int) < s.kids) || (decide (s.kids < e.ks.length) && !s.more) || (!s.num && decide (e.n ≠ 0)) || (decide (e.k ≠ 7) && (decide (0 < e.vs.length) || e.r)) || (e.r && decide (e.vs.length = 0))
def frmB (p : Pg) (e : Ex) : Bool :=
  if e.k = 1 then decide (0 ≤ e.n ∧ e.n < p.cs.length) else if e.k = 2 ∨ e.k = 4 then decide (0 ≤ e.n ∧ e.n < p.vr) else if e.k = 3 ∨ e.k = 5 then decide (0 ≤ e.n ∧ e.n < p.gl)
  else e.vs.all fun v => decide (0 ≤ v ∧ v < p.vr)
def frmF (p : Pg) (e : Ex) : Bool := !frmA e && frmB p e
theorem not_any (l : List Int) (f : Int → Bool) : (!(l.any fun x => !f x)) = l.all f := by
  induction l with
  | nil => rfl
  | cons a r ih => simp only [List.any_cons,List.all_cons,Bool.not_or,Bool.not_not,ih]
theorem set_app1 (S : Store) (b b' : Block) : (S ++ [b]).set S.length b' = S ++ [b'] := by simp
def Ends (p : Pg) (ib ik ir ic : Nat) (e : Ex) (S : Store) (b : Bool) : Prop := ∃ S',(lim K).call 87 [.ptr ic 58 0,.iv (.agg (encE e))] S = .ret (.iv (.bool b),S') ∧ Keep [] S S'
theorem frm_tf (p : Pg) (ib ik ir ic : Nat) (e : Ex) (hw : e.w ≤ 1048576) (S : Store) (hc : S[ic]? = some (ckB p ib ik ir)) (hcl : p.cs.length ≤ 2000000) (kids : Int) (word : List UInt8) (is : Bool) (hs : ofF e.k e.n = ⟨true,kids,false,word,is⟩) (h7 : e.k ≠ 7) : Ends p ib ik ir ic e S (frmF p e) := by
  have hwe := Ex.w_eq e
  have hwl := Ex.ws_len e.ks
  have h74 := call74 e []
  rw [hs] at h74
  simp only [encS] at h74
  have hlt := lt_get hc
  have h119 := call119
  have hk1 := Keep.app [] S [Block.cells 55 false [.ptr ic 58 0]]
  have hk2 := hk1.trans (Keep.app [] _ [Block.cells 135 false [.fn 119 [] []]])
  have hc1 : (S ++ [Block.cells 55 false [.ptr ic 58 0]])[ic]? = some (ckB p ib ik ir) := get_appO hc _
  have hc2 : (S ++ [Block.cells 55 false [.ptr ic 58 0]] ++ [Block.cells 135 false [.fn 119 [] []]])[ic]? = some (ckB p ib ik ir) := get_appO hc1 _
  have h120 := call120 121 (fun v => !decide (0 ≤ v ∧ v < p.vr)) (S ++ [Block.cells 55 false [TV.ptr ic 58 0]]).length 135 S.length 55 e.gv e.vs (by omega) _ (fun x _ => call121 p ib ik ir ic S.length (S ++ [Block.cells 55 false [.ptr ic 58 0]]).length x (S ++ [Block.cells 55 false [.ptr ic 58 0]] ++ [Block.cells 135 false [.fn 119 [] []]]) hc2 (get_app2 ..) (get_app1 ..))
  have hf : frmF p e = (!(!is || decide ((e.ks.length : Int) < kids) || (decide (kids < e.ks.length) && !false) || (!true && decide (e.n ≠ 0)) || (decide (e.k ≠ 7) && (decide (0 < e.vs.length) || e.r)) || (e.r && decide (e.vs.length = 0))) && frmB p e) := by
    unfold frmF frmA; rw [hs]
  rw [hf]
  clear hf hs
  unfold frmB
  rw [encE_eq] at h74
  unfold Ends
  rw [encE_eq]
  generalize e.r = r at h74 ⊢
  cases is
  · exact ⟨_,call_ret' K _ (fn := t87) rfl rfl (by simp (config := { maxSteps := 4000000 }) (disch := omega) only [t87,go_sem,TM.undef,h74,encEs_len,TM.one_length,Bool.true_or,Bool.or_true,Bool.false_or,Bool.or_false,Bool.true_and,Bool.false_and,Bool.and_true,Bool.and_false,Bool.not_true,Bool.not_false,not_any] <;> simp (disch := omega) only [go_sem,Bool.true_or,Bool.or_true,Bool.false_or,Bool.or_false,Bool.true_and,Bool.false_and,Bool.and_true,Bool.and_false,Bool.not_true,Bool.not_false,not_any]),hk1⟩
  by_cases b1 : (e.ks.length : Int) < kids
  · exact ⟨_,call_ret' K _ (fn := t87) rfl rfl (by simp (config := { maxSteps := 4000000 }) (disch := omega) only [t87,go_sem,TM.undef,h74,encEs_len,TM.one_length,Bool.true_or,Bool.or_true,Bool.false_or,Bool.or_false,Bool.true_and,Bool.false_and,Bool.and_true,Bool.and_false,Bool.not_true,Bool.not_false,not_any] <;> simp (disch := omega) only [go_sem,Bool.true_or,Bool.or_true,Bool.false_or,Bool.or_false,Bool.true_and,Bool.false_and,Bool.and_true,Bool.and_false,Bool.not_true,Bool.not_false,not_any]),hk1⟩
  by_cases b2 : kids < (e.ks.length : Int)
  · exact ⟨_,call_ret' K _ (fn := t87) rfl rfl (by simp (config := { maxSteps := 4000000 }) (disch := omega) only [t87,go_sem,TM.undef,h74,encEs_len,TM.one_length,Bool.true_or,Bool.or_true,Bool.false_or,Bool.or_false,Bool.true_and,Bool.false_and,Bool.and_true,Bool.and_false,Bool.not_true,Bool.not_false,not_any] <;> simp (disch := omega) only [go_sem,Bool.true_or,Bool.or_true,Bool.false_or,Bool.or_false,Bool.true_and,Bool.false_and,Bool.and_true,Bool.and_false,Bool.not_true,Bool.not_false,not_any]),hk1⟩
  by_cases b4 : 0 < e.vs.length
  · exact ⟨_,call_ret' K _ (fn := t87) rfl rfl (by simp (config := { maxSteps := 4000000 }) (disch := omega) only [t87,go_sem,TM.undef,h74,encEs_len,TM.one_length,Bool.true_or,Bool.or_true,Bool.false_or,Bool.or_false,Bool.true_and,Bool.false_and,Bool.and_true,Bool.and_false,Bool.not_true,Bool.not_false,not_any] <;> simp (disch := omega) only [go_sem,Bool.true_or,Bool.or_true,Bool.false_or,Bool.or_false,Bool.true_and,Bool.false_and,Bool.and_true,Bool.and_false,Bool.not_true,Bool.not_false,not_any]),hk1⟩
  cases r
  rotate_left
  · exact ⟨_,call_ret' K _ (fn := t87) rfl rfl (by simp (config := { maxSteps := 4000000 }) (disch := omega) only [t87,go_sem,TM.undef,h74,encEs_len,TM.one_length,Bool.true_or,Bool.or_true,Bool.false_or,Bool.or_false,Bool.true_and,Bool.false_and,Bool.and_true,Bool.and_false,Bool.not_true,Bool.not_false,not_any] <;> simp (disch := omega) only [go_sem,Bool.true_or,Bool.or_true,Bool.false_or,Bool.or_false,Bool.true_and,Bool.false_and,Bool.and_true,Bool.and_false,Bool.not_true,Bool.not_false,not_any]),hk1⟩
  by_cases k1 : e.k = 1
  · exact ⟨_,call_ret' K _ (fn := t87) rfl rfl (by simp (config := { maxSteps := 4000000 }) (disch := omega) only [t87,go_sem,TM.undef,h74,encEs_len,TM.one_length,Bool.true_or,Bool.or_true,Bool.false_or,Bool.or_false,Bool.true_and,Bool.false_and,Bool.and_true,Bool.and_false,Bool.not_true,Bool.not_false,not_any,hc1,hc2,get_app1,get_app2,set_app1,h119,h120,encDs_len] <;> simp (disch := omega) only [go_sem,Bool.true_or,Bool.or_true,Bool.false_or,Bool.or_false,Bool.true_and,Bool.false_and,Bool.and_true,Bool.and_false,Bool.not_true,Bool.not_false,not_any]),hk2⟩
  by_cases k2 : e.k = 2
  · exact ⟨_,call_ret' K _ (fn := t87) rfl rfl (by simp (config := { maxSteps := 4000000 }) (disch := omega) only [t87,go_sem,TM.undef,h74,encEs_len,TM.one_length,Bool.true_or,Bool.or_true,Bool.false_or,Bool.or_false,Bool.true_and,Bool.false_and,Bool.and_true,Bool.and_false,Bool.not_true,Bool.not_false,not_any,hc1,hc2,get_app1,get_app2,set_app1,h119,h120] <;> simp (disch := omega) only [go_sem,Bool.true_or,Bool.or_true,Bool.false_or,Bool.or_false,Bool.true_and,Bool.false_and,Bool.and_true,Bool.and_false,Bool.not_true,Bool.not_false,not_any]),hk2⟩
  by_cases k4 : e.k = 4
  · exact ⟨_,call_ret' K _ (fn := t87) rfl rfl (by simp (config := { maxSteps := 4000000 }) (disch := omega) only [t87,go_sem,TM.undef,h74,encEs_len,TM.one_length,Bool.true_or,Bool.or_true,Bool.false_or,Bool.or_false,Bool.true_and,Bool.false_and,Bool.and_true,Bool.and_false,Bool.not_true,Bool.not_false,not_any,hc1,hc2,get_app1,get_app2,set_app1,h119,h120] <;> simp (disch := omega) only [go_sem,Bool.true_or,Bool.or_true,Bool.false_or,Bool.or_false,Bool.true_and,Bool.false_and,Bool.and_true,Bool.and_false,Bool.not_true,Bool.not_false,not_any]),hk2⟩
  by_cases k3 : e.k = 3
  · exact ⟨_,call_ret' K _ (fn := t87) rfl rfl (by simp (config := { maxSteps := 4000000 }) (disch := omega) only [t87,go_sem,TM.undef,h74,encEs_len,TM.one_length,Bool.true_or,Bool.or_true,Bool.false_or,Bool.or_false,Bool.true_and,Bool.false_and,Bool.and_true,Bool.and_false,Bool.not_true,Bool.not_false,not_any,hc1,hc2,get_app1,get_app2,set_app1,h119,h120] <;> simp (disch := omega) only [go_sem,Bool.true_or,Bool.or_true,Bool.false_or,Bool.or_false,Bool.true_and,Bool.false_and,Bool.and_true,Bool.and_false,Bool.not_true,Bool.not_false,not_any]),hk2⟩
  by_cases k5 : e.k = 5
  · exact ⟨_,call_ret' K _ (fn := t87) rfl rfl (by simp (config := { maxSteps := 4000000 }) (disch := omega) only [t87,go_sem,TM.undef,h74,encEs_len,TM.one_length,Bool.true_or,Bool.or_true,Bool.false_or,Bool.or_false,Bool.true_and,Bool.false_and,Bool.and_true,Bool.and_false,Bool.not_true,Bool.not_false,not_any,hc1,hc2,get_app1,get_app2,set_app1,h119,h120] <;> simp (disch := omega) only [go_sem,Bool.true_or,Bool.or_true,Bool.false_or,Bool.or_false,Bool.true_and,Bool.false_and,Bool.and_true,Bool.and_false,Bool.not_true,Bool.not_false,not_any]),hk2⟩
  exact ⟨_,call_ret' K _ (fn := t87) rfl rfl (by simp (config := { maxSteps := 4000000 }) (disch := omega) only [t87,go_sem,TM.undef,h74,encEs_len,TM.one_length,Bool.true_or,Bool.or_true,Bool.false_or,Bool.or_false,Bool.true_and,Bool.false_and,Bool.and_true,Bool.and_false,Bool.not_true,Bool.not_false,not_any,hc1,hc2,get_app1,get_app2,set_app1,h119,h120] <;> simp (disch := omega) only [go_sem,Bool.true_or,Bool.or_true,Bool.false_or,Bool.or_false,Bool.true_and,Bool.false_and,Bool.and_true,Bool.and_false,Bool.not_true,Bool.not_false,not_any]),hk2⟩
theorem frm_ff (p : Pg) (ib ik ir ic : Nat) (e : Ex) (hw : e.w ≤ 1048576) (S : Store) (hc : S[ic]? = some (ckB p ib ik ir)) (hcl : p.cs.length ≤ 2000000) (kids : Int) (word : List UInt8) (is : Bool) (hs : ofF e.k e.n = ⟨false,kids,false,word,is⟩) (hk : e.k ≠ 1 ∧ e.k ≠ 2 ∧ e.k ≠ 3 ∧ e.k ≠ 4 ∧ e.k ≠ 5) : Ends p ib ik ir ic e S (frmF p e) := by
  have hwe := Ex.w_eq e
  have hwl := Ex.ws_len e.ks
  have h74 := call74 e []
  rw [hs] at h74
  simp only [encS] at h74
  have hlt := lt_get hc
  have h119 := call119
  have hk1 := Keep.app [] S [Block.cells 55 false [.ptr ic 58 0]]
  have hk2 := hk1.trans (Keep.app [] _ [Block.cells 135 false [.fn 119 [] []]])
  have hc1 : (S ++ [Block.cells 55 false [.ptr ic 58 0]])[ic]? = some (ckB p ib ik ir) := get_appO hc _
  have hc2 : (S ++ [Block.cells 55 false [.ptr ic 58 0]] ++ [Block.cells 135 false [.fn 119 [] []]])[ic]? = some (ckB p ib ik ir) := get_appO hc1 _
  have h120 := call120 121 (fun v => !decide (0 ≤ v ∧ v < p.vr)) (S ++ [Block.cells 55 false [TV.ptr ic 58 0]]).length 135 S.length 55 e.gv e.vs (by omega) _ (fun x _ => call121 p ib ik ir ic S.length (S ++ [Block.cells 55 false [.ptr ic 58 0]]).length x (S ++ [Block.cells 55 false [.ptr ic 58 0]] ++ [Block.cells 135 false [.fn 119 [] []]]) hc2 (get_app2 ..) (get_app1 ..))
  have hf : frmF p e = (!(!is || decide ((e.ks.length : Int) < kids) || (decide (kids < e.ks.length) && !false) || (!false && decide (e.n ≠ 0)) || (decide (e.k ≠ 7) && (decide (0 < e.vs.length) || e.r)) || (e.r && decide (e.vs.length = 0))) && frmB p e) := by
    unfold frmF frmA; rw [hs]
  rw [hf]
  clear hf hs
  unfold frmB
  rw [encE_eq] at h74
  unfold Ends
  rw [encE_eq]
  generalize e.r = r at h74 ⊢
  cases is
  · exact ⟨_,call_ret' K _ (fn := t87) rfl rfl (by simp (config := { maxSteps := 4000000 }) (disch := omega) only [t87,go_sem,TM.undef,h74,encEs_len,TM.one_length,Bool.true_or,Bool.or_true,Bool.false_or,Bool.or_false,Bool.true_and,Bool.false_and,Bool.and_true,Bool.and_false,Bool.not_true,Bool.not_false,not_any] <;> simp (disch := omega) only [go_sem,Bool.true_or,Bool.or_true,Bool.false_or,Bool.or_false,Bool.true_and,Bool.false_and,Bool.and_true,Bool.and_false,Bool.not_true,Bool.not_false,not_any]),hk1⟩
  by_cases b1 : (e.ks.length : Int) < kids
  · exact ⟨_,call_ret' K _ (fn := t87) rfl rfl (by simp (config := { maxSteps := 4000000 }) (disch := omega) only [t87,go_sem,TM.undef,h74,encEs_len,TM.one_length,Bool.true_or,Bool.or_true,Bool.false_or,Bool.or_false,Bool.true_and,Bool.false_and,Bool.and_true,Bool.and_false,Bool.not_true,Bool.not_false,not_any] <;> simp (disch := omega) only [go_sem,Bool.true_or,Bool.or_true,Bool.false_or,Bool.or_false,Bool.true_and,Bool.false_and,Bool.and_true,Bool.and_false,Bool.not_true,Bool.not_false,not_any]),hk1⟩
  by_cases b2 : kids < (e.ks.length : Int)
  · exact ⟨_,call_ret' K _ (fn := t87) rfl rfl (by simp (config := { maxSteps := 4000000 }) (disch := omega) only [t87,go_sem,TM.undef,h74,encEs_len,TM.one_length,Bool.true_or,Bool.or_true,Bool.false_or,Bool.or_false,Bool.true_and,Bool.false_and,Bool.and_true,Bool.and_false,Bool.not_true,Bool.not_false,not_any] <;> simp (disch := omega) only [go_sem,Bool.true_or,Bool.or_true,Bool.false_or,Bool.or_false,Bool.true_and,Bool.false_and,Bool.and_true,Bool.and_false,Bool.not_true,Bool.not_false,not_any]),hk1⟩
  by_cases b3 : e.n = 0
  rotate_left
  · exact ⟨_,call_ret' K _ (fn := t87) rfl rfl (by simp (config := { maxSteps := 4000000 }) (disch := omega) only [t87,go_sem,TM.undef,h74,encEs_len,TM.one_length,Bool.true_or,Bool.or_true,Bool.false_or,Bool.or_false,Bool.true_and,Bool.false_and,Bool.and_true,Bool.and_false,Bool.not_true,Bool.not_false,not_any] <;> simp (disch := omega) only [go_sem,Bool.true_or,Bool.or_true,Bool.false_or,Bool.or_false,Bool.true_and,Bool.false_and,Bool.and_true,Bool.and_false,Bool.not_true,Bool.not_false,not_any]),hk1⟩
  by_cases k7 : e.k = 7
  · cases r
    · exact ⟨_,call_ret' K _ (fn := t87) rfl rfl (by simp (config := { maxSteps := 4000000 }) (disch := omega) only [t87,go_sem,TM.undef,h74,encEs_len,TM.one_length,Bool.true_or,Bool.or_true,Bool.false_or,Bool.or_false,Bool.true_and,Bool.false_and,Bool.and_true,Bool.and_false,Bool.not_true,Bool.not_false,not_any,hc1,hc2,get_app1,get_app2,set_app1,h119,h120] <;> simp (disch := omega) only [go_sem,Bool.true_or,Bool.or_true,Bool.false_or,Bool.or_false,Bool.true_and,Bool.false_and,Bool.and_true,Bool.and_false,Bool.not_true,Bool.not_false,not_any]),hk2⟩
    · by_cases b5 : e.vs.length = 0
      · exact ⟨_,call_ret' K _ (fn := t87) rfl rfl (by simp (config := { maxSteps := 4000000 }) (disch := omega) only [t87,go_sem,TM.undef,h74,encEs_len,TM.one_length,Bool.true_or,Bool.or_true,Bool.false_or,Bool.or_false,Bool.true_and,Bool.false_and,Bool.and_true,Bool.and_false,Bool.not_true,Bool.not_false,not_any] <;> simp (disch := omega) only [go_sem,Bool.true_or,Bool.or_true,Bool.false_or,Bool.or_false,Bool.true_and,Bool.false_and,Bool.and_true,Bool.and_false,Bool.not_true,Bool.not_false,not_any]),hk1⟩
      · exact ⟨_,call_ret' K _ (fn := t87) rfl rfl (by simp (config := { maxSteps := 4000000 }) (disch := omega) only [t87,go_sem,TM.undef,h74,encEs_len,TM.one_length,Bool.true_or,Bool.or_true,Bool.false_or,Bool.or_false,Bool.true_and,Bool.false_and,Bool.and_true,Bool.and_false,Bool.not_true,Bool.not_false,not_any,hc1,hc2,get_app1,get_app2,set_app1,h119,h120] <;> simp (disch := omega) only [go_sem,Bool.true_or,Bool.or_true,Bool.false_or,Bool.or_false,Bool.true_and,Bool.false_and,Bool.and_true,Bool.and_false,Bool.not_true,Bool.not_false,not_any]),hk2⟩
  by_cases b4 : 0 < e.vs.length
  · exact ⟨_,call_ret' K _ (fn := t87) rfl rfl (by simp (config := { maxSteps := 4000000 }) (disch := omega) only [t87,go_sem,TM.undef,h74,encEs_len,TM.one_length,Bool.true_or,Bool.or_true,Bool.false_or,Bool.or_false,Bool.true_and,Bool.false_and,Bool.and_true,Bool.and_false,Bool.not_true,Bool.not_false,not_any] <;> simp (disch := omega) only [go_sem,Bool.true_or,Bool.or_true,Bool.false_or,Bool.or_false,Bool.true_and,Bool.false_and,Bool.and_true,Bool.and_false,Bool.not_true,Bool.not_false,not_any]),hk1⟩
  cases r
  rotate_left
  · exact ⟨_,call_ret' K _ (fn := t87) rfl rfl (by simp (config := { maxSteps := 4000000 }) (disch := omega) only [t87,go_sem,TM.undef,h74,encEs_len,TM.one_length,Bool.true_or,Bool.or_true,Bool.false_or,Bool.or_false,Bool.true_and,Bool.false_and,Bool.and_true,Bool.and_false,Bool.not_true,Bool.not_false,not_any] <;> simp (disch := omega) only [go_sem,Bool.true_or,Bool.or_true,Bool.false_or,Bool.or_false,Bool.true_and,Bool.false_and,Bool.and_true,Bool.and_false,Bool.not_true,Bool.not_false,not_any]),hk1⟩
  exact ⟨_,call_ret' K _ (fn := t87) rfl rfl (by simp (config := { maxSteps := 4000000 }) (disch := omega) only [t87,go_sem,TM.undef,h74,encEs_len,TM.one_length,Bool.true_or,Bool.or_true,Bool.false_or,Bool.or_false,Bool.true_and,Bool.false_and,Bool.and_true,Bool.and_false,Bool.not_true,Bool.not_false,not_any,hc1,hc2,get_app1,get_app2,set_app1,h119,h120] <;> simp (disch := omega) only [go_sem,Bool.true_or,Bool.or_true,Bool.false_or,Bool.or_false,Bool.true_and,Bool.false_and,Bool.and_true,Bool.and_false,Bool.not_true,Bool.not_false,not_any]),hk2⟩
theorem frm_ft (p : Pg) (ib ik ir ic : Nat) (e : Ex) (hw : e.w ≤ 1048576) (S : Store) (hc : S[ic]? = some (ckB p ib ik ir)) (hcl : p.cs.length ≤ 2000000) (kids : Int) (word : List UInt8) (is : Bool) (hs : ofF e.k e.n = ⟨false,kids,true,word,is⟩) (h7 : e.k ≠ 7) (hk : e.k ≠ 1 ∧ e.k ≠ 2 ∧ e.k ≠ 3 ∧ e.k ≠ 4 ∧ e.k ≠ 5) : Ends p ib ik ir ic e S (frmF p e) := by
  have hwe := Ex.w_eq e
  have hwl := Ex.ws_len e.ks
  have h74 := call74 e []
  rw [hs] at h74
  simp only [encS] at h74
  have hlt := lt_get hc
  have h119 := call119
  have hk1 := Keep.app [] S [Block.cells 55 false [.ptr ic 58 0]]
  have hk2 := hk1.trans (Keep.app [] _ [Block.cells 135 false [.fn 119 [] []]])
  have hc1 : (S ++ [Block.cells 55 false [.ptr ic 58 0]])[ic]? = some (ckB p ib ik ir) := get_appO hc _
  have hc2 : (S ++ [Block.cells 55 false [.ptr ic 58 0]] ++ [Block.cells 135 false [.fn 119 [] []]])[ic]? = some (ckB p ib ik ir) := get_appO hc1 _
  have h120 := call120 121 (fun v => !decide (0 ≤ v ∧ v < p.vr)) (S ++ [Block.cells 55 false [TV.ptr ic 58 0]]).length 135 S.length 55 e.gv e.vs (by omega) _ (fun x _ => call121 p ib ik ir ic S.length (S ++ [Block.cells 55 false [.ptr ic 58 0]]).length x (S ++ [Block.cells 55 false [.ptr ic 58 0]] ++ [Block.cells 135 false [.fn 119 [] []]]) hc2 (get_app2 ..) (get_app1 ..))
  have hf : frmF p e = (!(!is || decide ((e.ks.length : Int) < kids) || (decide (kids < e.ks.length) && !true) || (!false && decide (e.n ≠ 0)) || (decide (e.k ≠ 7) && (decide (0 < e.vs.length) || e.r)) || (e.r && decide (e.vs.length = 0))) && frmB p e) := by
    unfold frmF frmA; rw [hs]
  rw [hf]
  clear hf hs
  unfold frmB
  rw [encE_eq] at h74
  unfold Ends
  rw [encE_eq]
  generalize e.r = r at h74 ⊢
  cases is
  · exact ⟨_,call_ret' K _ (fn := t87) rfl rfl (by simp (config := { maxSteps := 4000000 }) (disch := omega) only [t87,go_sem,TM.undef,h74,encEs_len,TM.one_length,Bool.true_or,Bool.or_true,Bool.false_or,Bool.or_false,Bool.true_and,Bool.false_and,Bool.and_true,Bool.and_false,Bool.not_true,Bool.not_false,not_any] <;> simp (disch := omega) only [go_sem,Bool.true_or,Bool.or_true,Bool.false_or,Bool.or_false,Bool.true_and,Bool.false_and,Bool.and_true,Bool.and_false,Bool.not_true,Bool.not_false,not_any]),hk1⟩
  by_cases b1 : (e.ks.length : Int) < kids
  · exact ⟨_,call_ret' K _ (fn := t87) rfl rfl (by simp (config := { maxSteps := 4000000 }) (disch := omega) only [t87,go_sem,TM.undef,h74,encEs_len,TM.one_length,Bool.true_or,Bool.or_true,Bool.false_or,Bool.or_false,Bool.true_and,Bool.false_and,Bool.and_true,Bool.and_false,Bool.not_true,Bool.not_false,not_any] <;> simp (disch := omega) only [go_sem,Bool.true_or,Bool.or_true,Bool.false_or,Bool.or_false,Bool.true_and,Bool.false_and,Bool.and_true,Bool.and_false,Bool.not_true,Bool.not_false,not_any]),hk1⟩
  by_cases b2 : kids < (e.ks.length : Int)
  · by_cases b3 : e.n = 0
    rotate_left
    · exact ⟨_,call_ret' K _ (fn := t87) rfl rfl (by simp (config := { maxSteps := 4000000 }) (disch := omega) only [t87,go_sem,TM.undef,h74,encEs_len,TM.one_length,Bool.true_or,Bool.or_true,Bool.false_or,Bool.or_false,Bool.true_and,Bool.false_and,Bool.and_true,Bool.and_false,Bool.not_true,Bool.not_false,not_any] <;> simp (disch := omega) only [go_sem,Bool.true_or,Bool.or_true,Bool.false_or,Bool.or_false,Bool.true_and,Bool.false_and,Bool.and_true,Bool.and_false,Bool.not_true,Bool.not_false,not_any]),hk1⟩
    by_cases b4 : 0 < e.vs.length
    · exact ⟨_,call_ret' K _ (fn := t87) rfl rfl (by simp (config := { maxSteps := 4000000 }) (disch := omega) only [t87,go_sem,TM.undef,h74,encEs_len,TM.one_length,Bool.true_or,Bool.or_true,Bool.false_or,Bool.or_false,Bool.true_and,Bool.false_and,Bool.and_true,Bool.and_false,Bool.not_true,Bool.not_false,not_any] <;> simp (disch := omega) only [go_sem,Bool.true_or,Bool.or_true,Bool.false_or,Bool.or_false,Bool.true_and,Bool.false_and,Bool.and_true,Bool.and_false,Bool.not_true,Bool.not_false,not_any]),hk1⟩
    cases r
    rotate_left
    · exact ⟨_,call_ret' K _ (fn := t87) rfl rfl (by simp (config := { maxSteps := 4000000 }) (disch := omega) only [t87,go_sem,TM.undef,h74,encEs_len,TM.one_length,Bool.true_or,Bool.or_true,Bool.false_or,Bool.or_false,Bool.true_and,Bool.false_and,Bool.and_true,Bool.and_false,Bool.not_true,Bool.not_false,not_any] <;> simp (disch := omega) only [go_sem,Bool.true_or,Bool.or_true,Bool.false_or,Bool.or_false,Bool.true_and,Bool.false_and,Bool.and_true,Bool.and_false,Bool.not_true,Bool.not_false,not_any]),hk1⟩
    exact ⟨_,call_ret' K _ (fn := t87) rfl rfl (by simp (config := { maxSteps := 4000000 }) (disch := omega) only [t87,go_sem,TM.undef,h74,encEs_len,TM.one_length,Bool.true_or,Bool.or_true,Bool.false_or,Bool.or_false,Bool.true_and,Bool.false_and,Bool.and_true,Bool.and_false,Bool.not_true,Bool.not_false,not_any,hc1,hc2,get_app1,get_app2,set_app1,h119,h120] <;> simp (disch := omega) only [go_sem,Bool.true_or,Bool.or_true,Bool.false_or,Bool.or_false,Bool.true_and,Bool.false_and,Bool.and_true,Bool.and_false,Bool.not_true,Bool.not_false,not_any]),hk2⟩
  by_cases b3 : e.n = 0
  rotate_left
  · exact ⟨_,call_ret' K _ (fn := t87) rfl rfl (by simp (config := { maxSteps := 4000000 }) (disch := omega) only [t87,go_sem,TM.undef,h74,encEs_len,TM.one_length,Bool.true_or,Bool.or_true,Bool.false_or,Bool.or_false,Bool.true_and,Bool.false_and,Bool.and_true,Bool.and_false,Bool.not_true,Bool.not_false,not_any] <;> simp (disch := omega) only [go_sem,Bool.true_or,Bool.or_true,Bool.false_or,Bool.or_false,Bool.true_and,Bool.false_and,Bool.and_true,Bool.and_false,Bool.not_true,Bool.not_false,not_any]),hk1⟩
  by_cases b4 : 0 < e.vs.length
  · exact ⟨_,call_ret' K _ (fn := t87) rfl rfl (by simp (config := { maxSteps := 4000000 }) (disch := omega) only [t87,go_sem,TM.undef,h74,encEs_len,TM.one_length,Bool.true_or,Bool.or_true,Bool.false_or,Bool.or_false,Bool.true_and,Bool.false_and,Bool.and_true,Bool.and_false,Bool.not_true,Bool.not_false,not_any] <;> simp (disch := omega) only [go_sem,Bool.true_or,Bool.or_true,Bool.false_or,Bool.or_false,Bool.true_and,Bool.false_and,Bool.and_true,Bool.and_false,Bool.not_true,Bool.not_false,not_any]),hk1⟩
  cases r
  rotate_left
  · exact ⟨_,call_ret' K _ (fn := t87) rfl rfl (by simp (config := { maxSteps := 4000000 }) (disch := omega) only [t87,go_sem,TM.undef,h74,encEs_len,TM.one_length,Bool.true_or,Bool.or_true,Bool.false_or,Bool.or_false,Bool.true_and,Bool.false_and,Bool.and_true,Bool.and_false,Bool.not_true,Bool.not_false,not_any] <;> simp (disch := omega) only [go_sem,Bool.true_or,Bool.or_true,Bool.false_or,Bool.or_false,Bool.true_and,Bool.false_and,Bool.and_true,Bool.and_false,Bool.not_true,Bool.not_false,not_any]),hk1⟩
  exact ⟨_,call_ret' K _ (fn := t87) rfl rfl (by simp (config := { maxSteps := 4000000 }) (disch := omega) only [t87,go_sem,TM.undef,h74,encEs_len,TM.one_length,Bool.true_or,Bool.or_true,Bool.false_or,Bool.or_false,Bool.true_and,Bool.false_and,Bool.and_true,Bool.and_false,Bool.not_true,Bool.not_false,not_any,hc1,hc2,get_app1,get_app2,set_app1,h119,h120] <;> simp (disch := omega) only [go_sem,Bool.true_or,Bool.or_true,Bool.false_or,Bool.or_false,Bool.true_and,Bool.false_and,Bool.and_true,Bool.and_false,Bool.not_true,Bool.not_false,not_any]),hk2⟩
theorem call87 (p : Pg) (ib ik ir ic : Nat) (e : Ex) (hw : e.w ≤ 1048576) (S : Store) (hc : S[ic]? = some (ckB p ib ik ir)) (hcl : p.cs.length ≤ 2000000) : Ends p ib ik ir ic e S (frmF p e) := by
  have hs : ∃ num kids more word is,ofF e.k e.n = ⟨num,kids,more,word,is⟩ := ⟨_,_,_,_,_,rfl⟩
  obtain ⟨num,kids,more,word,is,hs⟩ := hs
  by_cases a : e.k = 1 ∨ e.k = 2 ∨ e.k = 3 ∨ e.k = 4 ∨ e.k = 5 ∨ e.k = 9
  · have h1 : num = true ∧ more = false := by
      unfold ofF at hs
      rcases a with a | a | a | a | a | a <;> rw [a] at hs <;> simp at hs <;> (first | exact ⟨hs.1.symm,hs.2.2.1.symm⟩ | exact ⟨hs.1,hs.2.2.1⟩ | exact ⟨hs.1,hs.2.2.1.symm⟩ | exact ⟨hs.1.symm,hs.2.2.1⟩)
    obtain ⟨rfl,rfl⟩ := h1
    exact frm_tf p ib ik ir ic e hw S hc hcl kids word is hs (by omega)
  by_cases b : e.k = 8 ∨ e.k = 10
  · have h1 : num = false ∧ more = true := by
      unfold ofF at hs
      rcases b with a | a <;> rw [a] at hs <;> simp at hs <;> (first | exact ⟨hs.1.symm,hs.2.2.1.symm⟩ | exact ⟨hs.1,hs.2.2.1⟩ | exact ⟨hs.1,hs.2.2.1.symm⟩ | exact ⟨hs.1.symm,hs.2.2.1⟩)
    obtain ⟨rfl,rfl⟩ := h1
    exact frm_ft p ib ik ir ic e hw S hc hcl kids word is hs (by omega) (by omega)
  by_cases c : e.k = 11 ∧ ¬ (e.n < 0 ∨ 2 < e.n)
  · have h1 : num = true ∧ more = false := by
      unfold ofF at hs
      rw [c.1] at hs
      simp only [Int.reduceEq,↓reduceIte,if_neg c.2,Shp.mk.injEq] at hs
      (first | exact ⟨hs.1.symm,hs.2.2.1.symm⟩ | exact ⟨hs.1,hs.2.2.1⟩ | exact ⟨hs.1,hs.2.2.1.symm⟩ | exact ⟨hs.1.symm,hs.2.2.1⟩)
    obtain ⟨rfl,rfl⟩ := h1
    exact frm_tf p ib ik ir ic e hw S hc hcl kids word is hs (by omega)
  · have h1 : num = false ∧ more = false := by
      unfold ofF at hs
      have e1 : e.k ≠ 1 := by omega
      have e2 : e.k ≠ 2 := by omega
      have e3 : e.k ≠ 3 := by omega
      have e4 : e.k ≠ 4 := by omega
      have e5 : e.k ≠ 5 := by omega
      have e8 : e.k ≠ 8 := by omega
      have e9 : e.k ≠ 9 := by omega
      have e10 : e.k ≠ 10 := by omega
      simp only [e1,e2,e3,e4,e5,e8,e9,e10,↓reduceIte] at hs
      by_cases e6 : e.k = 6
      · simp [e6] at hs; (first | exact ⟨hs.1.symm,hs.2.2.1.symm⟩ | exact ⟨hs.1,hs.2.2.1⟩ | exact ⟨hs.1,hs.2.2.1.symm⟩ | exact ⟨hs.1.symm,hs.2.2.1⟩)
      by_cases e7 : e.k = 7
      · simp [e7] at hs; (first | exact ⟨hs.1.symm,hs.2.2.1.symm⟩ | exact ⟨hs.1,hs.2.2.1⟩ | exact ⟨hs.1,hs.2.2.1.symm⟩ | exact ⟨hs.1.symm,hs.2.2.1⟩)
      by_cases e11 : e.k = 11
      · have hn : e.n < 0 ∨ 2 < e.n := by
          rcases Classical.em (e.n < 0 ∨ 2 < e.n) with h | h
          · exact h
          · exact absurd ⟨e11,h⟩ c
        simp [e11,hn] at hs; (first | exact ⟨hs.1.symm,hs.2.2.1.symm⟩ | exact ⟨hs.1,hs.2.2.1⟩ | exact ⟨hs.1,hs.2.2.1.symm⟩ | exact ⟨hs.1.symm,hs.2.2.1⟩)
      by_cases e12 : e.k = 12
      · simp [e12] at hs; (first | exact ⟨hs.1.symm,hs.2.2.1.symm⟩ | exact ⟨hs.1,hs.2.2.1⟩ | exact ⟨hs.1,hs.2.2.1.symm⟩ | exact ⟨hs.1.symm,hs.2.2.1⟩)
      by_cases e13 : e.k = 13
      · simp [e13] at hs; (first | exact ⟨hs.1.symm,hs.2.2.1.symm⟩ | exact ⟨hs.1,hs.2.2.1⟩ | exact ⟨hs.1,hs.2.2.1.symm⟩ | exact ⟨hs.1.symm,hs.2.2.1⟩)
      by_cases e14 : e.k = 14
      · simp [e14] at hs; (first | exact ⟨hs.1.symm,hs.2.2.1.symm⟩ | exact ⟨hs.1,hs.2.2.1⟩ | exact ⟨hs.1,hs.2.2.1.symm⟩ | exact ⟨hs.1.symm,hs.2.2.1⟩)
      simp [e6,e7,e11,e12,e13,e14] at hs; (first | exact ⟨hs.1.symm,hs.2.2.1.symm⟩ | exact ⟨hs.1,hs.2.2.1⟩ | exact ⟨hs.1,hs.2.2.1.symm⟩ | exact ⟨hs.1.symm,hs.2.2.1⟩)
    obtain ⟨rfl,rfl⟩ := h1
    exact frm_ff p ib ik ir ic e hw S hc hcl kids word is hs (by omega)
def addV : List Int → List Int → Option (List Int)
  | [],B => some B
  | v :: r,B => if v ∈ B then none else addV r (v :: B)
mutual
def chk (p : Pg) : Ex → Nat → List Int → List Int → List Int → Int × List Int × List Int
  | .mk k n gv vs r g ks,depth,B,C,A =>
    if 4000 ≤ depth then (5,B,C) else if frmF p (.mk k n gv vs r g ks) = false then (4,B,C) else
    match addV vs B with
    | none => (14,B,C)
    | some B1 =>
      if k = 1 ∧ n ∈ C then (14,B,C) else
      if (k = 2 ∨ k = 4) ∧ n ∉ vs ++ A then (6,B,C) else
      chks p ks (depth + 1) B1 (if k = 1 then n :: C else C) (vs ++ A)
def chks (p : Pg) : List Ex → Nat → List Int → List Int → List Int → Int × List Int × List Int
  | [],_,B,C,_ => (0,B,C)
  | e :: es,depth,B,C,A =>
    match chk p e depth B C A with
    | (f,B1,C1) => if f = 0 then chks p es depth B1 C1 A else (f,B1,C1)
end
theorem chk_eq (p : Pg) (e : Ex) (depth : Nat) (B C A : List Int) : chk p e depth B C A = if 4000 ≤ depth then (5,B,C) else if frmF p e = false then (4,B,C) else
    match addV e.vs B with
    | none => (14,B,C)
    | some B1 =>
      if e.k = 1 ∧ e.n ∈ C then (14,B,C) else
      if (e.k = 2 ∨ e.k = 4) ∧ e.n ∉ e.vs ++ A then (6,B,C) else
      chks p e.ks (depth + 1) B1 (if e.k = 1 then e.n :: C else C) (e.vs ++ A) := by
  cases e; rw [chk]; rfl
def MapHas (S : Store) (i : Nat) (B : List Int) : Prop := ∃ l c,S[i]? = some (.mp (mpR boxI l) c) ∧ ∀ v,cntR l v = if v ∈ B then 1 else 0
theorem MapHas.congr {S : Store} {i : Nat} {B B' : List Int} (h : MapHas S i B) (hb : ∀ v,v ∈ B ↔ v ∈ B') : MapHas S i B' := by
  obtain ⟨l,c,h1,h2⟩ := h
  refine ⟨l,c,h1,fun v => ?_⟩
  rw [h2 v]
  by_cases hv : v ∈ B
  · rw [if_pos hv,if_pos ((hb v).1 hv)]
  · rw [if_neg hv,if_neg (fun h => hv ((hb v).2 h))]
theorem MapHas.put {S : Store} {i : Nat} {B : List Int} {l : List (Nat × Int × Int)} {c : Nat} (h1 : S[i]? = some (.mp (mpR boxI l) c)) (h2 : ∀ v,cntR l v = if v ∈ B then 1 else 0) (k : Int) :
    MapHas (S.set i (.mp (mpR boxI (putR l c k 1)) (clkR l c k))) i (k :: B) := by
  refine ⟨_,_,get_setS (lt_get h1) _,fun v => ?_⟩
  rw [cntR_put]
  by_cases e : k = v
  · subst e; simp
  · simp [e,h2 v,Ne.symm e]
theorem MapHas.del {S : Store} {i : Nat} {B B' : List Int} {l : List (Nat × Int × Int)} {c : Nat} (h1 : S[i]? = some (.mp (mpR boxI l) c)) (h2 : ∀ v,cntR l v = if v ∈ B then 1 else 0) (k : Int) (hb : ∀ v,v ∈ B' ↔ v ∈ B ∧ v ≠ k) :
    MapHas (S.set i (.mp (mpR boxI (putR l c k 0)) (clkR l c k))) i B' := by
  refine ⟨_,_,get_setS (lt_get h1) _,fun v => ?_⟩
  rw [cntR_put]
  by_cases e : k = v
  · subst e
    have : k ∉ B' := fun h => ((hb k).1 h).2 rfl
    simp [this]
  · rw [if_neg e,h2 v]
    by_cases hv : v ∈ B
    · rw [if_pos hv,if_pos ((hb v).2 ⟨hv,Ne.symm e⟩)]
    · rw [if_neg hv,if_neg (fun h => hv ((hb v).1 h).1)]
theorem MapHas.keep {S S' : Store} {i : Nat} {B : List Int} (h : MapHas S i B) (k : S'[i]? = S[i]?) : MapHas S' i B := by
  obtain ⟨l,c,h1,h2⟩ := h
  exact ⟨l,c,k.trans h1,h2⟩
structure CkS (p : Pg) (ic ib ik ir : Nat) (S : Store) (B C A : List Int) : Prop where
  cb : ic ≠ ib
  ck : ic ≠ ik
  cr : ic ≠ ir
  bk : ib ≠ ik
  br : ib ≠ ir
  kr : ik ≠ ir
  at' : S[ic]? = some (ckB p ib ik ir)
  b : MapHas S ib B
  c : MapHas S ik C
  a : MapHas S ir A
  sub : ∀ v ∈ A,v ∈ B
theorem CkS.keep {p : Pg} {ic ib ik ir : Nat} {S S' : Store} {B C A : List Int} (h : CkS p ic ib ik ir S B C A) (k : Keep [] S S') : CkS p ic ib ik ir S' B C A := by
  obtain ⟨lb,cb,b1,b2⟩ := h.b
  obtain ⟨lk,ck,k1,k2⟩ := h.c
  obtain ⟨la,ca,a1,a2⟩ := h.a
  exact ⟨h.cb,h.ck,h.cr,h.bk,h.br,h.kr,k.get _ _ (by simp) h.at',⟨lb,cb,k.get _ _ (by simp) b1,b2⟩,⟨lk,ck,k.get _ _ (by simp) k1,k2⟩,⟨la,ca,k.get _ _ (by simp) a1,a2⟩,h.sub⟩
theorem CkS.congrA {p : Pg} {ic ib ik ir : Nat} {S : Store} {B C A A' : List Int} (h : CkS p ic ib ik ir S B C A) (ha : ∀ v,v ∈ A ↔ v ∈ A') : CkS p ic ib ik ir S B C A' :=
  ⟨h.cb,h.ck,h.cr,h.bk,h.br,h.kr,h.at',h.b,h.c,h.a.congr ha,fun v hv => h.sub v ((ha v).2 hv)⟩
theorem CkS.putV {p : Pg} {ic ib ik ir : Nat} {S : Store} {B C A : List Int} (h : CkS p ic ib ik ir S B C A) {lb : List (Nat × Int × Int)} {cb : Nat} (b1 : S[ib]? = some (.mp (mpR boxI lb) cb)) (b2 : ∀ v,cntR lb v = if v ∈ B then 1 else 0)
    {la : List (Nat × Int × Int)} {ca : Nat} (a1 : S[ir]? = some (.mp (mpR boxI la) ca)) (a2 : ∀ v,cntR la v = if v ∈ A then 1 else 0) (k : Int) :
    CkS p ic ib ik ir ((S.set ib (.mp (mpR boxI (putR lb cb k 1)) (clkR lb cb k))).set ir (.mp (mpR boxI (putR la ca k 1)) (clkR la ca k))) (k :: B) C (k :: A) := by
  have hbr := h.br
  have hkr := h.kr
  have hbk := h.bk
  refine ⟨h.cb,h.ck,h.cr,h.bk,h.br,h.kr,?_,?_,?_,?_,?_⟩
  · rw [get_setN (Ne.symm h.cr),get_setN (Ne.symm h.cb)]; exact h.at'
  · exact (MapHas.put b1 b2 k).keep (get_setN (Ne.symm hbr) _)
  · exact h.c.keep (by rw [get_setN (Ne.symm hkr),get_setN hbk])
  · exact MapHas.put (by rw [get_setN hbr]; exact a1) a2 k
  · intro v hv
    rcases List.mem_cons.1 hv with rfl | hv
    · simp
    · exact List.mem_cons_of_mem _ (h.sub v hv)
theorem loop44b (p : Pg) (ic ib ik ir : Nat) (e : Ex) (hw : e.w ≤ 1048576) (C : List Int) (x1 x2 x3 x4 x6 x7 x8 x9 x10 x16 x17 x18 x19 x20 x21 x22 x23 x24 x25 x26 x27 : TV) : ∀ (k i : Nat) (x5 x14 x15 : TV) (S : Store) (B A : List Int),i + k = e.vs.length → CkS p ic ib ik ir S B C A →
    ∃ j r y5 y13 y14 y15 S',(j = .ret ∧ r = .iv (.int .i64 14) ∧ addV (e.vs.drop i) B = none ∨ j = .exit 1 ∧ r = x4 ∧ ∃ B1,addV (e.vs.drop i) B = some B1 ∧ CkS p ic ib ik ir S' B1 C ((e.vs.drop i).reverse ++ A)) ∧ Keep [ib,ik,ir] S S' ∧
      lp' (lim K) t44L2 [.ptr ic 58 0,x1,x2,x3,x4,x5,x6,x7,x8,x9,x10,.iv (.sl e.gv (TM.one (.int .i64) e.vs)),.iv (.int .i64 e.vs.length),.iv (.int .i64 (i : Int)),x14,x15,x16,x17,x18,x19,x20,x21,x22,x23,x24,x25,x26,x27] S
        = .ret (j,[.ptr ic 58 0,x1,x2,x3,r,y5,x6,x7,x8,x9,x10,.iv (.sl e.gv (TM.one (.int .i64) e.vs)),.iv (.int .i64 e.vs.length),y13,y14,y15,x16,x17,x18,x19,x20,x21,x22,x23,x24,x25,x26,x27],S')
  | 0,i,x5,x14,x15,S,B,A,h,hs => by
    obtain rfl : i = e.vs.length := by omega
    refine ⟨.exit 1,x4,?_,?_,?_,?_,S,.inr ⟨rfl,rfl,B,by rw [List.drop_length]; rfl,by rw [List.drop_length]; exact hs⟩,.refl _ _,loop_at K _ _ t44L2.eq_1 ?_⟩
    rotate_left 4
    · simp (config := { maxSteps := 4000000 }) (disch := omega) only [go_sem]
      rfl
  | k + 1,i,x5,x14,x15,S,B,A,h,hs => by
    have hwe := Ex.w_eq e
    have hla : i < e.vs.length := by omega
    have hix := ix_one (f := IV.int .i64) (t := e.gv) (l := e.vs) (i := (i : Int)) (by omega)
    rw [Int.toNat_natCast] at hix
    have hdr := drop_get hla
    obtain ⟨lb,cb,b1,b2⟩ := hs.b
    obtain ⟨la,ca,a1,a2⟩ := hs.a
    have hat := hs.at'
    have n1 := hs.cb
    have n2 := hs.ck
    have n3 := hs.cr
    have n4 := hs.bk
    have n5 := hs.br
    have n6 := hs.kr
    generalize hx : e.vs.getD i default = x at *
    have b2x := b2 x
    by_cases hm : x ∈ B
    · rw [if_pos hm] at b2x
      refine ⟨.ret,.iv (.int .i64 14),?_,?_,?_,?_,S,.inl ⟨rfl,rfl,by rw [hdr,addV,if_pos hm]⟩,.refl _ _,loop_at K _ _ t44L2.eq_1 ?_⟩
      rotate_left 4
      · simp (config := { maxSteps := 4000000 }) (disch := omega) only [go_sem,hix,hat,b1,b2x]
        rfl
    · rw [if_neg hm] at b2x
      obtain ⟨j,r,y5,y13,y14,y15,S',hj,hk,ih⟩ := loop44b p ic ib ik ir e hw C x1 x2 x3 x4 x6 x7 x8 x9 x10 x16 x17 x18 x19 x20 x21 x22 x23 x24 x25 x26 x27 k (i + 1) (.iv (.int .i64 x)) (.iv (.bool true)) (.iv (.bool false)) _ _ _ (by omega) (hs.putV b1 b2 a1 a2 x)
      rw [show ((i + 1 : Nat) : Int) = (i : Int) + 1 by omega] at ih
      refine ⟨j,r,y5,y13,y14,y15,S',?_,((Keep.set S (by simp) _).trans (Keep.set _ (by simp) _)).trans hk,loop_at K _ _ t44L2.eq_1 ?_⟩
      · rw [hdr,addV,if_neg hm,List.reverse_cons,List.append_assoc]
        exact hj
      · simp (config := { maxSteps := 4000000 }) (disch := omega) only [go_sem,hix,hat,b1,b2x,a1,get_setN,wrap_i64]
        exact congrArg er ih
theorem addV_mem : ∀ {l B B1 : List Int},addV l B = some B1 → (∀ v,v ∈ B1 ↔ v ∈ l ∨ v ∈ B) ∧ (∀ v ∈ l,v ∉ B) ∧ l.Nodup
  | [],B,B1,h => by simp [addV] at h; subst h; simp
  | x :: r,B,B1,h => by
    unfold addV at h
    split at h
    · cases h
    · rename_i hx
      obtain ⟨h1,h2,h3⟩ := addV_mem h
      refine ⟨fun v => ?_,?_,?_⟩
      · rw [h1 v]
        simp only [List.mem_cons]
        constructor
        · rintro (h | h | h)
          · exact .inl (.inr h)
          · exact .inl (.inl h)
          · exact .inr h
        · rintro ((h | h) | h)
          · exact .inr (.inl h)
          · exact .inl h
          · exact .inr (.inr h)
      · intro v hv
        rcases List.mem_cons.1 hv with rfl | hv
        · exact hx
        · exact fun hb => h2 v hv (List.mem_cons_of_mem _ hb)
      · rw [List.nodup_cons]
        exact ⟨fun hm => h2 x hm (by simp),h3⟩
theorem CkS.delA {p : Pg} {ic ib ik ir : Nat} {S : Store} {B C A : List Int} (h : CkS p ic ib ik ir S B C A) {la : List (Nat × Int × Int)} {ca : Nat} (a1 : S[ir]? = some (.mp (mpR boxI la) ca)) (a2 : ∀ v,cntR la v = if v ∈ A then 1 else 0) (k : Int) {A' : List Int} (ha : ∀ v,v ∈ A' ↔ v ∈ A ∧ v ≠ k) :
    CkS p ic ib ik ir (S.set ir (.mp (mpR boxI (putR la ca k 0)) (clkR la ca k))) B C A' := by
  refine ⟨h.cb,h.ck,h.cr,h.bk,h.br,h.kr,?_,h.b.keep (get_setN (Ne.symm h.br) _),h.c.keep (get_setN (Ne.symm h.kr) _),MapHas.del a1 a2 k ha,fun v hv => h.sub v ((ha v).1 hv).1⟩
  rw [get_setN (Ne.symm h.cr)]; exact h.at'
theorem loop44u (p : Pg) (ic ib ik ir : Nat) (e : Ex) (hw : e.w ≤ 1048576) (B C : List Int) (x1 x2 x3 x4 x5 x6 x7 x9 x10 x11 x12 x13 x14 x15 x16 x17 x18 x19 x20 x21 x22 x23 : TV) : ∀ (k i : Nat) (x8 x27 : TV) (S : Store) (A : List Int),i + k = e.vs.length → CkS p ic ib ik ir S B C A →
    ∃ y8 y27 S',(∀ A',(∀ v,v ∈ A' ↔ v ∈ A ∧ v ∉ e.vs.drop i) → CkS p ic ib ik ir S' B C A') ∧ Keep [ib,ik,ir] S S' ∧
      lp' (lim K) t44L0 [.ptr ic 58 0,x1,x2,x3,x4,x5,x6,x7,x8,x9,x10,x11,x12,x13,x14,x15,x16,x17,x18,x19,x20,x21,x22,x23,.iv (.sl e.gv (TM.one (.int .i64) e.vs)),.iv (.int .i64 e.vs.length),.iv (.int .i64 (i : Int)),x27] S
        = .ret (.exit 5,[.ptr ic 58 0,x1,x2,x3,x4,x5,x6,x7,y8,x9,x10,x11,x12,x13,x14,x15,x16,x17,x18,x19,x20,x21,x22,x23,.iv (.sl e.gv (TM.one (.int .i64) e.vs)),.iv (.int .i64 e.vs.length),.iv (.int .i64 e.vs.length),y27],S')
  | 0,i,x8,x27,S,A,h,hs => by
    obtain rfl : i = e.vs.length := by omega
    refine ⟨?_,?_,S,fun A' ha => hs.congrA (fun v => by rw [ha v,List.drop_length]; simp),.refl _ _,loop_at K _ _ t44L0.eq_1 ?_⟩
    rotate_left 2
    · simp (config := { maxSteps := 4000000 }) (disch := omega) only [go_sem]
      rfl
  | k + 1,i,x8,x27,S,A,h,hs => by
    have hwe := Ex.w_eq e
    have hla : i < e.vs.length := by omega
    have hix := ix_one (f := IV.int .i64) (t := e.gv) (l := e.vs) (i := (i : Int)) (by omega)
    rw [Int.toNat_natCast] at hix
    have hdr := drop_get hla
    obtain ⟨la,ca,a1,a2⟩ := hs.a
    have hat := hs.at'
    generalize hx : e.vs.getD i default = x at *
    obtain ⟨y8,y27,S',hj,hk,ih⟩ := loop44u p ic ib ik ir e hw B C x1 x2 x3 x4 x5 x6 x7 x9 x10 x11 x12 x13 x14 x15 x16 x17 x18 x19 x20 x21 x22 x23 k (i + 1) (.iv (.int .i64 x)) (.iv (.bool true)) _ (A.filter fun v => decide (v ≠ x)) (by omega) (hs.delA a1 a2 x (fun v => by simp))
    rw [show ((i + 1 : Nat) : Int) = (i : Int) + 1 by omega] at ih
    refine ⟨y8,y27,S',fun A' ha => hj A' (fun v => ?_),(Keep.set S (by simp) _).trans hk,loop_at K _ _ t44L0.eq_1 ?_⟩
    · rw [ha v,hdr]
      simp only [List.mem_cons,not_or,List.mem_filter,decide_eq_true_eq]
      constructor
      · rintro ⟨h1,h2,h3⟩; exact ⟨⟨h1,h2⟩,h3⟩
      · rintro ⟨⟨h1,h2⟩,h3⟩; exact ⟨h1,h2,h3⟩
    · simp (config := { maxSteps := 4000000 }) (disch := omega) only [go_sem,hix,hat,a1,wrap_i64]
      exact congrArg er ih
def ChkOK (p : Pg) (ic ib ik ir : Nat) (N : Nat) : Prop := ∀ (e : Ex) (depth : Nat) (S : Store) (B C A : List Int),e.w ≤ N → depth ≤ 4000 → CkS p ic ib ik ir S B C A →
  ∃ S',(lim K).call 44 [.ptr ic 58 0,.iv (.agg (encE e)),.iv (.int .i64 depth)] S = .ret (.iv (.int .i64 (chk p e depth B C A).1),S') ∧ Keep [ib,ik,ir] S S' ∧ ((chk p e depth B C A).1 = 0 → CkS p ic ib ik ir S' (chk p e depth B C A).2.1 (chk p e depth B C A).2.2 A)
theorem loop44k {N : Nat} (p : Pg) (ic ib ik ir : Nat) (ih : ChkOK p ic ib ik ir N) (e : Ex) (hw : e.w ≤ N + 1) (hN : N + 1 ≤ 1048576) (depth : Nat) (hd : depth < 4000) (A : List Int) (x1 x3 x4 x5 x8 x9 x10 x11 x12 x13 x14 x15 x16 x17 x18 x24 x25 x26 x27 : TV) : ∀ (k i : Nat) (x6 x7 x22 x23 : TV) (S : Store) (B C : List Int),i + k = e.ks.length → CkS p ic ib ik ir S B C A →
    ∃ j r y6 y7 y21 y22 y23 S',(j = .ret ∧ r = .iv (.int .i64 (chks p (e.ks.drop i) (depth + 1) B C A).1) ∧ (chks p (e.ks.drop i) (depth + 1) B C A).1 ≠ 0 ∨ j = .exit 3 ∧ r = x4 ∧ (chks p (e.ks.drop i) (depth + 1) B C A).1 = 0 ∧ CkS p ic ib ik ir S' (chks p (e.ks.drop i) (depth + 1) B C A).2.1 (chks p (e.ks.drop i) (depth + 1) B C A).2.2 A) ∧ Keep [ib,ik,ir] S S' ∧
      lp' (lim K) t44L1 [.ptr ic 58 0,x1,.iv (.int .i64 depth),x3,x4,x5,x6,x7,x8,x9,x10,x11,x12,x13,x14,x15,x16,x17,x18,.iv (.sl e.g (encEs e.ks)),.iv (.int .i64 e.ks.length),.iv (.int .i64 (i : Int)),x22,x23,x24,x25,x26,x27] S
        = .ret (j,[.ptr ic 58 0,x1,.iv (.int .i64 depth),x3,r,x5,y6,y7,x8,x9,x10,x11,x12,x13,x14,x15,x16,x17,x18,.iv (.sl e.g (encEs e.ks)),.iv (.int .i64 e.ks.length),y21,y22,y23,x24,x25,x26,x27],S')
  | 0,i,x6,x7,x22,x23,S,B,C,h,hs => by
    obtain rfl : i = e.ks.length := by omega
    refine ⟨.exit 3,x4,?_,?_,?_,?_,?_,S,.inr ⟨rfl,rfl,by rw [List.drop_length,chks],by rw [List.drop_length,chks]; exact hs⟩,.refl _ _,loop_at K _ _ t44L1.eq_1 ?_⟩
    rotate_left 5
    · simp (config := { maxSteps := 4000000 }) (disch := omega) only [go_sem]
      rfl
  | k + 1,i,x6,x7,x22,x23,S,B,C,h,hs => by
    have hla : i < e.ks.length := by omega
    have hwe := Ex.w_eq e
    have hwl := Ex.ws_len e.ks
    have hix := ixE (g := e.g) (ks := e.ks) (i := (i : Int)) (by omega)
    rw [Int.toNat_natCast] at hix
    have hdr := drop_get hla
    have hkw := Ex.kid_lt (d := e) (get_mem hla)
    generalize hx : e.ks.getD i default = x at *
    obtain ⟨S1,hc,hk1,hs1⟩ := ih x (depth + 1) S B C A (by omega) (by omega) hs
    rw [show ((depth + 1 : Nat) : Int) = (depth : Int) + 1 by omega] at hc
    rw [encE_eq] at hc
    have hun : chks p (x :: e.ks.drop (i + 1)) (depth + 1) B C A = if (chk p x (depth + 1) B C A).1 = 0 then chks p (e.ks.drop (i + 1)) (depth + 1) (chk p x (depth + 1) B C A).2.1 (chk p x (depth + 1) B C A).2.2 A else chk p x (depth + 1) B C A := by
      rw [chks]
    rw [hdr,hun]
    generalize hq : chk p x (depth + 1) B C A = q at *
    obtain ⟨f,B1,C1⟩ := q
    simp only at hc hs1 ⊢
    by_cases hf : f = 0
    · obtain ⟨j,r,y6,y7,y21,y22,y23,S',hj,hk,ih2⟩ := loop44k p ic ib ik ir ih e hw hN depth hd A x1 x3 x4 x5 x8 x9 x10 x11 x12 x13 x14 x15 x16 x17 x18 x24 x25 x26 x27 k (i + 1) (lbE x) (.iv (.int .i64 f)) (.iv (.bool true)) (.iv (.bool false)) S1 B1 C1 (by omega) (hs1 hf)
      rw [show ((i + 1 : Nat) : Int) = (i : Int) + 1 by omega] at ih2
      refine ⟨j,r,y6,y7,y21,y22,y23,S',?_,hk1.trans hk,loop_at K _ _ t44L1.eq_1 ?_⟩
      · rw [if_pos hf]; exact hj
      · simp (config := { maxSteps := 4000000 }) (disch := omega) only [go_sem,hix,getE5,hc,wrap_i64]
        exact congrArg er ih2
    · refine ⟨.ret,.iv (.int .i64 f),?_,?_,?_,?_,?_,S1,.inl ⟨rfl,by rw [if_neg hf],by rw [if_neg hf]; exact hf⟩,hk1,loop_at K _ _ t44L1.eq_1 ?_⟩
      rotate_left 5
      · simp (config := { maxSteps := 4000000 }) (disch := omega) only [go_sem,hix,getE5,hc,wrap_i64]
        rfl
theorem CkS.putC {p : Pg} {ic ib ik ir : Nat} {S : Store} {B C A : List Int} (h : CkS p ic ib ik ir S B C A) {lc : List (Nat × Int × Int)} {cc : Nat} (c1 : S[ik]? = some (.mp (mpR boxI lc) cc)) (c2 : ∀ v,cntR lc v = if v ∈ C then 1 else 0) (k : Int) :
    CkS p ic ib ik ir (S.set ik (.mp (mpR boxI (putR lc cc k 1)) (clkR lc cc k))) B (k :: C) A := by
  refine ⟨h.cb,h.ck,h.cr,h.bk,h.br,h.kr,?_,h.b.keep (get_setN (Ne.symm h.bk) _),MapHas.put c1 c2 k,h.a.keep (get_setN h.kr _),h.sub⟩
  rw [get_setN (Ne.symm h.ck)]; exact h.at'
theorem tail44 {N : Nat} (p : Pg) (ic ib ik ir : Nat) (ih : ChkOK p ic ib ik ir N) (e : Ex) (hw : e.w ≤ N + 1) (hN : N + 1 ≤ 1048576) (depth : Nat) (hd : depth < 4000) (A B1 C1 : List Int) (hB : ∀ v ∈ e.vs,v ∉ A) (x1 x3 x5 x6 x7 x8 x9 x10 x11 x12 x13 x14 x15 x16 x17 x18 x22 x23 x24 x25 x26 x27 : TV) (S : Store) (hs : CkS p ic ib ik ir S B1 C1 (e.vs ++ A)) :
    ∃ j r y6 y7 y21 y22 y23 S2,(j = .ret ∧ r = .iv (.int .i64 (chks p e.ks (depth + 1) B1 C1 (e.vs ++ A)).1) ∧ (chks p e.ks (depth + 1) B1 C1 (e.vs ++ A)).1 ≠ 0 ∧ Keep [ib,ik,ir] S S2 ∨
        j = .exit 3 ∧ r = .iv (.int .i64 0) ∧ (chks p e.ks (depth + 1) B1 C1 (e.vs ++ A)).1 = 0 ∧ ∃ (y8 y27 : TV) (S3 : Store),CkS p ic ib ik ir S3 (chks p e.ks (depth + 1) B1 C1 (e.vs ++ A)).2.1 (chks p e.ks (depth + 1) B1 C1 (e.vs ++ A)).2.2 A ∧ Keep [ib,ik,ir] S S3 ∧
          lp' (lim K) t44L0 [.ptr ic 58 0,x1,.iv (.int .i64 depth),x3,.iv (.int .i64 0),x5,y6,y7,x8,x9,x10,x11,x12,x13,x14,x15,x16,x17,x18,.iv (.sl e.g (encEs e.ks)),.iv (.int .i64 e.ks.length),y21,y22,y23,.iv (.sl e.gv (TM.one (.int .i64) e.vs)),.iv (.int .i64 e.vs.length),.iv (.int .i64 0),x27] S2
            = .ret (.exit 5,[.ptr ic 58 0,x1,.iv (.int .i64 depth),x3,.iv (.int .i64 0),x5,y6,y7,y8,x9,x10,x11,x12,x13,x14,x15,x16,x17,x18,.iv (.sl e.g (encEs e.ks)),.iv (.int .i64 e.ks.length),y21,y22,y23,.iv (.sl e.gv (TM.one (.int .i64) e.vs)),.iv (.int .i64 e.vs.length),.iv (.int .i64 e.vs.length),y27],S3)) ∧
      lp' (lim K) t44L1 [.ptr ic 58 0,x1,.iv (.int .i64 depth),x3,.iv (.int .i64 0),x5,x6,x7,x8,x9,x10,x11,x12,x13,x14,x15,x16,x17,x18,.iv (.sl e.g (encEs e.ks)),.iv (.int .i64 e.ks.length),.iv (.int .i64 0),x22,x23,x24,x25,x26,x27] S
        = .ret (j,[.ptr ic 58 0,x1,.iv (.int .i64 depth),x3,r,x5,y6,y7,x8,x9,x10,x11,x12,x13,x14,x15,x16,x17,x18,.iv (.sl e.g (encEs e.ks)),.iv (.int .i64 e.ks.length),y21,y22,y23,x24,x25,x26,x27],S2) := by
  have hwe := Ex.w_eq e
  obtain ⟨j,r,y6,y7,y21,y22,y23,S2,hj,hk,l1⟩ := loop44k p ic ib ik ir ih e hw hN depth hd (e.vs ++ A) x1 x3 (.iv (.int .i64 0)) x5 x8 x9 x10 x11 x12 x13 x14 x15 x16 x17 x18 x24 x25 x26 x27 e.ks.length 0 x6 x7 x22 x23 S B1 C1 (by omega) hs
  rw [show ((0 : Nat) : Int) = 0 from rfl] at l1
  rw [List.drop_zero] at hj
  refine ⟨j,r,y6,y7,y21,y22,y23,S2,?_,l1⟩
  rcases hj with ⟨h1,h2,h3⟩ | ⟨h1,h2,h3,h4⟩
  · exact .inl ⟨h1,h2,h3,hk⟩
  · obtain ⟨y8,y27,S3,h5,hk2,l2⟩ := loop44u p ic ib ik ir e (by omega) _ _ x1 (.iv (.int .i64 depth)) x3 (.iv (.int .i64 0)) x5 y6 y7 x9 x10 x11 x12 x13 x14 x15 x16 x17 x18 (.iv (.sl e.g (encEs e.ks))) (.iv (.int .i64 e.ks.length)) y21 y22 y23 e.vs.length 0 x8 x27 S2 _ (by omega) h4
    rw [show ((0 : Nat) : Int) = 0 from rfl] at l2
    rw [List.drop_zero] at h5
    refine .inr ⟨h1,h2,h3,y8,y27,S3,h5 A (fun v => ?_),hk.trans hk2,l2⟩
    simp only [List.mem_append]
    constructor
    · exact fun hv => ⟨.inr hv,fun hm => hB v hm hv⟩
    · rintro ⟨h | h,h'⟩
      · exact absurd h h'
      · exact h
theorem call44 (p : Pg) (hp : p.cs.length ≤ 2000000) (ic ib ik ir : Nat) : ∀ N,N ≤ 1048576 → ChkOK p ic ib ik ir N
  | 0,hN => fun e depth S B C A hw hd hs => by have := Ex.w_eq e; omega
  | N + 1,hN => fun e depth S B C A hw hd hs => by
    have hwe := Ex.w_eq e
    rw [chk_eq]
    by_cases hdp : 4000 ≤ depth
    · rw [if_pos hdp]
      refine ⟨S,call_ret' K _ (fn := t44) rfl rfl ?_,.refl _ _,fun h => absurd h (by decide : ¬ ((5 : Int) = 0))⟩
      rw [encE_eq]
      simp (config := { maxSteps := 4000000 }) (disch := omega) only [t44,go_sem,TM.undef]
    rw [if_neg hdp]
    obtain ⟨S1,h87,hk1⟩ := call87 p ib ik ir ic e (by omega) S hs.at' hp
    rw [encE_eq] at h87
    have hs1 := hs.keep hk1
    have hkk : Keep [ib,ik,ir] S S1 := hk1.mono (by simp)
    cases hf : frmF p e with
    | false =>
      rw [if_pos rfl]
      rw [hf] at h87
      refine ⟨S1,call_ret' K _ (fn := t44) rfl rfl ?_,hkk,fun h => absurd h (by decide : ¬ ((4 : Int) = 0))⟩
      rw [encE_eq]
      simp (config := { maxSteps := 4000000 }) (disch := omega) only [t44,go_sem,TM.undef,h87]
    | true =>
      rw [if_neg (by decide)]
      rw [hf] at h87
      obtain ⟨j,r,y5,y13,y14,y15,S2,hj,hk2,l2⟩ := loop44b p ic ib ik ir e (by omega) C (.iv (.agg (encE e))) (.iv (.int .i64 depth)) (lbE e) (.iv (.int .i64 0)) (.tup []) (.tup []) (.tup []) (.iv (.bool false)) (.iv (.bool false)) (.tup []) (.tup []) (.tup []) (.tup []) (.tup []) (.tup []) (.tup []) (.tup []) (.tup []) (.tup []) (.tup []) (.tup []) e.vs.length 0 (.tup []) (.tup []) (.tup []) S1 B A (by omega) hs1
      rw [show ((0 : Nat) : Int) = 0 from rfl] at l2
      rw [List.drop_zero] at hj
      rcases hj with ⟨rfl,rfl,ha⟩ | ⟨rfl,rfl,B1,ha,hs2⟩
      · rw [ha]
        refine ⟨S2,call_ret' K _ (fn := t44) rfl rfl ?_,hkk.trans hk2,fun h => absurd h (by decide : ¬ ((14 : Int) = 0))⟩
        rw [encE_eq] at l2 ⊢
        simp (config := { maxSteps := 4000000 }) (disch := omega) only [t44,go_sem,TM.undef,h87,TM.one_length]
        rw [l2]
        simp (config := { maxSteps := 4000000 }) (disch := omega) only [go_sem]
      · rw [ha]
        simp only
        obtain ⟨m1,m2,m3⟩ := addV_mem ha
        have hs2' : CkS p ic ib ik ir S2 B1 C (e.vs ++ A) := hs2.congrA (fun v => by simp)
        have hB : ∀ v ∈ e.vs,v ∉ A := fun v hv hA => m2 v hv (hs.sub v hA)
        obtain ⟨lc,cc,c1,c2⟩ := hs2'.c
        obtain ⟨la,ca,a1,a2⟩ := hs2'.a
        have hat := hs2'.at'
        have c2n := c2 e.n
        have a2n := a2 e.n
        have n1 := hs.cb
        have n2 := hs.ck
        have n3 := hs.cr
        have n4 := hs.bk
        have n5 := hs.br
        have n6 := hs.kr
        by_cases hk1 : e.k = 1
        · by_cases hm : e.n ∈ C
          · rw [if_pos ⟨hk1,hm⟩]
            rw [if_pos hm] at c2n
            refine ⟨S2,call_ret' K _ (fn := t44) rfl rfl ?_,hkk.trans hk2,fun h => absurd h (by decide : ¬ ((14 : Int) = 0))⟩
            rw [encE_eq] at l2 ⊢
            simp (config := { maxSteps := 4000000 }) (disch := omega) only [t44,go_sem,TM.undef,h87,TM.one_length]
            rw [l2]
            simp (config := { maxSteps := 4000000 }) (disch := omega) only [go_sem,hat,c1,c2n]
          · rw [if_neg (fun h => hm h.2),if_neg (by omega),if_pos hk1]
            rw [if_neg hm] at c2n
            have hs3 := hs2'.putC c1 c2 e.n
            obtain ⟨j,r,y6,y7,y21,y22,y23,S4,hj,l3⟩ := tail44 p ic ib ik ir (call44 p hp ic ib ik ir N (by omega)) e hw hN depth (by omega) A B1 (e.n :: C) hB (.iv (.agg (encE e))) (lbE e) y5 (.tup []) (.tup []) (.tup []) (.iv (.bool false)) (.iv (.bool false)) (.iv (.sl e.gv (TM.one (.int .i64) e.vs))) (.iv (.int .i64 e.vs.length)) y13 y14 y15 (.iv (.bool true)) (.iv (.bool false)) (.iv (.bool false)) (.tup []) (.tup []) (.tup []) (.tup []) (.tup []) (.tup []) _ hs3
            rcases hj with ⟨rfl,rfl,hne,hk4⟩ | ⟨rfl,rfl,h0,y8,y27,S5,hs5,hk5,l5⟩
            · refine ⟨S4,call_ret' K _ (fn := t44) rfl rfl ?_,(hkk.trans hk2).trans ((Keep.set _ (by simp) _).trans hk4),fun h => absurd h hne⟩
              rw [encE_eq] at l2 l3 ⊢
              simp (config := { maxSteps := 4000000 }) (disch := omega) only [t44,go_sem,TM.undef,h87,TM.one_length]
              rw [l2]
              simp (config := { maxSteps := 4000000 }) (disch := omega) only [go_sem,hat,c1,c2n,encEs_len]
              rw [l3]
              simp (config := { maxSteps := 4000000 }) (disch := omega) only [go_sem]
            · refine ⟨S5,call_ret' K _ (fn := t44) rfl rfl ?_,(hkk.trans hk2).trans ((Keep.set _ (by simp) _).trans hk5),fun _ => hs5⟩
              rw [h0]
              rw [encE_eq] at l2 l3 l5 ⊢
              simp (config := { maxSteps := 4000000 }) (disch := omega) only [t44,go_sem,TM.undef,h87,TM.one_length]
              rw [l2]
              simp (config := { maxSteps := 4000000 }) (disch := omega) only [go_sem,hat,c1,c2n,encEs_len]
              rw [l3]
              simp (config := { maxSteps := 4000000 }) (disch := omega) only [go_sem,TM.one_length]
              rw [l5]
              simp (config := { maxSteps := 4000000 }) (disch := omega) only [go_sem]
        · rw [if_neg (fun h => hk1 h.1),if_neg hk1]
          by_cases hk24 : e.k = 2 ∨ e.k = 4
          · by_cases hm : e.n ∈ e.vs ++ A
            · rw [if_neg (fun h => h.2 hm)]
              rw [if_pos hm] at a2n
              rcases hk24 with hk24 | hk24
              · obtain ⟨j,r,y6,y7,y21,y22,y23,S4,hj,l3⟩ := tail44 p ic ib ik ir (call44 p hp ic ib ik ir N (by omega)) e hw hN depth (by omega) A B1 C hB (.iv (.agg (encE e))) (lbE e) y5 (.tup []) (.tup []) (.tup []) (.iv (.bool false)) (.iv (.bool false)) (.iv (.sl e.gv (TM.one (.int .i64) e.vs))) (.iv (.int .i64 e.vs.length)) y13 y14 y15 (.iv (.bool false)) (.tup []) (.iv (.bool false)) (.tup []) (.tup []) (.tup []) (.tup []) (.tup []) (.tup []) _ hs2'
                rcases hj with ⟨rfl,rfl,hne,hk4⟩ | ⟨rfl,rfl,h0,y8,y27,S5,hs5,hk5,l5⟩
                · refine ⟨S4,call_ret' K _ (fn := t44) rfl rfl ?_,(hkk.trans hk2).trans hk4,fun h => absurd h hne⟩
                  rw [encE_eq] at l2 l3 ⊢
                  simp (config := { maxSteps := 4000000 }) (disch := omega) only [t44,go_sem,TM.undef,h87,TM.one_length]
                  rw [l2]
                  simp (config := { maxSteps := 4000000 }) (disch := omega) only [go_sem,hat,encEs_len,a1,a2n]
                  rw [l3]
                  simp (config := { maxSteps := 4000000 }) (disch := omega) only [go_sem]
                · refine ⟨S5,call_ret' K _ (fn := t44) rfl rfl ?_,(hkk.trans hk2).trans hk5,fun _ => hs5⟩
                  rw [h0]
                  rw [encE_eq] at l2 l3 l5 ⊢
                  simp (config := { maxSteps := 4000000 }) (disch := omega) only [t44,go_sem,TM.undef,h87,TM.one_length]
                  rw [l2]
                  simp (config := { maxSteps := 4000000 }) (disch := omega) only [go_sem,hat,encEs_len,a1,a2n]
                  rw [l3]
                  simp (config := { maxSteps := 4000000 }) (disch := omega) only [go_sem,TM.one_length]
                  rw [l5]
                  simp (config := { maxSteps := 4000000 }) (disch := omega) only [go_sem]
              · obtain ⟨j,r,y6,y7,y21,y22,y23,S4,hj,l3⟩ := tail44 p ic ib ik ir (call44 p hp ic ib ik ir N (by omega)) e hw hN depth (by omega) A B1 C hB (.iv (.agg (encE e))) (lbE e) y5 (.tup []) (.tup []) (.tup []) (.iv (.bool false)) (.iv (.bool false)) (.iv (.sl e.gv (TM.one (.int .i64) e.vs))) (.iv (.int .i64 e.vs.length)) y13 y14 y15 (.iv (.bool false)) (.tup []) (.iv (.bool false)) (.tup []) (.tup []) (.tup []) (.tup []) (.tup []) (.tup []) _ hs2'
                rcases hj with ⟨rfl,rfl,hne,hk4⟩ | ⟨rfl,rfl,h0,y8,y27,S5,hs5,hk5,l5⟩
                · refine ⟨S4,call_ret' K _ (fn := t44) rfl rfl ?_,(hkk.trans hk2).trans hk4,fun h => absurd h hne⟩
                  rw [encE_eq] at l2 l3 ⊢
                  simp (config := { maxSteps := 4000000 }) (disch := omega) only [t44,go_sem,TM.undef,h87,TM.one_length]
                  rw [l2]
                  simp (config := { maxSteps := 4000000 }) (disch := omega) only [go_sem,hat,encEs_len,a1,a2n]
                  rw [l3]
                  simp (config := { maxSteps := 4000000 }) (disch := omega) only [go_sem]
                · refine ⟨S5,call_ret' K _ (fn := t44) rfl rfl ?_,(hkk.trans hk2).trans hk5,fun _ => hs5⟩
                  rw [h0]
                  rw [encE_eq] at l2 l3 l5 ⊢
                  simp (config := { maxSteps := 4000000 }) (disch := omega) only [t44,go_sem,TM.undef,h87,TM.one_length]
                  rw [l2]
                  simp (config := { maxSteps := 4000000 }) (disch := omega) only [go_sem,hat,encEs_len,a1,a2n]
                  rw [l3]
                  simp (config := { maxSteps := 4000000 }) (disch := omega) only [go_sem,TM.one_length]
                  rw [l5]
                  simp (config := { maxSteps := 4000000 }) (disch := omega) only [go_sem]
            · rw [if_pos ⟨hk24,hm⟩]
              rw [if_neg hm] at a2n
              refine ⟨S2,call_ret' K _ (fn := t44) rfl rfl ?_,hkk.trans hk2,fun h => absurd h (by decide : ¬ ((6 : Int) = 0))⟩
              rw [encE_eq] at l2 ⊢
              rcases hk24 with hk24 | hk24
              · simp (config := { maxSteps := 4000000 }) (disch := omega) only [t44,go_sem,TM.undef,h87,TM.one_length]
                rw [l2]
                simp (config := { maxSteps := 4000000 }) (disch := omega) only [go_sem,hat,a1,a2n]
              · simp (config := { maxSteps := 4000000 }) (disch := omega) only [t44,go_sem,TM.undef,h87,TM.one_length]
                rw [l2]
                simp (config := { maxSteps := 4000000 }) (disch := omega) only [go_sem,hat,a1,a2n]
          · rw [if_neg (fun h => hk24 h.1)]
            have hk2' : e.k ≠ 2 := fun h => hk24 (.inl h)
            have hk4' : e.k ≠ 4 := fun h => hk24 (.inr h)
            obtain ⟨j,r,y6,y7,y21,y22,y23,S4,hj,l3⟩ := tail44 p ic ib ik ir (call44 p hp ic ib ik ir N (by omega)) e hw hN depth (by omega) A B1 C hB (.iv (.agg (encE e))) (lbE e) y5 (.tup []) (.tup []) (.tup []) (.iv (.bool false)) (.iv (.bool false)) (.iv (.sl e.gv (TM.one (.int .i64) e.vs))) (.iv (.int .i64 e.vs.length)) y13 y14 y15 (.iv (.bool false)) (.tup []) (.iv (.bool false)) (.tup []) (.tup []) (.tup []) (.tup []) (.tup []) (.tup []) _ hs2'
            rcases hj with ⟨rfl,rfl,hne,hk4⟩ | ⟨rfl,rfl,h0,y8,y27,S5,hs5,hk5,l5⟩
            · refine ⟨S4,call_ret' K _ (fn := t44) rfl rfl ?_,(hkk.trans hk2).trans hk4,fun h => absurd h hne⟩
              rw [encE_eq] at l2 l3 ⊢
              simp (config := { maxSteps := 4000000 }) (disch := omega) only [t44,go_sem,TM.undef,h87,TM.one_length]
              rw [l2]
              simp (config := { maxSteps := 4000000 }) (disch := omega) only [go_sem,hat,encEs_len]
              rw [l3]
              simp (config := { maxSteps := 4000000 }) (disch := omega) only [go_sem]
            · refine ⟨S5,call_ret' K _ (fn := t44) rfl rfl ?_,(hkk.trans hk2).trans hk5,fun _ => hs5⟩
              rw [h0]
              rw [encE_eq] at l2 l3 l5 ⊢
              simp (config := { maxSteps := 4000000 }) (disch := omega) only [t44,go_sem,TM.undef,h87,TM.one_length]
              rw [l2]
              simp (config := { maxSteps := 4000000 }) (disch := omega) only [go_sem,hat,encEs_len]
              rw [l3]
              simp (config := { maxSteps := 4000000 }) (disch := omega) only [go_sem,TM.one_length]
              rw [l5]
              simp (config := { maxSteps := 4000000 }) (disch := omega) only [go_sem]
theorem loop13 (p : Pg) (hp : p.w ≤ 1048576) (x0 x1 x4 x5 : TV) (S : Store) : ∀ (k i : Nat) (x3 x9 x10 : TV),i + k = p.cs.length →
    ∃ j r y3 y8 y9 y10,(j = .ret ∧ r = .iv (.int .i64 2) ∧ ((p.cs.drop i).all fun d => mayF d && plF d) = false ∨ j = .exit 0 ∧ r = .iv (.int .i64 0) ∧ ((p.cs.drop i).all fun d => mayF d && plF d) = true) ∧
      lp' (lim K) t13L0 [x0,x1,.iv (.int .i64 0),x3,x4,x5,.iv (.sl p.gc (encDs p.cs)),.iv (.int .i64 p.cs.length),.iv (.int .i64 (i : Int)),x9,x10] S = .ret (j,[x0,x1,r,y3,x4,x5,.iv (.sl p.gc (encDs p.cs)),.iv (.int .i64 p.cs.length),y8,y9,y10],S)
  | 0,i,x3,x9,x10,h => by
    obtain rfl : i = p.cs.length := by omega
    refine ⟨.exit 0,.iv (.int .i64 0),?_,?_,?_,?_,.inr ⟨rfl,rfl,by rw [List.drop_length]; rfl⟩,loop_at K _ _ t13L0.eq_1 ?_⟩
    rotate_left 4
    · simp (config := { maxSteps := 4000000 }) (disch := omega) only [go_sem]
      rfl
  | k + 1,i,x3,x9,x10,h => by
    have hpw : p.b.w + Dt.ws p.cs ≤ 1048576 := hp
    have hla : i < p.cs.length := by omega
    have hwl := Dt.ws_len p.cs
    have hix := ixD (g := p.gc) (ks := p.cs) (i := (i : Int)) (by omega)
    rw [Int.toNat_natCast] at hix
    have hdr := drop_get hla
    have hxw := Dt.ws_mem (get_mem hla)
    generalize hx : p.cs.getD i default = x at *
    have hm := call42 1048576 (by omega) x (by omega)
    have hq := call43 1048576 (by omega) x (by omega)
    rw [encD_eq] at hm hq
    cases h1 : mayF x with
    | false =>
      rw [h1] at hm
      refine ⟨.ret,.iv (.int .i64 2),?_,?_,?_,?_,.inl ⟨rfl,rfl,by rw [hdr,List.all_cons,h1,Bool.false_and,Bool.false_and]⟩,loop_at K _ _ t13L0.eq_1 ?_⟩
      rotate_left 4
      · simp (config := { maxSteps := 4000000 }) (disch := omega) only [go_sem,hix,getD5,cpR_pure hm]
        rfl
    | true =>
      rw [h1] at hm
      cases h2 : plF x with
      | false =>
        rw [h2] at hq
        refine ⟨.ret,.iv (.int .i64 2),?_,?_,?_,?_,.inl ⟨rfl,rfl,by rw [hdr,List.all_cons,h1,h2,Bool.true_and,Bool.false_and]⟩,loop_at K _ _ t13L0.eq_1 ?_⟩
        rotate_left 4
        · simp (config := { maxSteps := 4000000 }) (disch := omega) only [go_sem,hix,getD5,cpR_pure hm,cpR_pure hq]
          rfl
      | true =>
        rw [h2] at hq
        obtain ⟨j,r,y3,y8,y9,y10,hj,ih⟩ := loop13 p hp x0 x1 x4 x5 S k (i + 1) (lbD' x) (.iv (.bool true)) (.iv (.bool false)) (by omega)
        rw [show ((i + 1 : Nat) : Int) = (i : Int) + 1 by omega] at ih
        refine ⟨j,r,y3,y8,y9,y10,?_,loop_at K _ _ t13L0.eq_1 ?_⟩
        · rw [hdr,List.all_cons,h1,h2,Bool.true_and,Bool.true_and]; exact hj
        · simp (config := { maxSteps := 4000000 }) (disch := omega) only [go_sem,hix,getD5,cpR_pure hm,cpR_pure hq,wrap_i64]
          exact congrArg er ih
def chkF (p : Pg) : Int := if p.gl < 0 ∨ 20000 < p.gl ∨ p.vr < 0 then 2 else if (p.cs.all fun d => mayF d && plF d) = false then 2 else (chk p p.b 0 [] [] []).1
theorem call13 (p : Pg) (hp : p.w ≤ 1048576) : TM.Pure K 13 [.iv (.agg (encP p))] (.iv (.int .i64 (chkF p))) := by
  have hpw : p.b.w + Dt.ws p.cs ≤ 1048576 := hp
  have hwl := Dt.ws_len p.cs
  unfold chkF
  by_cases hg : p.gl < 0 ∨ 20000 < p.gl ∨ p.vr < 0
  · rw [if_pos hg]
    refine pure_ret (S := []) (r := .iv (.int .i64 2)) (call_ret' K _ (fn := t13) rfl rfl ?_) (by rw [resolve_iv])
    unfold encP
    by_cases g1 : p.gl < 0
    · simp (config := { maxSteps := 4000000 }) (disch := omega) only [t13,go_sem,TM.undef]
    · by_cases g2 : 20000 < p.gl
      · simp (config := { maxSteps := 4000000 }) (disch := omega) only [t13,go_sem,TM.undef]
      · simp (config := { maxSteps := 4000000 }) (disch := omega) only [t13,go_sem,TM.undef]
  rw [if_neg hg]
  obtain ⟨j,r,y3,y8,y9,y10,hj,ih⟩ := loop13 p hp (.iv (.agg (encP p))) (lbP p) (.tup []) (.iv (.bool false)) [] p.cs.length 0 (.tup []) (.tup []) (.tup []) (by omega)
  rw [show ((0 : Nat) : Int) = 0 from rfl] at ih
  rw [List.drop_zero] at hj
  rcases hj with ⟨rfl,rfl,ha⟩ | ⟨rfl,rfl,ha⟩
  · rw [if_pos ha]
    refine pure_ret (S := []) (r := .iv (.int .i64 2)) (call_ret' K _ (fn := t13) rfl rfl ?_) (by rw [resolve_iv])
    unfold encP at ih ⊢
    simp (config := { maxSteps := 4000000 }) (disch := omega) only [t13,go_sem,TM.undef,encDs_len]
    rw [ih]
    simp (config := { maxSteps := 4000000 }) (disch := omega) only [go_sem]
  · rw [if_neg (by rw [ha]; decide)]
    have hs : CkS p 3 0 1 2 [.mp (mpR boxI []) 0,.mp (mpR boxI []) 0,.mp (mpR boxI []) 0,ckB p 0 1 2] [] [] [] := by
      refine ⟨by decide,by decide,by decide,by decide,by decide,by decide,rfl,⟨[],0,rfl,?_⟩,⟨[],0,rfl,?_⟩,⟨[],0,rfl,?_⟩,by simp⟩ <;> intro v <;> simp [cntR,TM.getR]
    obtain ⟨S',hc,_,_⟩ := call44 p (by omega) 3 0 1 2 1048576 (by omega) p.b 0 _ [] [] [] (by omega) (by omega) hs
    refine pure_ret (S := S') (r := .iv (.int .i64 (chk p p.b 0 [] [] []).1)) (call_ret' K _ (fn := t13) rfl rfl ?_) (by rw [resolve_iv])
    rw [mpR_nil,encE_eq,show ((0 : Nat) : Int) = 0 from rfl] at hc
    simp only [ckB,cellsP,List.cons_append,List.nil_append] at hc
    unfold encP at ih ⊢
    simp (config := { maxSteps := 4000000 }) (disch := omega) only [t13,go_sem,TM.undef,encDs_len]
    rw [ih]
    simp (config := { maxSteps := 4000000 }) (disch := omega) only [go_sem,hc]
def outs (vs l : List Int) : Nat := (l.filter fun v => decide (v ∉ vs)).length
structure LamOK (vs own body : List Int) : Prop where
  mem : ∀ v ∈ body,(v ∈ own ↔ v ∉ vs)
  len : own.length = outs vs body
theorem loop12f (e : Ex) (hw : e.w ≤ 1048576) (own body : List Int) (t1 t2 : Tag) (h : LamOK e.vs own body) (hl : own.length ≤ 1000000000) (hb : body.length ≤ 1000000000) (x0 x2 x7 x8 x12 x13 x14 : TV) (S : Store) : ∀ (k i : Nat) (x9 x10 x11 : TV),i + k = body.length →
    ∃ y9 y10 y11,lp' (lim K) t12L1 [x0,lbE e,x2,.iv (.sl t1 (TM.one (.int .i64) own)),.iv (.sl t2 (TM.one (.int .i64) body)),.iv (.int .i64 (outs e.vs (body.take i))),.iv (.int .i64 (i : Int)),x7,x8,x9,x10,x11,x12,x13,x14] S
      = .ret (.exit 0,[x0,lbE e,x2,.iv (.sl t1 (TM.one (.int .i64) own)),.iv (.sl t2 (TM.one (.int .i64) body)),.iv (.int .i64 (outs e.vs body)),.iv (.int .i64 body.length),x7,x8,y9,y10,y11,x12,x13,x14],S)
  | 0,i,x9,x10,x11,hi => by
    obtain rfl : i = body.length := by omega
    refine ⟨?_,?_,?_,loop_at K _ _ t12L1.eq_1 ?_⟩
    rotate_left 3
    · simp (config := { maxSteps := 4000000 }) (disch := omega) only [go_sem,TM.one_length,List.take_length]
      rfl
  | k + 1,i,x9,x10,x11,hi => by
    have hwe := Ex.w_eq e
    have hla : i < body.length := by omega
    have hix := ix_one (f := IV.int .i64) (t := t2) (l := body) (i := (i : Int)) (by omega)
    rw [Int.toNat_natCast] at hix
    have htk := take_succ_getD (d := default) hla
    have hm := h.mem _ (get_mem hla)
    generalize hx : body.getD i default = x at *
    have hv := call16 e.gv e.vs x (by omega) []
    have ho := call16 t1 own x hl []
    have hle : outs e.vs (body.take i) ≤ i := by
      unfold outs
      have := List.length_filter_le (fun v => decide (v ∉ e.vs)) (body.take i)
      rw [List.length_take] at this
      omega
    by_cases hxv : x ∈ e.vs
    · have hxo : x ∉ own := fun h => (hm.1 h) hxv
      obtain ⟨y9,y10,y11,ih⟩ := loop12f e hw own body t1 t2 h hl hb x0 x2 x7 x8 x12 x13 x14 S k (i + 1) (.iv (.bool true)) (.iv (.bool false)) (.iv (.bool false)) (by omega)
      rw [show ((i + 1 : Nat) : Int) = (i : Int) + 1 by omega,htk,show outs e.vs (body.take i ++ [x]) = outs e.vs (body.take i) by simp [outs,hxv]] at ih
      rw [decide_eq_true hxv] at hv
      rw [decide_eq_false hxo] at ho
      refine ⟨y9,y10,y11,loop_at K _ _ t12L1.eq_1 ?_⟩
      simp (config := { maxSteps := 4000000 }) (disch := omega) only [go_sem,TM.one_length,hix,hv,ho,wrap_i64]
      exact congrArg er ih
    · have hxo : x ∈ own := hm.2 hxv
      obtain ⟨y9,y10,y11,ih⟩ := loop12f e hw own body t1 t2 h hl hb x0 x2 x7 x8 x12 x13 x14 S k (i + 1) (.iv (.bool true)) (.iv (.bool false)) (.iv (.bool true)) (by omega)
      rw [show ((i + 1 : Nat) : Int) = (i : Int) + 1 by omega,htk,show outs e.vs (body.take i ++ [x]) = outs e.vs (body.take i) + 1 by simp [outs,hxv],show ((outs e.vs (body.take i) + 1 : Nat) : Int) = (outs e.vs (body.take i) : Int) + 1 by omega] at ih
      rw [decide_eq_false hxv] at hv
      rw [decide_eq_true hxo] at ho
      refine ⟨y9,y10,y11,loop_at K _ _ t12L1.eq_1 ?_⟩
      simp (config := { maxSteps := 4000000 }) (disch := omega) only [go_sem,TM.one_length,hix,hv,ho,wrap_i64]
      exact congrArg er ih
theorem RiseOf.filter {l B : List Int} (h : RiseOf l B) (f : Int → Bool) {B' : List Int} (hb : ∀ v,v ∈ B' ↔ v ∈ B ∧ f v = true) : RiseOf (l.filter f) B' :=
  ⟨h.inc.filter _,fun v => by rw [List.mem_filter,h.mem v,hb v]⟩
theorem lam_ok {e x : Ex} (hk : e.k = 7) (hks : e.ks = [x]) {own body : List Int} (h1 : RiseOf own (fr e)) (h2 : RiseOf body (fr x)) : LamOK e.vs own body := by
  have hm : ∀ v,v ∈ fr e ↔ v ∈ fr x ∧ decide (v ∉ e.vs) = true := by
    intro v
    rw [fr_eq,hks,frs,frs,hk]
    simp
  have he := rise_unique h1 (h2.filter (fun v => decide (v ∉ e.vs)) hm)
  refine ⟨fun v hv => ?_,by rw [he]; rfl⟩
  rw [he,List.mem_filter]
  simp [hv]
theorem loop12k {N : Nat} (ih : ∀ e : Ex,e.w ≤ N → e.ok → TM.Pure K 12 [.iv (.agg (encE e))] (.iv (.bool true))) (e : Ex) (hok : e.ok) (hw : e.w ≤ N + 1) (hN : N + 1 ≤ 1048576) (x0 x2 x3 x4 x5 x6 x8 x9 x10 x11 x12 : TV) (S : Store) : ∀ (k i : Nat) (x13 x14 : TV),i + k = e.ks.length →
    ∃ y13 y14,lp' (lim K) t12L0 [x0,lbE e,x2,x3,x4,x5,x6,.iv (.int .i64 (i : Int)),x8,x9,x10,x11,x12,x13,x14] S
      = .ret (.exit 2,[x0,lbE e,x2,x3,x4,x5,x6,.iv (.int .i64 e.ks.length),x8,x9,x10,x11,x12,y13,y14],S)
  | 0,i,x13,x14,h => by
    obtain rfl : i = e.ks.length := by omega
    refine ⟨?_,?_,loop_at K _ _ t12L0.eq_1 ?_⟩
    rotate_left 2
    · simp (config := { maxSteps := 4000000 }) (disch := omega) only [go_sem,encEs_len]
      rfl
  | k + 1,i,x13,x14,h => by
    have hla : i < e.ks.length := by omega
    have hwe := Ex.w_eq e
    have hwl := Ex.ws_len e.ks
    have hix := ixE (g := e.g) (ks := e.ks) (i := (i : Int)) (by omega)
    rw [Int.toNat_natCast] at hix
    have hki : (e.ks.getD i default).ok := ((Ex.ok_eq e).1 hok).2.2.2.2.2 _ (get_mem hla)
    have hkw := Ex.kid_lt (d := e) (get_mem hla)
    generalize hx : e.ks.getD i default = x at *
    have hc := ih x (by omega) hki
    rw [encE_eq] at hc
    obtain ⟨y13,y14,ih2⟩ := loop12k ih e hok hw hN x0 x2 x3 x4 x5 x6 x8 x9 x10 x11 x12 S k (i + 1) (.iv (.bool true)) (.iv (.bool false)) (by omega)
    rw [show ((i + 1 : Nat) : Int) = (i : Int) + 1 by omega] at ih2
    refine ⟨y13,y14,loop_at K _ _ t12L0.eq_1 ?_⟩
    simp (config := { maxSteps := 4000000 }) (disch := omega) only [go_sem,encEs_len,hix,getE5,cpR_pure hc,wrap_i64]
    exact congrArg er ih2
theorem call12 : ∀ N,N ≤ 1048576 → ∀ e : Ex,e.w ≤ N → e.ok → TM.Pure K 12 [.iv (.agg (encE e))] (.iv (.bool true))
  | 0,hN,e,hw,hok => by have := Ex.w_eq e; omega
  | N + 1,hN,e,hw,hok => by
    have hwe := Ex.w_eq e
    have hwl := Ex.ws_len e.ks
    have hlp := fun x2 x3 x4 x5 x6 x8 x9 x10 x11 x12 => loop12k (call12 N (by omega)) e hok hw hN (.iv (.agg (encE e))) x2 x3 x4 x5 x6 x8 x9 x10 x11 x12 [] e.ks.length 0 (.tup []) (.tup []) (by omega)
    by_cases hl : e.k = 7 ∧ e.ks.length = 1
    · obtain ⟨hk,hl⟩ := hl
      obtain ⟨x,hks⟩ : ∃ x,e.ks = [x] := by
        cases hq : e.ks with
        | nil => rw [hq] at hl; simp at hl
        | cons a r => cases r with
          | nil => exact ⟨a,rfl⟩
          | cons b r => rw [hq] at hl; simp at hl
      have hxw := Ex.kid_lt (d := e) (x := x) (by rw [hks]; simp)
      have hxo : x.ok := ((Ex.ok_eq e).1 hok).2.2.2.2.2 _ (by rw [hks]; simp)
      obtain ⟨own,c1,r1,b1⟩ := call17 e hok (by omega)
      obtain ⟨body,c2,r2,b2⟩ := call17 x hxo (by omega)
      have hlam := lam_ok hk hks r1 r2
      have hix := ixE (g := e.g) (ks := e.ks) (i := 0) (by omega)
      rw [show e.ks.getD (0 : Int).toNat default = x by rw [hks]; rfl] at hix
      obtain ⟨y9,y10,y11,l1⟩ := loop12f e (by omega) own body (sTag own) (sTag body) hlam (by omega) (by omega) (.iv (.agg (encE e))) (.iv (.bool false)) (.tup []) (.iv (.bool true)) (.tup []) (.tup []) (.tup []) [] body.length 0 (.tup []) (.tup []) (.tup []) (by omega)
      rw [List.take_zero,show outs e.vs [] = 0 from rfl,show ((0 : Nat) : Int) = 0 from rfl] at l1
      obtain ⟨y13,y14,l2⟩ := hlp (.iv (.bool false)) (.iv (.sl (sTag own) (TM.one (.int .i64) own))) (.iv (.sl (sTag body) (TM.one (.int .i64) body))) (.iv (.int .i64 (outs e.vs body))) (.iv (.int .i64 body.length)) (.iv (.bool true)) y9 y10 y11 (.iv (.bool false))
      rw [show ((0 : Nat) : Int) = 0 from rfl] at l2
      have hlen := hlam.len
      have hl1 : ((e.ks.length : Int) == 1) = true := by simp [hl]
      have hne : ((outs e.vs body : Int) != (own.length : Int)) = false := by simp [hlen]
      refine pure_ret (S := []) (r := .iv (.bool true)) (call_ret' K _ (fn := t12) rfl rfl ?_) (by rw [resolve_iv])
      rw [encE_eq] at c1 c2 l1 l2 ⊢
      simp (config := { maxSteps := 4000000 }) (disch := omega) only [t12,go_sem,TM.undef,encEs_len,hl1,hix,getE5,cpR_pure c1,cpR_pure c2]
      rw [l1]
      simp (config := { maxSteps := 4000000 }) (disch := omega) only [go_sem,TM.one_length,hne]
      rw [l2]
      simp (config := { maxSteps := 4000000 }) (disch := omega) only [go_sem]
    · obtain ⟨y13,y14,l2⟩ := hlp (.iv (.bool false)) (.tup []) (.tup []) (.tup []) (.tup []) (.iv (.bool false)) (.tup []) (.tup []) (.tup []) (.tup [])
      rw [show ((0 : Nat) : Int) = 0 from rfl] at l2
      refine pure_ret (S := []) (r := .iv (.bool true)) (call_ret' K _ (fn := t12) rfl rfl ?_) (by rw [resolve_iv])
      rw [encE_eq] at l2 ⊢
      by_cases hk : e.k = 7
      · have hl1 : ((e.ks.length : Int) == 1) = false := by
          have : e.ks.length ≠ 1 := fun h => hl ⟨hk,h⟩
          simp; omega
        simp (config := { maxSteps := 4000000 }) (disch := omega) only [t12,go_sem,TM.undef,encEs_len,hl1]
        rw [l2]
        simp (config := { maxSteps := 4000000 }) (disch := omega) only [go_sem]
      · simp (config := { maxSteps := 4000000 }) (disch := omega) only [t12,go_sem,TM.undef,encEs_len]
        rw [l2]
        simp (config := { maxSteps := 4000000 }) (disch := omega) only [go_sem]
theorem chks_kid (p : Pg) : ∀ (es : List Ex) (depth : Nat) (B C A : List Int),(chks p es depth B C A).1 = 0 → ∀ x ∈ es,∃ B' C',(chk p x depth B' C' A).1 = 0
  | [],depth,B,C,A,h,x,hx => by cases hx
  | e :: es,depth,B,C,A,h,x,hx => by
    have hun : chks p (e :: es) depth B C A = if (chk p e depth B C A).1 = 0 then chks p es depth (chk p e depth B C A).2.1 (chk p e depth B C A).2.2 A else chk p e depth B C A := by rw [chks]
    rw [hun] at h
    by_cases h0 : (chk p e depth B C A).1 = 0
    · rw [if_pos h0] at h
      rcases List.mem_cons.1 hx with rfl | hx
      · exact ⟨B,C,h0⟩
      · exact chks_kid p es depth _ _ A h x hx
    · rw [if_neg h0] at h; exact absurd h h0
theorem chk_ok {p : Pg} {e : Ex} {depth : Nat} {B C A : List Int} (h : (chk p e depth B C A).1 = 0) : frmF p e = true ∧ (∃ B1,addV e.vs B = some B1) ∧ ((e.k = 2 ∨ e.k = 4) → e.n ∈ e.vs ++ A) ∧ ∀ x ∈ e.ks,∃ B' C',(chk p x (depth + 1) B' C' (e.vs ++ A)).1 = 0 := by
  rw [chk_eq] at h
  split at h
  · exact absurd h (by decide : ¬ ((5 : Int) = 0))
  split at h
  · exact absurd h (by decide : ¬ ((4 : Int) = 0))
  rename_i hf
  split at h
  · exact absurd h (by decide : ¬ ((14 : Int) = 0))
  rename_i B1 ha
  split at h
  · exact absurd h (by decide : ¬ ((14 : Int) = 0))
  split at h
  · exact absurd h (by decide : ¬ ((6 : Int) = 0))
  rename_i hn
  refine ⟨by simpa using hf,⟨B1,ha⟩,fun hk => ?_,chks_kid p e.ks _ _ _ _ h⟩
  rcases Classical.em (e.n ∈ e.vs ++ A) with h1 | h1
  · exact h1
  · exact absurd ⟨hk,h1⟩ hn
theorem frm_vs {p : Pg} {e : Ex} (h : frmF p e = true) (hk : e.k ≠ 7) : e.vs = [] := by
  have h0 : ¬ 0 < e.vs.length := fun h2 => by
    have h3 : frmA e = true := by
      unfold frmA
      simp [hk,h2]
    rw [frmF,h3] at h
    simp at h
  exact List.eq_nil_of_length_eq_zero (by omega)
theorem mem_frs {v : Int} : ∀ {ks : List Ex},v ∈ frs ks ↔ ∃ x ∈ ks,v ∈ fr x
  | [] => by simp [frs]
  | a :: r => by rw [frs,List.mem_append,mem_frs]; simp
theorem mem_gaths {f : Ex → List Int} {v : Int} : ∀ {ks : List Ex},v ∈ gaths f ks ↔ ∃ x ∈ ks,v ∈ gath f x
  | [] => by simp [gaths]
  | a :: r => by rw [gaths,List.mem_append,mem_gaths]; simp
theorem closed (p : Pg) : ∀ (N : Nat) (e : Ex),e.w ≤ N → ∀ (depth : Nat) (B C A : List Int),(chk p e depth B C A).1 = 0 → (∀ v ∈ fr e,v ∈ A) ∧ (∀ v ∈ gath asgA e,v ∈ gath bndA e ∨ v ∈ A)
  | 0,e,hw,depth,B,C,A,h => by have := Ex.w_eq e; omega
  | N + 1,e,hw,depth,B,C,A,h => by
    obtain ⟨hf,_,hn,hks⟩ := chk_ok h
    have hin : (e.k = 2 ∨ e.k = 4) → e.n ∈ A := fun hk => by
      have hv := frm_vs hf (by omega)
      have := hn hk
      rw [hv] at this
      simpa using this
    have ih : ∀ x ∈ e.ks,(∀ v ∈ fr x,v ∈ e.vs ++ A) ∧ (∀ v ∈ gath asgA x,v ∈ gath bndA x ∨ v ∈ e.vs ++ A) := by
      intro x hx
      obtain ⟨B',C',hx0⟩ := hks x hx
      exact closed p N x (by have := Ex.kid_lt hx; omega) _ _ _ _ hx0
    refine ⟨fun v hv => ?_,fun v hv => ?_⟩
    · rw [fr_eq,List.mem_append] at hv
      rcases hv with hv | hv
      · split at hv
        · rename_i hk
          simp only [List.mem_singleton] at hv
          rw [hv]; exact hin hk
        · cases hv
      · rw [List.mem_filter,mem_frs] at hv
        obtain ⟨⟨x,hx,hvx⟩,hc⟩ := hv
        have := (ih x hx).1 v hvx
        rcases List.mem_append.1 this with h1 | h1
        · by_cases hk : e.k = 7
          · simp [hk,h1] at hc
          · rw [frm_vs hf hk] at h1; cases h1
        · exact h1
    · rw [gath_eq,List.mem_append] at hv
      rw [gath_eq,List.mem_append]
      rcases hv with hv | hv
      · unfold asgA at hv
        split at hv
        · rename_i hk
          simp only [List.mem_singleton] at hv
          rw [hv]; exact .inr (hin (.inr hk))
        · cases hv
      · rw [mem_gaths] at hv
        obtain ⟨x,hx,hvx⟩ := hv
        rcases (ih x hx).2 v hvx with h1 | h1
        · exact .inl (.inr (mem_gaths.2 ⟨x,hx,h1⟩))
        · rcases List.mem_append.1 h1 with h1 | h1
          · by_cases hk : e.k = 7
            · refine .inl (.inl ?_)
              unfold bndA
              rw [if_pos hk]; exact h1
            · rw [frm_vs hf hk] at h1; cases h1
          · exact .inr h1
theorem closed_pg {p : Pg} (h : chkF p = 0) : fr p.b = [] ∧ ∀ v ∈ gath asgA p.b,v ∈ gath bndA p.b := by
  unfold chkF at h
  split at h
  · exact absurd h (by decide : ¬ ((2 : Int) = 0))
  split at h
  · exact absurd h (by decide : ¬ ((2 : Int) = 0))
  obtain ⟨h1,h2⟩ := closed p _ p.b (Nat.le_refl _) _ _ _ _ h
  refine ⟨?_,fun v hv => ?_⟩
  · cases hq : fr p.b with
    | nil => rfl
    | cons a r => exact absurd (h1 a (by rw [hq]; simp)) (by simp)
  · rcases h2 v hv with h3 | h3
    · exact h3
    · cases h3
def retTrue : Out (TV × Store) → Bool
  | .ret (.iv (.bool true),_) => true
  | _ => false
theorem pure_run {n f : Nat} (h : retTrue ((ex K n).call f [] []) = true) : TM.Pure K f [] (.iv (.bool true)) := by
  generalize hx : (ex K n).call f [] [] = x at h
  match x,h with
  | .ret (.iv (.bool true),S),_ => exact pure_ret (S := S) (r := .iv (.bool true)) (lim_of hx) (by rw [resolve_iv])
theorem works1 : retTrue ((ex K 200).call 11 [] []) = true := by kernel_rfl
theorem works : TM.Pure K 11 [] (.iv (.bool true)) := pure_run works1
theorem loop3 (set bound : List Int) (ts tb : Tag) (hm : ∀ v ∈ set,v ∈ bound) (hs : set.length ≤ 1000000000) (hb : bound.length ≤ 1000000000) (x0 x1 x2 x6 x7 x8 : TV) (S : Store) : ∀ (k i : Nat) (x9 x10 : TV),i + k = set.length →
    ∃ y9 y10,lp' (lim K) t3L0 [x0,x1,x2,.iv (.sl ts (TM.one (.int .i64) set)),.iv (.sl tb (TM.one (.int .i64) bound)),.iv (.int .i64 (i : Int)),x6,x7,x8,x9,x10] S
      = .ret (.exit 0,[x0,x1,x2,.iv (.sl ts (TM.one (.int .i64) set)),.iv (.sl tb (TM.one (.int .i64) bound)),.iv (.int .i64 set.length),x6,x7,x8,y9,y10],S)
  | 0,i,x9,x10,h => by
    obtain rfl : i = set.length := by omega
    refine ⟨?_,?_,loop_at K _ _ t3L0.eq_1 ?_⟩
    rotate_left 2
    · simp (config := { maxSteps := 4000000 }) (disch := omega) only [go_sem,TM.one_length]
      rfl
  | k + 1,i,x9,x10,h => by
    have hla : i < set.length := by omega
    have hix := ix_one (f := IV.int .i64) (t := ts) (l := set) (i := (i : Int)) (by omega)
    rw [Int.toNat_natCast] at hix
    have hin := hm _ (get_mem hla)
    generalize hx : set.getD i default = x at *
    have hc := call16 tb bound x hb []
    rw [decide_eq_true hin] at hc
    obtain ⟨y9,y10,ih⟩ := loop3 set bound ts tb hm hs hb x0 x1 x2 x6 x7 x8 S k (i + 1) (.iv (.bool true)) (.iv (.bool false)) (by omega)
    rw [show ((i + 1 : Nat) : Int) = (i : Int) + 1 by omega] at ih
    refine ⟨y9,y10,loop_at K _ _ t3L0.eq_1 ?_⟩
    simp (config := { maxSteps := 4000000 }) (disch := omega) only [go_sem,TM.one_length,hix,hc,wrap_i64]
    exact congrArg er ih
theorem law3 (p : Pg) (hp : p.w ≤ 1048576) (hok : p.ok) : (lim K).call 3 [.iv (.agg (encP p))] [] = .ret (.iv (.bool true),[]) := by
  have hpw : p.b.w + Dt.ws p.cs ≤ 1048576 := hp
  obtain ⟨b1,l1⟩ := call9 p hp []
  have hn := call10 60 (by omega) p.b (by omega) []
  rw [show ((60 : Nat) : Int) = 60 from rfl,encE_eq] at hn
  have hlam := call12 1048576 (by omega) p.b (by omega) hok.1
  have hchk := call13 p hp
  obtain ⟨set,c14,r14,b14⟩ := call14 p.b hok.1 (by omega)
  obtain ⟨bound,c15,r15,b15⟩ := call15 p.b hok.1 (by omega)
  obtain ⟨frl,c17,r17,b17⟩ := call17 p.b hok.1 (by omega)
  refine call_ret' K _ (fn := t3) rfl rfl ?_
  rw [encE_eq] at hlam c14 c15 c17
  simp only [encP] at l1 hchk ⊢
  cases b1 with
  | true => simp (config := { maxSteps := 4000000 }) (disch := omega) only [t3,go_sem,TM.undef,l1,cpR_pure works]
  | false =>
    by_cases hv : 2000 < nodesF 60 p.b
    · simp (config := { maxSteps := 4000000 }) (disch := omega) only [t3,go_sem,TM.undef,l1,hn,cpR_pure works]
    by_cases h0 : chkF p = 0
    · obtain ⟨hf,hm⟩ := closed_pg h0
      have hfr : frl = [] := by
        cases frl with
        | nil => rfl
        | cons a r => exact absurd ((r17.mem a).1 (by simp)) (by rw [hf]; simp)
      subst hfr
      obtain ⟨y9,y10,l3⟩ := loop3 set bound (sTag set) (sTag bound) (fun v hv => (r15.mem v).2 (hm v ((r14.mem v).1 hv))) (by omega) (by omega) (.iv (.agg (encP p))) (lbP p) (.iv (.bool false)) (.iv (.bool false)) (.iv (.bool false)) (.iv (.bool false)) [] set.length 0 (.tup []) (.tup []) (by omega)
      rw [show ((0 : Nat) : Int) = 0 from rfl] at l3
      simp only [encP] at l3
      simp (config := { maxSteps := 4000000 }) (disch := omega) only [t3,go_sem,TM.undef,l1,hn,cpR_pure hlam,cpR_pure hchk,cpR_pure c14,cpR_pure c15]
      rw [l3]
      simp (config := { maxSteps := 4000000 }) (disch := omega) only [go_sem,cpR_pure c17,TM.one_length,List.length_nil,cpR_pure works]
      first | done | rfl
    · simp (config := { maxSteps := 4000000 }) (disch := omega) only [t3,go_sem,TM.undef,l1,hn,cpR_pure hlam,cpR_pure hchk,cpR_pure works]
end Go.Proofs.YtookmpaholmmfaaGreatDoor

namespace Go.Proofs.YtookmpaholmmfaaGreatDoor
open Go Go.TM Go.ChangeShapes Go.WideShapes
theorem argP (l : List IV) : argOf Tryz.prog 28 l = .iv (.agg l) := argOf_agg (by rw [Tryz.underlying28])
theorem inv3 {H : Type} {ds : List (DataW H)} {ls : List (List IV)} (hh0 : AllTy Tryz.prog [28] ds ls) (hb : Rows.uptoBulkAll ds ≤ 1048576) : ((lim K).call 3 (argsOf Tryz.prog [28] ls) []).All fun r => r.1 = .iv (.bool true) := by
  obtain ⟨d0,l0,ds,ls,rfl,rfl,h0,hh1⟩ := allTy_consE hh0
  obtain rfl := allTy_nilD hh1
  rw [allTy_nil hh1]
  simp only [Rows.uptoBulkAll] at hb
  obtain ⟨p,rfl,b0,r0⟩ := readP h0
  simp only [argsOf,argP]
  rw [law3 p (by omega) r0]
  exact rfl
end Go.Proofs.YtookmpaholmmfaaGreatDoor
