/- Data that are the same. Condition: none. -/
import Derived.Test.YtookmpaholmmfaaGreatDoorKcC
set_option maxRecDepth 100000
set_option maxHeartbeats 8000000
set_option linter.unusedSimpArgs false
set_option linter.unusedVariables false
namespace Go.Proofs.YtookmpaholmmfaaGreatDoor
open Go Go.TM
def Dt.pr (d : Dt) : Bool := decide (d.k = 6) && decide (d.ks.length = 2)
mutual
def same : Dt → Dt → Bool
  | .mk k n t _ ks _, .mk k' n' t' _ ks' _ => decide (k = k') && ((decide (k = 6) && decide (ks.length = 2)) || (decide (n = n') && decide (t = t'))) && sames ks ks'
def sames : List Dt → List Dt → Bool
  | [], [] => true
  | d :: ds, e :: es => same d e && sames ds es
  | [], _ :: _ => false
  | _ :: _, [] => false
end
theorem same_eq (a b : Dt) : same a b = (decide (a.k = b.k) && (a.pr || (decide (a.n = b.n) && decide (a.t = b.t))) && sames a.ks b.ks) := by
  cases a; cases b; rw [same]; rfl
theorem sames_len : ∀ {a b : List Dt}, a.length ≠ b.length → sames a b = false
  | [], [], h => absurd rfl h
  | [], _ :: _, _ => by rw [sames]
  | _ :: _, [], _ => by rw [sames]
  | x :: a, y :: b, h => by
    rw [sames, sames_len (by simpa using h), Bool.and_false]
theorem same_np {a b : Dt} (h : (a.pr && b.pr) = false) : same a b = (decide (a.k = b.k) && decide (a.n = b.n) && decide (a.t = b.t) && sames a.ks b.ks) := by
  rw [same_eq]
  by_cases hk : a.k = b.k
  · by_cases hl : a.ks.length = b.ks.length
    · have : a.pr = false := by
        have e : a.pr = b.pr := by unfold Dt.pr; rw [hk, hl]
        rw [← e, Bool.and_self] at h; exact h
      rw [this]; simp [Bool.and_assoc]
    · rw [sames_len hl]; simp
  · simp [hk]
theorem same_pp {a b : Dt} (ha : a.pr = true) (hb : b.pr = true) : same a b = (same (a.ks.getD 0 default) (b.ks.getD 0 default) && same (a.ks.getD 1 default) (b.ks.getD 1 default)) := by
  rw [same_eq, ha]
  simp only [Dt.pr, Bool.and_eq_true, decide_eq_true_eq] at ha hb
  rw [decide_eq_true (show a.k = b.k by omega)]
  match h1 : a.ks, h2 : b.ks with
  | [x, y], [z, u] => simp [sames]
  | [], _ => rw [h1] at ha; simp at ha
  | [_], _ => rw [h1] at ha; simp at ha
  | _ :: _ :: _ :: _, _ => rw [h1] at ha; simp at ha
  | _, [] => rw [h2] at hb; simp at hb
  | _, [_] => rw [h2] at hb; simp at hb
  | _, _ :: _ :: _ :: _ => rw [h2] at hb; simp at hb
abbrev lbD (d : Dt) : TV := .lb [.iv (.int .i64 d.k), .iv (.int .i64 d.n), .iv (.str d.t), .iv (.sl d.g (encDs d.ks)), .iv (.int .i64 d.p)]
abbrev agD (d : Dt) : TV := .iv (.agg [.int .i64 d.k, .int .i64 d.n, .str d.t, .sl d.g (encDs d.ks), .int .i64 d.p])
theorem call82 (d : Dt) (S : Store) : (lim K).call 82 [agD d] S = .ret (.iv (.bool d.pr), S) := by
  refine call_ret' K _ (fn := t82) rfl rfl ?_
  unfold Dt.pr
  by_cases h : d.k = 6
  · simp (config := { maxSteps := 4000000 }) (disch := omega) only [t82, go_sem, encDs_len, h, Bool.true_and]
    congr 5; apply decide_eq_decide.2; omega
  · simp (config := { maxSteps := 4000000 }) (disch := omega) only [t82, go_sem, encDs_len, h, Bool.false_and]
end Go.Proofs.YtookmpaholmmfaaGreatDoor
