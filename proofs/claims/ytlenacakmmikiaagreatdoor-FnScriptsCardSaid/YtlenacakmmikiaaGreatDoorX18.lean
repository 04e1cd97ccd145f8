/- A function's beginning, with the first head of a loop left open. -/
import Derived.Test.YtlenacakmmikiaaGreatDoorX17
namespace Go.Proofs.YtlenacakmmikiaaGreatDoorX
open Go
set_option linter.unusedVariables false
def entAt {R : Type} (X : Cx) (n : Nat) (H : St → Option R) : Code → List Nat → St → (Ex → St → Option R) → Option R
  | .seq a b, 0 :: p, S, K => entAt X n H a p S fun e S => match e with
    | .normal => exec X n b S K
    | e => K e S
  | .seq a b, _ :: p, S, K => exec X n a S fun e S => match e with
    | .normal => entAt X n H b p S K
    | e => K e S
  | .block id c, _ :: p, S, K => entAt X n H c p S fun e S => match e with
    | .exit i => if i = id then K .normal S else K (.exit i) S
    | e => K e S
  | .cond c a b, 0 :: p, S, K => RP.go X.O S (evO c fun v => asBool v fun x => .bsp x fun y => .ret y) [] [] fun y _ _ => cond y (entAt X n H a p S K) (exec X n b S K)
  | .cond c a b, _ :: p, S, K => RP.go X.O S (evO c fun v => asBool v fun x => .bsp x fun y => .ret y) [] [] fun y _ _ => cond y (exec X n a S K) (entAt X n H b p S K)
  | .loop c, [], S, K => trim X.O X.n0 (X.live ((firstR c).getD 0)) S H
  | c, _, S, K => exec X n c S K
def isLoop : Code → Bool
  | .loop _ => true
  | _ => false
theorem codeAt_nil : ∀ c : Code, codeAt c [] = c := fun c => by cases c <;> rfl
theorem entAt_eq {R : Type} (X : Cx) (m : Nat) : ∀ (c : Code) (p : List Nat) (S : St) (K : Ex → St → Option R), isLoop (codeAt c p) = true → entAt X (m + 1) (fun S => hdr X (m + 1) (codeAt c (p ++ [0])) (ctxK X (m + 1) c p K) m S) c p S K = exec X (m + 1) c S K
  | .seq a b, 0 :: p, S, K, h => by
    show entAt X (m + 1) _ a p S _ = exec X (m + 1) a S _
    exact entAt_eq X m a p S _ h
  | .seq a b, (j + 1) :: p, S, K, h => by
    show exec X (m + 1) a S _ = exec X (m + 1) a S _
    congr 1
    funext e S
    cases e with
    | normal => exact entAt_eq X m b p S K h
    | exit i => rfl
    | ret => rfl
  | .block id c, j :: p, S, K, h => by
    show entAt X (m + 1) _ c p S _ = exec X (m + 1) c S _
    exact entAt_eq X m c p S _ h
  | .cond c a b, 0 :: p, S, K, h => by
    show RP.go _ _ _ _ _ _ = RP.go _ _ _ _ _ _
    congr 1
    funext y l1 l2
    cases y with
    | true => exact entAt_eq X m a p S K h
    | false => rfl
  | .cond c a b, (j + 1) :: p, S, K, h => by
    show RP.go _ _ _ _ _ _ = RP.go _ _ _ _ _ _
    congr 1
    funext y l1 l2
    cases y with
    | false => exact entAt_eq X m b p S K h
    | true => rfl
  | .loop c, [], S, K, h => by
    have e : codeAt (.loop c) ([] ++ [0]) = c := codeAt_nil c
    rw [e]
    simp only [entAt, exec, iter, hdr, ctxK]
    congr 1
  | .loop c, j :: p, S, K, h => rfl
  | .seq a b, [], S, K, h => by cases h
  | .block id c, [], S, K, h => by cases h
  | .cond c a b, [], S, K, h => by cases h
  | .skip, p, S, K, h => by cases p <;> cases h
  | .region id o d, p, S, K, h => by cases p <;> cases h
  | .exit id, p, S, K, h => by cases p <;> cases h
  | .ret, p, S, K, h => by cases p <;> cases h
  | .label l, p, S, K, h => by cases p <;> cases h
/-- A call with the first head of the loop at place p left open. -/
def callE {R : Type} (E : Env) (O : Oracle) (live : Nat → List Nat) (fn : Func) (n : Nat) (A : Pk) (p : List Nat) (K : Rs → Option R) (H : St → Option R) : Option R :=
  match fn.body with
  | some c => if A.avs.length ≤ fn.ntmps then entAt ⟨E, O, A.bl.length, fn.ntmps, live⟩ n H c p (start A) (fnK E O fn A.bl.length K) else none
  | none => none
theorem callE_eq {R : Type} (E : Env) (O : Oracle) (live : Nat → List Nat) (fn : Func) (k : Nat) (A : Pk) (p : List Nat) (n0 : Nat) (K : Rs → Option R) (hn : A.bl.length = n0) (hl : isLoop (codeAt (fn.body.getD .skip) p) = true) :
    callF E O live fn (k + 1) A K = callE E O live fn (k + 1) A p K (hdAt E O live fn n0 K p k k) := by
  subst hn
  unfold callF callE
  cases hb : fn.body with
  | none => rfl
  | some c =>
    simp only
    split
    · rw [hb] at hl
      have h := entAt_eq ⟨E, O, A.bl.length, fn.ntmps, live⟩ k c p (start A) (fnK E O fn A.bl.length K) hl
      unfold hdAt
      rw [hb]
      exact h.symm
    · rfl
end Go.Proofs.YtlenacakmmikiaaGreatDoorX
