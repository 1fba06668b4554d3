/- The lines of MetaOrder read, and their replies. No program in sight. -/
import Derived.Test.YtlaagebdbcmckaaGreatDoorBC
namespace Go.Proofs.YtlaagebdbcmckaaGreatDoor
set_option linter.unusedSimpArgs false
set_option linter.unusedVariables false
open Go.Lib

/-- the orders in which three flags may be picked -/
def moAll : List (List Nat) := [[], [0], [1], [2], [0, 1], [0, 2], [1, 0], [1, 2], [2, 0], [2, 1], [0, 1, 2], [0, 2, 1], [1, 0, 2], [1, 2, 0], [2, 0, 1], [2, 1, 0]]
theorem mo_next : ∀ p ∈ moAll, ∀ k < 3, k ∉ p → p ++ [k] ∈ moAll := by decide
/-- a flag's word: k, s, Otok -/
def moFlag : Nat → List UInt8
  | 0 => [107]
  | 1 => [115]
  | _ => [79, 116, 111, 107]
/-- what is told by it -/
def moTold (n : Nat) : Nat → List UInt8
  | 0 => [107, 89, 81, 61, 61]
  | 1 => 115 :: decDigits n
  | _ => [79, 116, 111, 107]
def moLine (p : List Nat) : List UInt8 := [109, 103, 32, 89, 81, 61, 61, 32, 98] ++ p.flatMap (fun k => 32 :: moFlag k)
def moWant (n : Nat) (p : List Nat) : List UInt8 := [72, 68, 32, 98] ++ p.flatMap (fun k => 32 :: moTold n k)
theorem moLine_snoc (p : List Nat) (k : Nat) : moLine (p ++ [k]) = moLine p ++ [32] ++ moFlag k := by simp [moLine]
theorem moWant_snoc (n : Nat) (p : List Nat) (k : Nat) : moWant n (p ++ [k]) = moWant n p ++ [32] ++ moTold n k := by simp [moWant]
def moReq (p : List Nat) : Mq := ⟨1, [{ Cd.zero with op := 1, recache := -1, key := [97] }], false, [], 0, false, m_mg, [98] :: p.map moFlag, [89, 81, 61, 61]⟩
set_option maxRecDepth 8000 in
theorem mo_read : ∀ p ∈ moAll, mParse (moLine p ++ [10]) = (moReq p, (((moLine p).length + 1 : Nat) : Int)) := by
  intro p hp
  simp only [moAll, List.mem_cons, List.not_mem_nil, or_false] at hp
  rcases hp with rfl | rfl | rfl | rfl | rfl | rfl | rfl | rfl | rfl | rfl | rfl | rfl | rfl | rfl | rfl | rfl <;> rfl
theorem mo_told (x : It) (now : Int) : ∀ p ∈ moAll, mReply (moReq p) ⟨1, x, 0, true, true, false⟩ now = moWant x.val.length p ++ [32, 87, 32, 88, 13, 10] := by
  intro p hp
  have hh : hasF (moReq p) 118 = false := by
    simp only [moAll, List.mem_cons, List.not_mem_nil, or_false] at hp
    rcases hp with rfl | rfl | rfl | rfl | rfl | rfl | rfl | rfl | rfl | rfl | rfl | rfl | rfl | rfl | rfl | rfl <;> rfl
  have e : mReply (moReq p) ⟨1, x, 0, true, true, false⟩ now = toldT (moReq p) ⟨1, x, 0, true, true, false⟩ now true [[72, 68]] := by
    show valueT (moReq p) _ now = _
    unfold valueT
    rw [hh]; rfl
  rw [e]
  simp only [moAll, List.mem_cons, List.not_mem_nil, or_false] at hp
  rcases hp with rfl | rfl | rfl | rfl | rfl | rfl | rfl | rfl | rfl | rfl | rfl | rfl | rfl | rfl | rfl | rfl <;> simp [toldT, lineT, moReq, moWant, moFlag, moTold, flagT, marksT, sizeT, Lib.join, crlf]
end Go.Proofs.YtlaagebdbcmckaaGreatDoor
