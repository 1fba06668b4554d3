/- What the document says of letters (ambryref03) is what b64 does. No program in sight. -/
import Derived.Test.YtlaagebdbcmckaaGreatDoorBC
namespace Go.Proofs.YtlaagebdbcmckaaGreatDoor
set_option linter.unusedSimpArgs false
set_option linter.unusedVariables false
open Go.Lib
def encR : List UInt8 → List UInt8
  | x :: y :: z :: l => letB (x.toNat / 4) :: letB (x.toNat % 4 * 16 + y.toNat / 16) :: letB (y.toNat % 16 * 4 + z.toNat / 64) :: letB (z.toNat % 64) :: encR l
  | [x, y] => [letB (x.toNat / 4), letB (x.toNat % 4 * 16 + y.toNat / 16), letB (y.toNat % 16 * 4), 61]
  | [x] => [letB (x.toNat / 4), letB (x.toNat % 4 * 16), 61, 61]
  | [] => []
theorem encR_is' : ∀ s, encR s = enc4 s ++ List.replicate ((4 - (enc4 s).length % 4) % 4) 61
  | [] => rfl
  | [x] => by simp [encR, enc4]
  | [x, y] => by simp [encR, enc4]
  | x :: y :: z :: l => by
    have h := encR_is' l
    have e : (4 - (enc4 (x :: y :: z :: l)).length % 4) % 4 = (4 - (enc4 l).length % 4) % 4 := by simp only [enc4, List.length_cons]; omega
    rw [e, encR, enc4, h]; rfl
theorem encR_is (s : List UInt8) : encR s = encB s := by rw [encR_is', encB_is]
def decG (last : Bool) : Nat → Nat → Nat → List UInt8 → Option (Nat × Nat)
  | _, n, p, [] => some (n, p)
  | k, n, p, c :: cs =>
    if c = 61 ∧ last = true ∧ 2 ≤ k then decG last (k + 1) (n * 64) (p + 1) cs
    else if indexByte b64L c < 0 ∨ 0 < p then none
    else decG last (k + 1) (n * 64 + (indexByte b64L c).toNat) p cs
def three (n : Nat) (p : Nat) : List UInt8 := [UInt8.ofNat (n / 65536), UInt8.ofNat (n / 256), UInt8.ofNat n].take (3 - p)
def decR : List UInt8 → List UInt8 → Option (List UInt8)
  | c :: d :: e :: f :: l, out => match decG (decide (l = [])) 0 0 0 [c, d, e, f] with
    | some (n, p) => decR l (out ++ three n p)
    | none => none
  | _, out => some out
def refDec (s : List UInt8) : Option (List UInt8) :=
  if s.length % 4 ≠ 0 then none
  else match decR s [] with
    | some t => if encR t = s then some t else none
    | none => none
theorem decG_let (last : Bool) (k n v : Nat) (hv : v < 64) (cs : List UInt8) : decG last k n 0 (letB v :: cs) = decG last (k + 1) (n * 64 + v) 0 cs := by
  have h1 := (let_ok v hv).1
  rw [decG, if_neg (fun h => h1 h.1), idx_let v hv, if_neg (by omega), Int.toNat_natCast]
theorem decG_pad (k n p : Nat) (hk : 2 ≤ k) (cs : List UInt8) : decG true k n p (61 :: cs) = decG true (k + 1) (n * 64) (p + 1) cs := by
  rw [decG, if_pos ⟨rfl, rfl, hk⟩]
theorem ofN {n : Nat} {x : UInt8} (h : n % 256 = x.toNat) : UInt8.ofNat n = x := by
  apply UInt8.toNat_inj.1; rw [UInt8.toNat_ofNat']; exact h
theorem decR_is : ∀ (s : List UInt8) (out : List UInt8), decR (encR s) out = some (out ++ s)
  | [], out => by simp [encR, decR]
  | [x], out => by
    have hx := lt8 x
    rw [encR, decR]
    simp only [decide_true]
    rw [decG_let _ _ _ _ (by omega), decG_let _ _ _ _ (by omega), decG_pad _ _ _ (by omega), decG_pad _ _ _ (by omega), decG]
    have e1 : UInt8.ofNat (((((0 * 64 + x.toNat / 4) * 64 + x.toNat % 4 * 16) * 64) * 64) / 65536) = x := ofN (by omega)
    simp only [three, e1, decR]
    rfl
  | [x, y], out => by
    have hx := lt8 x
    have hy := lt8 y
    rw [encR, decR]
    simp only [decide_true]
    rw [decG_let _ _ _ _ (by omega), decG_let _ _ _ _ (by omega), decG_let _ _ _ _ (by omega), decG_pad _ _ _ (by omega), decG]
    have e1 : UInt8.ofNat (((((0 * 64 + x.toNat / 4) * 64 + (x.toNat % 4 * 16 + y.toNat / 16)) * 64 + y.toNat % 16 * 4) * 64) / 65536) = x := ofN (by omega)
    have e2 : UInt8.ofNat (((((0 * 64 + x.toNat / 4) * 64 + (x.toNat % 4 * 16 + y.toNat / 16)) * 64 + y.toNat % 16 * 4) * 64) / 256) = y := ofN (by omega)
    simp only [three, e1, e2, decR]
    rfl
  | x :: y :: z :: l, out => by
    have hx := lt8 x
    have hy := lt8 y
    have hz := lt8 z
    rw [encR, decR]
    rw [decG_let _ _ _ _ (by omega), decG_let _ _ _ _ (by omega), decG_let _ _ _ _ (by omega), decG_let _ _ _ _ (by omega), decG]
    have e1 : UInt8.ofNat (((((0 * 64 + x.toNat / 4) * 64 + (x.toNat % 4 * 16 + y.toNat / 16)) * 64 + (y.toNat % 16 * 4 + z.toNat / 64)) * 64 + z.toNat % 64) / 65536) = x := ofN (by omega)
    have e2 : UInt8.ofNat (((((0 * 64 + x.toNat / 4) * 64 + (x.toNat % 4 * 16 + y.toNat / 16)) * 64 + (y.toNat % 16 * 4 + z.toNat / 64)) * 64 + z.toNat % 64) / 256) = y := ofN (by omega)
    have e3 : UInt8.ofNat ((((0 * 64 + x.toNat / 4) * 64 + (x.toNat % 4 * 16 + y.toNat / 16)) * 64 + (y.toNat % 16 * 4 + z.toNat / 64)) * 64 + z.toNat % 64) = z := ofN (by omega)
    simp only [three, e1, e2, e3]
    rw [decR_is l]
    simp
theorem refDec_is (s : List UInt8) : refDec s = decB s := by
  have h1 : ∀ t, refDec s = some t → decB s = some t := by
    intro t h
    unfold refDec at h
    split at h
    · cases h
    split at h
    · split at h
      · rename_i he
        simp only [Option.some.injEq] at h
        subst h
        rw [encR_is] at he
        exact (decB_iff _ _).2 he.symm
      · cases h
    · cases h
  have h2 : ∀ t, decB s = some t → refDec s = some t := by
    intro t h
    have hs := dec_back h
    subst hs
    unfold refDec
    rw [if_neg (by rw [encB_len]; omega), ← encR_is, decR_is]
    simp
  cases hd : decB s with
  | some t => exact h2 t hd
  | none => cases hr : refDec s with
    | none => rfl
    | some t => rw [h1 t hr] at hd; cases hd
end Go.Proofs.YtlaagebdbcmckaaGreatDoor
