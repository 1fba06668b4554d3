/- ModelSums: what each step comes to. No program in sight. -/
import Derived.Test.YtfmpdbngpknmaaaDoorBJ
namespace Go.Proofs.YtfmpdbngpknmaaaDoor
set_option linter.unusedSimpArgs false
set_option linter.unusedVariables false

/-- a number is stored by counting -/
def suC1 (n : Int) : Cd := ⟨3, 0, [110], [], 0, 0, false, 0, false, 0, n, false, true, 0, -1, false⟩
/-- it is counted -/
def suC2 (key : List UInt8) (d : Int) (down : Bool) : Cd := ⟨3, 0, key, [], 0, 0, false, 0, false, d, 0, down, false, 0, -1, false⟩
def suX (n cas last : Int) : It := ⟨[110], 0, Lib.decDigits n.toNat, 0, cas, last, false, false⟩
def suV (value : List UInt8) (cas last : Int) : It := ⟨[120], 0, 120 :: value, 0, cas, last, false, false⟩
def wantF (n d : Int) (down : Bool) : Int := if down then n - min n d else IntKind.u64.wrap (n + d)
theorem want_bd {n d : Int} {down : Bool} (h0 : 0 ≤ n) (h1 : n < 18446744073709551616) (h2 : 0 ≤ d) : 0 ≤ wantF n d down ∧ wantF n d down < 18446744073709551616 := by
  unfold wantF
  split
  · omega
  · rw [IntKind.wrap_u64]; omega
theorem su_fits {n : Int} (h1 : n < 18446744073709551616) (cas last : Int) : fitsB 900 (suX n cas last) = true := by
  have := dec_len_le n.toNat (by omega)
  simp [fitsB, suX]; omega
theorem su_num {n : Int} (h0 : 0 ≤ n) (h1 : n < 18446744073709551616) : (((parseV (Lib.decDigits n.toNat)).getD 0 : Nat) : Int) = n := by
  rw [parseV_dec _ (by omega)]; simp; omega
theorem su1 {n : Int} (h0 : 0 ≤ n) (h1 : n < 18446744073709551616) : applyF (none' 0) 5 (suC1 n) 900 = (one (suX n 1 0) 1, ⟨6, suX n 1 0, n, false, false, false⟩) := by
  rw [app_nil ⟨by simp [mayB, suC1, nearB, keyB], by decide, by decide⟩]
  have hw := u64w 1 (by decide) (by decide)
  have hf := su_fits h1 0 0
  unfold suX at hf
  have hn := su_num h0 h1
  simp only [doF, suC1, mathF, numPut, putF, none', one, suX, momF, hf, hn]
  simp [hw, hf]
theorem su2 {n d : Int} {down : Bool} (h0 : 0 ≤ n) (h1 : n < 18446744073709551616) (h2 : 0 ≤ d) : applyF (one (suX n 1 0) 1) 5 (suC2 [110] d down) 900 = (one (suX (wantF n d down) 2 0) 2, ⟨6, suX (wantF n d down) 2 0, wantF n d down, false, false, false⟩) := by
  rw [app_one ⟨by simp [mayB, suC2, nearB, keyB], by decide, by decide⟩ (by simp [goneB, suX]) rfl]
  have hb := want_bd (d := d) (down := down) h0 h1 h2
  have hw := u64w 2 (by decide) (by decide)
  have hf := su_fits hb.2 1 0
  have hn := su_num hb.1 hb.2
  have hv : (if down = true then subV (Lib.decDigits n.toNat) d else addV (Lib.decDigits n.toNat) d) = some (Lib.decDigits (wantF n d down).toNat) := by
    have hN : ((n.toNat : Nat) : Int) = n := by omega
    unfold subV addV wantF
    rw [parseV_dec _ (by omega)]
    simp only [hN]
    cases down <;> rfl
  unfold suX at hf
  simp only [doF, suC2, mathF, itF, one, suX, otherB, List.getD_cons_zero, hv, numPut, putF, hf, hn]
  simp [hw, hf]
theorem su3 {z : Int} : applyF (one (suX z 2 0) 2) 5 (getC [110]) 900 = (one (suX z 2 5) 2, ⟨1, suX z 2 5, 0, false, false, false⟩) :=
  get_one (x := suX z 2 0) (cas := 2) (by show keyB [110] = true; decide) (by decide) (by decide) (by simp [goneB, suX]) rfl rfl
theorem su4 {value : List UInt8} (hv : value.length ≤ 800) : applyF (none' 0) 5 (setC [120] 0 (120 :: value) 0) 900 = (one (suV value 1 0) 1, ⟨2, suV value 1 0, 0, false, false, false⟩) :=
  set_nil (cas := 0) (now := 5) (most := 900) ⟨by simp [mayB, setC, nearB, keyB]; omega, by decide, by decide⟩ (by simp; omega) (by decide) (by decide)
theorem su5 {value : List UInt8} {d : Int} {down : Bool} : applyF (one (suV value 1 0) 1) 5 (suC2 [120] d down) 900 = (one (suV value 1 0) 1, toldF 7) := by
  rw [app_one ⟨by simp [mayB, suC2, nearB, keyB], by decide, by decide⟩ (by simp [goneB, suV]) rfl]
  have hp : parseV (120 :: value) = none := parseV_bad _ 0 (by simp) (by show dgt 120 = false; decide)
  simp only [doF, suC2, mathF, itF, one, suV, otherB, List.getD_cons_zero, subV, addV, hp]
  cases down <;> simp
end Go.Proofs.YtfmpdbngpknmaaaDoor
