/- ModelWins: what each step comes to. No program in sight. -/
import Derived.Test.YtfmpdbngpknmaaaDoorBJ
namespace Go.Proofs.YtfmpdbngpknmaaaDoor
set_option linter.unusedSimpArgs false
set_option linter.unusedVariables false

def wnX (key value : List UInt8) (cas last : Int) (stale won : Bool) : It := ⟨key, 0, value, 0, cas, last, stale, won⟩
/-- made stale -/
def wnC (key : List UInt8) : Cd := ⟨5, 0, key, [], 0, 0, false, 0, false, 0, 0, false, false, 0, -1, true⟩
theorem ok_wn {t : Int} {key : List UInt8} (hk : keyB key = true) (h0 : 1 ≤ t) (h1 : t ≤ 1099511627776) : okB t (wnC key) := by
  refine ⟨?_, h0, h1⟩
  simp [mayB, wnC, nearB, hk]
theorem ok_set {t : Int} {key value : List UInt8} (hk : keyB key = true) (hv : value.length ≤ 65536) (h0 : 1 ≤ t) (h1 : t ≤ 1099511627776) : okB t (setC key 0 value 0) := by
  refine ⟨?_, h0, h1⟩
  simp [mayB, setC, nearB, hk, hv]
theorem wn_gone (key value : List UInt8) (cas last t : Int) (stale won : Bool) : goneB t (wnX key value cas last stale won) = false := by simp [goneB, wnX]
theorem wn2 {key value : List UInt8} (hk : keyB key = true) : applyF (one (wnX key value 1 0 false false) 1) 5 (wnC key) 65536 = (one (wnX key value 2 0 true false) 2, ⟨9, wnX key value 2 0 true false, 0, false, false, false⟩) := by
  rw [app_one (ok_wn hk (by decide) (by decide)) (wn_gone ..) rfl]
  have hw := u64w 2 (by decide) (by decide)
  simp [doF, wnC, removeF, otherB, goneF, putF, one, itF, wnX, hw]
theorem wn3 {key value : List UInt8} (hk : keyB key = true) : applyF (one (wnX key value 2 0 true false) 2) 6 (getC key) 65536 = (one (wnX key value 2 6 true true) 2, ⟨1, wnX key value 2 6 true true, 0, true, true, false⟩) := by
  rw [app_one (ok_get hk (by decide) (by decide)) (wn_gone ..) rfl]
  simp [doF, getC, getF, gotF, winB, soonB, one, itF, wnX]
theorem wn4 {key value : List UInt8} (hk : keyB key = true) : applyF (one (wnX key value 2 6 true true) 2) 6 (getC key) 65536 = (one (wnX key value 2 6 true true) 2, ⟨1, wnX key value 2 6 true true, 0, false, true, true⟩) := by
  rw [app_one (ok_get hk (by decide) (by decide)) (wn_gone ..) rfl]
  simp [doF, getC, getF, gotF, winB, soonB, one, itF, wnX]
theorem wn5 {key value : List UInt8} (hk : keyB key = true) (hf : (key.length : Int) + (value.length : Int) ≤ 65536) (last : Int) (won : Bool) : applyF (one (wnX key value 2 last true won) 2) 7 (setC key 0 value 0) 65536 = (one (wnX key value 3 0 false false) 3, ⟨2, wnX key value 3 0 false false, 0, false, false, false⟩) := by
  rw [app_one (ok_set hk (by omega) (by decide) (by decide)) (wn_gone ..) rfl]
  have hw := u64w 3 (by decide) (by decide)
  simp [doF, setC, storeF, otherB, fitsB, newF, putF, one, itF, wnX, momF, hw, hf]
theorem wn6 {key value : List UInt8} (hk : keyB key = true) : applyF (one (wnX key value 3 0 false false) 3) 8 (getC key) 65536 = (one (wnX key value 3 8 false false) 3, ⟨1, wnX key value 3 8 false false, 0, false, false, false⟩) :=
  get_one (x := wnX key value 3 0 false false) (cas := 3) hk (by decide) (by decide) (wn_gone ..) rfl rfl
end Go.Proofs.YtfmpdbngpknmaaaDoor
