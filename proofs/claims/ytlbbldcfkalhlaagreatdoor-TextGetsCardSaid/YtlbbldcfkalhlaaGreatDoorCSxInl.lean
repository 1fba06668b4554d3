/- A call whose text is walked in place: the callee's walk ends where the caller's goes on. No program in sight. -/
import Derived.Test.YtlbbldcfkalhlaaGreatDoorBM
namespace Go.Proofs.YtlbbldcfkalhlaaGreatDoor
set_option linter.unusedSimpArgs false
set_option linter.unusedVariables false
open Go.RowKit

section
variable {C : Cx} {nt nf : Nat} {sl : List (Nat × SV)} {en : List EN} {k : List KI}
variable {dst : Option Nat} {ty : TypeId} {pos : String} {af : Array Edge} {all r : List Oper} {gd : Option (Nat × Bool)}
/-- the walk of a callee inside the walk of its caller -/
structure InlC (C D : Cx) (n : Nat) (kp : List Nat) : Prop where
  p : D.P = C.P
  kp : D.kp = kp
  n0 : D.n0 = n
  df : D.df = []
  up : ∀ w, Upd D.S D.w0 w → Upd C.S C.w0 w
  rd : ∀ b o m l, C.rd b o m = some l → D.rd b o m = some l
  sz : C.w0.heap.size ≤ D.w0.heap.size
  s : ∀ b, D.S b ↔ C.S b ∨ C.w0.heap.size ≤ b
theorem InlC.ctr {D : Cx} {n : Nat} {kp : List Nat} (h : InlC C D n kp) {ctr : Ctr} (hc : CtrOk C ctr) : CtrOk D ctr := by
  intro f en xs p v hx hp ρ w hu
  rw [h.p]
  exact hc f en xs p v hx hp ρ w (h.up w hu)
theorem Run_inline {f : FuncId} {fn : Func} {c : Code} {rs : List ResultVar} {args : Array Operand} {tys : Array TypeId} {xs : List SV} (kpf : List Nat) (hf : C.P.funcs[f]? = some fn) (hb : fn.body = some c) (hnt : fn.ntmps = nf) (hrs : fn.results.toList = rs)
    (hent : ∀ args w, (callFunc f args).run C.P w = .ok (.enter f args) w) (hxs : qw sl args.toList = some xs) (hg : gdT all sl gd = true) (hlen : xs.length ≤ nf) (hd : ∀ d, dst = some d → d < nt)
    (H : ∀ D, InlC C D en.length kpf → (∀ v en', en.length ≤ en'.length → Run C (.ops all r :: k) nt (jN dst v sl) en' → Fin D rs v en') → (∀ ch en', en.length ≤ en'.length → Pan C ch en' → Pan D ch en') → Run D [.code c] nf (zK 0 xs) en) :
    Run C (.ops all (⟨dst, .call ⟨.value (.func f), args, tys⟩, ty, pos, af, gd⟩ :: r) :: k) nt sl en := by
  refine Run_ocall hxs hg hent fun ρ a w hr hwf => ?_
  have hn0 := hr.n0
  refine calls_of_Run (S := fun b => C.S b ∨ C.w0.heap.size ≤ b) hf hb kpf xs hnt ⟨hr.hw.hp, hr.hw.ho, hr.hw.inj, fun c ty cells hc he => hr.hw.mu c ty cells hc he⟩ hwf hlen ?_
  intro D hD _ _
  have conv : ∀ {ρ' : Nat → RE} {en' : List EN} {w' : World}, en.length ≤ en'.length → Hw D ρ' (· < en'.length) en' w' → (∀ c, c < en.length → ρ' c = ρ c) ∧ Hw C ρ' (· < en'.length) en' w' := by
    intro ρ' en' w' hle hw'
    rw [hD] at hw'
    have hini : ∀ c, c < en.length → ρ' c = ρ c := hw'.ini
    refine ⟨hini, hw'.hp, hw'.ho, hw'.inj, hr.hw.up.trans hw'.up fun q hq hs => hs.resolve_right (by omega), fun c ty cells hc he => ?_, fun c hc => ?_⟩
    · rcases hw'.mu c ty cells hc he with h | h
      · exact h
      · exact .inr (Nat.le_trans hr.hw.up.size h)
    · rw [hini c (by omega)]; exact hr.hw.ini c hc
  refine H D ⟨by rw [hD]; rfl, by rw [hD]; rfl, by rw [hD]; rfl, by rw [hD]; rfl, ?_, ?_, ?_, ?_⟩ ?_ ?_
  · intro w' hu
    rw [hD] at hu
    exact hr.hw.up.trans hu fun q hq hs => hs.resolve_right (by omega)
  · intro b o m l hl
    unfold Cx.rd rdOf at hl
    split at hl
    · rename_i hx
      obtain ⟨h1, h2⟩ := hx.choose_spec
      simp only [Option.some.injEq] at hl
      rw [← hl]
      refine rd_of (C := D) (fun w' hu => h2 w' ?_) h1
      rw [hD] at hu
      exact hr.hw.up.trans hu fun q hq hs => hs.resolve_right (by omega)
    · cases hl
  · rw [hD]; exact hr.hw.up.size
  · intro b; rw [hD]; exact Iff.rfl
  · intro v en' hle hK
    refine Fin_cx hD hrs fun ρ' w' hw' hn hv => .inl ⟨_, rfl, ?_⟩
    obtain ⟨hini, hC⟩ := conv hle hw'
    refine hK ρ' _ w' ?_
    have hr1 : Rep C ρ' nt sl en' a w' := by
      refine ⟨hC, fun d u hd => ?_, hr.sz, hr.df, by omega⟩
      obtain ⟨q1, q2⟩ := hr.tm d u hd
      rw [SV.den_congr q2 hini]
      exact ⟨q1, SV.wf_mono q2 (fun c hc => by show c < _; have : c < en.length := hc; omega)⟩
    cases dst with
    | none => exact hr1
    | some d => exact hr1.put (hd d rfl) hv
  · intro ch en' hle hp
    refine Pan_of hD fun ρ' w' hw' hn => .inr ⟨ch, rfl, ?_⟩
    exact hp ρ' a w' (conv hle hw').2 (by omega) hr.df
end
end Go.Proofs.YtlbbldcfkalhlaaGreatDoor
