/- Adding to and taking from the number of a text: the program and the reference return the same. -/
import Derived.Test.YtfpeholdlkfmoaaGreatDoorBS00
import Derived.Test.YtfpeholdlkfmoaaGreatDoorBS06
import Derived.Test.YtfpeholdlkfmoaaGreatDoorBS07
import Derived.Test.YtfpeholdlkfmoaaGreatDoorBS08
import Derived.Test.YtfpeholdlkfmoaaGreatDoorBS04
namespace Go.Proofs.YtfpeholdlkfmoaaGreatDoor
set_option linter.unusedSimpArgs false
set_option linter.unusedVariables false
open Go.Shelf Go.RowKit
def addR (l:List UInt8) (d:Int):Value:=match zD8 l with | some n=>.tuple #[.string ⟨(decI (IntKind.u64.wrap ((n:Int)+d))).toArray⟩,.bool true] | none=>.tuple #[.string ⟨#[]⟩,.bool false]
def subR (l:List UInt8) (d:Int):Value:=match zD8 l with | some n=>.tuple #[.string ⟨(decI ((n:Int) - min (n:Int) d)).toArray⟩,.bool true] | none=>.tuple #[.string ⟨#[]⟩,.bool false]
theorem zW0 {l:List UInt8} {n:Nat} (h:zD8 l=some n):n < 18446744073709551616:=by
 unfold zD8 at h
 split at h
 ·rename_i hh; cases h; exact hh.2.2.2
 ·cases h
theorem u64_rng (n:Int):0≤IntKind.u64.wrap n∧IntKind.u64.wrap n < 18446744073709551616:=by rw [IntKind.wrap_u64]; omega
set_option maxRecDepth 100000 in
set_option maxHeartbeats 1000000 in
theorem nadd (l:List UInt8) (hl:l.length≤9223372036854775807) (d:Int) (_hd0:0≤d) (_hd1:d < 18446744073709551616) (w:World) (he:Env w) :
  Calls Tryz.prog 60 #[.string ⟨l.toArray⟩,.int .u64 d] w fun e w'=>e=.returned (addR l d)∧Below w.heap.size w w':=by
 have P:=fun w he=>parse l hl w he
 cases hp:zD8 l with
 | none =>
  have hfin:addR l d=.tuple #[.string ⟨#[]⟩,.bool false]:=by unfold addR; rw [hp]
  rw [hfin]
  rw [zW4 hp] at P
  have PA:=Lib.hid P
  clear P hp hfin
  go_enter Tryz.func60,Tryz.ntmps60
  go_wp2_with fail
  refine (PA.out _ he).mono ?_
  rintro e w1 ⟨rfl,b1⟩
  go_wp2_with fail
  go_ret2
  exact ⟨rfl,b1⟩
 | some n =>
  have hn:=zW0 hp
  have hn0:(0:Int)≤(n:Int):=by omega
  have hn1:(n:Int) < 18446744073709551616:=by omega
  rw [zW3 hp] at P
  have PA:=Lib.hid P
  clear P
  have hfin:addR l d=.tuple #[.string ⟨(decI (IntKind.u64.wrap ((n:Int)+d))).toArray⟩,.bool true]:=by unfold addR; rw [hp]
  rw [hfin]
  obtain ⟨q,hq⟩:∃ q,q=IntKind.u64.wrap ((n:Int)+d):=⟨_,rfl⟩
  have hr:=u64_rng ((n:Int)+d)
  rw [← hq] at hr ⊢
  have T:=Lib.hid (fun w htab=>textI q hr.1 hr.2 w htab)
  clear hp hfin
  have HQ:=Lib.hid hq; clear hq
  go_enter Tryz.func60,Tryz.ntmps60
  go_wp2_with fail
  refine (PA.out _ he).mono ?_
  rintro e w1 ⟨rfl,b1⟩
  go_wp2_with fail
  rw [← HQ.out]
  refine (T.out _ (he.below b1).pow).mono ?_
  rintro e w2 ⟨rfl,b2⟩
  go_wp2_with fail
  go_ret2
  exact ⟨rfl,b1.trans (b2.mono b1.size)⟩
set_option maxRecDepth 100000 in
set_option maxHeartbeats 1000000 in
theorem nsub (l:List UInt8) (hl:l.length≤9223372036854775807) (d:Int) (hd0:0≤d) (hd1:d < 18446744073709551616) (w:World) (he:Env w) :
  Calls Tryz.prog 61 #[.string ⟨l.toArray⟩,.int .u64 d] w fun e w'=>e=.returned (subR l d)∧Below w.heap.size w w':=by
 have P:=fun w he=>parse l hl w he
 cases hp:zD8 l with
 | none =>
  have hfin:subR l d=.tuple #[.string ⟨#[]⟩,.bool false]:=by unfold subR; rw [hp]
  rw [hfin]
  rw [zW4 hp] at P
  have PA:=Lib.hid P
  clear P hp hfin
  go_enter Tryz.func61,Tryz.ntmps61
  go_wp2_with fail
  refine (PA.out _ he).mono ?_
  rintro e w1 ⟨rfl,b1⟩
  go_wp2_with fail
  go_ret2
  exact ⟨rfl,b1⟩
 | some n =>
  have hn:=zW0 hp
  have hn0:(0:Int)≤(n:Int):=by omega
  have hn1:(n:Int) < 18446744073709551616:=by omega
  rw [zW3 hp] at P
  have PA:=Lib.hid P
  clear P
  have hfin:subR l d=.tuple #[.string ⟨(decI ((n:Int) - min (n:Int) d)).toArray⟩,.bool true]:=by unfold subR; rw [hp]
  rw [hfin]
  have T:=Lib.hid (fun w htab=>textI ((n:Int) - min (n:Int) d) (by omega) (by omega) w htab)
  clear hp hfin
  go_enter Tryz.func61,Tryz.ntmps61
  go_wp2_with fail
  refine (PA.out _ he).mono ?_
  rintro e w1 ⟨rfl,b1⟩
  go_wp2_with fail
  refine (T.out _ (he.below b1).pow).mono ?_
  rintro e w2 ⟨rfl,b2⟩
  go_wp2_with fail
  go_ret2
  exact ⟨rfl,b1.trans (b2.mono b1.size)⟩
end Go.Proofs.YtfpeholdlkfmoaaGreatDoor
/- The functions of package nums as rows of contracts for the model's walk. -/
namespace Go.Proofs.YtfpeholdlkfmoaaGreatDoor
set_option linter.unusedSimpArgs false
set_option linter.unusedVariables false
open Go.RowKit
def EnvB (base:Nat) (w:World):Prop:=∃ w0,Env w0∧w0.heap.size≤base∧Below w0.heap.size w0 w
theorem EnvB.upd {base:Nat} {w w':World} {S:Nat→Prop} (h:EnvB base w) (hb:base≤w.heap.size) (hu:Upd S w w') (hS:∀ k,S k→base≤k):EnvB base w':=by
 obtain ⟨w0,h1,h2,h3⟩:=h
 exact ⟨w0,h1,h2,h3.trans (below_of_upd hu (Nat.le_trans h2 hb) (fun k hk hs=>by have:=hS k hs; omega))⟩
theorem EnvB.env {base:Nat} {w:World} (h:EnvB base w):Env w:=by
 obtain ⟨w0,h1,_,h3⟩:=h
 exact h1.below h3
theorem EnvB.of {w:World} (h:Env w):EnvB w.heap.size w:=⟨w,h,Nat.le_refl _,Below.refl _ _⟩
def EnvC (C:Cx):Prop:=∀ w,Upd C.S C.w0 w→Env w
def zD0:List SV→Option (Prop × SV)
 | [.c (.i .u64 n)]=>some (0≤n∧n < 18446744073709551616,.c (.s (Lib.decDigits n.toNat)))
 | _=>none
def zJ7:List SV→Option (Prop × SV)
 | [.c (.s l),.c (.i .u64 d)]=>some (l.length≤9223372036854775807∧0≤d∧d < 18446744073709551616,.t [.c (.s ((addV l d).getD [])),.c (.b (addV l d).isSome)])
 | _=>none
def zQ9:List SV→Option (Prop × SV)
 | [.c (.s l),.c (.i .u64 d)]=>some (l.length≤9223372036854775807∧0≤d∧d < 18446744073709551616,.t [.c (.s ((subV l d).getD [])),.c (.b (subV l d).isSome)])
 | _=>none
def zH4:List SV→Option (Prop × SV)
 | [.c (.s l)]=>some (l.length≤9223372036854775807,.t [.c (.i .u64 (((zD8 l).getD 0:Nat):Int)),.c (.b (zD8 l).isSome)])
 | _=>none
def mC2:Ctr:=fun f en xs=>match f with
 | 59=>zD0 xs
 | 60=>zJ7 xs
 | 61=>zQ9 xs
 | 62=>zH4 xs
 | _=>mC1 f en xs
section
variable {en:List EN} {ρ:Nat→RE} {w:World} {xs:List SV} {p:Prop} {v:SV}
theorem rowText_ok (h:zD0 xs=some (p,v)) (hp:p) (he:Env w):v.wf (· < en.length)∧Calls Tryz.prog 59 (xs.map (SV.den ρ)).toArray w fun e w'=>e=.returned (v.den ρ)∧Below w.heap.size w w':=by
 unfold zD0 at h
 split at h <;> simp only [Option.some.injEq,Prod.mk.injEq,reduceCtorEq] at h
 rename_i n
 obtain ⟨rfl,rfl⟩:=h
 obtain ⟨h0,h1⟩:=hp
 refine ⟨trivial,?_⟩
 have:=text n.toNat (by omega) w he.pow
 rw [show ((n.toNat:Nat):Int)=n by omega] at this
 exact this
theorem rowAdd_ok (h:zJ7 xs=some (p,v)) (hp:p) (he:Env w):v.wf (· < en.length)∧Calls Tryz.prog 60 (xs.map (SV.den ρ)).toArray w fun e w'=>e=.returned (v.den ρ)∧Below w.heap.size w w':=by
 unfold zJ7 at h
 split at h <;> simp only [Option.some.injEq,Prod.mk.injEq,reduceCtorEq] at h
 rename_i l d
 obtain ⟨rfl,rfl⟩:=h
 obtain ⟨h0,h1,h2⟩:=hp
 refine ⟨by intro x hx; simp at hx; rcases hx with rfl | rfl <;> trivial,?_⟩
 refine (nadd l h0 d h1 h2 w he).mono ?_
 rintro e w' ⟨rfl,hb⟩
 refine ⟨?_,hb⟩
 unfold addR addV
 cases zD8 l <;> rfl
theorem rowSub_ok (h:zQ9 xs=some (p,v)) (hp:p) (he:Env w):v.wf (· < en.length)∧Calls Tryz.prog 61 (xs.map (SV.den ρ)).toArray w fun e w'=>e=.returned (v.den ρ)∧Below w.heap.size w w':=by
 unfold zQ9 at h
 split at h <;> simp only [Option.some.injEq,Prod.mk.injEq,reduceCtorEq] at h
 rename_i l d
 obtain ⟨rfl,rfl⟩:=h
 obtain ⟨h0,h1,h2⟩:=hp
 refine ⟨by intro x hx; simp at hx; rcases hx with rfl | rfl <;> trivial,?_⟩
 refine (nsub l h0 d h1 h2 w he).mono ?_
 rintro e w' ⟨rfl,hb⟩
 refine ⟨?_,hb⟩
 unfold subR subV
 cases zD8 l <;> rfl
theorem rowParse_ok (h:zH4 xs=some (p,v)) (hp:p) (he:Env w):v.wf (· < en.length)∧Calls Tryz.prog 62 (xs.map (SV.den ρ)).toArray w fun e w'=>e=.returned (v.den ρ)∧Below w.heap.size w w':=by
 unfold zH4 at h
 split at h <;> simp only [Option.some.injEq,Prod.mk.injEq,reduceCtorEq] at h
 rename_i l
 obtain ⟨rfl,rfl⟩:=h
 refine ⟨by intro x hx; simp at hx; rcases hx with rfl | rfl <;> trivial,?_⟩
 exact parse l hp w he
end
theorem mC2_ok {C:Cx} (hP:C.P=Tryz.prog) (hE:EnvC C):zE4 C mC2:=by
 intro f en xs p v h hp ρ w hup hHp hHo hinj hwf
 unfold mC2 at h
 split at h
 ·rw [hP]; exact ⟨fun args w=>Tryz.call59 args w,rowText_ok h hp (hE w hup)⟩
 ·rw [hP]; exact ⟨fun args w=>Tryz.call60 args w,rowAdd_ok h hp (hE w hup)⟩
 ·rw [hP]; exact ⟨fun args w=>Tryz.call61 args w,rowSub_ok h hp (hE w hup)⟩
 ·rw [hP]; exact ⟨fun args w=>Tryz.call62 args w,rowParse_ok h hp (hE w hup)⟩
 ·exact zL7 hP f en xs p v h hp ρ w hup hHp hHo hinj hwf
theorem addV_len {l v:List UInt8} {d:Int} (h:addV l d=some v):v.length≤20:=by
 unfold addV at h
 split at h
 ·injection h with h; subst h
  have:=u64_rng ((‹Nat›:Int)+d)
  exact zJ5 _ (by omega)
 ·cases h
theorem subV_len {l v:List UInt8} {d:Int} (h0:0≤d) (h:subV l d=some v):v.length≤20:=by
 unfold subV at h
 split at h
 ·rename_i n hn
  injection h with h; subst h
  have:=zW0 hn
  exact zJ5 _ (by omega)
 ·cases h
end Go.Proofs.YtfpeholdlkfmoaaGreatDoor
/- math, by the symbolic walk: printed by gen_math.py. -/
namespace Go.Proofs.YtfpeholdlkfmoaaGreatDoor
set_option linter.unusedSimpArgs false
set_option linter.unusedVariables false
set_option maxHeartbeats 8000000
open Go.RowKit
set_option maxRecDepth 100000
set_option maxHeartbeats 4000000
theorem math_no (base g:Nat) (v:Value) (X:St) (now:Int) (op mode:Int) (key val:List UInt8) (flags exp:Int) (hasExp:Bool) (cas:Int) (hasCas:Bool) (delta init:Int) (down viv:Bool) (vive recache:Int) (inval:Bool) (most:Int) (i:Nat) (w:World) (h:WS base w g v X now ⟨op,mode,key,val,flags,exp,hasExp,cas,hasCas,delta,init,down,viv,vive,recache,inval⟩ most i false) (hbase:base≤w.heap.size) (hi:i≤X.items.length) (his:false=true→i < X.items.length) (hl:X.items.length≤100000000)
 (hn0:1≤now) (hn1:now≤1099511627776) (hck:key.length≤100000000) (hd0:0≤delta) (hd1:delta < 18446744073709551616) (hi0:0≤init) (hi1:init < 18446744073709551616) (hE:EnvB base w)
 : Calls Tryz.prog 36 #[.pointer (some ⟨g,0,none⟩)] w (OpR base g v (zD3 X now ⟨op,mode,key,val,flags,exp,hasExp,cas,hasCas,delta,init,down,viv,vive,recache,inval⟩ most i false).1 now ⟨op,mode,key,val,flags,exp,hasExp,cas,hasCas,delta,init,down,viv,vive,recache,inval⟩ most i false (zD3 X now ⟨op,mode,key,val,flags,exp,hasExp,cas,hasCas,delta,init,down,viv,vive,recache,inval⟩ most i false).2 w):=by
 have hES:∀ k,S0 g v k→base≤k:=fun k hk=>hk.elim (fun e=>e ▸ h.low) (fun e=>(h.own.lt k e).1)
 refine zN1 Tryz.func36 rfl kp36 Tryz.ntmps36 (by decide) h hbase his ?_
 intro vS tl hsh ρ hρ n hn hn' C hC hG hP hk
 have hctr:=mC2_ok hP (by rw [hC]; exact fun w' hu=>(hE.upd hbase hu hES).env)
 have hzl:(Lib.decDigits init.toNat).length≤20:=zJ5 _ (by omega)
 have hzl':(Lib.decDigits init.toNat).length≤9223372036854775807:=by omega
 rcases hsh with ⟨rfl,⟨_,rfl⟩ | ⟨h1,_⟩⟩
 ·(refine zA6 hctr (rs:=res36) true 300 _ _ _ ?_; simp (maxSteps:=1000000) only [VG,qH,qI,qJ,qK,qO,qP,qQ,qV,q0t,qu,qv,ev,qy,zA,zB,zC,zD,zE,zF,zG,zI,zJ,zK,zM,↓reduceIte,reduceCtorEq,Nat.reduceEqDiff,Nat.reduceAdd,Nat.reduceLT,zP,zQ,zR,zt,hP,hk,kp36,woE,woS,zG3])
  cases viv with
  | false =>
   (refine zA1 hctr (by rw [hP]; rfl) rs36_2 [] (ensure_type_of% (Cmp.of (by simp (maxSteps := 1000000) only [qK, qO, qP, qV, qf, qg, q0t, qu, qv, ev, qw, qy, zC, zD, zE, zF, zG, zM, ↓reduceIte, reduceCtorEq, Nat.reduceEqDiff, Nat.reduceAdd, zP, zT, zt, cD, cO, jC, jD, jF, jG, jH, jI, jJ, jN, hP, mC2, mC1, mC0, zD0, zA3, hn0, hn1, hi0, hi1]; rfl)) "" Cmp.mk) (by kernel_rfl) (by kernel_rfl) (by first | exact zA2 _ | kernel_rfl) (by kernel_rfl) (by rfl) (by rfl) (by first | exact zA0 _ | rfl) (by rfl) (by simp (maxSteps := 1000000) only [qK, qO, qP, qV, qf, qg, q0t, qu, qv, ev, qw, qy, zC, zD, zE, zG, zM, ↓reduceIte, reduceCtorEq, Nat.reduceEqDiff, Nat.reduceAdd, Nat.reduceLT, zP, zR, zS, zT, zm, zn, zo, zq, zt, jD, jF, jG, jH, jI, jN, jP, jQ, jR, jS, jT, jV, jW, jX, jY, hP, mC2, mC1, mC0, zD0, zA3, hn0, hn1, hi0, hi1]) ?_; refine zA6 hctr (rs := res36) true 300 _ _ _ ?_; simp (maxSteps := 1000000) only [VG, jZ, je, qE, qF, qG, qH, qI, qJ, qK, qO, qP, qQ, qT, qV, qp, q0t, qu, qv, ev, qw, qy, qz, zA, zB, zC, zD, zE, zG, zI, zJ, TE.sv, zM, ↓reduceIte, reduceCtorEq, Nat.reduceEqDiff, Nat.reduceAdd, Nat.reduceLT, zP, zQ, zR, zS, zV, zW, zb, zc, zt, zy, jN, jO, hP, hk, res36, kp36, mC2, mC1, mC0, zB5, zA7, It.zero, anS])
   rw [show zD3 X now ⟨op,mode,key,val,flags,exp,hasExp,cas,hasCas,delta,init,down,false,vive,recache,inval⟩ most i false=(X,zA7 5) by simp [zD3]] at hC
   exact zC4 hC hres36 hn hρ h.low (vS:=.rw 1 X.items.length) rfl (.inr ⟨1,rfl,by decide,.inl rfl⟩) rfl
  | true =>
   (refine zA1 hctr (by rw [hP]; rfl) rs36_2 [] (ensure_type_of% (Cmp.of (by simp (maxSteps := 1000000) only [qK, qO, qP, qV, qf, qg, q0t, qu, qv, ev, qw, qy, zC, zD, zE, zF, zG, zM, ↓reduceIte, reduceCtorEq, Nat.reduceEqDiff, Nat.reduceAdd, zP, zT, zt, cD, cO, jC, jD, jF, jG, jH, jI, jJ, jN, hP, mC2, mC1, mC0, zD0, zA3, hn0, hn1, hi0, hi1]; rfl)) "" Cmp.mk) (by kernel_rfl) (by kernel_rfl) (by first | exact zA2 _ | kernel_rfl) (by kernel_rfl) (by rfl) (by rfl) (by first | exact zA0 _ | rfl) (by rfl) (by simp (maxSteps := 1000000) only [qK, qO, qP, qV, qf, qg, q0t, qu, qv, ev, qw, qy, zC, zD, zE, zG, zM, ↓reduceIte, reduceCtorEq, Nat.reduceEqDiff, Nat.reduceAdd, Nat.reduceLT, zP, zR, zS, zT, zm, zn, zo, zq, zt, jD, jF, jG, jH, jI, jN, jP, jQ, jR, jS, jT, jV, jW, jX, jY, hP, mC2, mC1, mC0, zD0, zA3, hn0, hn1, hi0, hi1]) ?_; refine zA6 hctr (rs := res36) true 300 _ _ _ ?_; simp (maxSteps := 1000000) only [VG, jZ, ja, jd, je, qH, qI, qK, qO, qP, qQ, qT, qV, qp, ev, qy, qz, zD, zG, zI, zJ, zM, ↓reduceIte, reduceCtorEq, Nat.reduceEqDiff, Nat.reduceAdd, Nat.reduceLT, zP, zQ, zR, zS, zV, zW, zb, zc, zt, zy, zz, jN, jO, hP, hk, res36, kp36])
   have hsub:IntKind.i64.wrap ((key.length:Int)+((Lib.decDigits init.toNat).length:Int))=(key.length:Int)+((Lib.decDigits init.toNat).length:Int):=IntWalk.i64_in _ (by omega)
   (refine zA1 hctr (by rw [hP]; rfl) rs36_17 [] (ensure_type_of% (Cmp.of (by simp (maxSteps := 1000000) only [qK, qN, qO, qP, qQ, qR, qS, qV, qe, ev, qy, zD, zM, ↓reduceIte, reduceCtorEq, Nat.reduceEqDiff, zt, zu, cD, cO, jC, jD, jN, hP, hsub]; rfl)) "" Cmp.mk) (by kernel_rfl) (by kernel_rfl) (by first | exact zA2 _ | kernel_rfl) (by kernel_rfl) (by rfl) (by rfl) (by first | exact zA0 _ | rfl) (by rfl) (by simp (maxSteps := 1000000) only [qK, qN, qO, qP, qQ, qR, qS, qV, qe, ev, qy, zD, zM, ↓reduceIte, reduceCtorEq, Nat.reduceEqDiff, zT, zn, zt, zu, jD, jN, jP, jQ, jR, jS, jT, hP, hsub]) ?_; refine zA6 hctr (rs := res36) true 300 _ _ _ ?_; simp (maxSteps := 1000000) only [VG, ev, qy, zG, zI, zJ, ↓reduceIte, reduceCtorEq, Nat.reduceEqDiff, Nat.reduceAdd, zP, zQ, zf, zg, zt, jN, jO, hk, res36, kp36])
   refine ⟨fun hfit=>?_,fun hfit=>?_⟩
   ·have hfit':decide (most < (key.length:Int)+((Lib.decDigits init.toNat).length:Int))=true:=decide_eq_true hfit
    simp (maxSteps:=1000000) only [VG,qE,qF,qG,qH,qI,qJ,qP,q0t,qu,qv,ev,qw,qy,qz,zA,zB,zC,zD,zE,zG,zI,zJ,TE.sv,zM,↓reduceIte,reduceCtorEq,Nat.reduceEqDiff,Nat.reduceAdd,Nat.reduceLT,zP,zQ,zR,zt,hP,hk,kp36,mC2,mC1,mC0,zB5,zA7,It.zero,anS,hfit']
    rw [show zD3 X now ⟨op,mode,key,val,flags,exp,hasExp,cas,hasCas,delta,init,down,true,vive,recache,inval⟩ most i false=(X,zA7 11) by simp [zD3,zH0,zD9]; omega] at hC
    exact zC4 hC hres36 hn hρ h.low (vS:=.rw 1 X.items.length) rfl (.inr ⟨1,rfl,by decide,.inl rfl⟩) rfl
   ·have hfit':decide (most < (key.length:Int)+((Lib.decDigits init.toNat).length:Int))=false:=decide_eq_false hfit
    simp (maxSteps:=1000000) only [VG,qH,qI,qK,qO,qP,qV,qh,ev,qw,qy,zA,zB,zD,zI,zJ,TE.sv,zM,↓reduceIte,reduceCtorEq,Nat.reduceEqDiff,Nat.reduceLT,zP,zQ,zR,zW,zt,hP,hk,kp36,mC2,mC1,mC0,zH4,hzl',hfit']
    obtain ⟨Y,hY⟩:∃ Y,Y=zJ4 X i false ⟨key,0,Lib.decDigits init.toNat,zF3 now vive,0,0,false,false⟩:=⟨_,rfl⟩
    have hYi:Y.1.items[i]?=some Y.2:=by rw [hY]; exact zC5 X i _ _ hi his
    rw [show zD3 X now ⟨op,mode,key,val,flags,exp,hasExp,cas,hasCas,delta,init,down,true,vive,recache,inval⟩ most i false=(Y.1,⟨6,Y.2,(((zD8 (Lib.decDigits init.toNat)).getD 0:Nat):Int),false,false,false⟩) by rw [hY]; simp [zD3,zH0,zD9]; omega] at hC
    refine zE1 ⟨key,0,Lib.decDigits init.toNat,zF3 now vive,0,0,false,false⟩ hY hG (X:=X) (now:=now) (c:=⟨op,mode,key,val,flags,exp,hasExp,cas,hasCas,delta,init,down,true,vive,recache,inval⟩) (most:=most) (i:=i) (is:=false) rfl (.inl rfl) hi his hl rfl (by simp) ?_
    (refine zA6 hctr (rs:=res36) true 300 _ _ _ ?_; simp (maxSteps:=1000000) only [VG,qE,qF,qG,qH,qI,qJ,qK,qP,qQ,qf,qg,q0t,qu,qv,ev,qy,qz,zA,zB,zC,zD,zE,zF,zG,zI,zJ,TE.sv,zM,↓reduceIte,reduceCtorEq,Nat.reduceEqDiff,Nat.reduceAdd,Nat.reduceLT,zP,zQ,zR,zk,zl,zt,zA4,jN,hP,hk,res36,kp36,woE,woS,zF1,itS,zA4])
    exact zC4 hC hres36 hn hρ h.low (vS:=.rw 5 Y.1.items.length) rfl (.inr ⟨5,rfl,by decide,.inr ⟨i,Y.2,hYi,rfl⟩⟩) rfl
 ·cases h1
theorem math_win (base g:Nat) (v:Value) (X:St) (now:Int) (op mode:Int) (key val:List UInt8) (flags exp:Int) (hasExp:Bool) (cas:Int) (hasCas:Bool) (delta init:Int) (down viv:Bool) (vive recache:Int) (inval:Bool) (most:Int) (i:Nat) (w:World) (h:WS base w g v X now ⟨op,mode,key,val,flags,exp,hasExp,cas,hasCas,delta,init,down,viv,vive,recache,inval⟩ most i true) (hbase:base≤w.heap.size) (hi:i≤X.items.length) (his:true=true→i < X.items.length) (hl:X.items.length≤100000000)
 (hn0:1≤now) (hn1:now≤1099511627776) (hck:key.length≤100000000) (hd0:0≤delta) (hd1:delta < 18446744073709551616) (hi0:0≤init) (hi1:init < 18446744073709551616) (hE:EnvB base w)
 (x:It) (hx:X.items[i]?=some x) (hxk:x.key.length≤100000000) (hxv:x.val.length≤100000000):Calls Tryz.prog 36 #[.pointer (some ⟨g,0,none⟩)] w (OpR base g v (zD3 X now ⟨op,mode,key,val,flags,exp,hasExp,cas,hasCas,delta,init,down,viv,vive,recache,inval⟩ most i true).1 now ⟨op,mode,key,val,flags,exp,hasExp,cas,hasCas,delta,init,down,viv,vive,recache,inval⟩ most i true (zD3 X now ⟨op,mode,key,val,flags,exp,hasExp,cas,hasCas,delta,init,down,viv,vive,recache,inval⟩ most i true).2 w):=by
 have hES:∀ k,S0 g v k→base≤k:=fun k hk=>hk.elim (fun e=>e ▸ h.low) (fun e=>(h.own.lt k e).1)
 refine zN1 Tryz.func36 rfl kp36 Tryz.ntmps36 (by decide) h hbase his ?_
 intro vS tl hsh ρ hρ n hn hn' C hC hG hP hk
 have hctr:=mC2_ok hP (by rw [hC]; exact fun w' hu=>(hE.upd hbase hu hES).env)
 rcases hsh with ⟨rfl,⟨h1,_⟩ | ⟨_,x',hx',rfl⟩⟩
 ·cases h1
 obtain rfl:x=x':=by rw [hx] at hx'; exact Option.some.inj hx'
 clear hx'
 have hif:itF X.items i=x:=by simp [itF,hx]
 have hil':(i:Int) < (X.items.length:Int):=by have:=his rfl; omega
 have hxv':x.val.length≤9223372036854775807:=by omega
 cases hasCas with
 | false =>
  (refine zA6 hctr (rs:=res36) true 300 _ _ _ ?_; simp (maxSteps:=1000000) only [VG,qH,qI,qJ,qK,qO,qP,qQ,qV,q0t,qu,qv,ev,qy,zA,zB,zC,zD,zE,zF,zG,zI,zJ,zK,zM,↓reduceIte,reduceCtorEq,Nat.reduceEqDiff,Nat.reduceAdd,Nat.reduceLT,zP,zQ,zR,zt,hP,hk,kp36,woE,woS,zF1,itS])
  cases down
  ·cases hv:addV x.val delta with
   | none =>
    (refine zA1 hctr (by rw [hP]; rfl) rs36_2 [] (ensure_type_of% (Cmp.of (by simp (maxSteps := 1000000) only [qK, qO, qP, qV, qf, qg, q0t, qu, qv, ev, qw, qy, zC, zD, zE, zF, zG, zM, ↓reduceIte, reduceCtorEq, Nat.reduceEqDiff, Nat.reduceAdd, zP, zT, zt, cD, cO, jC, jD, jF, jG, jH, jI, jJ, jN, hP, mC2, mC1, mC0, zD0, zA3, hn0, hn1, hi0, hi1]; rfl)) "" Cmp.mk) (by kernel_rfl) (by kernel_rfl) (by first | exact zA2 _ | kernel_rfl) (by kernel_rfl) (by rfl) (by rfl) (by first | exact zA0 _ | rfl) (by rfl) (by simp (maxSteps := 1000000) only [qK, qO, qP, qV, qf, qg, q0t, qu, qv, ev, qw, qy, zC, zD, zE, zG, zM, ↓reduceIte, reduceCtorEq, Nat.reduceEqDiff, Nat.reduceAdd, Nat.reduceLT, zP, zR, zS, zT, zm, zn, zo, zq, zt, jD, jF, jG, jH, jI, jN, jP, jQ, jR, jS, jT, jV, jW, jX, jY, hP, mC2, mC1, mC0, zD0, zA3, hn0, hn1, hi0, hi1]) ?_; refine zA6 hctr (rs := res36) true 300 _ _ _ ?_; simp (maxSteps := 1000000) only [VG, jZ, ja, jd, je, qE, qF, qG, qH, qI, qJ, qK, qO, qP, qQ, qT, qV, qh, qp, q0t, qu, qv, ev, qw, qy, qz, zA, zB, zC, zD, zE, zG, zI, zJ, TE.sv, zM, ↓reduceIte, reduceCtorEq, Nat.reduceEqDiff, Nat.reduceAdd, Nat.reduceLT, zP, zQ, zR, zS, zT, zV, zW, zb, zc, zh, zt, zw, zy, zz, jN, jO, hP, hk, res36, kp36, mC2, mC1, mC0, zJ7, zB5, zB7, zC2, zA7, It.zero, anS, hd0, hd1, Int.natCast_nonneg, hil', hxv', hv, Option.isSome_none, Option.getD_none])
    rw [show zD3 X now ⟨op,mode,key,val,flags,exp,hasExp,cas,false,delta,init,false,viv,vive,recache,inval⟩ most i true=(X,zA7 7) by simp [zD3,zB3,hif,hv]] at hC
    exact zC4 hC hres36 hn hρ h.low (vS:=.rw 1 X.items.length) rfl (.inr ⟨1,rfl,by decide,.inr ⟨i,x,hx,rfl⟩⟩) rfl
   | some z =>
    have hzl:z.length≤20:=addV_len hv
    have hzl':z.length≤9223372036854775807:=by omega
    cases hasExp
    ·(refine zA1 hctr (by rw [hP]; rfl) rs36_2 [] (ensure_type_of% (Cmp.of (by simp (maxSteps := 1000000) only [qK, qO, qP, qV, qf, qg, q0t, qu, qv, ev, qw, qy, zC, zD, zE, zF, zG, zM, ↓reduceIte, reduceCtorEq, Nat.reduceEqDiff, Nat.reduceAdd, zP, zT, zt, cD, cO, jC, jD, jF, jG, jH, jI, jJ, jN, hP, mC2, mC1, mC0, zD0, zA3, hn0, hn1, hi0, hi1]; rfl)) "" Cmp.mk) (by kernel_rfl) (by kernel_rfl) (by first | exact zA2 _ | kernel_rfl) (by kernel_rfl) (by rfl) (by rfl) (by first | exact zA0 _ | rfl) (by rfl) (by simp (maxSteps := 1000000) only [qK, qO, qP, qV, qf, qg, q0t, qu, qv, ev, qw, qy, zC, zD, zE, zG, zM, ↓reduceIte, reduceCtorEq, Nat.reduceEqDiff, Nat.reduceAdd, Nat.reduceLT, zP, zR, zS, zT, zm, zn, zo, zq, zt, jD, jF, jG, jH, jI, jN, jP, jQ, jR, jS, jT, jV, jW, jX, jY, hP, mC2, mC1, mC0, zD0, zA3, hn0, hn1, hi0, hi1]) ?_; refine zA6 hctr (rs := res36) true 300 _ _ _ ?_; simp (maxSteps := 1000000) only [VG, jZ, ja, jd, je, qH, qI, qJ, qK, qO, qP, qQ, qT, qV, qh, qp, q0t, qu, qv, ev, qw, qy, qz, zA, zB, zC, zD, zE, zG, zI, zJ, TE.sv, zM, ↓reduceIte, reduceCtorEq, Nat.reduceEqDiff, Nat.reduceAdd, Nat.reduceLT, zP, zQ, zR, zS, zT, zV, zW, zb, zc, zh, zt, zw, zy, zz, jN, jO, hP, hk, res36, kp36, mC2, mC1, mC0, zJ7, zB7, zC2, hd0, hd1, Int.natCast_nonneg, hil', hxv', hv, Option.isSome_some, Option.getD_some])
     have hsub:IntKind.i64.wrap ((x.key.length:Int)+(z.length:Int))=(x.key.length:Int)+(z.length:Int):=IntWalk.i64_in _ (by omega)
     (refine zA1 hctr (by rw [hP]; rfl) rs36_17 [] (ensure_type_of% (Cmp.of (by simp (maxSteps := 1000000) only [qK, qN, qO, qP, qQ, qR, qS, qV, qe, ev, qy, zD, zM, ↓reduceIte, reduceCtorEq, Nat.reduceEqDiff, zt, zu, cD, cO, jC, jD, jN, hP, hsub]; rfl)) "" Cmp.mk) (by kernel_rfl) (by kernel_rfl) (by first | exact zA2 _ | kernel_rfl) (by kernel_rfl) (by rfl) (by rfl) (by first | exact zA0 _ | rfl) (by rfl) (by simp (maxSteps := 1000000) only [qK, qN, qO, qP, qQ, qR, qS, qV, qe, ev, qy, zD, zM, ↓reduceIte, reduceCtorEq, Nat.reduceEqDiff, zT, zn, zt, zu, jD, jN, jP, jQ, jR, jS, jT, hP, hsub]) ?_; refine zA6 hctr (rs := res36) true 300 _ _ _ ?_; simp (maxSteps := 1000000) only [VG, ev, qy, zG, zI, zJ, ↓reduceIte, reduceCtorEq, Nat.reduceEqDiff, Nat.reduceAdd, zP, zQ, zf, zg, zt, jN, jO, hk, res36, kp36])
     refine ⟨fun hfit=>?_,fun hfit=>?_⟩
     ·have hfit':decide (most < (x.key.length:Int)+(z.length:Int))=true:=decide_eq_true hfit
      simp (maxSteps:=1000000) only [VG,qE,qF,qG,qH,qI,qJ,qP,q0t,qu,qv,ev,qw,qy,qz,zA,zB,zC,zD,zE,zG,zI,zJ,TE.sv,zM,↓reduceIte,reduceCtorEq,Nat.reduceEqDiff,Nat.reduceAdd,Nat.reduceLT,zP,zQ,zR,zt,hP,hk,kp36,mC2,mC1,mC0,zB5,zA7,It.zero,anS,hfit']
      rw [show zD3 X now ⟨op,mode,key,val,flags,exp,false,cas,false,delta,init,false,viv,vive,recache,inval⟩ most i true=(X,zA7 11) by simp [zD3,zH0,zB3,zD9,hif,hv]; omega] at hC
      exact zC4 hC hres36 hn hρ h.low (vS:=.rw 1 X.items.length) rfl (.inr ⟨1,rfl,by decide,.inr ⟨i,x,hx,rfl⟩⟩) rfl
     ·have hfit':decide (most < (x.key.length:Int)+(z.length:Int))=false:=decide_eq_false hfit
      simp (maxSteps:=1000000) only [VG,qH,qI,qK,qO,qP,qV,qh,ev,qw,qy,zA,zB,zD,zI,zJ,TE.sv,zM,↓reduceIte,reduceCtorEq,Nat.reduceEqDiff,Nat.reduceLT,zP,zQ,zR,zW,zt,hP,hk,kp36,mC2,mC1,mC0,zH4,hzl',hfit']
      obtain ⟨Y,hY⟩:∃ Y,Y=zJ4 X i true ⟨x.key,x.flags,z,x.exp,x.cas,x.last,x.stale,x.won⟩:=⟨_,rfl⟩
      have hYi:Y.1.items[i]?=some Y.2:=by rw [hY]; exact zC5 X i _ _ hi his
      rw [show zD3 X now ⟨op,mode,key,val,flags,exp,false,cas,false,delta,init,false,viv,vive,recache,inval⟩ most i true=(Y.1,⟨6,Y.2,(((zD8 z).getD 0:Nat):Int),false,false,false⟩) by rw [hY]; simp [zD3,zH0,zB3,zD9,hif,hv]; omega] at hC
      refine zE1 ⟨x.key,x.flags,z,x.exp,x.cas,x.last,x.stale,x.won⟩ hY hG (X:=X) (now:=now) (c:=⟨op,mode,key,val,flags,exp,false,cas,false,delta,init,false,viv,vive,recache,inval⟩) (most:=most) (i:=i) (is:=true) rfl (.inr ⟨i,x,hx,rfl⟩) hi his hl rfl (by simp) ?_
      (refine zA6 hctr (rs:=res36) true 300 _ _ _ ?_; simp (maxSteps:=1000000) only [VG,qE,qF,qG,qH,qI,qJ,qK,qP,qQ,qf,qg,q0t,qu,qv,ev,qy,qz,zA,zB,zC,zD,zE,zF,zG,zI,zJ,TE.sv,zM,↓reduceIte,reduceCtorEq,Nat.reduceEqDiff,Nat.reduceAdd,Nat.reduceLT,zP,zQ,zR,zk,zl,zt,zA4,jN,hP,hk,res36,kp36,woE,woS,zF1,itS,zA4])
      exact zC4 hC hres36 hn hρ h.low (vS:=.rw 5 Y.1.items.length) rfl (.inr ⟨5,rfl,by decide,.inr ⟨i,Y.2,hYi,rfl⟩⟩) rfl
    ·(refine zA1 hctr (by rw [hP]; rfl) rs36_2 [] (ensure_type_of% (Cmp.of (by simp (maxSteps := 1000000) only [qK, qO, qP, qV, qf, qg, q0t, qu, qv, ev, qw, qy, zC, zD, zE, zF, zG, zM, ↓reduceIte, reduceCtorEq, Nat.reduceEqDiff, Nat.reduceAdd, zP, zT, zt, cD, cO, jC, jD, jF, jG, jH, jI, jJ, jN, hP, mC2, mC1, mC0, zD0, zA3, hn0, hn1, hi0, hi1]; rfl)) "" Cmp.mk) (by kernel_rfl) (by kernel_rfl) (by first | exact zA2 _ | kernel_rfl) (by kernel_rfl) (by rfl) (by rfl) (by first | exact zA0 _ | rfl) (by rfl) (by simp (maxSteps := 1000000) only [qK, qO, qP, qV, qf, qg, q0t, qu, qv, ev, qw, qy, zC, zD, zE, zG, zM, ↓reduceIte, reduceCtorEq, Nat.reduceEqDiff, Nat.reduceAdd, Nat.reduceLT, zP, zR, zS, zT, zm, zn, zo, zq, zt, jD, jF, jG, jH, jI, jN, jP, jQ, jR, jS, jT, jV, jW, jX, jY, hP, mC2, mC1, mC0, zD0, zA3, hn0, hn1, hi0, hi1]) ?_; refine zA6 hctr (rs := res36) true 300 _ _ _ ?_; simp (maxSteps := 1000000) only [VG, jZ, ja, jd, je, qH, qI, qJ, qK, qO, qP, qQ, qT, qV, qh, qp, q0t, qu, qv, ev, qw, qy, qz, zA, zB, zC, zD, zE, zG, zI, zJ, TE.sv, zM, ↓reduceIte, reduceCtorEq, Nat.reduceEqDiff, Nat.reduceAdd, Nat.reduceLT, zP, zQ, zR, zS, zT, zV, zW, zb, zc, zh, zt, zw, zy, zz, jN, jO, hP, hk, res36, kp36, mC2, mC1, mC0, zJ7, zA3, zB7, zC2, hn0, hn1, hd0, hd1, Int.natCast_nonneg, hil', hxv', hv, Option.isSome_some, Option.getD_some])
     have hsub:IntKind.i64.wrap ((x.key.length:Int)+(z.length:Int))=(x.key.length:Int)+(z.length:Int):=IntWalk.i64_in _ (by omega)
     (refine zA1 hctr (by rw [hP]; rfl) rs36_17 [] (ensure_type_of% (Cmp.of (by simp (maxSteps := 1000000) only [qK, qN, qO, qP, qQ, qR, qS, qV, qe, ev, qy, zD, zM, ↓reduceIte, reduceCtorEq, Nat.reduceEqDiff, zt, zu, cD, cO, jC, jD, jN, hP, hsub]; rfl)) "" Cmp.mk) (by kernel_rfl) (by kernel_rfl) (by first | exact zA2 _ | kernel_rfl) (by kernel_rfl) (by rfl) (by rfl) (by first | exact zA0 _ | rfl) (by rfl) (by simp (maxSteps := 1000000) only [qK, qN, qO, qP, qQ, qR, qS, qV, qe, ev, qy, zD, zM, ↓reduceIte, reduceCtorEq, Nat.reduceEqDiff, zT, zn, zt, zu, jD, jN, jP, jQ, jR, jS, jT, hP, hsub]) ?_; refine zA6 hctr (rs := res36) true 300 _ _ _ ?_; simp (maxSteps := 1000000) only [VG, ev, qy, zG, zI, zJ, ↓reduceIte, reduceCtorEq, Nat.reduceEqDiff, Nat.reduceAdd, zP, zQ, zf, zg, zt, jN, jO, hk, res36, kp36])
     refine ⟨fun hfit=>?_,fun hfit=>?_⟩
     ·have hfit':decide (most < (x.key.length:Int)+(z.length:Int))=true:=decide_eq_true hfit
      simp (maxSteps:=1000000) only [VG,qE,qF,qG,qH,qI,qJ,qP,q0t,qu,qv,ev,qw,qy,qz,zA,zB,zC,zD,zE,zG,zI,zJ,TE.sv,zM,↓reduceIte,reduceCtorEq,Nat.reduceEqDiff,Nat.reduceAdd,Nat.reduceLT,zP,zQ,zR,zt,hP,hk,kp36,mC2,mC1,mC0,zB5,zA7,It.zero,anS,hfit']
      rw [show zD3 X now ⟨op,mode,key,val,flags,exp,true,cas,false,delta,init,false,viv,vive,recache,inval⟩ most i true=(X,zA7 11) by simp [zD3,zH0,zB3,zD9,hif,hv]; omega] at hC
      exact zC4 hC hres36 hn hρ h.low (vS:=.rw 1 X.items.length) rfl (.inr ⟨1,rfl,by decide,.inr ⟨i,x,hx,rfl⟩⟩) rfl
     ·have hfit':decide (most < (x.key.length:Int)+(z.length:Int))=false:=decide_eq_false hfit
      simp (maxSteps:=1000000) only [VG,qH,qI,qK,qO,qP,qV,qh,ev,qw,qy,zA,zB,zD,zI,zJ,TE.sv,zM,↓reduceIte,reduceCtorEq,Nat.reduceEqDiff,Nat.reduceLT,zP,zQ,zR,zW,zt,hP,hk,kp36,mC2,mC1,mC0,zH4,hzl',hfit']
      obtain ⟨Y,hY⟩:∃ Y,Y=zJ4 X i true ⟨x.key,x.flags,z,zF3 now exp,x.cas,x.last,x.stale,x.won⟩:=⟨_,rfl⟩
      have hYi:Y.1.items[i]?=some Y.2:=by rw [hY]; exact zC5 X i _ _ hi his
      rw [show zD3 X now ⟨op,mode,key,val,flags,exp,true,cas,false,delta,init,false,viv,vive,recache,inval⟩ most i true=(Y.1,⟨6,Y.2,(((zD8 z).getD 0:Nat):Int),false,false,false⟩) by rw [hY]; simp [zD3,zH0,zB3,zD9,hif,hv]; omega] at hC
      refine zE1 ⟨x.key,x.flags,z,zF3 now exp,x.cas,x.last,x.stale,x.won⟩ hY hG (X:=X) (now:=now) (c:=⟨op,mode,key,val,flags,exp,true,cas,false,delta,init,false,viv,vive,recache,inval⟩) (most:=most) (i:=i) (is:=true) rfl (.inr ⟨i,x,hx,rfl⟩) hi his hl rfl (by simp) ?_
      (refine zA6 hctr (rs:=res36) true 300 _ _ _ ?_; simp (maxSteps:=1000000) only [VG,qE,qF,qG,qH,qI,qJ,qK,qP,qQ,qf,qg,q0t,qu,qv,ev,qy,qz,zA,zB,zC,zD,zE,zF,zG,zI,zJ,TE.sv,zM,↓reduceIte,reduceCtorEq,Nat.reduceEqDiff,Nat.reduceAdd,Nat.reduceLT,zP,zQ,zR,zk,zl,zt,zA4,jN,hP,hk,res36,kp36,woE,woS,zF1,itS,zA4])
      exact zC4 hC hres36 hn hρ h.low (vS:=.rw 5 Y.1.items.length) rfl (.inr ⟨5,rfl,by decide,.inr ⟨i,Y.2,hYi,rfl⟩⟩) rfl
  ·cases hv:subV x.val delta with
   | none =>
    (refine zA1 hctr (by rw [hP]; rfl) rs36_2 [] (ensure_type_of% (Cmp.of (by simp (maxSteps := 1000000) only [qK, qO, qP, qV, qf, qg, q0t, qu, qv, ev, qw, qy, zC, zD, zE, zF, zG, zM, ↓reduceIte, reduceCtorEq, Nat.reduceEqDiff, Nat.reduceAdd, zP, zT, zt, cD, cO, jC, jD, jF, jG, jH, jI, jJ, jN, hP, mC2, mC1, mC0, zD0, zA3, hn0, hn1, hi0, hi1]; rfl)) "" Cmp.mk) (by kernel_rfl) (by kernel_rfl) (by first | exact zA2 _ | kernel_rfl) (by kernel_rfl) (by rfl) (by rfl) (by first | exact zA0 _ | rfl) (by rfl) (by simp (maxSteps := 1000000) only [qK, qO, qP, qV, qf, qg, q0t, qu, qv, ev, qw, qy, zC, zD, zE, zG, zM, ↓reduceIte, reduceCtorEq, Nat.reduceEqDiff, Nat.reduceAdd, Nat.reduceLT, zP, zR, zS, zT, zm, zn, zo, zq, zt, jD, jF, jG, jH, jI, jN, jP, jQ, jR, jS, jT, jV, jW, jX, jY, hP, mC2, mC1, mC0, zD0, zA3, hn0, hn1, hi0, hi1]) ?_; refine zA6 hctr (rs := res36) true 300 _ _ _ ?_; simp (maxSteps := 1000000) only [VG, jZ, ja, jd, je, qE, qF, qG, qH, qI, qJ, qK, qO, qP, qQ, qT, qV, qh, qp, q0t, qu, qv, ev, qw, qy, qz, zA, zB, zC, zD, zE, zG, zI, zJ, TE.sv, zM, ↓reduceIte, reduceCtorEq, Nat.reduceEqDiff, Nat.reduceAdd, Nat.reduceLT, zP, zQ, zR, zS, zT, zV, zW, zb, zc, zh, zt, zw, zy, zz, jN, jO, hP, hk, res36, kp36, mC2, mC1, mC0, zJ7, zQ9, zB5, zB7, zC2, zA7, It.zero, anS, hd0, hd1, Int.natCast_nonneg, hil', hxv', hv, Option.isSome_none, Option.getD_none])
    rw [show zD3 X now ⟨op,mode,key,val,flags,exp,hasExp,cas,false,delta,init,true,viv,vive,recache,inval⟩ most i true=(X,zA7 7) by simp [zD3,zB3,hif,hv]] at hC
    exact zC4 hC hres36 hn hρ h.low (vS:=.rw 1 X.items.length) rfl (.inr ⟨1,rfl,by decide,.inr ⟨i,x,hx,rfl⟩⟩) rfl
   | some z =>
    have hzl:z.length≤20:=subV_len hd0 hv
    have hzl':z.length≤9223372036854775807:=by omega
    cases hasExp
    ·(refine zA1 hctr (by rw [hP]; rfl) rs36_2 [] (ensure_type_of% (Cmp.of (by simp (maxSteps := 1000000) only [qK, qO, qP, qV, qf, qg, q0t, qu, qv, ev, qw, qy, zC, zD, zE, zF, zG, zM, ↓reduceIte, reduceCtorEq, Nat.reduceEqDiff, Nat.reduceAdd, zP, zT, zt, cD, cO, jC, jD, jF, jG, jH, jI, jJ, jN, hP, mC2, mC1, mC0, zD0, zA3, hn0, hn1, hi0, hi1]; rfl)) "" Cmp.mk) (by kernel_rfl) (by kernel_rfl) (by first | exact zA2 _ | kernel_rfl) (by kernel_rfl) (by rfl) (by rfl) (by first | exact zA0 _ | rfl) (by rfl) (by simp (maxSteps := 1000000) only [qK, qO, qP, qV, qf, qg, q0t, qu, qv, ev, qw, qy, zC, zD, zE, zG, zM, ↓reduceIte, reduceCtorEq, Nat.reduceEqDiff, Nat.reduceAdd, Nat.reduceLT, zP, zR, zS, zT, zm, zn, zo, zq, zt, jD, jF, jG, jH, jI, jN, jP, jQ, jR, jS, jT, jV, jW, jX, jY, hP, mC2, mC1, mC0, zD0, zA3, hn0, hn1, hi0, hi1]) ?_; refine zA6 hctr (rs := res36) true 300 _ _ _ ?_; simp (maxSteps := 1000000) only [VG, jZ, ja, jd, je, qH, qI, qJ, qK, qO, qP, qQ, qT, qV, qh, qp, q0t, qu, qv, ev, qw, qy, qz, zA, zB, zC, zD, zE, zG, zI, zJ, TE.sv, zM, ↓reduceIte, reduceCtorEq, Nat.reduceEqDiff, Nat.reduceAdd, Nat.reduceLT, zP, zQ, zR, zS, zT, zV, zW, zb, zc, zh, zt, zw, zy, zz, jN, jO, hP, hk, res36, kp36, mC2, mC1, mC0, zJ7, zQ9, zB7, zC2, hd0, hd1, Int.natCast_nonneg, hil', hxv', hv, Option.isSome_some, Option.getD_some])
     have hsub:IntKind.i64.wrap ((x.key.length:Int)+(z.length:Int))=(x.key.length:Int)+(z.length:Int):=IntWalk.i64_in _ (by omega)
     (refine zA1 hctr (by rw [hP]; rfl) rs36_17 [] (ensure_type_of% (Cmp.of (by simp (maxSteps := 1000000) only [qK, qN, qO, qP, qQ, qR, qS, qV, qe, ev, qy, zD, zM, ↓reduceIte, reduceCtorEq, Nat.reduceEqDiff, zt, zu, cD, cO, jC, jD, jN, hP, hsub]; rfl)) "" Cmp.mk) (by kernel_rfl) (by kernel_rfl) (by first | exact zA2 _ | kernel_rfl) (by kernel_rfl) (by rfl) (by rfl) (by first | exact zA0 _ | rfl) (by rfl) (by simp (maxSteps := 1000000) only [qK, qN, qO, qP, qQ, qR, qS, qV, qe, ev, qy, zD, zM, ↓reduceIte, reduceCtorEq, Nat.reduceEqDiff, zT, zn, zt, zu, jD, jN, jP, jQ, jR, jS, jT, hP, hsub]) ?_; refine zA6 hctr (rs := res36) true 300 _ _ _ ?_; simp (maxSteps := 1000000) only [VG, ev, qy, zG, zI, zJ, ↓reduceIte, reduceCtorEq, Nat.reduceEqDiff, Nat.reduceAdd, zP, zQ, zf, zg, zt, jN, jO, hk, res36, kp36])
     refine ⟨fun hfit=>?_,fun hfit=>?_⟩
     ·have hfit':decide (most < (x.key.length:Int)+(z.length:Int))=true:=decide_eq_true hfit
      simp (maxSteps:=1000000) only [VG,qE,qF,qG,qH,qI,qJ,qP,q0t,qu,qv,ev,qw,qy,qz,zA,zB,zC,zD,zE,zG,zI,zJ,TE.sv,zM,↓reduceIte,reduceCtorEq,Nat.reduceEqDiff,Nat.reduceAdd,Nat.reduceLT,zP,zQ,zR,zt,hP,hk,kp36,mC2,mC1,mC0,zB5,zA7,It.zero,anS,hfit']
      rw [show zD3 X now ⟨op,mode,key,val,flags,exp,false,cas,false,delta,init,true,viv,vive,recache,inval⟩ most i true=(X,zA7 11) by simp [zD3,zH0,zB3,zD9,hif,hv]; omega] at hC
      exact zC4 hC hres36 hn hρ h.low (vS:=.rw 1 X.items.length) rfl (.inr ⟨1,rfl,by decide,.inr ⟨i,x,hx,rfl⟩⟩) rfl
     ·have hfit':decide (most < (x.key.length:Int)+(z.length:Int))=false:=decide_eq_false hfit
      simp (maxSteps:=1000000) only [VG,qH,qI,qK,qO,qP,qV,qh,ev,qw,qy,zA,zB,zD,zI,zJ,TE.sv,zM,↓reduceIte,reduceCtorEq,Nat.reduceEqDiff,Nat.reduceLT,zP,zQ,zR,zW,zt,hP,hk,kp36,mC2,mC1,mC0,zH4,hzl',hfit']
      obtain ⟨Y,hY⟩:∃ Y,Y=zJ4 X i true ⟨x.key,x.flags,z,x.exp,x.cas,x.last,x.stale,x.won⟩:=⟨_,rfl⟩
      have hYi:Y.1.items[i]?=some Y.2:=by rw [hY]; exact zC5 X i _ _ hi his
      rw [show zD3 X now ⟨op,mode,key,val,flags,exp,false,cas,false,delta,init,true,viv,vive,recache,inval⟩ most i true=(Y.1,⟨6,Y.2,(((zD8 z).getD 0:Nat):Int),false,false,false⟩) by rw [hY]; simp [zD3,zH0,zB3,zD9,hif,hv]; omega] at hC
      refine zE1 ⟨x.key,x.flags,z,x.exp,x.cas,x.last,x.stale,x.won⟩ hY hG (X:=X) (now:=now) (c:=⟨op,mode,key,val,flags,exp,false,cas,false,delta,init,true,viv,vive,recache,inval⟩) (most:=most) (i:=i) (is:=true) rfl (.inr ⟨i,x,hx,rfl⟩) hi his hl rfl (by simp) ?_
      (refine zA6 hctr (rs:=res36) true 300 _ _ _ ?_; simp (maxSteps:=1000000) only [VG,qE,qF,qG,qH,qI,qJ,qK,qP,qQ,qf,qg,q0t,qu,qv,ev,qy,qz,zA,zB,zC,zD,zE,zF,zG,zI,zJ,TE.sv,zM,↓reduceIte,reduceCtorEq,Nat.reduceEqDiff,Nat.reduceAdd,Nat.reduceLT,zP,zQ,zR,zk,zl,zt,zA4,jN,hP,hk,res36,kp36,woE,woS,zF1,itS,zA4])
      exact zC4 hC hres36 hn hρ h.low (vS:=.rw 5 Y.1.items.length) rfl (.inr ⟨5,rfl,by decide,.inr ⟨i,Y.2,hYi,rfl⟩⟩) rfl
    ·(refine zA1 hctr (by rw [hP]; rfl) rs36_2 [] (ensure_type_of% (Cmp.of (by simp (maxSteps := 1000000) only [qK, qO, qP, qV, qf, qg, q0t, qu, qv, ev, qw, qy, zC, zD, zE, zF, zG, zM, ↓reduceIte, reduceCtorEq, Nat.reduceEqDiff, Nat.reduceAdd, zP, zT, zt, cD, cO, jC, jD, jF, jG, jH, jI, jJ, jN, hP, mC2, mC1, mC0, zD0, zA3, hn0, hn1, hi0, hi1]; rfl)) "" Cmp.mk) (by kernel_rfl) (by kernel_rfl) (by first | exact zA2 _ | kernel_rfl) (by kernel_rfl) (by rfl) (by rfl) (by first | exact zA0 _ | rfl) (by rfl) (by simp (maxSteps := 1000000) only [qK, qO, qP, qV, qf, qg, q0t, qu, qv, ev, qw, qy, zC, zD, zE, zG, zM, ↓reduceIte, reduceCtorEq, Nat.reduceEqDiff, Nat.reduceAdd, Nat.reduceLT, zP, zR, zS, zT, zm, zn, zo, zq, zt, jD, jF, jG, jH, jI, jN, jP, jQ, jR, jS, jT, jV, jW, jX, jY, hP, mC2, mC1, mC0, zD0, zA3, hn0, hn1, hi0, hi1]) ?_; refine zA6 hctr (rs := res36) true 300 _ _ _ ?_; simp (maxSteps := 1000000) only [VG, jZ, ja, jd, je, qH, qI, qJ, qK, qO, qP, qQ, qT, qV, qh, qp, q0t, qu, qv, ev, qw, qy, qz, zA, zB, zC, zD, zE, zG, zI, zJ, TE.sv, zM, ↓reduceIte, reduceCtorEq, Nat.reduceEqDiff, Nat.reduceAdd, Nat.reduceLT, zP, zQ, zR, zS, zT, zV, zW, zb, zc, zh, zt, zw, zy, zz, jN, jO, hP, hk, res36, kp36, mC2, mC1, mC0, zJ7, zQ9, zA3, zB7, zC2, hn0, hn1, hd0, hd1, Int.natCast_nonneg, hil', hxv', hv, Option.isSome_some, Option.getD_some])
     have hsub:IntKind.i64.wrap ((x.key.length:Int)+(z.length:Int))=(x.key.length:Int)+(z.length:Int):=IntWalk.i64_in _ (by omega)
     (refine zA1 hctr (by rw [hP]; rfl) rs36_17 [] (ensure_type_of% (Cmp.of (by simp (maxSteps := 1000000) only [qK, qN, qO, qP, qQ, qR, qS, qV, qe, ev, qy, zD, zM, ↓reduceIte, reduceCtorEq, Nat.reduceEqDiff, zt, zu, cD, cO, jC, jD, jN, hP, hsub]; rfl)) "" Cmp.mk) (by kernel_rfl) (by kernel_rfl) (by first | exact zA2 _ | kernel_rfl) (by kernel_rfl) (by rfl) (by rfl) (by first | exact zA0 _ | rfl) (by rfl) (by simp (maxSteps := 1000000) only [qK, qN, qO, qP, qQ, qR, qS, qV, qe, ev, qy, zD, zM, ↓reduceIte, reduceCtorEq, Nat.reduceEqDiff, zT, zn, zt, zu, jD, jN, jP, jQ, jR, jS, jT, hP, hsub]) ?_; refine zA6 hctr (rs := res36) true 300 _ _ _ ?_; simp (maxSteps := 1000000) only [VG, ev, qy, zG, zI, zJ, ↓reduceIte, reduceCtorEq, Nat.reduceEqDiff, Nat.reduceAdd, zP, zQ, zf, zg, zt, jN, jO, hk, res36, kp36])
     refine ⟨fun hfit=>?_,fun hfit=>?_⟩
     ·have hfit':decide (most < (x.key.length:Int)+(z.length:Int))=true:=decide_eq_true hfit
      simp (maxSteps:=1000000) only [VG,qE,qF,qG,qH,qI,qJ,qP,q0t,qu,qv,ev,qw,qy,qz,zA,zB,zC,zD,zE,zG,zI,zJ,TE.sv,zM,↓reduceIte,reduceCtorEq,Nat.reduceEqDiff,Nat.reduceAdd,Nat.reduceLT,zP,zQ,zR,zt,hP,hk,kp36,mC2,mC1,mC0,zB5,zA7,It.zero,anS,hfit']
      rw [show zD3 X now ⟨op,mode,key,val,flags,exp,true,cas,false,delta,init,true,viv,vive,recache,inval⟩ most i true=(X,zA7 11) by simp [zD3,zH0,zB3,zD9,hif,hv]; omega] at hC
      exact zC4 hC hres36 hn hρ h.low (vS:=.rw 1 X.items.length) rfl (.inr ⟨1,rfl,by decide,.inr ⟨i,x,hx,rfl⟩⟩) rfl
     ·have hfit':decide (most < (x.key.length:Int)+(z.length:Int))=false:=decide_eq_false hfit
      simp (maxSteps:=1000000) only [VG,qH,qI,qK,qO,qP,qV,qh,ev,qw,qy,zA,zB,zD,zI,zJ,TE.sv,zM,↓reduceIte,reduceCtorEq,Nat.reduceEqDiff,Nat.reduceLT,zP,zQ,zR,zW,zt,hP,hk,kp36,mC2,mC1,mC0,zH4,hzl',hfit']
      obtain ⟨Y,hY⟩:∃ Y,Y=zJ4 X i true ⟨x.key,x.flags,z,zF3 now exp,x.cas,x.last,x.stale,x.won⟩:=⟨_,rfl⟩
      have hYi:Y.1.items[i]?=some Y.2:=by rw [hY]; exact zC5 X i _ _ hi his
      rw [show zD3 X now ⟨op,mode,key,val,flags,exp,true,cas,false,delta,init,true,viv,vive,recache,inval⟩ most i true=(Y.1,⟨6,Y.2,(((zD8 z).getD 0:Nat):Int),false,false,false⟩) by rw [hY]; simp [zD3,zH0,zB3,zD9,hif,hv]; omega] at hC
      refine zE1 ⟨x.key,x.flags,z,zF3 now exp,x.cas,x.last,x.stale,x.won⟩ hY hG (X:=X) (now:=now) (c:=⟨op,mode,key,val,flags,exp,true,cas,false,delta,init,true,viv,vive,recache,inval⟩) (most:=most) (i:=i) (is:=true) rfl (.inr ⟨i,x,hx,rfl⟩) hi his hl rfl (by simp) ?_
      (refine zA6 hctr (rs:=res36) true 300 _ _ _ ?_; simp (maxSteps:=1000000) only [VG,qE,qF,qG,qH,qI,qJ,qK,qP,qQ,qf,qg,q0t,qu,qv,ev,qy,qz,zA,zB,zC,zD,zE,zF,zG,zI,zJ,TE.sv,zM,↓reduceIte,reduceCtorEq,Nat.reduceEqDiff,Nat.reduceAdd,Nat.reduceLT,zP,zQ,zR,zk,zl,zt,zA4,jN,hP,hk,res36,kp36,woE,woS,zF1,itS,zA4])
      exact zC4 hC hres36 hn hρ h.low (vS:=.rw 5 Y.1.items.length) rfl (.inr ⟨5,rfl,by decide,.inr ⟨i,Y.2,hYi,rfl⟩⟩) rfl
 | true =>
  by_cases hoc:x.cas=cas
  ·have hoc':decide (x.cas=cas)=true:=decide_eq_true hoc
   (refine zA6 hctr (rs:=res36) true 300 _ _ _ ?_; simp (maxSteps:=1000000) only [VG,qH,qI,qJ,qK,qO,qP,qQ,qV,q0t,qu,qv,ev,qy,zA,zB,zC,zD,zE,zF,zG,zI,zJ,zK,zM,↓reduceIte,reduceCtorEq,Nat.reduceEqDiff,Nat.reduceAdd,Nat.reduceLT,zP,zQ,zR,zt,hP,hk,kp36,woE,woS,zF1,itS])
   cases down
   ·cases hv:addV x.val delta with
    | none =>
     (refine zA1 hctr (by rw [hP]; rfl) rs36_2 [] (ensure_type_of% (Cmp.of (by simp (maxSteps := 1000000) only [qK, qO, qP, qV, qf, qg, q0t, qu, qv, ev, qw, qy, zC, zD, zE, zF, zG, zM, ↓reduceIte, reduceCtorEq, Nat.reduceEqDiff, Nat.reduceAdd, zP, zT, zt, cD, cO, jC, jD, jF, jG, jH, jI, jJ, jN, hP, mC2, mC1, mC0, zD0, zA3, hn0, hn1, hi0, hi1]; rfl)) "" Cmp.mk) (by kernel_rfl) (by kernel_rfl) (by first | exact zA2 _ | kernel_rfl) (by kernel_rfl) (by rfl) (by rfl) (by first | exact zA0 _ | rfl) (by rfl) (by simp (maxSteps := 1000000) only [qK, qO, qP, qV, qf, qg, q0t, qu, qv, ev, qw, qy, zC, zD, zE, zG, zM, ↓reduceIte, reduceCtorEq, Nat.reduceEqDiff, Nat.reduceAdd, Nat.reduceLT, zP, zR, zS, zT, zm, zn, zo, zq, zt, jD, jF, jG, jH, jI, jN, jP, jQ, jR, jS, jT, jV, jW, jX, jY, hP, mC2, mC1, mC0, zD0, zA3, hn0, hn1, hi0, hi1]) ?_; refine zA6 hctr (rs := res36) true 300 _ _ _ ?_; simp (maxSteps := 1000000) only [VG, jZ, ja, jd, je, qE, qF, qG, qH, qI, qJ, qK, qO, qP, qQ, qT, qV, qh, qp, q0t, qu, qv, ev, qw, qy, qz, zA, zB, zC, zD, zE, zG, zI, zJ, TE.sv, zM, ↓reduceIte, reduceCtorEq, Nat.reduceEqDiff, Nat.reduceAdd, Nat.reduceLT, zP, zQ, zR, zS, zT, zV, zW, zb, zc, zh, zt, zx, zy, zz, jN, jO, hP, hk, res36, kp36, mC2, mC1, mC0, zJ7, zB5, zB7, zC2, zA7, It.zero, anS, hd0, hd1, Int.natCast_nonneg, hil', hxv', hoc', hv, Option.isSome_none, Option.getD_none])
     rw [show zD3 X now ⟨op,mode,key,val,flags,exp,hasExp,cas,true,delta,init,false,viv,vive,recache,inval⟩ most i true=(X,zA7 7) by simp [zD3,zB3,hif,hv,hoc]] at hC
     exact zC4 hC hres36 hn hρ h.low (vS:=.rw 1 X.items.length) rfl (.inr ⟨1,rfl,by decide,.inr ⟨i,x,hx,rfl⟩⟩) rfl
    | some z =>
     have hzl:z.length≤20:=addV_len hv
     have hzl':z.length≤9223372036854775807:=by omega
     cases hasExp
     ·(refine zA1 hctr (by rw [hP]; rfl) rs36_2 [] (ensure_type_of% (Cmp.of (by simp (maxSteps := 1000000) only [qK, qO, qP, qV, qf, qg, q0t, qu, qv, ev, qw, qy, zC, zD, zE, zF, zG, zM, ↓reduceIte, reduceCtorEq, Nat.reduceEqDiff, Nat.reduceAdd, zP, zT, zt, cD, cO, jC, jD, jF, jG, jH, jI, jJ, jN, hP, mC2, mC1, mC0, zD0, zA3, hn0, hn1, hi0, hi1]; rfl)) "" Cmp.mk) (by kernel_rfl) (by kernel_rfl) (by first | exact zA2 _ | kernel_rfl) (by kernel_rfl) (by rfl) (by rfl) (by first | exact zA0 _ | rfl) (by rfl) (by simp (maxSteps := 1000000) only [qK, qO, qP, qV, qf, qg, q0t, qu, qv, ev, qw, qy, zC, zD, zE, zG, zM, ↓reduceIte, reduceCtorEq, Nat.reduceEqDiff, Nat.reduceAdd, Nat.reduceLT, zP, zR, zS, zT, zm, zn, zo, zq, zt, jD, jF, jG, jH, jI, jN, jP, jQ, jR, jS, jT, jV, jW, jX, jY, hP, mC2, mC1, mC0, zD0, zA3, hn0, hn1, hi0, hi1]) ?_; refine zA6 hctr (rs := res36) true 300 _ _ _ ?_; simp (maxSteps := 1000000) only [VG, jZ, ja, jd, je, qH, qI, qJ, qK, qO, qP, qQ, qT, qV, qh, qp, q0t, qu, qv, ev, qw, qy, qz, zA, zB, zC, zD, zE, zG, zI, zJ, TE.sv, zM, ↓reduceIte, reduceCtorEq, Nat.reduceEqDiff, Nat.reduceAdd, Nat.reduceLT, zP, zQ, zR, zS, zT, zV, zW, zb, zc, zh, zt, zx, zy, zz, jN, jO, hP, hk, res36, kp36, mC2, mC1, mC0, zJ7, zB7, zC2, hd0, hd1, Int.natCast_nonneg, hil', hxv', hoc', hv, Option.isSome_some, Option.getD_some])
      have hsub:IntKind.i64.wrap ((x.key.length:Int)+(z.length:Int))=(x.key.length:Int)+(z.length:Int):=IntWalk.i64_in _ (by omega)
      (refine zA1 hctr (by rw [hP]; rfl) rs36_17 [] (ensure_type_of% (Cmp.of (by simp (maxSteps := 1000000) only [qK, qN, qO, qP, qQ, qR, qS, qV, qe, ev, qy, zD, zM, ↓reduceIte, reduceCtorEq, Nat.reduceEqDiff, zt, zu, cD, cO, jC, jD, jN, hP, hsub]; rfl)) "" Cmp.mk) (by kernel_rfl) (by kernel_rfl) (by first | exact zA2 _ | kernel_rfl) (by kernel_rfl) (by rfl) (by rfl) (by first | exact zA0 _ | rfl) (by rfl) (by simp (maxSteps := 1000000) only [qK, qN, qO, qP, qQ, qR, qS, qV, qe, ev, qy, zD, zM, ↓reduceIte, reduceCtorEq, Nat.reduceEqDiff, zT, zn, zt, zu, jD, jN, jP, jQ, jR, jS, jT, hP, hsub]) ?_; refine zA6 hctr (rs := res36) true 300 _ _ _ ?_; simp (maxSteps := 1000000) only [VG, ev, qy, zG, zI, zJ, ↓reduceIte, reduceCtorEq, Nat.reduceEqDiff, Nat.reduceAdd, zP, zQ, zf, zg, zt, jN, jO, hk, res36, kp36])
      refine ⟨fun hfit=>?_,fun hfit=>?_⟩
      ·have hfit':decide (most < (x.key.length:Int)+(z.length:Int))=true:=decide_eq_true hfit
       simp (maxSteps:=1000000) only [VG,qE,qF,qG,qH,qI,qJ,qP,q0t,qu,qv,ev,qw,qy,qz,zA,zB,zC,zD,zE,zG,zI,zJ,TE.sv,zM,↓reduceIte,reduceCtorEq,Nat.reduceEqDiff,Nat.reduceAdd,Nat.reduceLT,zP,zQ,zR,zt,hP,hk,kp36,mC2,mC1,mC0,zB5,zA7,It.zero,anS,hfit']
       rw [show zD3 X now ⟨op,mode,key,val,flags,exp,false,cas,true,delta,init,false,viv,vive,recache,inval⟩ most i true=(X,zA7 11) by simp [zD3,zH0,zB3,zD9,hif,hv,hoc]; omega] at hC
       exact zC4 hC hres36 hn hρ h.low (vS:=.rw 1 X.items.length) rfl (.inr ⟨1,rfl,by decide,.inr ⟨i,x,hx,rfl⟩⟩) rfl
      ·have hfit':decide (most < (x.key.length:Int)+(z.length:Int))=false:=decide_eq_false hfit
       simp (maxSteps:=1000000) only [VG,qH,qI,qK,qO,qP,qV,qh,ev,qw,qy,zA,zB,zD,zI,zJ,TE.sv,zM,↓reduceIte,reduceCtorEq,Nat.reduceEqDiff,Nat.reduceLT,zP,zQ,zR,zW,zt,hP,hk,kp36,mC2,mC1,mC0,zH4,hzl',hfit']
       obtain ⟨Y,hY⟩:∃ Y,Y=zJ4 X i true ⟨x.key,x.flags,z,x.exp,x.cas,x.last,x.stale,x.won⟩:=⟨_,rfl⟩
       have hYi:Y.1.items[i]?=some Y.2:=by rw [hY]; exact zC5 X i _ _ hi his
       rw [show zD3 X now ⟨op,mode,key,val,flags,exp,false,cas,true,delta,init,false,viv,vive,recache,inval⟩ most i true=(Y.1,⟨6,Y.2,(((zD8 z).getD 0:Nat):Int),false,false,false⟩) by rw [hY]; simp [zD3,zH0,zB3,zD9,hif,hv,hoc]; omega] at hC
       refine zE1 ⟨x.key,x.flags,z,x.exp,x.cas,x.last,x.stale,x.won⟩ hY hG (X:=X) (now:=now) (c:=⟨op,mode,key,val,flags,exp,false,cas,true,delta,init,false,viv,vive,recache,inval⟩) (most:=most) (i:=i) (is:=true) rfl (.inr ⟨i,x,hx,rfl⟩) hi his hl rfl (by simp) ?_
       (refine zA6 hctr (rs:=res36) true 300 _ _ _ ?_; simp (maxSteps:=1000000) only [VG,qE,qF,qG,qH,qI,qJ,qK,qP,qQ,qf,qg,q0t,qu,qv,ev,qy,qz,zA,zB,zC,zD,zE,zF,zG,zI,zJ,TE.sv,zM,↓reduceIte,reduceCtorEq,Nat.reduceEqDiff,Nat.reduceAdd,Nat.reduceLT,zP,zQ,zR,zk,zl,zt,zA4,jN,hP,hk,res36,kp36,woE,woS,zF1,itS,zA4])
       exact zC4 hC hres36 hn hρ h.low (vS:=.rw 5 Y.1.items.length) rfl (.inr ⟨5,rfl,by decide,.inr ⟨i,Y.2,hYi,rfl⟩⟩) rfl
     ·(refine zA1 hctr (by rw [hP]; rfl) rs36_2 [] (ensure_type_of% (Cmp.of (by simp (maxSteps := 1000000) only [qK, qO, qP, qV, qf, qg, q0t, qu, qv, ev, qw, qy, zC, zD, zE, zF, zG, zM, ↓reduceIte, reduceCtorEq, Nat.reduceEqDiff, Nat.reduceAdd, zP, zT, zt, cD, cO, jC, jD, jF, jG, jH, jI, jJ, jN, hP, mC2, mC1, mC0, zD0, zA3, hn0, hn1, hi0, hi1]; rfl)) "" Cmp.mk) (by kernel_rfl) (by kernel_rfl) (by first | exact zA2 _ | kernel_rfl) (by kernel_rfl) (by rfl) (by rfl) (by first | exact zA0 _ | rfl) (by rfl) (by simp (maxSteps := 1000000) only [qK, qO, qP, qV, qf, qg, q0t, qu, qv, ev, qw, qy, zC, zD, zE, zG, zM, ↓reduceIte, reduceCtorEq, Nat.reduceEqDiff, Nat.reduceAdd, Nat.reduceLT, zP, zR, zS, zT, zm, zn, zo, zq, zt, jD, jF, jG, jH, jI, jN, jP, jQ, jR, jS, jT, jV, jW, jX, jY, hP, mC2, mC1, mC0, zD0, zA3, hn0, hn1, hi0, hi1]) ?_; refine zA6 hctr (rs := res36) true 300 _ _ _ ?_; simp (maxSteps := 1000000) only [VG, jZ, ja, jd, je, qH, qI, qJ, qK, qO, qP, qQ, qT, qV, qh, qp, q0t, qu, qv, ev, qw, qy, qz, zA, zB, zC, zD, zE, zG, zI, zJ, TE.sv, zM, ↓reduceIte, reduceCtorEq, Nat.reduceEqDiff, Nat.reduceAdd, Nat.reduceLT, zP, zQ, zR, zS, zT, zV, zW, zb, zc, zh, zt, zx, zy, zz, jN, jO, hP, hk, res36, kp36, mC2, mC1, mC0, zJ7, zA3, zB7, zC2, hn0, hn1, hd0, hd1, Int.natCast_nonneg, hil', hxv', hoc', hv, Option.isSome_some, Option.getD_some])
      have hsub:IntKind.i64.wrap ((x.key.length:Int)+(z.length:Int))=(x.key.length:Int)+(z.length:Int):=IntWalk.i64_in _ (by omega)
      (refine zA1 hctr (by rw [hP]; rfl) rs36_17 [] (ensure_type_of% (Cmp.of (by simp (maxSteps := 1000000) only [qK, qN, qO, qP, qQ, qR, qS, qV, qe, ev, qy, zD, zM, ↓reduceIte, reduceCtorEq, Nat.reduceEqDiff, zt, zu, cD, cO, jC, jD, jN, hP, hsub]; rfl)) "" Cmp.mk) (by kernel_rfl) (by kernel_rfl) (by first | exact zA2 _ | kernel_rfl) (by kernel_rfl) (by rfl) (by rfl) (by first | exact zA0 _ | rfl) (by rfl) (by simp (maxSteps := 1000000) only [qK, qN, qO, qP, qQ, qR, qS, qV, qe, ev, qy, zD, zM, ↓reduceIte, reduceCtorEq, Nat.reduceEqDiff, zT, zn, zt, zu, jD, jN, jP, jQ, jR, jS, jT, hP, hsub]) ?_; refine zA6 hctr (rs := res36) true 300 _ _ _ ?_; simp (maxSteps := 1000000) only [VG, ev, qy, zG, zI, zJ, ↓reduceIte, reduceCtorEq, Nat.reduceEqDiff, Nat.reduceAdd, zP, zQ, zf, zg, zt, jN, jO, hk, res36, kp36])
      refine ⟨fun hfit=>?_,fun hfit=>?_⟩
      ·have hfit':decide (most < (x.key.length:Int)+(z.length:Int))=true:=decide_eq_true hfit
       simp (maxSteps:=1000000) only [VG,qE,qF,qG,qH,qI,qJ,qP,q0t,qu,qv,ev,qw,qy,qz,zA,zB,zC,zD,zE,zG,zI,zJ,TE.sv,zM,↓reduceIte,reduceCtorEq,Nat.reduceEqDiff,Nat.reduceAdd,Nat.reduceLT,zP,zQ,zR,zt,hP,hk,kp36,mC2,mC1,mC0,zB5,zA7,It.zero,anS,hfit']
       rw [show zD3 X now ⟨op,mode,key,val,flags,exp,true,cas,true,delta,init,false,viv,vive,recache,inval⟩ most i true=(X,zA7 11) by simp [zD3,zH0,zB3,zD9,hif,hv,hoc]; omega] at hC
       exact zC4 hC hres36 hn hρ h.low (vS:=.rw 1 X.items.length) rfl (.inr ⟨1,rfl,by decide,.inr ⟨i,x,hx,rfl⟩⟩) rfl
      ·have hfit':decide (most < (x.key.length:Int)+(z.length:Int))=false:=decide_eq_false hfit
       simp (maxSteps:=1000000) only [VG,qH,qI,qK,qO,qP,qV,qh,ev,qw,qy,zA,zB,zD,zI,zJ,TE.sv,zM,↓reduceIte,reduceCtorEq,Nat.reduceEqDiff,Nat.reduceLT,zP,zQ,zR,zW,zt,hP,hk,kp36,mC2,mC1,mC0,zH4,hzl',hfit']
       obtain ⟨Y,hY⟩:∃ Y,Y=zJ4 X i true ⟨x.key,x.flags,z,zF3 now exp,x.cas,x.last,x.stale,x.won⟩:=⟨_,rfl⟩
       have hYi:Y.1.items[i]?=some Y.2:=by rw [hY]; exact zC5 X i _ _ hi his
       rw [show zD3 X now ⟨op,mode,key,val,flags,exp,true,cas,true,delta,init,false,viv,vive,recache,inval⟩ most i true=(Y.1,⟨6,Y.2,(((zD8 z).getD 0:Nat):Int),false,false,false⟩) by rw [hY]; simp [zD3,zH0,zB3,zD9,hif,hv,hoc]; omega] at hC
       refine zE1 ⟨x.key,x.flags,z,zF3 now exp,x.cas,x.last,x.stale,x.won⟩ hY hG (X:=X) (now:=now) (c:=⟨op,mode,key,val,flags,exp,true,cas,true,delta,init,false,viv,vive,recache,inval⟩) (most:=most) (i:=i) (is:=true) rfl (.inr ⟨i,x,hx,rfl⟩) hi his hl rfl (by simp) ?_
       (refine zA6 hctr (rs:=res36) true 300 _ _ _ ?_; simp (maxSteps:=1000000) only [VG,qE,qF,qG,qH,qI,qJ,qK,qP,qQ,qf,qg,q0t,qu,qv,ev,qy,qz,zA,zB,zC,zD,zE,zF,zG,zI,zJ,TE.sv,zM,↓reduceIte,reduceCtorEq,Nat.reduceEqDiff,Nat.reduceAdd,Nat.reduceLT,zP,zQ,zR,zk,zl,zt,zA4,jN,hP,hk,res36,kp36,woE,woS,zF1,itS,zA4])
       exact zC4 hC hres36 hn hρ h.low (vS:=.rw 5 Y.1.items.length) rfl (.inr ⟨5,rfl,by decide,.inr ⟨i,Y.2,hYi,rfl⟩⟩) rfl
   ·cases hv:subV x.val delta with
    | none =>
     (refine zA1 hctr (by rw [hP]; rfl) rs36_2 [] (ensure_type_of% (Cmp.of (by simp (maxSteps := 1000000) only [qK, qO, qP, qV, qf, qg, q0t, qu, qv, ev, qw, qy, zC, zD, zE, zF, zG, zM, ↓reduceIte, reduceCtorEq, Nat.reduceEqDiff, Nat.reduceAdd, zP, zT, zt, cD, cO, jC, jD, jF, jG, jH, jI, jJ, jN, hP, mC2, mC1, mC0, zD0, zA3, hn0, hn1, hi0, hi1]; rfl)) "" Cmp.mk) (by kernel_rfl) (by kernel_rfl) (by first | exact zA2 _ | kernel_rfl) (by kernel_rfl) (by rfl) (by rfl) (by first | exact zA0 _ | rfl) (by rfl) (by simp (maxSteps := 1000000) only [qK, qO, qP, qV, qf, qg, q0t, qu, qv, ev, qw, qy, zC, zD, zE, zG, zM, ↓reduceIte, reduceCtorEq, Nat.reduceEqDiff, Nat.reduceAdd, Nat.reduceLT, zP, zR, zS, zT, zm, zn, zo, zq, zt, jD, jF, jG, jH, jI, jN, jP, jQ, jR, jS, jT, jV, jW, jX, jY, hP, mC2, mC1, mC0, zD0, zA3, hn0, hn1, hi0, hi1]) ?_; refine zA6 hctr (rs := res36) true 300 _ _ _ ?_; simp (maxSteps := 1000000) only [VG, jZ, ja, jd, je, qE, qF, qG, qH, qI, qJ, qK, qO, qP, qQ, qT, qV, qh, qp, q0t, qu, qv, ev, qw, qy, qz, zA, zB, zC, zD, zE, zG, zI, zJ, TE.sv, zM, ↓reduceIte, reduceCtorEq, Nat.reduceEqDiff, Nat.reduceAdd, Nat.reduceLT, zP, zQ, zR, zS, zT, zV, zW, zb, zc, zh, zt, zx, zy, zz, jN, jO, hP, hk, res36, kp36, mC2, mC1, mC0, zJ7, zQ9, zB5, zB7, zC2, zA7, It.zero, anS, hd0, hd1, Int.natCast_nonneg, hil', hxv', hoc', hv, Option.isSome_none, Option.getD_none])
     rw [show zD3 X now ⟨op,mode,key,val,flags,exp,hasExp,cas,true,delta,init,true,viv,vive,recache,inval⟩ most i true=(X,zA7 7) by simp [zD3,zB3,hif,hv,hoc]] at hC
     exact zC4 hC hres36 hn hρ h.low (vS:=.rw 1 X.items.length) rfl (.inr ⟨1,rfl,by decide,.inr ⟨i,x,hx,rfl⟩⟩) rfl
    | some z =>
     have hzl:z.length≤20:=subV_len hd0 hv
     have hzl':z.length≤9223372036854775807:=by omega
     cases hasExp
     ·(refine zA1 hctr (by rw [hP]; rfl) rs36_2 [] (ensure_type_of% (Cmp.of (by simp (maxSteps := 1000000) only [qK, qO, qP, qV, qf, qg, q0t, qu, qv, ev, qw, qy, zC, zD, zE, zF, zG, zM, ↓reduceIte, reduceCtorEq, Nat.reduceEqDiff, Nat.reduceAdd, zP, zT, zt, cD, cO, jC, jD, jF, jG, jH, jI, jJ, jN, hP, mC2, mC1, mC0, zD0, zA3, hn0, hn1, hi0, hi1]; rfl)) "" Cmp.mk) (by kernel_rfl) (by kernel_rfl) (by first | exact zA2 _ | kernel_rfl) (by kernel_rfl) (by rfl) (by rfl) (by first | exact zA0 _ | rfl) (by rfl) (by simp (maxSteps := 1000000) only [qK, qO, qP, qV, qf, qg, q0t, qu, qv, ev, qw, qy, zC, zD, zE, zG, zM, ↓reduceIte, reduceCtorEq, Nat.reduceEqDiff, Nat.reduceAdd, Nat.reduceLT, zP, zR, zS, zT, zm, zn, zo, zq, zt, jD, jF, jG, jH, jI, jN, jP, jQ, jR, jS, jT, jV, jW, jX, jY, hP, mC2, mC1, mC0, zD0, zA3, hn0, hn1, hi0, hi1]) ?_; refine zA6 hctr (rs := res36) true 300 _ _ _ ?_; simp (maxSteps := 1000000) only [VG, jZ, ja, jd, je, qH, qI, qJ, qK, qO, qP, qQ, qT, qV, qh, qp, q0t, qu, qv, ev, qw, qy, qz, zA, zB, zC, zD, zE, zG, zI, zJ, TE.sv, zM, ↓reduceIte, reduceCtorEq, Nat.reduceEqDiff, Nat.reduceAdd, Nat.reduceLT, zP, zQ, zR, zS, zT, zV, zW, zb, zc, zh, zt, zx, zy, zz, jN, jO, hP, hk, res36, kp36, mC2, mC1, mC0, zJ7, zQ9, zB7, zC2, hd0, hd1, Int.natCast_nonneg, hil', hxv', hoc', hv, Option.isSome_some, Option.getD_some])
      have hsub:IntKind.i64.wrap ((x.key.length:Int)+(z.length:Int))=(x.key.length:Int)+(z.length:Int):=IntWalk.i64_in _ (by omega)
      (refine zA1 hctr (by rw [hP]; rfl) rs36_17 [] (ensure_type_of% (Cmp.of (by simp (maxSteps := 1000000) only [qK, qN, qO, qP, qQ, qR, qS, qV, qe, ev, qy, zD, zM, ↓reduceIte, reduceCtorEq, Nat.reduceEqDiff, zt, zu, cD, cO, jC, jD, jN, hP, hsub]; rfl)) "" Cmp.mk) (by kernel_rfl) (by kernel_rfl) (by first | exact zA2 _ | kernel_rfl) (by kernel_rfl) (by rfl) (by rfl) (by first | exact zA0 _ | rfl) (by rfl) (by simp (maxSteps := 1000000) only [qK, qN, qO, qP, qQ, qR, qS, qV, qe, ev, qy, zD, zM, ↓reduceIte, reduceCtorEq, Nat.reduceEqDiff, zT, zn, zt, zu, jD, jN, jP, jQ, jR, jS, jT, hP, hsub]) ?_; refine zA6 hctr (rs := res36) true 300 _ _ _ ?_; simp (maxSteps := 1000000) only [VG, ev, qy, zG, zI, zJ, ↓reduceIte, reduceCtorEq, Nat.reduceEqDiff, Nat.reduceAdd, zP, zQ, zf, zg, zt, jN, jO, hk, res36, kp36])
      refine ⟨fun hfit=>?_,fun hfit=>?_⟩
      ·have hfit':decide (most < (x.key.length:Int)+(z.length:Int))=true:=decide_eq_true hfit
       simp (maxSteps:=1000000) only [VG,qE,qF,qG,qH,qI,qJ,qP,q0t,qu,qv,ev,qw,qy,qz,zA,zB,zC,zD,zE,zG,zI,zJ,TE.sv,zM,↓reduceIte,reduceCtorEq,Nat.reduceEqDiff,Nat.reduceAdd,Nat.reduceLT,zP,zQ,zR,zt,hP,hk,kp36,mC2,mC1,mC0,zB5,zA7,It.zero,anS,hfit']
       rw [show zD3 X now ⟨op,mode,key,val,flags,exp,false,cas,true,delta,init,true,viv,vive,recache,inval⟩ most i true=(X,zA7 11) by simp [zD3,zH0,zB3,zD9,hif,hv,hoc]; omega] at hC
       exact zC4 hC hres36 hn hρ h.low (vS:=.rw 1 X.items.length) rfl (.inr ⟨1,rfl,by decide,.inr ⟨i,x,hx,rfl⟩⟩) rfl
      ·have hfit':decide (most < (x.key.length:Int)+(z.length:Int))=false:=decide_eq_false hfit
       simp (maxSteps:=1000000) only [VG,qH,qI,qK,qO,qP,qV,qh,ev,qw,qy,zA,zB,zD,zI,zJ,TE.sv,zM,↓reduceIte,reduceCtorEq,Nat.reduceEqDiff,Nat.reduceLT,zP,zQ,zR,zW,zt,hP,hk,kp36,mC2,mC1,mC0,zH4,hzl',hfit']
       obtain ⟨Y,hY⟩:∃ Y,Y=zJ4 X i true ⟨x.key,x.flags,z,x.exp,x.cas,x.last,x.stale,x.won⟩:=⟨_,rfl⟩
       have hYi:Y.1.items[i]?=some Y.2:=by rw [hY]; exact zC5 X i _ _ hi his
       rw [show zD3 X now ⟨op,mode,key,val,flags,exp,false,cas,true,delta,init,true,viv,vive,recache,inval⟩ most i true=(Y.1,⟨6,Y.2,(((zD8 z).getD 0:Nat):Int),false,false,false⟩) by rw [hY]; simp [zD3,zH0,zB3,zD9,hif,hv,hoc]; omega] at hC
       refine zE1 ⟨x.key,x.flags,z,x.exp,x.cas,x.last,x.stale,x.won⟩ hY hG (X:=X) (now:=now) (c:=⟨op,mode,key,val,flags,exp,false,cas,true,delta,init,true,viv,vive,recache,inval⟩) (most:=most) (i:=i) (is:=true) rfl (.inr ⟨i,x,hx,rfl⟩) hi his hl rfl (by simp) ?_
       (refine zA6 hctr (rs:=res36) true 300 _ _ _ ?_; simp (maxSteps:=1000000) only [VG,qE,qF,qG,qH,qI,qJ,qK,qP,qQ,qf,qg,q0t,qu,qv,ev,qy,qz,zA,zB,zC,zD,zE,zF,zG,zI,zJ,TE.sv,zM,↓reduceIte,reduceCtorEq,Nat.reduceEqDiff,Nat.reduceAdd,Nat.reduceLT,zP,zQ,zR,zk,zl,zt,zA4,jN,hP,hk,res36,kp36,woE,woS,zF1,itS,zA4])
       exact zC4 hC hres36 hn hρ h.low (vS:=.rw 5 Y.1.items.length) rfl (.inr ⟨5,rfl,by decide,.inr ⟨i,Y.2,hYi,rfl⟩⟩) rfl
     ·(refine zA1 hctr (by rw [hP]; rfl) rs36_2 [] (ensure_type_of% (Cmp.of (by simp (maxSteps := 1000000) only [qK, qO, qP, qV, qf, qg, q0t, qu, qv, ev, qw, qy, zC, zD, zE, zF, zG, zM, ↓reduceIte, reduceCtorEq, Nat.reduceEqDiff, Nat.reduceAdd, zP, zT, zt, cD, cO, jC, jD, jF, jG, jH, jI, jJ, jN, hP, mC2, mC1, mC0, zD0, zA3, hn0, hn1, hi0, hi1]; rfl)) "" Cmp.mk) (by kernel_rfl) (by kernel_rfl) (by first | exact zA2 _ | kernel_rfl) (by kernel_rfl) (by rfl) (by rfl) (by first | exact zA0 _ | rfl) (by rfl) (by simp (maxSteps := 1000000) only [qK, qO, qP, qV, qf, qg, q0t, qu, qv, ev, qw, qy, zC, zD, zE, zG, zM, ↓reduceIte, reduceCtorEq, Nat.reduceEqDiff, Nat.reduceAdd, Nat.reduceLT, zP, zR, zS, zT, zm, zn, zo, zq, zt, jD, jF, jG, jH, jI, jN, jP, jQ, jR, jS, jT, jV, jW, jX, jY, hP, mC2, mC1, mC0, zD0, zA3, hn0, hn1, hi0, hi1]) ?_; refine zA6 hctr (rs := res36) true 300 _ _ _ ?_; simp (maxSteps := 1000000) only [VG, jZ, ja, jd, je, qH, qI, qJ, qK, qO, qP, qQ, qT, qV, qh, qp, q0t, qu, qv, ev, qw, qy, qz, zA, zB, zC, zD, zE, zG, zI, zJ, TE.sv, zM, ↓reduceIte, reduceCtorEq, Nat.reduceEqDiff, Nat.reduceAdd, Nat.reduceLT, zP, zQ, zR, zS, zT, zV, zW, zb, zc, zh, zt, zx, zy, zz, jN, jO, hP, hk, res36, kp36, mC2, mC1, mC0, zJ7, zQ9, zA3, zB7, zC2, hn0, hn1, hd0, hd1, Int.natCast_nonneg, hil', hxv', hoc', hv, Option.isSome_some, Option.getD_some])
      have hsub:IntKind.i64.wrap ((x.key.length:Int)+(z.length:Int))=(x.key.length:Int)+(z.length:Int):=IntWalk.i64_in _ (by omega)
      (refine zA1 hctr (by rw [hP]; rfl) rs36_17 [] (ensure_type_of% (Cmp.of (by simp (maxSteps := 1000000) only [qK, qN, qO, qP, qQ, qR, qS, qV, qe, ev, qy, zD, zM, ↓reduceIte, reduceCtorEq, Nat.reduceEqDiff, zt, zu, cD, cO, jC, jD, jN, hP, hsub]; rfl)) "" Cmp.mk) (by kernel_rfl) (by kernel_rfl) (by first | exact zA2 _ | kernel_rfl) (by kernel_rfl) (by rfl) (by rfl) (by first | exact zA0 _ | rfl) (by rfl) (by simp (maxSteps := 1000000) only [qK, qN, qO, qP, qQ, qR, qS, qV, qe, ev, qy, zD, zM, ↓reduceIte, reduceCtorEq, Nat.reduceEqDiff, zT, zn, zt, zu, jD, jN, jP, jQ, jR, jS, jT, hP, hsub]) ?_; refine zA6 hctr (rs := res36) true 300 _ _ _ ?_; simp (maxSteps := 1000000) only [VG, ev, qy, zG, zI, zJ, ↓reduceIte, reduceCtorEq, Nat.reduceEqDiff, Nat.reduceAdd, zP, zQ, zf, zg, zt, jN, jO, hk, res36, kp36])
      refine ⟨fun hfit=>?_,fun hfit=>?_⟩
      ·have hfit':decide (most < (x.key.length:Int)+(z.length:Int))=true:=decide_eq_true hfit
       simp (maxSteps:=1000000) only [VG,qE,qF,qG,qH,qI,qJ,qP,q0t,qu,qv,ev,qw,qy,qz,zA,zB,zC,zD,zE,zG,zI,zJ,TE.sv,zM,↓reduceIte,reduceCtorEq,Nat.reduceEqDiff,Nat.reduceAdd,Nat.reduceLT,zP,zQ,zR,zt,hP,hk,kp36,mC2,mC1,mC0,zB5,zA7,It.zero,anS,hfit']
       rw [show zD3 X now ⟨op,mode,key,val,flags,exp,true,cas,true,delta,init,true,viv,vive,recache,inval⟩ most i true=(X,zA7 11) by simp [zD3,zH0,zB3,zD9,hif,hv,hoc]; omega] at hC
       exact zC4 hC hres36 hn hρ h.low (vS:=.rw 1 X.items.length) rfl (.inr ⟨1,rfl,by decide,.inr ⟨i,x,hx,rfl⟩⟩) rfl
      ·have hfit':decide (most < (x.key.length:Int)+(z.length:Int))=false:=decide_eq_false hfit
       simp (maxSteps:=1000000) only [VG,qH,qI,qK,qO,qP,qV,qh,ev,qw,qy,zA,zB,zD,zI,zJ,TE.sv,zM,↓reduceIte,reduceCtorEq,Nat.reduceEqDiff,Nat.reduceLT,zP,zQ,zR,zW,zt,hP,hk,kp36,mC2,mC1,mC0,zH4,hzl',hfit']
       obtain ⟨Y,hY⟩:∃ Y,Y=zJ4 X i true ⟨x.key,x.flags,z,zF3 now exp,x.cas,x.last,x.stale,x.won⟩:=⟨_,rfl⟩
       have hYi:Y.1.items[i]?=some Y.2:=by rw [hY]; exact zC5 X i _ _ hi his
       rw [show zD3 X now ⟨op,mode,key,val,flags,exp,true,cas,true,delta,init,true,viv,vive,recache,inval⟩ most i true=(Y.1,⟨6,Y.2,(((zD8 z).getD 0:Nat):Int),false,false,false⟩) by rw [hY]; simp [zD3,zH0,zB3,zD9,hif,hv,hoc]; omega] at hC
       refine zE1 ⟨x.key,x.flags,z,zF3 now exp,x.cas,x.last,x.stale,x.won⟩ hY hG (X:=X) (now:=now) (c:=⟨op,mode,key,val,flags,exp,true,cas,true,delta,init,true,viv,vive,recache,inval⟩) (most:=most) (i:=i) (is:=true) rfl (.inr ⟨i,x,hx,rfl⟩) hi his hl rfl (by simp) ?_
       (refine zA6 hctr (rs:=res36) true 300 _ _ _ ?_; simp (maxSteps:=1000000) only [VG,qE,qF,qG,qH,qI,qJ,qK,qP,qQ,qf,qg,q0t,qu,qv,ev,qy,qz,zA,zB,zC,zD,zE,zF,zG,zI,zJ,TE.sv,zM,↓reduceIte,reduceCtorEq,Nat.reduceEqDiff,Nat.reduceAdd,Nat.reduceLT,zP,zQ,zR,zk,zl,zt,zA4,jN,hP,hk,res36,kp36,woE,woS,zF1,itS,zA4])
       exact zC4 hC hres36 hn hρ h.low (vS:=.rw 5 Y.1.items.length) rfl (.inr ⟨5,rfl,by decide,.inr ⟨i,Y.2,hYi,rfl⟩⟩) rfl
  ·have hoc':decide (x.cas=cas)=false:=decide_eq_false hoc
   (refine zA6 hctr (rs:=res36) true 300 _ _ _ ?_; simp (maxSteps:=1000000) only [VG,qH,qI,qJ,qK,qO,qP,qQ,qV,q0t,qu,qv,ev,qy,zA,zB,zC,zD,zE,zF,zG,zI,zJ,zK,zM,↓reduceIte,reduceCtorEq,Nat.reduceEqDiff,Nat.reduceAdd,Nat.reduceLT,zP,zQ,zR,zt,hP,hk,kp36,woE,woS,zF1,itS])
   (refine zA1 hctr (by rw [hP]; rfl) rs36_2 [] (ensure_type_of% (Cmp.of (by simp (maxSteps := 1000000) only [qK, qO, qP, qV, qf, qg, q0t, qu, qv, ev, qw, qy, zC, zD, zE, zF, zG, zM, ↓reduceIte, reduceCtorEq, Nat.reduceEqDiff, Nat.reduceAdd, zP, zT, zt, cD, cO, jC, jD, jF, jG, jH, jI, jJ, jN, hP, mC2, mC1, mC0, zD0, zA3, hn0, hn1, hi0, hi1]; rfl)) "" Cmp.mk) (by kernel_rfl) (by kernel_rfl) (by first | exact zA2 _ | kernel_rfl) (by kernel_rfl) (by rfl) (by rfl) (by first | exact zA0 _ | rfl) (by rfl) (by simp (maxSteps := 1000000) only [qK, qO, qP, qV, qf, qg, q0t, qu, qv, ev, qw, qy, zC, zD, zE, zG, zM, ↓reduceIte, reduceCtorEq, Nat.reduceEqDiff, Nat.reduceAdd, Nat.reduceLT, zP, zR, zS, zT, zm, zn, zo, zq, zt, jD, jF, jG, jH, jI, jN, jP, jQ, jR, jS, jT, jV, jW, jX, jY, hP, mC2, mC1, mC0, zD0, zA3, hn0, hn1, hi0, hi1]) ?_; refine zA6 hctr (rs := res36) true 300 _ _ _ ?_; simp (maxSteps := 1000000) only [VG, jZ, ja, jd, je, qE, qF, qG, qH, qI, qJ, qK, qO, qP, qQ, qT, qV, qp, q0t, qu, qv, ev, qw, qy, qz, zA, zB, zC, zD, zE, zG, zI, zJ, TE.sv, zM, ↓reduceIte, reduceCtorEq, Nat.reduceEqDiff, Nat.reduceAdd, Nat.reduceLT, zP, zQ, zR, zS, zT, zV, zW, zb, zc, zh, zt, zx, zy, zz, jN, jO, hP, hk, res36, kp36, mC2, mC1, mC0, zB5, zC2, zA7, It.zero, anS, Int.natCast_nonneg, hil', hoc'])
   rw [show zD3 X now ⟨op,mode,key,val,flags,exp,hasExp,cas,true,delta,init,down,viv,vive,recache,inval⟩ most i true=(X,zA7 4) by simp [zD3,zB3,hif,hoc]] at hC
   exact zC4 hC hres36 hn hρ h.low (vS:=.rw 1 X.items.length) rfl (.inr ⟨1,rfl,by decide,.inr ⟨i,x,hx,rfl⟩⟩) rfl
theorem math_op (base g:Nat) (v:Value) (X:St) (now:Int) (c:Cd) (most:Int) (i:Nat) (is:Bool) (w:World) (h:WS base w g v X now c most i is) (hbase:base≤w.heap.size) (hi:i≤X.items.length) (his:is=true→i < X.items.length) (hl:X.items.length≤100000000)
 (hn0:1≤now) (hn1:now≤1099511627776) (hck:c.key.length≤100000000) (hd0:0≤c.delta) (hd1:c.delta < 18446744073709551616) (hi0:0≤c.init) (hi1:c.init < 18446744073709551616) (hE:EnvB base w) (hxb:∀ x,X.items[i]?=some x→x.key.length≤100000000∧x.val.length≤100000000) :
 Calls Tryz.prog 36 #[.pointer (some ⟨g,0,none⟩)] w (OpR base g v (zD3 X now c most i is).1 now c most i is (zD3 X now c most i is).2 w):=by
 rcases c with ⟨op,mode,key,val,flags,exp,hasExp,cas,hasCas,delta,init,down,viv,vive,recache,inval⟩
 cases is with
 | false=>exact math_no _ _ _ _ _ _ _ _ _ _ _ _ _ _ _ _ _ _ _ _ _ _ _ _ h hbase hi his hl hn0 hn1 hck hd0 hd1 hi0 hi1 hE
 | true =>
  have hx:=List.getElem?_eq_getElem (his rfl)
  obtain ⟨hxk,hxv⟩:=hxb _ hx
  exact math_win _ _ _ _ _ _ _ _ _ _ _ _ _ _ _ _ _ _ _ _ _ _ _ _ h hbase hi his hl hn0 hn1 hck hd0 hd1 hi0 hi1 hE _ hx hxk hxv
end Go.Proofs.YtfpeholdlkfmoaaGreatDoor
/- Apply, by the symbolic walk. -/
namespace Go.Proofs.YtfpeholdlkfmoaaGreatDoor
set_option linter.unusedSimpArgs false
set_option linter.unusedVariables false
open Go.RowKit
def cdS (c:Cd):List SC:=[.i .i64 c.op,.i .i64 c.mode,.s c.key,.s c.val,.i .u32 c.flags,.i .i64 c.exp,.b c.hasExp,.i .u64 c.cas,.b c.hasCas,.i .u64 c.delta,.i .u64 c.init,.b c.down,.b c.viv,.i .i64 c.vive,.i .i64 c.recache,.b c.inval]
def zZ5:List SV→Option (Prop × SV)
 | [.g [.i .i64 op,.i .i64 mode,.s key,.s val,.i .u32 flags,.i .i64 exp,.b hasExp,.i .u64 cas,.b hasCas,.i .u64 delta,.i .u64 init,.b down,.b viv,.i .i64 vive,.i .i64 recache,.b inval]] =>
  some (key.length≤9223372036854775807∧val.length≤9223372036854775807,.c (.b (zT0 ⟨op,mode,key,val,flags,exp,hasExp,cas,hasCas,delta,init,down,viv,vive,recache,inval⟩)))
 | _=>none
def zJ6 (base:Nat) (xs:List It) (en:List EN):List SV→Option (Prop × SV)
 | [.c (.rw d n),.c (.s k)]=>match zD en d with
  | some ⟨(t,off,I),[],_⟩=>some (t=33∧off=0∧I=rowI base xs∧n=xs.length∧Sorted xs∧xs.length≤1000000000,.t [.c (.i .i64 (atF xs k)),.c (.b (isF xs k))])
  | _=>none
 | [.c (.v (.slice none 0 0)),.c (.s k)]=>some (xs=[],.t [.c (.i .i64 (atF xs k)),.c (.b (isF xs k))])
 | _=>none
theorem own_hp {ρ:Nat→RE} {pr:Nat→Prop} {en:List EN} {w:World} {base:Nat} {xs:List It} {d:Nat} {mu:Bool} (hp:Hp ρ pr en w) (ho:Ho ρ pr en) (ld:pr d) (hd:zD en d=some ⟨(33,0,rowI base xs),[],mu⟩):OwnI base w (zE9 (ρ d) xs.length) xs:=by
 obtain ⟨h0,h1⟩:=ho d _ _ _ ld hd
 cases hnl:(ρ d).nl with
 | none =>
  rcases h1 with ⟨_,q1,qc,q2,q3,R,q4,q5⟩ | ⟨hn,_⟩
  ·refine .inr ⟨_,_,R,zF2 hnl _,q1,qc,?_,q5,q2⟩
   rw [(hp d _ _ _ ld hd).heap ⟨(show (33:Nat) ≠ zE8 by decide),hnl⟩,q3,q4]
   rfl
  ·exact absurd hnl hn
 | some p =>
  rcases h1 with ⟨hn,_⟩ | ⟨_,hx,_⟩
  ·rw [hnl] at hn; cases hn
  ·exact .inl ⟨p,by rw [zG4 hnl,hx]; rfl,hx⟩
def mCA (base:Nat) (xs:List It):Ctr:=fun f en args=>match f with
 | 29=>zZ5 args
 | 33=>zJ6 base xs en args
 | _=>mC1 f en args
theorem mCA_ok {C:Cx} (base:Nat) (ys:List It) (hP:C.P=Tryz.prog):zE4 C (mCA base ys):=by
 intro f en xs p v h hp ρ w hup hHp hHo hinj hwf
 unfold mCA at h
 split at h
 ·rw [hP]
  unfold zZ5 at h
  split at h <;> simp only [Option.some.injEq,Prod.mk.injEq,reduceCtorEq] at h
  obtain ⟨rfl,rfl⟩:=h
  exact ⟨fun args w=>Tryz.call29 args w,trivial,may _ hp.1 hp.2 w⟩
 ·rw [hP]
  refine ⟨fun args w=>Tryz.call33 args w,?_⟩
  unfold zJ6 at h
  split at h
  ·rename_i d n k
   split at h <;> simp only [Option.some.injEq,Prod.mk.injEq,reduceCtorEq] at h
   rename_i t off I mu hd
   obtain ⟨rfl,rfl⟩:=h
   obtain ⟨rfl,rfl,rfl,rfl,hs,hl⟩:=hp
   refine ⟨by intro x hx; simp at hx; rcases hx with rfl | rfl <;> trivial,?_⟩
   have ld:d < en.length:=hwf (.c (.rw d ys.length)) (List.mem_cons_self ..)
   exact find_op base _ ys k w (own_hp hHp hHo ld hd) hs hl
  ·simp only [Option.some.injEq,Prod.mk.injEq] at h
   obtain ⟨rfl,rfl⟩:=h
   subst hp
   refine ⟨by intro x hx; simp at hx; rcases hx with rfl | rfl <;> trivial,?_⟩
   exact find_op 0 _ [] _ w (.inl ⟨none,rfl,rfl⟩) Sorted.nil (by simp)
  ·cases h
 ·exact zL7 hP f en xs p v h hp ρ w hup hHp hHo hinj hwf
def srcE (xs:List It):EN:=⟨(33,0,rowI 0 xs),[],false⟩
theorem src_at {w:World} {v:Value} {xs:List It} (ho:OwnI 0 w v xs):∃ ρ:Nat→RE,At Non ρ [srcE xs] w∧zE9 (ρ 0) xs.length=v:=by
 obtain ⟨r,h1,h2,h3,h4,h5⟩:=row_re ho 0 (Nat.le_refl _)
 refine ⟨fun _=>r,⟨?_,?_,?_,?_⟩,h1⟩
 ·intro q ty cells mu hq he
  obtain rfl:q=0:=by simp at hq; omega
  simp only [zD,Option.some.injEq,srcE,EN.mk.injEq] at he
  obtain ⟨rfl,rfl,rfl⟩:=he
  exact ⟨fun hl=>by rw [(h3 hl.2).2]; simp [zC1],(fun y hy=>nomatch hy),fun hd=>absurd (show (33:Nat)=zE8 from hd) (by decide),fun _=>rfl⟩
 ·intro q ty cells mu hq he
  obtain rfl:q=0:=by simp at hq; omega
  simp only [zD,Option.some.injEq,srcE,EN.mk.injEq] at he
  obtain ⟨rfl,rfl,rfl⟩:=he
  exact ⟨by rw [h5]; rfl,h2⟩
 ·intro q d hq hd _ _ _; simp at hq hd; omega
 ·intro q ty cells hq he
  obtain rfl:q=0:=by simp at hq; omega
  simp only [zD,Option.some.injEq,srcE,EN.mk.injEq] at he
  exact absurd he.2.2 (by decide)
def AppR (Y:St × An) (w:World) (e:Ending) (w':World):Prop:=
 ∃ v',e=.returned (.tuple #[.agg #[v',.int .u64 Y.1.cas,.int .i64 Y.1.flush],.agg (anA Y.2)])∧OwnI w.heap.size w' v' Y.1.items∧Below w.heap.size w w'
theorem zI4 {C:Cx} {fn:Func} {Y:St × An} {w:World} {ρ:Nat→RE} {kp:List Nat} {rs:List ResultVar} {en:List EN} {n d:Nat} {v':SV}
  (hC:C=zL Tryz.prog fn (AppR Y w) Non w ρ n kp) (hrs:fn.results.toList=rs) (hd:zD en d=some (zG3 w.heap.size Y.1.items)) (hv:v'=.t [.g [.rw d Y.1.items.length,.i .u64 Y.1.cas,.i .i64 Y.1.flush],.g (anS Y.2)]):Fin C rs v' en:=by
 subst hC
 subst hv
 refine zK7 zL1 hrs fun ρ' w' hw _ _=>?_
 have ld:d < en.length:=by rw [zA5] at hd; exact (List.getElem?_eq_some_iff.1 hd).1
 exact ⟨_,rfl,zW6 hw ld hd,hw.up.to_below⟩
theorem zY3 {C:Cx} {fn:Func} {Y:St × An} {w:World} {ρ:Nat→RE} {kp:List Nat} {rs:List ResultVar} {en:List EN} {n:Nat} {v':SV}
  (hC:C=zL Tryz.prog fn (AppR Y w) Non w ρ n kp) (hrs:fn.results.toList=rs) (hx:Y.1.items=[]) (hv:v'=.t [.g [.v (.slice none 0 0),.i .u64 Y.1.cas,.i .i64 Y.1.flush],.g (anS Y.2)]):Fin C rs v' en:=by
 subst hC
 subst hv
 refine zK7 zL1 hrs fun ρ' w' hw _ _=>?_
 exact ⟨_,rfl,.inl ⟨none,rfl,hx⟩,hw.up.to_below⟩
end Go.Proofs.YtfpeholdlkfmoaaGreatDoor
/- The calls that Apply makes, met in regions that follow the text. -/
namespace Go.Proofs.YtfpeholdlkfmoaaGreatDoor
set_option linter.unusedSimpArgs false
set_option linter.unusedVariables false
open Go.RowKit
variable {C:Cx} {nt:Nat} {sl:List (Nat × SV)} {k:List KI} {dst:Option Nat} {args:Array Operand} {tys:Array TypeId} {ty:TypeId} {pos:String} {af:Array Edge} {all r:List Oper} {en:List EN}
theorem Run_clone {b base d:Nat} {xs:List It} {mu:Bool} (hP:C.P=Tryz.prog) (hd:zD en d=some ⟨(33,0,rowI b xs),[],mu⟩) (hbase:base≤C.w0.heap.size) (hn1:C.n0≤zG en) (hn:xs.length≤1000000000) (hxs:qw sl args.toList=some [.c (.rw d xs.length)]) (hdst:∀ d,dst=some d→d < nt)
  (hK:Run C (.ops all r :: k) nt (jN dst (.c (.rw (zG en) xs.length)) sl) (zF en (zG3 base xs))) :
  Run C (.ops all (⟨dst,.call ⟨.value (.func 31),args,tys⟩,ty,pos,af,none⟩ :: r) :: k) nt sl en:=by
 refine zE5 hxs _ _ ?_ (by rw [zC7]; omega) hdst hK
 exact clone_h hP hd hbase hn1 hn (zK0 hd) (mk_new zC7) zM9 (fun q hq=>zC3 hq)
theorem Run_gone {base d y:Nat} {xs:List It} {now:Int} {t:TypeId × Nat × (RE→Prop)} {mu:Bool} (hP:C.P=Tryz.prog) (hd:zD en d=some (zG3 base xs)) (hy:zD en y=some ⟨t,[.i .i64 now],mu⟩) (hyo:t.2.1=0) (hyd:y ≠ d) (hbase:base≤C.w0.heap.size) (hn1:C.n0≤zG en) (hn:xs.length≤1000000000) (hxs:qw sl args.toList=some [.c (.rw d xs.length),.c (.f (.func 32) [(y,0)])]) (hdst:∀ d,dst=some d→d < nt)
  (hK:Run C (.ops all r :: k) nt (jN dst (.c (.rw (zG en) (xs.filter fun x=>!zE2 now x).length)) sl) (zF (zE en d (zA4 (zG3 base xs))) (zG3 base (xs.filter fun x=>!zE2 now x)))) :
  Run C (.ops all (⟨dst,.call ⟨.value (.func 30),args,tys⟩,ty,pos,af,none⟩ :: r) :: k) nt sl en:=by
 refine zE5 hxs _ _ ?_ (by rw [zC7,zF6]; omega) hdst hK
 refine gone_h hP hd hy hyo hyd hbase hn1 hn (zK0 hd) (zK0 hy) (mk_new (by rw [zC7,zF6])) ⟨?_,fun q hq=>?_⟩
 ·rw [← zF6 (d:=d) (x:=zA4 (zG3 base xs))]; exact zM9
 ·by_cases hqd:q=d
  ·subst hqd
   refine .inr ⟨rfl,_,hd,?_⟩
   rw [zC3 (by rw [zF6]; exact hq),zP8 hd]
  ·refine .inl ⟨hqd,?_⟩
   rw [zC3 (by rw [zF6]; exact hq),zG9 hqd]
theorem zP6 {f:FuncId} {base z d:Nat} {X X':St} {now:Int} {c:Cd} {most:Int} {i:Nat} {is:Bool} {an:An} (hP:C.P=Tryz.prog) (hcf:∀ args w,(callFunc f args).run Tryz.prog w=.ok (.enter f args) w)
  (hz:zD en z=some (woE (.rw d X.items.length) X now c most i is)) (hd:zD en d=some (zG3 base X.items)) (hdz:d ≠ z) (hbase:base≤C.w0.heap.size) (hS:∀ k,C.S k→base≤k) (hn1:C.n0≤zG en)
  (hop:∀ w g v,Upd C.S C.w0 w→base≤w.heap.size→WS base w g v X now c most i is→Calls Tryz.prog f #[.pointer (some ⟨g,0,none⟩)] w (OpR base g v X' now c most i is an w))
  (hxs:qw sl args.toList=some [.c (.p z 0)]) (hdst:∀ d,dst=some d→d < nt)
  (hK:Run C (.ops all r :: k) nt (jN dst (.g (anS an)) sl) (zF (zE (zE en d (zA4 (zG3 base X.items))) z (woE (.rw (zG en) X'.items.length) X' now c most i is)) (zG3 base X'.items))) :
  Run C (.ops all (⟨dst,.call ⟨.value (.func f),args,tys⟩,ty,pos,af,none⟩ :: r) :: k) nt sl en:=by
 refine zE5 hxs _ _ ?_ (by rw [zC7,zF6,zF6]; omega) hdst hK
 have hzN:z ≠ zG en:=by have:=zK0 hz; omega
 refine op_h hP hcf hz (.inr ⟨d,rfl,hdz,hd⟩) hbase hS hn1 (zK0 hz) (mk_new (by rw [zC7,zF6,zF6])) hop ⟨?_,?_,fun q hqz hq=>?_⟩
 ·rw [zC3 (by rw [zF6,zF6]; exact hzN)]
  exact zP8 (by rw [zG9 (fun h=>hdz h.symm)]; exact hz)
 ·have:=zM9 (en:=zE (zE en d (zA4 (zG3 base X.items))) z (woE (.rw (zG en) X'.items.length) X' now c most i is)) (e:=zG3 base X'.items)
  rw [zF6,zF6] at this
  exact this
 ·rw [zC3 (by rw [zF6,zF6]; exact hq),zG9 hqz]
  by_cases hqd:q=d
  ·subst hqd
   exact .inr ⟨⟨_,rfl⟩,_,hd,zP8 hd⟩
  ·exact .inl ⟨fun n h=>hqd (by injection h with h; exact h.symm),zG9 hqd⟩
theorem zY4 {f:FuncId} {base z:Nat} {p:Option Addr} {X X':St} {now:Int} {c:Cd} {most:Int} {i:Nat} {is:Bool} {an:An} (hP:C.P=Tryz.prog) (hcf:∀ args w,(callFunc f args).run Tryz.prog w=.ok (.enter f args) w)
  (hz:zD en z=some (woE (.v (.slice p 0 0)) X now c most i is)) (hx:X.items=[]) (hbase:base≤C.w0.heap.size) (hS:∀ k,C.S k→base≤k) (hn1:C.n0≤zG en)
  (hop:∀ w g v,Upd C.S C.w0 w→base≤w.heap.size→WS base w g v X now c most i is→Calls Tryz.prog f #[.pointer (some ⟨g,0,none⟩)] w (OpR base g v X' now c most i is an w))
  (hxs:qw sl args.toList=some [.c (.p z 0)]) (hdst:∀ d,dst=some d→d < nt)
  (hK:Run C (.ops all r :: k) nt (jN dst (.g (anS an)) sl) (zF (zE en z (woE (.rw (zG en) X'.items.length) X' now c most i is)) (zG3 base X'.items))) :
  Run C (.ops all (⟨dst,.call ⟨.value (.func f),args,tys⟩,ty,pos,af,none⟩ :: r) :: k) nt sl en:=by
 refine zE5 hxs _ _ ?_ (by rw [zC7,zF6]; omega) hdst hK
 have hzN:z ≠ zG en:=by have:=zK0 hz; omega
 refine op_h hP hcf hz (.inl ⟨⟨p,rfl⟩,hx⟩) hbase hS hn1 (zK0 hz) (mk_new (by rw [zC7,zF6])) hop ⟨?_,?_,fun q hqz hq=>?_⟩
 ·rw [zC3 (by rw [zF6]; exact hzN)]
  exact zP8 hz
 ·have:=zM9 (en:=zE en z (woE (.rw (zG en) X'.items.length) X' now c most i is)) (e:=zG3 base X'.items)
  rw [zF6] at this
  exact this
 ·rw [zC3 (by rw [zF6]; exact hq),zG9 hqz]
  exact .inl ⟨(fun n h=>by cases h),rfl⟩
end Go.Proofs.YtfpeholdlkfmoaaGreatDoor
/- A row of items seen around one of them. -/
namespace Go.Proofs.YtfpeholdlkfmoaaGreatDoor
set_option linter.unusedSimpArgs false
set_option linter.unusedVariables false
open Go.RowKit
def noPC (d:Nat):SC→Bool
 | .p c _=>!(c == d)
 | .sl c _ _ _=>!(c == d)
 | .f _ cap=>cap.all fun x=>!(x.1 == d)
 | _=>true
def noPL (d:Nat) (l:List SC):Bool:=l.all (noPC d)
def noPT (d:Nat):TE→Bool
 | .c x=>noPC d x
 | .g l=>noPL d l
def noPV (d:Nat):SV→Bool
 | .c x=>noPC d x
 | .g l=>noPL d l
 | .t l=>l.all (noPT d)
def noPS (d:Nat) (sl:List (Nat × SV)):Bool:=sl.all fun x=>noPV d x.2
def noPE (d:Nat) (en:List EN):Bool:=en.all fun e=>noPL d e.cells
theorem noPC_den {ρ ρ':Nat→RE} {d:Nat} (h1:∀ c,c ≠ d→ρ' c=ρ c) (h2:∀ n,zE9 (ρ' d) n=zE9 (ρ d) n) {x:SC} (h:noPC d x=true):x.den ρ'=x.den ρ:=by
 cases x with
 | p c o=>simp only [noPC,Bool.not_eq_true',beq_eq_false_iff_ne] at h; simp only [SC.den,zG5,h1 c h]
 | sl c o n m=>simp only [noPC,Bool.not_eq_true',beq_eq_false_iff_ne] at h; simp only [SC.den,h1 c h]
 | rw c n =>
  simp only [SC.den]
  by_cases hc:c=d
  ·subst hc; exact h2 n
  ·rw [h1 c hc]
 | f fn cap =>
  simp only [noPC,List.all_eq_true,Bool.not_eq_true',beq_eq_false_iff_ne] at h
  simp only [SC.den]
  congr 2
  exact List.map_congr_left fun y hy=>by simp only [zG5,h1 y.1 (h y hy)]
 | _=>rfl
theorem noPL_den {ρ ρ':Nat→RE} {d:Nat} (h1:∀ c,c ≠ d→ρ' c=ρ c) (h2:∀ n,zE9 (ρ' d) n=zE9 (ρ d) n) {l:List SC} (h:noPL d l=true):zC1 ρ' l=zC1 ρ l:=
 List.map_congr_left fun y hy=>noPC_den h1 h2 (List.all_eq_true.1 h y hy)
theorem noPV_den {ρ ρ':Nat→RE} {d:Nat} (h1:∀ c,c ≠ d→ρ' c=ρ c) (h2:∀ n,zE9 (ρ' d) n=zE9 (ρ d) n) {x:SV} (h:noPV d x=true):x.den ρ'=x.den ρ:=by
 cases x with
 | c x=>exact noPC_den h1 h2 h
 | g l=>simp only [SV.den,noPL_den h1 h2 h]
 | t l =>
  simp only [SV.den]
  congr 2
  refine List.map_congr_left fun y hy=>?_
  have:=List.all_eq_true.1 h y hy
  cases y with
  | c x=>exact noPC_den h1 h2 this
  | g l=>simp only [TE.den,noPL_den h1 h2 this]
variable {C:Cx} {nt:Nat} {sl:List (Nat × SV)} {k:List KI} {en:List EN}
theorem noPS_get {d:Nat}:∀ {sl:List (Nat × SV)},noPS d sl=true→∀ {t:Nat} {v:SV},qy sl t=some v→noPV d v=true
 | [],_,t,v,h=>by simp [qy] at h
 | (a,b) :: sl,hs,t,v,h=>by
  simp only [noPS,List.all_cons,Bool.and_eq_true] at hs
  simp only [qy] at h
  split at h
  ·cases h; exact hs.1
  ·exact noPS_get hs.2 h
theorem Run_win {base d:Nat} {xs:List It} {i:Nat} {x:It} (hd:zD en d=some (zG3 base xs)) (hx:xs[i]?=some x) (hn0:C.n0≤d) (hno:noPS d sl=true) (hne:noPE d en=true) (h:Run C k nt sl (zE en d (zF1 base xs i x))):Run C k nt sl en:=by
 intro ρ a w hr
 have ld:d < en.length:=by rw [zA5] at hd; exact (List.getElem?_eq_some_iff.1 hd).1
 obtain ⟨h0,h1⟩:=hr.hw.ho d _ _ _ ld hd
 rcases h1 with ⟨hnl,q1,qc,q2,q3,R,q4,q5⟩ | ⟨_,h1,_⟩
 case inr=>rw [h1] at hx; simp at hx
 have hil:=(List.getElem?_eq_some_iff.1 hx).1
 have hheap:=(hr.hw.hp d _ _ _ ld hd).heap ⟨(show (33:Nat) ≠ zE8 by decide),hnl⟩
 obtain ⟨r,hrr⟩:∃ r:RE,r=⟨(ρ d).blk,zD4 (xs.take i),zD4 (xs.drop (i+1))++R,(ρ d).cap,none⟩:=⟨_,rfl⟩
 have hnr:zL6 ρ d r d=r:=if_pos rfl
 have ho:∀ c,c ≠ d→zL6 ρ d r c=ρ c:=fun c hc=>if_neg hc
 have hrw:∀ n,zE9 (zL6 ρ d r d) n=zE9 (ρ d) n:=fun n=>by rw [hnr,hrr,zF2 hnl]; rfl
 have hblk:∀ c,(zL6 ρ d r c).blk=(ρ c).blk:=fun c=>by
  by_cases hc:c=d
  ·subst hc; rw [hnr,hrr]
  ·rw [ho c hc]
 have hnlc:∀ c,(zL6 ρ d r c).nl=(ρ c).nl:=fun c=>by
  by_cases hc:c=d
  ·subst hc; rw [hnr,hrr,hnl]
  ·rw [ho c hc]
 have hlen:(zE en d (zF1 base xs i x)).length=en.length:=setN_len _ _ _
 have hcase:∀ q ty cells mu,zD (zE en d (zF1 base xs i x)) q=some ⟨ty,cells,mu⟩→(q=d∧(⟨ty,cells,mu⟩:EN)=zF1 base xs i x)∨(q ≠ d∧zD en q=some ⟨ty,cells,mu⟩):=by
  intro q ty cells mu hq
  by_cases hqd:q=d
  ·subst hqd
   rw [zP8 hd] at hq
   exact .inl ⟨rfl,(Option.some.inj hq).symm⟩
  ·rw [zG9 hqd] at hq
   exact .inr ⟨hqd,hq⟩
 have hlv:∀ q,zE7 (zL6 ρ d r q) (zD (zE en d (zF1 base xs i x)) q)=false→zE7 (ρ q) (zD en q)=false:=by
  intro q hq
  by_cases hqd:q=d
  ·subst hqd; exact (zB4 hd).2 ⟨(show (33:Nat) ≠ zE8 by decide),hnl⟩
  ·rw [zG9 hqd,ho q hqd] at hq; exact hq
 refine h (zL6 ρ d r) a w ⟨⟨?_,?_,?_,hr.hw.up,?_,?_⟩,?_,hr.sz,hr.df,by rw [hlen]; exact hr.n0⟩
 ·intro q ty cells mu hq he
  rw [hlen] at hq ⊢
  rcases hcase q ty cells mu he with ⟨rfl,he2⟩ | ⟨hqd,he⟩
  ·clear he
   simp only [zF1,EN.mk.injEq] at he2
   obtain ⟨rfl,rfl,rfl⟩:=he2
   refine ⟨fun _=>?_,?_,fun hd=>absurd (show (33:Nat)=zE8 from hd) (by decide),by rw [hnlc,hnl]; exact fun h=>absurd rfl h⟩
   ·rw [hblk,hheap,q3,q4,hnr,hrr]
    show some (Obj.cells ([]++zC1 ρ []++(zD4 xs++R)).toArray _ _)=_
    rw [← zO3 hx]
    simp only [zC1,List.map_nil,List.nil_append,List.append_assoc]
    rfl
   ·intro y hy
    simp only [itS,List.mem_cons,List.not_mem_nil,or_false] at hy
    rcases hy with rfl | rfl | rfl | rfl | rfl | rfl | rfl | rfl <;> trivial
  ·have hp:=hr.hw.hp q ty cells mu hq he
   have hnp:noPL d cells=true:=by
    rw [zA5] at he
    exact List.all_eq_true.1 hne _ (List.mem_of_getElem? he)
   refine ⟨fun hl=>?_,hp.wf,hp.dead,by rw [ho q hqd]; exact hp.non⟩
   rw [ho q hqd] at hl ⊢
   rw [noPL_den ho hrw hnp]
   exact hp.heap hl
 ·intro q ty cells mu hq he
  rw [hlen] at hq
  rcases hcase q ty cells mu he with ⟨rfl,he2⟩ | ⟨hqd,he⟩
  ·clear he
   simp only [zF1,EN.mk.injEq] at he2
   obtain ⟨rfl,rfl,rfl⟩:=he2
   rw [hnr,hrr]
   exact ⟨by show (zD4 (xs.take i)).length=_; rw [zB2,List.length_take,Nat.min_eq_left (by omega)],q1,qc,q2,rfl,R,rfl,q5⟩
  ·rw [ho q hqd]; exact hr.hw.ho q ty cells mu hq he
 ·intro q c hq hc hql hcl hb
  rw [hlen] at hq hc
  rw [hblk,hblk] at hb
  exact hr.hw.inj q c hq hc (hlv q hql) (hlv c hcl) hb
 ·intro q ty cells hq he
  rw [hlen] at hq
  rw [hblk]
  rcases hcase q ty cells true he with ⟨rfl,_⟩ | ⟨hqd,he⟩
  ·exact hr.hw.mu q _ _ hq hd
  ·exact hr.hw.mu q ty cells hq he
 ·intro q hq
  rw [ho q (by omega)]; exact hr.hw.ini q hq
 ·intro t v ht
  rw [hlen]
  obtain ⟨k1,k2⟩:=hr.tm t v ht
  rw [noPV_den ho hrw (noPS_get hno ht)]
  exact ⟨k1,k2⟩
theorem own_win {C:Cx} {ρ:Nat→RE} {pr:Nat→Prop} {en:List EN} {w:World} {base:Nat} {xs:List It} {d j:Nat} {x:It} (hw:Hw C ρ pr en w) (ld:pr d) (hx:xs[j]?=some x) (hd:zD en d=some (zF1 base xs j x)):OwnI base w (zE9 (ρ d) xs.length) xs:=by
 have hnl:(ρ d).nl=none:=Decidable.byContradiction fun h=>by have:=(hw.hp d _ _ _ ld hd).non h; cases this
 obtain ⟨_,q1,qc,q2,q3,R,q4,q5⟩:=hw.ho d _ _ _ ld hd
 refine .inr ⟨_,_,R,zF2 hnl _,q1,qc,?_,q5,q2⟩
 rw [(hw.hp d _ _ _ ld hd).heap ⟨(show (33:Nat) ≠ zE8 by decide),hnl⟩,q3,q4,← zO3 hx]
 simp only [List.append_assoc]
 rfl
theorem appFinW {C:Cx} {fn:Func} {Y:St × An} {w:World} {ρ:Nat→RE} {kp:List Nat} {rs:List ResultVar} {en:List EN} {n d j:Nat} {x:It} {v':SV}
  (hC:C=zL Tryz.prog fn (AppR Y w) Non w ρ n kp) (hrs:fn.results.toList=rs) (hx:Y.1.items[j]?=some x) (hd:zD en d=some (zF1 w.heap.size Y.1.items j x)) (hv:v'=.t [.g [.rw d Y.1.items.length,.i .u64 Y.1.cas,.i .i64 Y.1.flush],.g (anS Y.2)]):Fin C rs v' en:=by
 subst hC
 subst hv
 refine zK7 zL1 hrs fun ρ' w' hw _ _=>?_
 have ld:d < en.length:=by rw [zA5] at hd; exact (List.getElem?_eq_some_iff.1 hd).1
 exact ⟨_,rfl,own_win hw ld hx hd,hw.up.to_below⟩
theorem get_op (base g:Nat) (v:Value) (X:St) (now:Int) (c:Cd) (most:Int) (i:Nat) (is:Bool) (w:World) (h:WS base w g v X now c most i is) (hbase:base≤w.heap.size) (hi:i≤X.items.length) (his:is=true→i < X.items.length) (hl:X.items.length≤100000000)
  (hn0:1≤now) (hn1:now≤1099511627776) (hxb:∀ x,X.items[i]?=some x→-4398046511104≤x.exp∧x.exp≤9223372036854775807) :
  Calls Tryz.prog 34 #[.pointer (some ⟨g,0,none⟩)] w (OpR base g v (getF X now c i is).1 now c most i is (getF X now c i is).2 w):=by
 cases is with
 | false=>exact get_no base g v X now c most i w h hbase hi hl hn0 hn1
 | true =>
  have hx:=List.getElem?_eq_getElem (his rfl)
  obtain ⟨b0,b1⟩:=hxb _ hx
  have:=get_is base g v X now c most i _ w h hx hn0 hn1 b0 b1
  unfold getF
  rw [if_pos rfl,itF_of hx]
  exact this
end Go.Proofs.YtfpeholdlkfmoaaGreatDoor
