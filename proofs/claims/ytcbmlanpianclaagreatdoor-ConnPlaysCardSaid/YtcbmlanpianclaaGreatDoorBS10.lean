/- plain: the requests of a line alone. Printed by gen_tplain.py. -/
import Derived.Test.YtcbmlanpianclaaGreatDoorBS09
import Derived.Test.YtcbmlanpianclaaGreatDoorBS06
import Derived.Shelf.LaysM
import Derived.Shelf.LaysC
import Derived.Shelf.Slices.Turned
import Derived.Test.YtcbmlanpianclaaGreatDoorProg
namespace Go.Proofs.YtcbmlanpianclaaGreatDoor
set_option linter.unusedSimpArgs false
set_option linter.unusedVariables false
set_option maxHeartbeats 8000000
open Go.RowKit
set_option maxRecDepth 100000
theorem two_of {α:Type} {l:List α} (h:l.length=2):∃ x y,l=[x,y]:=by
 match l,h with
 | [x,y],_=>exact ⟨x,y,rfl⟩
def tC3 (a:Option Addr) (ws:List (List UInt8)):Ctr:=fun f en xs=>match f with
 | 102=>zW1 a ws xs
 | _=>tC2 a ws f en xs
theorem tC3_ok {C:Cx} {a:Option Addr} {ws:List (List UInt8)} {g:Nat} (hP:C.P=Tryz.prog) (hE:zM6 C) (hW:∀ w,Upd C.S C.w0 w→RawSV w g a ws) (hl:∀ x∈ws,x.length≤9223372036854775807):zC1 C (tC3 a ws):=by
 intro f en xs p v h hp ρ w hup hHp hHo hinj hwf
 unfold tC3 at h
 split at h
 ·rw [hP]; exact ⟨fun args w=>Tryz.call102 args w,rowWJoin_ok h hp (hW w hup)⟩
 ·exact zR9 hP hE hW hl f en xs p v h hp ρ w hup hHp hHo hinj hwf
theorem one_of' {α:Type} {l:List α} (h:l.length=1):∃ x,l=[x]:=by
 match l,h with
 | [x],_=>exact ⟨x,rfl⟩
theorem plain_incr {w:World} {g:Nat} {a:Option Addr} {c:Nat} {ws:List (List UInt8)} {behind:List UInt8} (h:Ln w g [105,110,99,114] a ws.length c ws behind 0 false) (hn:ws.length≤100000) (hl:∀ x∈ws,x.length≤100000) (hE0:EnvG g w) :
  Calls Tryz.prog 65 #[.pointer (some ⟨g,0,none⟩)] w (MP F1 g w (zA7 [105,110,99,114] ws)):=by
 obtain ⟨w1,q,hoff⟩:∃ w1 q,zN5 ws=(w1,q):=⟨_,_,rfl⟩
 have hpre:=zM0 ws
 rw [hoff] at hpre
 simp only at hpre
 have hl1:∀ x∈w1,x.length≤9223372036854775807:=fun x hx=>by rw [hpre] at hx; have:=hl x (List.mem_of_mem_take hx); omega
 obtain ⟨n,hnn⟩:∃ n,w1.length=n:=⟨_,rfl⟩
 have hnc:n≤100000:=by have:=congrArg List.length hpre; rw [List.length_take] at this; omega
 refine zA1 Tryz.func65 rfl kp65 (S:=One g) (ρ:=fun _=>zD7 g) [.c (.p 0 0)] Tryz.ntmps65 (zO9 h.blk true (One g) (fun _=>rfl)) (by simp [SV.wf,SC.wf]) (by simp) ?_
 intro C hC hP hk
 have hLW:LW C g w:=zS9 hC Nat.zero_lt_one rfl
 have hE:zM6 C:=hE0.C hLW.S hLW.w0
 have hW0:∀ w',Upd C.S C.w0 w'→RawSV w' g a ws:=fun w' hu=>by rw [hLW.S,hLW.w0] at hu; exact h.raw.upd hu
 have hW:∀ w',Upd C.S C.w0 w'→RawSV w' g a w1:=fun w' hu=>(hW0 w' hu).pre hpre
 have hr:∀ (k:Nat) x,w1[k]?=some x→∃ b o,a=some ⟨b,o,none⟩∧C.rd b (o+k) 1=some [.s x]:=fun k x hx=>(h.raw.pre hpre).rd (D:=C) (by rw [hLW.S]; exact fun k hk=>hk) hLW.w0 hx
 have hctr:=zR9 hP hE hW hl1
 (refine zA0 hctr (rs:=res65) true 300 _ _ _ ?_; simp (maxSteps:=1000000) only [VT,jf,qH,qI,qK,qO,qP,qQ,qR,qS,qV,ev,qw,qy,qz,zD,zF,zG,zI,zJ,zK,zM,↓reduceIte,reduceCtorEq,Nat.reduceEqDiff,Nat.reduceLT,Nat.reduceBEq,zP,zQ,zR,zV,zt,zu,zx,hP,hk,res65,kp65,tC2,tC1,zN6,lnC,lb1,lb4,u8b,UInt8.reduceToNat])
 refine zA6 rfl (.t []) _ (off_h (C:=C) hP hE (name:=[105,110,99,114]) (a:=a) (c:=c) (ws:=ws) (behind:=behind) (used:=0) (N:=0) rfl (by simp [zG]) h.cap (by omega) hLW.n0 hLW.r0 hW0 (fun q hq=>by simp only [zG,zE] at hq; omega) rfl) (by simp [zG,zE]) (by simp) ?_
 by_cases hc:n=2
 ·obtain ⟨x,y,rfl⟩:=two_of (hnn.trans hc)
  have c1:(decide ((2:Int)≤((2:Nat):Int)) && decide (((2:Nat):Int)≤2))=true:=rfl
  obtain ⟨b,o,rfl,hr0⟩:=hr 0 x rfl
  obtain ⟨_,_,he,hr1⟩:=hr 1 y rfl
  cases he
  have p0:(0:Int) < ((2:Nat):Int):=by decide
  have p1:(1:Int) < ((2:Nat):Int):=by decide
  have p2:(0:Int)≤1:=by decide
  have ly:y.length≤9223372036854775807:=hl1 y (by simp)
  cases hkb:zG3 x with
  | false =>
   (refine zA0 hctr (rs:=res65) true 300 _ _ _ ?_; simp (maxSteps:=1000000) only [VT,qH,qI,qK,qO,ev,qw,qy,qz,zD,zE,zI,zJ,↓reduceIte,reduceCtorEq,Nat.reduceEqDiff,Nat.reduceAdd,Nat.reduceLT,zP,zQ,zR,zT,zk,zl,zt,jN,hk,kp65,tC2,zB6,zJ1,lnC,hoff,Int.toNat_zero,c1,hkb])
   exact zO7 hC hP hE hW hl1 rfl rfl (name:=[105,110,99,114]) (behind:=behind) (quiet:=q) (i:=0) (x:=x) rfl (Int.le_refl _) p0 rfl hkb (zC6 hC Nat.zero_lt_one rfl (f:=zA2) (by simp [zA7,hoff,zI1,hkb]) rfl)
  | true =>
   cases hv:zB0 y with
   | none =>
    (refine zA0 hctr (rs:=res65) true 300 _ _ _ ?_; simp (maxSteps:=1000000) only [VT,qH,qI,qK,qO,qP,qQ,qV,qX,qh,ev,qw,qy,qz,zD,zE,zI,zJ,TE.sv,zM,↓reduceIte,reduceCtorEq,Nat.reduceEqDiff,Nat.reduceAdd,Nat.reduceLT,zP,zQ,zR,zT,zk,zl,zt,jN,hP,hk,kp65,tC2,tC1,zN6,zB6,zJ1,zD0,zF6,lnC,hoff,Int.toNat_zero,Int.toNat_one,Nat.mul_one,Int.le_refl,c1,hkb,p0,p1,p2,hr1,ly,hv,Option.getD_none,Option.isSome_none])
    exact zJ8 hC hP rfl rfl (zC6 hC Nat.zero_lt_one rfl (f:=f_delta) (by simp [zA7,hoff,zI1,hkb,hv]) rfl)
   | some v =>
    (refine zA0 hctr (rs:=res65) true 300 _ _ _ ?_; simp (maxSteps:=1000000) only [VT,qA,qB,qC,qD,qH,qI,qK,qO,qP,qQ,qR,qS,qV,qX,qf,qg,qh,q0t,ev,qw,qy,qz,zC,zD,zE,zF,zG,zI,zJ,TE.sv,zM,↓reduceIte,reduceCtorEq,Nat.reduceEqDiff,Nat.reduceAdd,Nat.reduceLT,Nat.reduceBEq,Nat.reduceLeDiff,zP,zQ,zR,zT,zk,zl,zt,zu,zw,zx,jN,hP,hk,kp65,tC2,tC1,zN6,zB6,zJ1,zD0,zF6,lnC,hoff,Int.toNat_zero,Int.toNat_one,Nat.mul_one,Int.le_refl,Nat.reduceMul,lb1,lb4,u8b,UInt8.reduceToNat,c1,hkb,p0,p1,p2,hr1,ly,hv,Option.getD_some,Option.isSome_some])
    refine zA6 rfl _ _ (do_h (C:=C) (name:=[105,110,99,114]) (W:=.slice _ _ c) (behind:=behind) (used:=0) (quiet:=q) (mu:=true) (M:=0) (N:=2) (V:=.sl 2 0 1 1) (I:=whole) (cs:=[{ Cd.zero with op:=3,key:=x,delta:=v,down:=false }]) hP rfl rfl rfl (by simp [zG]) (by simp [zG]) (by decide) (by simp) (by simp) (fun ρ h1 h2 h3=>⟨1,Nat.le_refl _,by simp [SC.den,h1]⟩) (fun pr h=>h) (fun q hq=>by simp only [zG,zE] at hq; omega) rfl) (by simp [zG,zE]) (by simp) ?_
    (refine zA0 hctr (rs:=res65) true 300 _ _ _ ?_; simp (maxSteps:=1000000) only [VT,qE,qF,qG,qH,qJ,qP,q0t,qu,qv,ev,qy,zA,zB,zC,zD,zE,zG,zI,zJ,TE.sv,zM,↓reduceIte,reduceCtorEq,Value.oneCell',Nat.reduceEqDiff,Nat.reduceAdd,zP,zQ,zZ,za,zt,jN,hP,hk,res65,kp65,rqS,Rq.zero,zC2,reC])
    exact zW9 hC Nat.zero_lt_one rfl hres65 (r:=doR [{ Cd.zero with op:=3,key:=x,delta:=v,down:=false }] q) (more:=false) (used:=0) (by simp [zA7,hoff,zI1,hkb,hv]) (N:=2) (by simp [doR]) (by simp [doR]) (fun ρ=>rfl) rfl rfl (by decide)
 ·have c1:(decide ((2:Int)≤(n:Int)) && decide ((n:Int)≤2))=false:=by
   rw [Bool.and_eq_false_iff]; simp only [decide_eq_false_iff_not]; omega
  (refine zA0 hctr (rs:=res65) true 300 _ _ _ ?_; simp (maxSteps:=1000000) only [VT,qH,qI,qK,qO,ev,qw,qy,qz,zD,zE,zI,zJ,↓reduceIte,reduceCtorEq,Nat.reduceEqDiff,Nat.reduceLT,zP,zQ,zR,jN,hk,kp65,tC2,zB6,lnC,hoff,hnn,c1])
  exact zE8 hC hP hE rfl rfl (name:=[105,110,99,114]) (behind:=behind) (quiet:=q) rfl (by omega) (zC6 hC Nat.zero_lt_one rfl (f:=zA5) (by simp [zA7,hoff,hnn,hc]) rfl)
theorem plain_decr {w:World} {g:Nat} {a:Option Addr} {c:Nat} {ws:List (List UInt8)} {behind:List UInt8} (h:Ln w g [100,101,99,114] a ws.length c ws behind 0 false) (hn:ws.length≤100000) (hl:∀ x∈ws,x.length≤100000) (hE0:EnvG g w) :
  Calls Tryz.prog 65 #[.pointer (some ⟨g,0,none⟩)] w (MP F1 g w (zA7 [100,101,99,114] ws)):=by
 obtain ⟨w1,q,hoff⟩:∃ w1 q,zN5 ws=(w1,q):=⟨_,_,rfl⟩
 have hpre:=zM0 ws
 rw [hoff] at hpre
 simp only at hpre
 have hl1:∀ x∈w1,x.length≤9223372036854775807:=fun x hx=>by rw [hpre] at hx; have:=hl x (List.mem_of_mem_take hx); omega
 obtain ⟨n,hnn⟩:∃ n,w1.length=n:=⟨_,rfl⟩
 have hnc:n≤100000:=by have:=congrArg List.length hpre; rw [List.length_take] at this; omega
 refine zA1 Tryz.func65 rfl kp65 (S:=One g) (ρ:=fun _=>zD7 g) [.c (.p 0 0)] Tryz.ntmps65 (zO9 h.blk true (One g) (fun _=>rfl)) (by simp [SV.wf,SC.wf]) (by simp) ?_
 intro C hC hP hk
 have hLW:LW C g w:=zS9 hC Nat.zero_lt_one rfl
 have hE:zM6 C:=hE0.C hLW.S hLW.w0
 have hW0:∀ w',Upd C.S C.w0 w'→RawSV w' g a ws:=fun w' hu=>by rw [hLW.S,hLW.w0] at hu; exact h.raw.upd hu
 have hW:∀ w',Upd C.S C.w0 w'→RawSV w' g a w1:=fun w' hu=>(hW0 w' hu).pre hpre
 have hr:∀ (k:Nat) x,w1[k]?=some x→∃ b o,a=some ⟨b,o,none⟩∧C.rd b (o+k) 1=some [.s x]:=fun k x hx=>(h.raw.pre hpre).rd (D:=C) (by rw [hLW.S]; exact fun k hk=>hk) hLW.w0 hx
 have hctr:=zR9 hP hE hW hl1
 (refine zA0 hctr (rs:=res65) true 300 _ _ _ ?_; simp (maxSteps:=1000000) only [VT,jf,jg,qH,qI,qK,qO,qP,qQ,qR,qS,qV,ev,qw,qy,qz,zD,zF,zG,zI,zJ,zK,zM,↓reduceIte,reduceCtorEq,Nat.reduceEqDiff,Nat.reduceLT,Nat.reduceBEq,zP,zQ,zR,zV,zW,zt,zu,zw,zx,hP,hk,res65,kp65,tC2,tC1,zN6,lnC,lb1,lb4,u8b,UInt8.reduceToNat])
 refine zA6 rfl (.t []) _ (off_h (C:=C) hP hE (name:=[100,101,99,114]) (a:=a) (c:=c) (ws:=ws) (behind:=behind) (used:=0) (N:=0) rfl (by simp [zG]) h.cap (by omega) hLW.n0 hLW.r0 hW0 (fun q hq=>by simp only [zG,zE] at hq; omega) rfl) (by simp [zG,zE]) (by simp) ?_
 by_cases hc:n=2
 ·obtain ⟨x,y,rfl⟩:=two_of (hnn.trans hc)
  have c1:(decide ((2:Int)≤((2:Nat):Int)) && decide (((2:Nat):Int)≤2))=true:=rfl
  obtain ⟨b,o,rfl,hr0⟩:=hr 0 x rfl
  obtain ⟨_,_,he,hr1⟩:=hr 1 y rfl
  cases he
  have p0:(0:Int) < ((2:Nat):Int):=by decide
  have p1:(1:Int) < ((2:Nat):Int):=by decide
  have p2:(0:Int)≤1:=by decide
  have ly:y.length≤9223372036854775807:=hl1 y (by simp)
  cases hkb:zG3 x with
  | false =>
   (refine zA0 hctr (rs:=res65) true 300 _ _ _ ?_; simp (maxSteps:=1000000) only [VT,qH,qI,qK,qO,ev,qw,qy,qz,zD,zE,zI,zJ,↓reduceIte,reduceCtorEq,Nat.reduceEqDiff,Nat.reduceAdd,Nat.reduceLT,zP,zQ,zR,zT,zk,zl,zt,jN,hk,kp65,tC2,zB6,zJ1,lnC,hoff,Int.toNat_zero,c1,hkb])
   exact zO7 hC hP hE hW hl1 rfl rfl (name:=[100,101,99,114]) (behind:=behind) (quiet:=q) (i:=0) (x:=x) rfl (Int.le_refl _) p0 rfl hkb (zC6 hC Nat.zero_lt_one rfl (f:=zA2) (by simp [zA7,hoff,zI1,hkb]) rfl)
  | true =>
   cases hv:zB0 y with
   | none =>
    (refine zA0 hctr (rs:=res65) true 300 _ _ _ ?_; simp (maxSteps:=1000000) only [VT,qH,qI,qK,qO,qP,qQ,qV,qX,qh,ev,qw,qy,qz,zD,zE,zI,zJ,TE.sv,zM,↓reduceIte,reduceCtorEq,Nat.reduceEqDiff,Nat.reduceAdd,Nat.reduceLT,zP,zQ,zR,zT,zk,zl,zt,jN,hP,hk,kp65,tC2,tC1,zN6,zB6,zJ1,zD0,zF6,lnC,hoff,Int.toNat_zero,Int.toNat_one,Nat.mul_one,Int.le_refl,c1,hkb,p0,p1,p2,hr1,ly,hv,Option.getD_none,Option.isSome_none])
    exact zJ8 hC hP rfl rfl (zC6 hC Nat.zero_lt_one rfl (f:=f_delta) (by simp [zA7,hoff,zI1,hkb,hv]) rfl)
   | some v =>
    (refine zA0 hctr (rs:=res65) true 300 _ _ _ ?_; simp (maxSteps:=1000000) only [VT,qA,qB,qC,qD,qH,qI,qK,qO,qP,qQ,qR,qS,qV,qX,qf,qg,qh,q0t,ev,qw,qy,qz,zC,zD,zE,zF,zG,zI,zJ,TE.sv,zM,↓reduceIte,reduceCtorEq,Nat.reduceEqDiff,Nat.reduceAdd,Nat.reduceLT,Nat.reduceBEq,Nat.reduceLeDiff,zP,zQ,zR,zT,zk,zl,zt,zu,zx,jN,hP,hk,kp65,tC2,tC1,zN6,zB6,zJ1,zD0,zF6,lnC,hoff,Int.toNat_zero,Int.toNat_one,Nat.mul_one,Int.le_refl,Nat.reduceMul,lb1,lb4,u8b,UInt8.reduceToNat,c1,hkb,p0,p1,p2,hr1,ly,hv,Option.getD_some,Option.isSome_some])
    refine zA6 rfl _ _ (do_h (C:=C) (name:=[100,101,99,114]) (W:=.slice _ _ c) (behind:=behind) (used:=0) (quiet:=q) (mu:=true) (M:=0) (N:=2) (V:=.sl 2 0 1 1) (I:=whole) (cs:=[{ Cd.zero with op:=3,key:=x,delta:=v,down:=true }]) hP rfl rfl rfl (by simp [zG]) (by simp [zG]) (by decide) (by simp) (by simp) (fun ρ h1 h2 h3=>⟨1,Nat.le_refl _,by simp [SC.den,h1]⟩) (fun pr h=>h) (fun q hq=>by simp only [zG,zE] at hq; omega) rfl) (by simp [zG,zE]) (by simp) ?_
    (refine zA0 hctr (rs:=res65) true 300 _ _ _ ?_; simp (maxSteps:=1000000) only [VT,qE,qF,qG,qH,qJ,qP,q0t,qu,qv,ev,qy,zA,zB,zC,zD,zE,zG,zI,zJ,TE.sv,zM,↓reduceIte,reduceCtorEq,Value.oneCell',Nat.reduceEqDiff,Nat.reduceAdd,zP,zQ,zZ,za,zt,jN,hP,hk,res65,kp65,rqS,Rq.zero,zC2,reC])
    exact zW9 hC Nat.zero_lt_one rfl hres65 (r:=doR [{ Cd.zero with op:=3,key:=x,delta:=v,down:=true }] q) (more:=false) (used:=0) (by simp [zA7,hoff,zI1,hkb,hv]) (N:=2) (by simp [doR]) (by simp [doR]) (fun ρ=>rfl) rfl rfl (by decide)
 ·have c1:(decide ((2:Int)≤(n:Int)) && decide ((n:Int)≤2))=false:=by
   rw [Bool.and_eq_false_iff]; simp only [decide_eq_false_iff_not]; omega
  (refine zA0 hctr (rs:=res65) true 300 _ _ _ ?_; simp (maxSteps:=1000000) only [VT,qH,qI,qK,qO,ev,qw,qy,qz,zD,zE,zI,zJ,↓reduceIte,reduceCtorEq,Nat.reduceEqDiff,Nat.reduceLT,zP,zQ,zR,jN,hk,kp65,tC2,zB6,lnC,hoff,hnn,c1])
  exact zE8 hC hP hE rfl rfl (name:=[100,101,99,114]) (behind:=behind) (quiet:=q) rfl (by omega) (zC6 hC Nat.zero_lt_one rfl (f:=zA5) (by simp [zA7,hoff,hnn,hc]) rfl)
theorem plain_touch {w:World} {g:Nat} {a:Option Addr} {c:Nat} {ws:List (List UInt8)} {behind:List UInt8} (h:Ln w g [116,111,117,99,104] a ws.length c ws behind 0 false) (hn:ws.length≤100000) (hl:∀ x∈ws,x.length≤100000) (hE0:EnvG g w) :
  Calls Tryz.prog 65 #[.pointer (some ⟨g,0,none⟩)] w (MP F1 g w (zA7 [116,111,117,99,104] ws)):=by
 obtain ⟨w1,q,hoff⟩:∃ w1 q,zN5 ws=(w1,q):=⟨_,_,rfl⟩
 have hpre:=zM0 ws
 rw [hoff] at hpre
 simp only at hpre
 have hl1:∀ x∈w1,x.length≤9223372036854775807:=fun x hx=>by rw [hpre] at hx; have:=hl x (List.mem_of_mem_take hx); omega
 obtain ⟨n,hnn⟩:∃ n,w1.length=n:=⟨_,rfl⟩
 have hnc:n≤100000:=by have:=congrArg List.length hpre; rw [List.length_take] at this; omega
 refine zA1 Tryz.func65 rfl kp65 (S:=One g) (ρ:=fun _=>zD7 g) [.c (.p 0 0)] Tryz.ntmps65 (zO9 h.blk true (One g) (fun _=>rfl)) (by simp [SV.wf,SC.wf]) (by simp) ?_
 intro C hC hP hk
 have hLW:LW C g w:=zS9 hC Nat.zero_lt_one rfl
 have hE:zM6 C:=hE0.C hLW.S hLW.w0
 have hW0:∀ w',Upd C.S C.w0 w'→RawSV w' g a ws:=fun w' hu=>by rw [hLW.S,hLW.w0] at hu; exact h.raw.upd hu
 have hW:∀ w',Upd C.S C.w0 w'→RawSV w' g a w1:=fun w' hu=>(hW0 w' hu).pre hpre
 have hr:∀ (k:Nat) x,w1[k]?=some x→∃ b o,a=some ⟨b,o,none⟩∧C.rd b (o+k) 1=some [.s x]:=fun k x hx=>(h.raw.pre hpre).rd (D:=C) (by rw [hLW.S]; exact fun k hk=>hk) hLW.w0 hx
 have hctr:=zR9 hP hE hW hl1
 (refine zA0 hctr (rs:=res65) true 300 _ _ _ ?_; simp (maxSteps:=1000000) only [VT,jf,jg,qH,qI,qK,qO,qP,qQ,qR,qS,qV,ev,qw,qy,qz,zD,zF,zG,zI,zJ,zK,zM,↓reduceIte,reduceCtorEq,Nat.reduceEqDiff,Nat.reduceLT,Nat.reduceBEq,zP,zQ,zR,zV,zW,zt,zu,zw,zx,hP,hk,res65,kp65,tC2,tC1,zN6,lnC,lb1,lb2,lb4,u8b,UInt8.reduceToNat])
 refine zA6 rfl (.t []) _ (off_h (C:=C) hP hE (name:=[116,111,117,99,104]) (a:=a) (c:=c) (ws:=ws) (behind:=behind) (used:=0) (N:=0) rfl (by simp [zG]) h.cap (by omega) hLW.n0 hLW.r0 hW0 (fun q hq=>by simp only [zG,zE] at hq; omega) rfl) (by simp [zG,zE]) (by simp) ?_
 by_cases hc:n=2
 ·obtain ⟨x,y,rfl⟩:=two_of (hnn.trans hc)
  have c1:(decide ((2:Int)≤((2:Nat):Int)) && decide (((2:Nat):Int)≤2))=true:=rfl
  obtain ⟨b,o,rfl,hr0⟩:=hr 0 x rfl
  obtain ⟨_,_,he,hr1⟩:=hr 1 y rfl
  cases he
  have p0:(0:Int) < ((2:Nat):Int):=by decide
  have p1:(1:Int) < ((2:Nat):Int):=by decide
  have p2:(0:Int)≤1:=by decide
  cases hkb:zG3 x with
  | false =>
   (refine zA0 hctr (rs:=res65) true 300 _ _ _ ?_; simp (maxSteps:=1000000) only [VT,qH,qI,qK,qO,ev,qw,qy,qz,zD,zE,zI,zJ,↓reduceIte,reduceCtorEq,Nat.reduceEqDiff,Nat.reduceAdd,Nat.reduceLT,zP,zQ,zR,zT,zk,zl,zt,jN,hk,kp65,tC2,zB6,zJ1,lnC,hoff,Int.toNat_zero,c1,hkb])
   exact zO7 hC hP hE hW hl1 rfl rfl (name:=[116,111,117,99,104]) (behind:=behind) (quiet:=q) (i:=0) (x:=x) rfl (Int.le_refl _) p0 rfl hkb (zC6 hC Nat.zero_lt_one rfl (f:=zA2) (by simp [zA7,hoff,zI1,hkb]) rfl)
  | true =>
   cases hs:(zI2 y).2 with
   | false =>
    (refine zA0 hctr (rs:=res65) true 300 _ _ _ ?_; simp (maxSteps:=1000000) only [VT,qH,qI,qK,qO,ev,qw,qy,qz,zD,zE,zI,zJ,↓reduceIte,reduceCtorEq,Nat.reduceEqDiff,Nat.reduceAdd,Nat.reduceLT,zP,zQ,zR,zT,zk,zl,zt,jN,hk,kp65,tC2,zB6,zJ1,zS5,lnC,hoff,Int.toNat_zero,Int.toNat_one,Int.le_refl,c1,hkb,p0,hs])
    exact zV6 hC hP hE hW hl1 rfl rfl (name:=[116,111,117,99,104]) (behind:=behind) (quiet:=q) (i:=1) (x:=y) rfl p2 p1 rfl hs (zC6 hC Nat.zero_lt_one rfl (f:=zG9) (by simp [zA7,hoff,zI1,hkb,hs]) rfl)
   | true =>
    (refine zA0 hctr (rs:=res65) true 300 _ _ _ ?_; simp (maxSteps:=1000000) only [VT,qA,qB,qC,qD,qH,qI,qK,qO,qf,qg,q0t,ev,qw,qy,qz,zC,zD,zE,zF,zG,zI,zJ,zM,↓reduceIte,reduceCtorEq,Nat.reduceEqDiff,Nat.reduceAdd,Nat.reduceLT,Nat.reduceLeDiff,zP,zQ,zR,zT,zk,zl,zt,jN,hP,hk,kp65,tC2,tC1,zN6,zB6,zJ1,zS5,lnC,hoff,Int.toNat_zero,Int.toNat_one,Int.le_refl,Nat.reduceMul,c1,hkb,p0,p1,p2,hs])
    refine zA6 rfl _ _ (do_h (C:=C) (name:=[116,111,117,99,104]) (W:=.slice _ _ c) (behind:=behind) (used:=0) (quiet:=q) (mu:=true) (M:=0) (N:=2) (V:=.sl 2 0 1 1) (I:=whole) (cs:=[{ Cd.zero with op:=4,key:=x,exp:=(zI2 y).1 }]) hP rfl rfl rfl (by simp [zG]) (by simp [zG]) (by decide) (by simp) (by simp) (fun ρ h1 h2 h3=>⟨1,Nat.le_refl _,by simp [SC.den,h1]⟩) (fun pr h=>h) (fun q hq=>by simp only [zG,zE] at hq; omega) rfl) (by simp [zG,zE]) (by simp) ?_
    (refine zA0 hctr (rs:=res65) true 300 _ _ _ ?_; simp (maxSteps:=1000000) only [VT,qE,qF,qG,qH,qJ,qP,q0t,qu,qv,ev,qy,zA,zB,zC,zD,zE,zG,zI,zJ,TE.sv,zM,↓reduceIte,reduceCtorEq,Value.oneCell',Nat.reduceEqDiff,Nat.reduceAdd,zP,zQ,zZ,za,zt,jN,hP,hk,res65,kp65,rqS,Rq.zero,zC2,reC])
    exact zW9 hC Nat.zero_lt_one rfl hres65 (r:=doR [{ Cd.zero with op:=4,key:=x,exp:=(zI2 y).1 }] q) (more:=false) (used:=0) (by simp [zA7,hoff,zI1,hkb,hs]) (N:=2) (by simp [doR]) (by simp [doR]) (fun ρ=>rfl) rfl rfl (by decide)
 ·have c1:(decide ((2:Int)≤(n:Int)) && decide ((n:Int)≤2))=false:=by
   rw [Bool.and_eq_false_iff]; simp only [decide_eq_false_iff_not]; omega
  (refine zA0 hctr (rs:=res65) true 300 _ _ _ ?_; simp (maxSteps:=1000000) only [VT,qH,qI,qK,qO,ev,qw,qy,qz,zD,zE,zI,zJ,↓reduceIte,reduceCtorEq,Nat.reduceEqDiff,Nat.reduceLT,zP,zQ,zR,jN,hk,kp65,tC2,zB6,lnC,hoff,hnn,c1])
  exact zE8 hC hP hE rfl rfl (name:=[116,111,117,99,104]) (behind:=behind) (quiet:=q) rfl (by omega) (zC6 hC Nat.zero_lt_one rfl (f:=zA5) (by simp [zA7,hoff,hnn,hc]) rfl)
theorem plain_delete {w:World} {g:Nat} {a:Option Addr} {c:Nat} {ws:List (List UInt8)} {behind:List UInt8} (h:Ln w g [100,101,108,101,116,101] a ws.length c ws behind 0 false) (hn:ws.length≤100000) (hl:∀ x∈ws,x.length≤100000) (hE0:EnvG g w) :
  Calls Tryz.prog 65 #[.pointer (some ⟨g,0,none⟩)] w (MP F1 g w (zA7 [100,101,108,101,116,101] ws)):=by
 obtain ⟨w1,q,hoff⟩:∃ w1 q,zN5 ws=(w1,q):=⟨_,_,rfl⟩
 have hpre:=zM0 ws
 rw [hoff] at hpre
 simp only at hpre
 have hl1:∀ x∈w1,x.length≤9223372036854775807:=fun x hx=>by rw [hpre] at hx; have:=hl x (List.mem_of_mem_take hx); omega
 obtain ⟨n,hnn⟩:∃ n,w1.length=n:=⟨_,rfl⟩
 have hnc:n≤100000:=by have:=congrArg List.length hpre; rw [List.length_take] at this; omega
 refine zA1 Tryz.func65 rfl kp65 (S:=One g) (ρ:=fun _=>zD7 g) [.c (.p 0 0)] Tryz.ntmps65 (zO9 h.blk true (One g) (fun _=>rfl)) (by simp [SV.wf,SC.wf]) (by simp) ?_
 intro C hC hP hk
 have hLW:LW C g w:=zS9 hC Nat.zero_lt_one rfl
 have hE:zM6 C:=hE0.C hLW.S hLW.w0
 have hW0:∀ w',Upd C.S C.w0 w'→RawSV w' g a ws:=fun w' hu=>by rw [hLW.S,hLW.w0] at hu; exact h.raw.upd hu
 have hW:∀ w',Upd C.S C.w0 w'→RawSV w' g a w1:=fun w' hu=>(hW0 w' hu).pre hpre
 have hr:∀ (k:Nat) x,w1[k]?=some x→∃ b o,a=some ⟨b,o,none⟩∧C.rd b (o+k) 1=some [.s x]:=fun k x hx=>(h.raw.pre hpre).rd (D:=C) (by rw [hLW.S]; exact fun k hk=>hk) hLW.w0 hx
 have hctr:=zR9 hP hE hW hl1
 (refine zA0 hctr (rs:=res65) true 300 _ _ _ ?_; simp (maxSteps:=1000000) only [VT,jf,jg,qH,qI,qK,qO,qP,qQ,qR,qS,qV,ev,qw,qy,qz,zD,zF,zG,zI,zJ,zK,zM,↓reduceIte,reduceCtorEq,Nat.reduceEqDiff,Nat.reduceLT,Nat.reduceBEq,zP,zQ,zR,zV,zW,zt,zu,zw,zx,hP,hk,res65,kp65,tC2,tC1,zN6,lnC,lb1,lb2,lb4,u8b,UInt8.reduceToNat])
 refine zA6 rfl (.t []) _ (off_h (C:=C) hP hE (name:=[100,101,108,101,116,101]) (a:=a) (c:=c) (ws:=ws) (behind:=behind) (used:=0) (N:=0) rfl (by simp [zG]) h.cap (by omega) hLW.n0 hLW.r0 hW0 (fun q hq=>by simp only [zG,zE] at hq; omega) rfl) (by simp [zG,zE]) (by simp) ?_
 by_cases hc1:n=1
 ·obtain ⟨x,rfl⟩:=one_of' (hnn.trans hc1)
  have c1:(decide ((1:Int)≤((1:Nat):Int)) && decide (((1:Nat):Int)≤2))=true:=rfl
  obtain ⟨b,o,rfl,hr0⟩:=hr 0 x rfl
  have p0:(0:Int) < ((1:Nat):Int):=by decide
  have e1:((((1:Nat):Int)) == 1)=true:=rfl
  cases hkb:zG3 x with
  | false =>
   (refine zA0 hctr (rs:=res65) true 300 _ _ _ ?_; simp (maxSteps:=1000000) only [VT,qH,qI,qK,qO,ev,qw,qy,qz,zD,zE,zI,zJ,↓reduceIte,reduceCtorEq,Nat.reduceEqDiff,Nat.reduceLT,zP,zQ,zR,zT,zk,zl,zt,jN,hk,kp65,tC2,zB6,zJ1,lnC,hoff,Int.toNat_zero,c1,hkb])
   exact zO7 hC hP hE hW hl1 rfl rfl (name:=[100,101,108,101,116,101]) (behind:=behind) (quiet:=q) (i:=0) (x:=x) rfl (Int.le_refl _) p0 rfl hkb (zC6 hC Nat.zero_lt_one rfl (f:=zA2) (by simp [zA7,hoff,zI1,hkb]) rfl)
  | true =>
   (refine zA0 hctr (rs:=res65) true 300 _ _ _ ?_; simp (maxSteps:=1000000) only [VT,jf,aA,qA,qB,qC,qD,qH,qI,qK,qN,qO,qP,qQ,qR,qS,qV,qe,qf,qg,qp,q0t,ev,qw,qy,qz,zC,zD,zE,zF,zG,zI,zJ,zM,↓reduceIte,reduceCtorEq,Value.oneCell',Nat.reduceEqDiff,Nat.reduceAdd,Nat.reduceLT,Nat.reduceLeDiff,zP,zQ,zR,zT,zV,zk,zl,zt,jN,hP,hk,res65,kp65,tC2,tC1,zN6,zB6,zJ1,zD0,lnC,hoff,Int.toNat_zero,Int.le_refl,Nat.reduceMul,c1,hkb,p0,e1])
   refine zA6 rfl _ _ (do_h (C:=C) (name:=[100,101,108,101,116,101]) (W:=.slice _ _ c) (behind:=behind) (used:=0) (quiet:=q) (mu:=true) (M:=0) (N:=2) (V:=.sl 2 0 1 1) (I:=whole) (cs:=[{ Cd.zero with op:=5,key:=x }]) hP rfl rfl rfl (by simp [zG]) (by simp [zG]) (by decide) (by simp) (by simp) (fun ρ h1 h2 h3=>⟨1,Nat.le_refl _,by simp [SC.den,h1]⟩) (fun pr h=>h) (fun q hq=>by simp only [zG,zE] at hq; omega) rfl) (by simp [zG,zE]) (by simp) ?_
   (refine zA0 hctr (rs:=res65) true 300 _ _ _ ?_; simp (maxSteps:=1000000) only [VT,qE,qF,qG,qH,qJ,qP,q0t,qu,qv,ev,qy,zA,zB,zC,zD,zE,zG,zI,zJ,TE.sv,zM,↓reduceIte,reduceCtorEq,Value.oneCell',Nat.reduceEqDiff,Nat.reduceAdd,zP,zQ,zZ,za,zt,jN,hP,hk,res65,kp65,rqS,Rq.zero,zC2,reC])
   exact zW9 hC Nat.zero_lt_one rfl hres65 (r:=doR [{ Cd.zero with op:=5,key:=x }] q) (more:=false) (used:=0) (by simp [zA7,hoff,zI1,hkb]) (N:=2) (by simp [doR]) (by simp [doR]) (fun ρ=>rfl) rfl rfl (by decide)
 by_cases hc2:n=2
 ·obtain ⟨x,y,rfl⟩:=two_of (hnn.trans hc2)
  have c1:(decide ((1:Int)≤((2:Nat):Int)) && decide (((2:Nat):Int)≤2))=true:=rfl
  obtain ⟨b,o,rfl,hr0⟩:=hr 0 x rfl
  have p0:(0:Int) < ((2:Nat):Int):=by decide
  obtain ⟨_,_,he,hr1⟩:=hr 1 y rfl
  cases he
  have p1:(1:Int) < ((2:Nat):Int):=by decide
  have p2:(0:Int)≤1:=by decide
  have e1:((((2:Nat):Int)) == 1)=false:=rfl
  cases hkb:zG3 x with
  | false =>
   (refine zA0 hctr (rs:=res65) true 300 _ _ _ ?_; simp (maxSteps:=1000000) only [VT,qH,qI,qK,qO,ev,qw,qy,qz,zD,zE,zI,zJ,↓reduceIte,reduceCtorEq,Nat.reduceEqDiff,Nat.reduceAdd,Nat.reduceLT,zP,zQ,zR,zT,zk,zl,zt,jN,hk,kp65,tC2,zB6,zJ1,lnC,hoff,Int.toNat_zero,c1,hkb])
   exact zO7 hC hP hE hW hl1 rfl rfl (name:=[100,101,108,101,116,101]) (behind:=behind) (quiet:=q) (i:=0) (x:=x) rfl (Int.le_refl _) p0 rfl hkb (zC6 hC Nat.zero_lt_one rfl (f:=zA2) (by simp [zA7,hoff,zI1,hkb]) rfl)
  | true =>
   cases hz:(y == [48]) with
   | false =>
    have hz':¬ y=[48]:=by simpa using hz
    (refine zA0 hctr (rs:=res65) true 300 _ _ _ ?_; simp (maxSteps:=1000000) only [VT,jg,jZ,qA,qB,qC,qD,qH,qI,qK,qN,qO,qP,qQ,qR,qS,qV,qX,qe,qf,qg,qp,q0t,ev,qw,qy,qz,zC,zD,zE,zG,zI,zJ,zM,↓reduceIte,reduceCtorEq,Value.oneCell',Nat.reduceEqDiff,Nat.reduceAdd,Nat.reduceLT,Nat.reduceLeDiff,zP,zQ,zR,zT,zW,zk,zl,zt,jN,hP,hk,res65,kp65,tC2,tC1,zN6,zB6,zJ1,zD0,lnC,hoff,Int.toNat_zero,Int.toNat_one,Nat.mul_one,Int.le_refl,Nat.reduceMul,c1,hkb,p0,p1,p2,hr1,e1,hz])
    exact zJ8 hC hP rfl rfl (zC6 hC Nat.zero_lt_one rfl (f:=zA2) (by simp [zA7,hoff,zI1,hkb,hz']) rfl)
   | true =>
    have hz':y=[48]:=by simpa using hz
    (refine zA0 hctr (rs:=res65) true 300 _ _ _ ?_; simp (maxSteps:=1000000) only [VT,jg,jZ,qA,qB,qC,qD,qH,qI,qK,qN,qO,qP,qQ,qR,qS,qV,qX,qe,qf,qg,qp,q0t,ev,qw,qy,qz,zC,zD,zE,zF,zG,zI,zJ,zM,↓reduceIte,reduceCtorEq,Value.oneCell',Nat.reduceEqDiff,Nat.reduceAdd,Nat.reduceLT,Nat.reduceLeDiff,zP,zQ,zR,zT,zW,zk,zl,zt,jN,hP,hk,res65,kp65,tC2,tC1,zN6,zB6,zJ1,zD0,lnC,hoff,Int.toNat_zero,Int.toNat_one,Nat.mul_one,Int.le_refl,Nat.reduceMul,c1,hkb,p0,p1,p2,hr1,e1,hz])
    refine zA6 rfl _ _ (do_h (C:=C) (name:=[100,101,108,101,116,101]) (W:=.slice _ _ c) (behind:=behind) (used:=0) (quiet:=q) (mu:=true) (M:=0) (N:=2) (V:=.sl 2 0 1 1) (I:=whole) (cs:=[{ Cd.zero with op:=5,key:=x }]) hP rfl rfl rfl (by simp [zG]) (by simp [zG]) (by decide) (by simp) (by simp) (fun ρ h1 h2 h3=>⟨1,Nat.le_refl _,by simp [SC.den,h1]⟩) (fun pr h=>h) (fun q hq=>by simp only [zG,zE] at hq; omega) rfl) (by simp [zG,zE]) (by simp) ?_
    (refine zA0 hctr (rs:=res65) true 300 _ _ _ ?_; simp (maxSteps:=1000000) only [VT,qE,qF,qG,qH,qJ,qP,q0t,qu,qv,ev,qy,zA,zB,zC,zD,zE,zG,zI,zJ,TE.sv,zM,↓reduceIte,reduceCtorEq,Value.oneCell',Nat.reduceEqDiff,Nat.reduceAdd,zP,zQ,zZ,za,zt,jN,hP,hk,res65,kp65,rqS,Rq.zero,zC2,reC])
    exact zW9 hC Nat.zero_lt_one rfl hres65 (r:=doR [{ Cd.zero with op:=5,key:=x }] q) (more:=false) (used:=0) (by simp [zA7,hoff,zI1,hkb,hz']) (N:=2) (by simp [doR]) (by simp [doR]) (fun ρ=>rfl) rfl rfl (by decide)
 ·have hc3:n=0∨2 < n:=by omega
  have c1:(decide ((1:Int)≤(n:Int)) && decide ((n:Int)≤2))=false:=by
   rw [Bool.and_eq_false_iff]; simp only [decide_eq_false_iff_not]; omega
  (refine zA0 hctr (rs:=res65) true 300 _ _ _ ?_; simp (maxSteps:=1000000) only [VT,qH,qI,qK,qO,ev,qw,qy,qz,zD,zE,zI,zJ,↓reduceIte,reduceCtorEq,Nat.reduceEqDiff,Nat.reduceLT,zP,zQ,zR,jN,hk,kp65,tC2,zB6,lnC,hoff,hnn,c1])
  exact zE8 hC hP hE rfl rfl (name:=[100,101,108,101,116,101]) (behind:=behind) (quiet:=q) rfl (by omega) (zC6 hC Nat.zero_lt_one rfl (f:=zA5) (by simp [zA7,hoff,hnn,hc3]) rfl)
theorem plain_flush_all {w:World} {g:Nat} {a:Option Addr} {c:Nat} {ws:List (List UInt8)} {behind:List UInt8} (h:Ln w g [102,108,117,115,104,95,97,108,108] a ws.length c ws behind 0 false) (hn:ws.length≤100000) (hl:∀ x∈ws,x.length≤100000) (hE0:EnvG g w) :
  Calls Tryz.prog 65 #[.pointer (some ⟨g,0,none⟩)] w (MP F1 g w (zA7 [102,108,117,115,104,95,97,108,108] ws)):=by
 obtain ⟨w1,q,hoff⟩:∃ w1 q,zN5 ws=(w1,q):=⟨_,_,rfl⟩
 have hpre:=zM0 ws
 rw [hoff] at hpre
 simp only at hpre
 have hl1:∀ x∈w1,x.length≤9223372036854775807:=fun x hx=>by rw [hpre] at hx; have:=hl x (List.mem_of_mem_take hx); omega
 obtain ⟨n,hnn⟩:∃ n,w1.length=n:=⟨_,rfl⟩
 have hnc:n≤100000:=by have:=congrArg List.length hpre; rw [List.length_take] at this; omega
 refine zA1 Tryz.func65 rfl kp65 (S:=One g) (ρ:=fun _=>zD7 g) [.c (.p 0 0)] Tryz.ntmps65 (zO9 h.blk true (One g) (fun _=>rfl)) (by simp [SV.wf,SC.wf]) (by simp) ?_
 intro C hC hP hk
 have hLW:LW C g w:=zS9 hC Nat.zero_lt_one rfl
 have hE:zM6 C:=hE0.C hLW.S hLW.w0
 have hW0:∀ w',Upd C.S C.w0 w'→RawSV w' g a ws:=fun w' hu=>by rw [hLW.S,hLW.w0] at hu; exact h.raw.upd hu
 have hW:∀ w',Upd C.S C.w0 w'→RawSV w' g a w1:=fun w' hu=>(hW0 w' hu).pre hpre
 have hr:∀ (k:Nat) x,w1[k]?=some x→∃ b o,a=some ⟨b,o,none⟩∧C.rd b (o+k) 1=some [.s x]:=fun k x hx=>(h.raw.pre hpre).rd (D:=C) (by rw [hLW.S]; exact fun k hk=>hk) hLW.w0 hx
 have hctr:=zR9 hP hE hW hl1
 (refine zA0 hctr (rs:=res65) true 300 _ _ _ ?_; simp (maxSteps:=1000000) only [VT,jf,jg,qH,qI,qK,qO,qP,qQ,qR,qS,qV,ev,qw,qy,qz,zD,zF,zG,zI,zJ,zK,zM,↓reduceIte,reduceCtorEq,Nat.reduceEqDiff,Nat.reduceLT,Nat.reduceBEq,zP,zQ,zR,zV,zW,zt,zu,zw,zx,hP,hk,res65,kp65,tC2,tC1,zN6,lnC,lb1,lb2,lb4,u8b,UInt8.reduceToNat])
 refine zA6 rfl (.t []) _ (off_h (C:=C) hP hE (name:=[102,108,117,115,104,95,97,108,108]) (a:=a) (c:=c) (ws:=ws) (behind:=behind) (used:=0) (N:=0) rfl (by simp [zG]) h.cap (by omega) hLW.n0 hLW.r0 hW0 (fun q hq=>by simp only [zG,zE] at hq; omega) rfl) (by simp [zG,zE]) (by simp) ?_
 by_cases hc0:n=0
 ·obtain rfl:w1=[]:=List.eq_nil_of_length_eq_zero (hnn.trans hc0)
  have c1:(decide ((0:Int)≤((0:Nat):Int)) && decide (((0:Nat):Int)≤1))=true:=rfl
  have e1:((((0:Nat):Int)) == 1)=false:=rfl
  (refine zA0 hctr (rs:=res65) true 300 _ _ _ ?_; simp (maxSteps:=1000000) only [VT,jg,qA,qB,qC,qD,qH,qI,qJ,qK,qN,qO,qP,qQ,qR,qS,qV,qe,qf,qg,q0t,qu,qv,ev,qw,qy,qz,zA,zB,zC,zD,zE,zF,zG,zI,zJ,zM,↓reduceIte,reduceCtorEq,Nat.reduceEqDiff,Nat.reduceAdd,Nat.reduceLT,Nat.reduceLeDiff,zP,zQ,zR,zT,zW,zk,zl,zt,jN,hP,hk,res65,kp65,tC2,tC1,zN6,zB6,lnC,hoff,Nat.reduceMul,c1,e1])
  refine zA6 rfl _ _ (do_h (C:=C) (name:=[102,108,117,115,104,95,97,108,108]) (W:=.slice _ _ c) (behind:=behind) (used:=0) (quiet:=q) (mu:=true) (M:=0) (N:=3) (V:=.sl 3 0 1 1) (I:=whole) (cs:=[{ Cd.zero with op:=6 }]) hP rfl rfl rfl (by simp [zG]) (by simp [zG]) (by decide) (by simp) (by simp) (fun ρ h1 h2 h3=>⟨1,Nat.le_refl _,by simp [SC.den,h1]⟩) (fun pr h=>h) (fun q hq=>by simp only [zG,zE] at hq; omega) rfl) (by simp [zG,zE]) (by simp) ?_
  (refine zA0 hctr (rs:=res65) true 300 _ _ _ ?_; simp (maxSteps:=1000000) only [VT,qE,qF,qG,qH,qJ,qP,q0t,qu,qv,ev,qy,zA,zB,zC,zD,zE,zG,zI,zJ,TE.sv,zM,↓reduceIte,reduceCtorEq,Value.oneCell',Nat.reduceEqDiff,Nat.reduceAdd,zP,zQ,zZ,za,zt,jN,hP,hk,res65,kp65,rqS,Rq.zero,zC2,reC])
  exact zW9 hC Nat.zero_lt_one rfl hres65 (r:=doR [{ Cd.zero with op:=6 }] q) (more:=false) (used:=0) (by simp [zA7,hoff]) (N:=3) (by simp [doR]) (by simp [doR]) (fun ρ=>rfl) rfl rfl (by decide)
 by_cases hc1:n=1
 ·obtain ⟨x,rfl⟩:=one_of' (hnn.trans hc1)
  have c1:(decide ((0:Int)≤((1:Nat):Int)) && decide (((1:Nat):Int)≤1))=true:=rfl
  have e1:((((1:Nat):Int)) == 1)=true:=rfl
  obtain ⟨b,o,rfl,hr0⟩:=hr 0 x rfl
  have p0:(0:Int) < ((1:Nat):Int):=by decide
  cases hs:(zI2 x).2 with
  | false =>
   (refine zA0 hctr (rs:=res65) true 300 _ _ _ ?_; simp (maxSteps:=1000000) only [VT,jf,qH,qI,qJ,qK,qN,qO,qP,qQ,qR,qS,qV,qe,qf,qg,q0t,qu,qv,ev,qw,qy,qz,zC,zD,zE,zF,zG,zI,zJ,zM,↓reduceIte,reduceCtorEq,Nat.reduceEqDiff,Nat.reduceAdd,Nat.reduceLT,zP,zQ,zR,zT,zV,zk,zl,zt,jN,hP,hk,res65,kp65,tC2,zB6,zS5,lnC,hoff,Int.toNat_zero,c1,e1,hs])
   exact zV6 hC hP hE hW hl1 rfl rfl (name:=[102,108,117,115,104,95,97,108,108]) (behind:=behind) (quiet:=q) (i:=0) (x:=x) rfl (Int.le_refl _) p0 rfl hs (zC6 hC Nat.zero_lt_one rfl (f:=zG9) (by simp [zA7,hoff,hs]) rfl)
  | true =>
   (refine zA0 hctr (rs:=res65) true 300 _ _ _ ?_; simp (maxSteps:=1000000) only [VT,jf,qA,qB,qC,qD,qH,qI,qJ,qK,qN,qO,qP,qQ,qR,qS,qV,qe,qf,qg,q0t,qu,qv,ev,qw,qy,qz,zA,zB,zC,zD,zE,zF,zG,zI,zJ,zM,↓reduceIte,reduceCtorEq,Nat.reduceEqDiff,Nat.reduceAdd,Nat.reduceLT,Nat.reduceLeDiff,zP,zQ,zR,zT,zV,zk,zl,zt,jN,hP,hk,res65,kp65,tC2,tC1,zN6,zB6,zS5,lnC,hoff,Int.toNat_zero,Int.le_refl,Nat.reduceMul,c1,e1,p0,hs])
   refine zA6 rfl _ _ (do_h (C:=C) (name:=[102,108,117,115,104,95,97,108,108]) (W:=.slice _ _ c) (behind:=behind) (used:=0) (quiet:=q) (mu:=true) (M:=0) (N:=3) (V:=.sl 3 0 1 1) (I:=whole) (cs:=[{ Cd.zero with op:=6,exp:=(zI2 x).1 }]) hP rfl rfl rfl (by simp [zG]) (by simp [zG]) (by decide) (by simp) (by simp) (fun ρ h1 h2 h3=>⟨1,Nat.le_refl _,by simp [SC.den,h1]⟩) (fun pr h=>h) (fun q hq=>by simp only [zG,zE] at hq; omega) rfl) (by simp [zG,zE]) (by simp) ?_
   (refine zA0 hctr (rs:=res65) true 300 _ _ _ ?_; simp (maxSteps:=1000000) only [VT,qE,qF,qG,qH,qJ,qP,q0t,qu,qv,ev,qy,zA,zB,zC,zD,zE,zG,zI,zJ,TE.sv,zM,↓reduceIte,reduceCtorEq,Value.oneCell',Nat.reduceEqDiff,Nat.reduceAdd,zP,zQ,zZ,za,zt,jN,hP,hk,res65,kp65,rqS,Rq.zero,zC2,reC])
   exact zW9 hC Nat.zero_lt_one rfl hres65 (r:=doR [{ Cd.zero with op:=6,exp:=(zI2 x).1 }] q) (more:=false) (used:=0) (by simp [zA7,hoff,hs]) (N:=3) (by simp [doR]) (by simp [doR]) (fun ρ=>rfl) rfl rfl (by decide)
 ·have hc:1 < n:=by omega
  have c1:(decide ((0:Int)≤(n:Int)) && decide ((n:Int)≤1))=false:=by
   rw [Bool.and_eq_false_iff]; simp only [decide_eq_false_iff_not]; omega
  (refine zA0 hctr (rs:=res65) true 300 _ _ _ ?_; simp (maxSteps:=1000000) only [VT,qH,qI,qK,qO,ev,qw,qy,qz,zD,zE,zI,zJ,↓reduceIte,reduceCtorEq,Nat.reduceEqDiff,Nat.reduceLT,zP,zQ,zR,jN,hk,kp65,tC2,zB6,lnC,hoff,hnn,c1])
  exact zE8 hC hP hE rfl rfl (name:=[102,108,117,115,104,95,97,108,108]) (behind:=behind) (quiet:=q) rfl (by omega) (zC6 hC Nat.zero_lt_one rfl (f:=zA5) (by simp [zA7,hoff,hnn,hc]) rfl)
theorem plain_verbosity {w:World} {g:Nat} {a:Option Addr} {c:Nat} {ws:List (List UInt8)} {behind:List UInt8} (h:Ln w g [118,101,114,98,111,115,105,116,121] a ws.length c ws behind 0 false) (hn:ws.length≤100000) (hl:∀ x∈ws,x.length≤100000) (hE0:EnvG g w) :
  Calls Tryz.prog 65 #[.pointer (some ⟨g,0,none⟩)] w (MP F1 g w (zA7 [118,101,114,98,111,115,105,116,121] ws)):=by
 obtain ⟨w1,q,hoff⟩:∃ w1 q,zN5 ws=(w1,q):=⟨_,_,rfl⟩
 have hpre:=zM0 ws
 rw [hoff] at hpre
 simp only at hpre
 have hl1:∀ x∈w1,x.length≤9223372036854775807:=fun x hx=>by rw [hpre] at hx; have:=hl x (List.mem_of_mem_take hx); omega
 obtain ⟨n,hnn⟩:∃ n,w1.length=n:=⟨_,rfl⟩
 have hnc:n≤100000:=by have:=congrArg List.length hpre; rw [List.length_take] at this; omega
 refine zA1 Tryz.func65 rfl kp65 (S:=One g) (ρ:=fun _=>zD7 g) [.c (.p 0 0)] Tryz.ntmps65 (zO9 h.blk true (One g) (fun _=>rfl)) (by simp [SV.wf,SC.wf]) (by simp) ?_
 intro C hC hP hk
 have hLW:LW C g w:=zS9 hC Nat.zero_lt_one rfl
 have hE:zM6 C:=hE0.C hLW.S hLW.w0
 have hW0:∀ w',Upd C.S C.w0 w'→RawSV w' g a ws:=fun w' hu=>by rw [hLW.S,hLW.w0] at hu; exact h.raw.upd hu
 have hW:∀ w',Upd C.S C.w0 w'→RawSV w' g a w1:=fun w' hu=>(hW0 w' hu).pre hpre
 have hr:∀ (k:Nat) x,w1[k]?=some x→∃ b o,a=some ⟨b,o,none⟩∧C.rd b (o+k) 1=some [.s x]:=fun k x hx=>(h.raw.pre hpre).rd (D:=C) (by rw [hLW.S]; exact fun k hk=>hk) hLW.w0 hx
 have hctr:=zR9 hP hE hW hl1
 (refine zA0 hctr (rs:=res65) true 300 _ _ _ ?_; simp (maxSteps:=1000000) only [VT,jf,jg,qH,qI,qK,qO,qP,qQ,qR,qS,qV,ev,qw,qy,qz,zD,zF,zG,zI,zJ,zK,zM,↓reduceIte,reduceCtorEq,Nat.reduceEqDiff,Nat.reduceLT,Nat.reduceBEq,zP,zQ,zR,zV,zW,zt,zu,zw,zx,hP,hk,res65,kp65,tC2,tC1,zN6,lnC,lb1,lb2,lb4,u8b,UInt8.reduceToNat])
 refine zA6 rfl (.t []) _ (off_h (C:=C) hP hE (name:=[118,101,114,98,111,115,105,116,121]) (a:=a) (c:=c) (ws:=ws) (behind:=behind) (used:=0) (N:=0) rfl (by simp [zG]) h.cap (by omega) hLW.n0 hLW.r0 hW0 (fun q hq=>by simp only [zG,zE] at hq; omega) rfl) (by simp [zG,zE]) (by simp) ?_
 by_cases hc:n=1
 ·obtain ⟨x,rfl⟩:=one_of' (hnn.trans hc)
  have c1:(decide ((1:Int)≤((1:Nat):Int)) && decide (((1:Nat):Int)≤1))=true:=rfl
  (refine zA0 hctr (rs:=res65) true 300 _ _ _ ?_; simp (maxSteps:=1000000) only [VT,qE,qF,qG,qH,qI,qJ,qK,qO,qP,qQ,qV,qf,qg,q0t,qu,qv,ev,qw,qy,qz,zA,zB,zC,zD,zE,zG,zI,zJ,TE.sv,zM,↓reduceIte,reduceCtorEq,Value.oneCell',Nat.reduceEqDiff,Nat.reduceAdd,Nat.reduceLT,zP,zQ,zR,zT,zk,zl,zt,jN,hP,hk,res65,kp65,tC2,zB6,lnC,hoff,c1])
  exact zE3 hC Nat.zero_lt_one rfl hres65 (r:={ Rq.zero with kind:=4,quiet:=q }) (more:=false) (used:=0) (by simp [zA7,hoff]) rfl (fun ρ=>rfl) rfl
 ·have c1:(decide ((1:Int)≤(n:Int)) && decide ((n:Int)≤1))=false:=by
   rw [Bool.and_eq_false_iff]; simp only [decide_eq_false_iff_not]; omega
  (refine zA0 hctr (rs:=res65) true 300 _ _ _ ?_; simp (maxSteps:=1000000) only [VT,qH,qI,qK,qO,ev,qw,qy,qz,zD,zE,zI,zJ,↓reduceIte,reduceCtorEq,Nat.reduceEqDiff,Nat.reduceLT,zP,zQ,zR,jN,hk,kp65,tC2,zB6,lnC,hoff,hnn,c1])
  exact zE8 hC hP hE rfl rfl (name:=[118,101,114,98,111,115,105,116,121]) (behind:=behind) (quiet:=q) rfl (by omega) (zC6 hC Nat.zero_lt_one rfl (f:=zA5) (by simp [zA7,hoff,hnn,hc]) rfl)
theorem plain_version {w:World} {g:Nat} {a:Option Addr} {c:Nat} {ws:List (List UInt8)} {behind:List UInt8} (h:Ln w g [118,101,114,115,105,111,110] a ws.length c ws behind 0 false) (hn:ws.length≤100000) (hl:∀ x∈ws,x.length≤100000) (hE0:EnvG g w) :
  Calls Tryz.prog 65 #[.pointer (some ⟨g,0,none⟩)] w (MP F1 g w (zA7 [118,101,114,115,105,111,110] ws)):=by
 obtain ⟨w1,q,hoff⟩:∃ w1 q,zN5 ws=(w1,q):=⟨_,_,rfl⟩
 have hpre:=zM0 ws
 rw [hoff] at hpre
 simp only at hpre
 have hl1:∀ x∈w1,x.length≤9223372036854775807:=fun x hx=>by rw [hpre] at hx; have:=hl x (List.mem_of_mem_take hx); omega
 obtain ⟨n,hnn⟩:∃ n,w1.length=n:=⟨_,rfl⟩
 have hnc:n≤100000:=by have:=congrArg List.length hpre; rw [List.length_take] at this; omega
 refine zA1 Tryz.func65 rfl kp65 (S:=One g) (ρ:=fun _=>zD7 g) [.c (.p 0 0)] Tryz.ntmps65 (zO9 h.blk true (One g) (fun _=>rfl)) (by simp [SV.wf,SC.wf]) (by simp) ?_
 intro C hC hP hk
 have hLW:LW C g w:=zS9 hC Nat.zero_lt_one rfl
 have hE:zM6 C:=hE0.C hLW.S hLW.w0
 have hW0:∀ w',Upd C.S C.w0 w'→RawSV w' g a ws:=fun w' hu=>by rw [hLW.S,hLW.w0] at hu; exact h.raw.upd hu
 have hW:∀ w',Upd C.S C.w0 w'→RawSV w' g a w1:=fun w' hu=>(hW0 w' hu).pre hpre
 have hr:∀ (k:Nat) x,w1[k]?=some x→∃ b o,a=some ⟨b,o,none⟩∧C.rd b (o+k) 1=some [.s x]:=fun k x hx=>(h.raw.pre hpre).rd (D:=C) (by rw [hLW.S]; exact fun k hk=>hk) hLW.w0 hx
 have hctr:=zR9 hP hE hW hl1
 obtain ⟨m,hm⟩:∃ m,ws.length=m:=⟨_,rfl⟩
 by_cases hc:m=0
 ·obtain rfl:ws=[]:=List.eq_nil_of_length_eq_zero (hm.trans hc)
  have c1:(decide ((0:Int)≤((0:Nat):Int)) && decide (((0:Nat):Int)≤0))=true:=rfl
  (refine zA0 hctr (rs:=res65) true 300 _ _ _ ?_; simp (maxSteps:=1000000) only [VT,jf,jg,qE,qF,qG,qH,qI,qJ,qK,qO,qP,qQ,qR,qS,qV,qf,qg,q0t,qu,qv,ev,qw,qy,qz,zA,zB,zC,zD,zE,zF,zG,zI,zJ,TE.sv,zK,zM,↓reduceIte,reduceCtorEq,Value.oneCell',Nat.reduceEqDiff,Nat.reduceAdd,Nat.reduceLT,Nat.reduceBEq,zP,zQ,zR,zT,zV,zW,zl,zt,zu,zw,zx,hP,hk,res65,kp65,tC2,zB6,lnC,lb1,lb2,lb3,lb4,u8b,UInt8.reduceToNat,c1])
  exact zE3 hC Nat.zero_lt_one rfl hres65 (r:={ Rq.zero with kind:=3 }) (more:=false) (used:=0) (by simp [zA7]) rfl (fun ρ=>rfl) rfl
 ·have c1:(decide ((0:Int)≤(m:Int)) && decide ((m:Int)≤0))=false:=by
   rw [Bool.and_eq_false_iff]; simp only [decide_eq_false_iff_not]; omega
  have hne:¬ ws=[]:=fun e=>hc (by rw [← hm,e]; rfl)
  (refine zA0 hctr (rs:=res65) true 300 _ _ _ ?_; simp (maxSteps:=1000000) only [VT,jf,jg,qH,qI,qK,qO,qP,qQ,qR,qS,qV,ev,qw,qy,qz,zD,zF,zG,zI,zJ,zK,zM,↓reduceIte,reduceCtorEq,Nat.reduceEqDiff,Nat.reduceLT,Nat.reduceBEq,zP,zQ,zR,zV,zW,zt,zu,zw,zx,hP,hk,res65,kp65,tC2,zB6,lnC,lb1,lb2,lb3,lb4,u8b,UInt8.reduceToNat,hm,c1])
  exact zE8 hC hP hE rfl rfl (name:=[118,101,114,115,105,111,110]) (behind:=behind) (quiet:=false) rfl (by omega) (zC6 hC Nat.zero_lt_one rfl (f:=zA5) (by simp [zA7,hne]) rfl)
theorem plain_quit {w:World} {g:Nat} {a:Option Addr} {c:Nat} {ws:List (List UInt8)} {behind:List UInt8} (h:Ln w g [113,117,105,116] a ws.length c ws behind 0 false) (hn:ws.length≤100000) (hl:∀ x∈ws,x.length≤100000) (hE0:EnvG g w) :
  Calls Tryz.prog 65 #[.pointer (some ⟨g,0,none⟩)] w (MP F1 g w (zA7 [113,117,105,116] ws)):=by
 obtain ⟨w1,q,hoff⟩:∃ w1 q,zN5 ws=(w1,q):=⟨_,_,rfl⟩
 have hpre:=zM0 ws
 rw [hoff] at hpre
 simp only at hpre
 have hl1:∀ x∈w1,x.length≤9223372036854775807:=fun x hx=>by rw [hpre] at hx; have:=hl x (List.mem_of_mem_take hx); omega
 obtain ⟨n,hnn⟩:∃ n,w1.length=n:=⟨_,rfl⟩
 have hnc:n≤100000:=by have:=congrArg List.length hpre; rw [List.length_take] at this; omega
 refine zA1 Tryz.func65 rfl kp65 (S:=One g) (ρ:=fun _=>zD7 g) [.c (.p 0 0)] Tryz.ntmps65 (zO9 h.blk true (One g) (fun _=>rfl)) (by simp [SV.wf,SC.wf]) (by simp) ?_
 intro C hC hP hk
 have hLW:LW C g w:=zS9 hC Nat.zero_lt_one rfl
 have hE:zM6 C:=hE0.C hLW.S hLW.w0
 have hW0:∀ w',Upd C.S C.w0 w'→RawSV w' g a ws:=fun w' hu=>by rw [hLW.S,hLW.w0] at hu; exact h.raw.upd hu
 have hW:∀ w',Upd C.S C.w0 w'→RawSV w' g a w1:=fun w' hu=>(hW0 w' hu).pre hpre
 have hr:∀ (k:Nat) x,w1[k]?=some x→∃ b o,a=some ⟨b,o,none⟩∧C.rd b (o+k) 1=some [.s x]:=fun k x hx=>(h.raw.pre hpre).rd (D:=C) (by rw [hLW.S]; exact fun k hk=>hk) hLW.w0 hx
 have hctr:=zR9 hP hE hW hl1
 obtain ⟨m,hm⟩:∃ m,ws.length=m:=⟨_,rfl⟩
 by_cases hc:m=0
 ·obtain rfl:ws=[]:=List.eq_nil_of_length_eq_zero (hm.trans hc)
  have c1:(decide ((0:Int)≤((0:Nat):Int)) && decide (((0:Nat):Int)≤0))=true:=rfl
  (refine zA0 hctr (rs:=res65) true 300 _ _ _ ?_; simp (maxSteps:=1000000) only [VT,jf,jg,qE,qF,qG,qH,qI,qJ,qK,qO,qP,qQ,qR,qS,qV,qf,qg,q0t,qu,qv,ev,qw,qy,qz,zA,zB,zC,zD,zE,zF,zG,zI,zJ,TE.sv,zK,zM,↓reduceIte,reduceCtorEq,Value.oneCell',Nat.reduceEqDiff,Nat.reduceAdd,Nat.reduceLT,Nat.reduceBEq,zP,zQ,zR,zT,zV,zW,zl,zt,zu,zw,zx,hP,hk,res65,kp65,tC2,zB6,lnC,lb1,lb3,lb4,u8b,UInt8.reduceToNat,c1])
  exact zE3 hC Nat.zero_lt_one rfl hres65 (r:={ Rq.zero with kind:=6,close:=true }) (more:=false) (used:=0) (by simp [zA7]) rfl (fun ρ=>rfl) rfl
 ·have c1:(decide ((0:Int)≤(m:Int)) && decide ((m:Int)≤0))=false:=by
   rw [Bool.and_eq_false_iff]; simp only [decide_eq_false_iff_not]; omega
  have hne:¬ ws=[]:=fun e=>hc (by rw [← hm,e]; rfl)
  (refine zA0 hctr (rs:=res65) true 300 _ _ _ ?_; simp (maxSteps:=1000000) only [VT,jf,jg,qH,qI,qK,qO,qP,qQ,qR,qS,qV,ev,qw,qy,qz,zD,zF,zG,zI,zJ,zK,zM,↓reduceIte,reduceCtorEq,Nat.reduceEqDiff,Nat.reduceLT,Nat.reduceBEq,zP,zQ,zR,zV,zW,zt,zu,zw,zx,hP,hk,res65,kp65,tC2,zB6,lnC,lb1,lb3,lb4,u8b,UInt8.reduceToNat,hm,c1])
  exact zE8 hC hP hE rfl rfl (name:=[113,117,105,116]) (behind:=behind) (quiet:=false) rfl (by omega) (zC6 hC Nat.zero_lt_one rfl (f:=zA5) (by simp [zA7,hne]) rfl)
theorem plain_stats {w:World} {g:Nat} {a:Option Addr} {c:Nat} {ws:List (List UInt8)} {behind:List UInt8} (h:Ln w g [115,116,97,116,115] a ws.length c ws behind 0 false) (hn:ws.length≤100000) (hl:∀ x∈ws,x.length≤100000) (hE0:EnvG g w) :
  Calls Tryz.prog 65 #[.pointer (some ⟨g,0,none⟩)] w (MP F1 g w (zA7 [115,116,97,116,115] ws)):=by
 obtain ⟨w1,q,hoff⟩:∃ w1 q,zN5 ws=(w1,q):=⟨_,_,rfl⟩
 have hpre:=zM0 ws
 rw [hoff] at hpre
 simp only at hpre
 have hl1:∀ x∈w1,x.length≤9223372036854775807:=fun x hx=>by rw [hpre] at hx; have:=hl x (List.mem_of_mem_take hx); omega
 obtain ⟨n,hnn⟩:∃ n,w1.length=n:=⟨_,rfl⟩
 have hnc:n≤100000:=by have:=congrArg List.length hpre; rw [List.length_take] at this; omega
 refine zA1 Tryz.func65 rfl kp65 (S:=One g) (ρ:=fun _=>zD7 g) [.c (.p 0 0)] Tryz.ntmps65 (zO9 h.blk true (One g) (fun _=>rfl)) (by simp [SV.wf,SC.wf]) (by simp) ?_
 intro C hC hP hk
 have hLW:LW C g w:=zS9 hC Nat.zero_lt_one rfl
 have hE:zM6 C:=hE0.C hLW.S hLW.w0
 have hW0:∀ w',Upd C.S C.w0 w'→RawSV w' g a ws:=fun w' hu=>by rw [hLW.S,hLW.w0] at hu; exact h.raw.upd hu
 have hW:∀ w',Upd C.S C.w0 w'→RawSV w' g a w1:=fun w' hu=>(hW0 w' hu).pre hpre
 have hr:∀ (k:Nat) x,w1[k]?=some x→∃ b o,a=some ⟨b,o,none⟩∧C.rd b (o+k) 1=some [.s x]:=fun k x hx=>(h.raw.pre hpre).rd (D:=C) (by rw [hLW.S]; exact fun k hk=>hk) hLW.w0 hx
 have hctr:=tC3_ok hP hE hW0 (fun x hx=>by have:=hl x hx; omega)
 by_cases hc0:ws=[]
 ·subst hc0
  have c1:(decide ((0:Int)≤((0:Nat):Int)) && decide (((0:Nat):Int)≤1))=true:=rfl
  have j1:joinW []=[]:=rfl
  (refine zA0 hctr (rs:=res65) true 300 _ _ _ ?_; simp (maxSteps:=1000000) only [VT,jf,jg,qE,qF,qG,qH,qI,qJ,qK,qO,qP,qQ,qR,qS,qV,qf,qg,q0t,qu,qv,ev,qw,qy,qz,zA,zB,zC,zD,zE,zF,zG,zI,zJ,TE.sv,zK,zM,↓reduceIte,reduceCtorEq,Value.oneCell',Nat.reduceEqDiff,Nat.reduceAdd,Nat.reduceLT,Nat.reduceBEq,zP,zQ,zR,zT,zV,zW,zl,zr,zt,zu,zw,zx,hP,hk,res65,kp65,tC2,zB6,lnC,lb1,lb2,lb3,lb4,u8b,UInt8.reduceToNat,tC3,zW1,c1,j1])
  exact zE3 hC Nat.zero_lt_one rfl hres65 (r:={ Rq.zero with kind:=5 }) (more:=false) (used:=0) (by simp [zA7,Rq.zero]) rfl (fun ρ=>rfl) rfl
 by_cases hc1:ws.length=1
 ·obtain ⟨x,rfl⟩:=one_of' hc1
  have c1:(decide ((0:Int)≤((1:Nat):Int)) && decide (((1:Nat):Int)≤1))=true:=rfl
  have j1:joinW [x]=x:=by simp [joinW,Lib.join]
  have lx:=hl x (by simp)
  have hcp:1≤c:=h.cap
  (refine zA0 hctr (rs:=res65) true 300 _ _ _ ?_; simp (maxSteps:=1000000) only [VT,jf,jg,qE,qF,qG,qH,qI,qJ,qK,qO,qP,qQ,qR,qS,qV,qf,qg,q0t,qu,qv,ev,qw,qy,qz,zA,zB,zC,zD,zE,zF,zG,zI,zJ,TE.sv,zK,zM,↓reduceIte,reduceCtorEq,Value.oneCell',Nat.reduceEqDiff,Nat.reduceAdd,Nat.reduceLT,Nat.reduceBEq,Nat.reduceLeDiff,zP,zQ,zR,zT,zV,zW,zk,zl,zt,zu,zw,zx,hP,hk,res65,kp65,tC2,zB6,lnC,lb1,lb2,lb3,lb4,u8b,UInt8.reduceToNat,tC3,zW1,c1,j1])
  refine ⟨⟨hcp,by omega⟩,?_⟩
  exact zE3 hC Nat.zero_lt_one rfl hres65 (r:={ Rq.zero with kind:=5,arg:=x }) (more:=false) (used:=0) (by simp [zA7,Rq.zero]) rfl (fun ρ=>rfl) rfl
 ·have hm0:ws.length ≠ 0:=fun e=>hc0 (List.eq_nil_of_length_eq_zero e)
  obtain ⟨m,hm⟩:∃ m,ws.length=m:=⟨_,rfl⟩
  have c1:(decide ((0:Int)≤(m:Int)) && decide ((m:Int)≤1))=false:=by
   rw [Bool.and_eq_false_iff]; simp only [decide_eq_false_iff_not]; omega
  (refine zA0 hctr (rs:=res65) true 300 _ _ _ ?_; simp (maxSteps:=1000000) only [VT,jf,jg,qH,qI,qK,qO,qP,qQ,qR,qS,qV,ev,qw,qy,qz,zD,zF,zG,zI,zJ,zK,zM,↓reduceIte,reduceCtorEq,Nat.reduceEqDiff,Nat.reduceLT,Nat.reduceBEq,zP,zQ,zR,zV,zW,zt,zu,zw,zx,hP,hk,res65,kp65,tC2,zB6,lnC,lb1,lb2,lb3,lb4,u8b,UInt8.reduceToNat,tC3,hm,c1])
  have hm1:1 < ws.length:=by omega
  exact zE8 hC hP hE rfl rfl (name:=[115,116,97,116,115]) (behind:=behind) (quiet:=false) rfl (by omega) (zC6 hC Nat.zero_lt_one rfl (f:=zA5) (by simp [zA7,hm1]) rfl)
theorem plain_other {name:List UInt8} (h0:name ≠ [105,110,99,114]) (h1:name ≠ [100,101,99,114]) (h2:name ≠ [116,111,117,99,104]) (h3:name ≠ [100,101,108,101,116,101]) (h4:name ≠ [102,108,117,115,104,95,97,108,108]) (h5:name ≠ [118,101,114,98,111,115,105,116,121]) (h6:name ≠ [118,101,114,115,105,111,110]) (h7:name ≠ [113,117,105,116]) (h8:name ≠ [115,116,97,116,115]) {w:World} {g:Nat} {a:Option Addr} {c:Nat} {ws:List (List UInt8)} {behind:List UInt8} (h:Ln w g name a ws.length c ws behind 0 false) (hn:ws.length≤100000) (hl:∀ x∈ws,x.length≤100000) (hE0:EnvG g w) :
  Calls Tryz.prog 65 #[.pointer (some ⟨g,0,none⟩)] w (MP F1 g w (zA7 name ws)):=by
 obtain ⟨w1,q,hoff⟩:∃ w1 q,zN5 ws=(w1,q):=⟨_,_,rfl⟩
 have hpre:=zM0 ws
 rw [hoff] at hpre
 simp only at hpre
 have hl1:∀ x∈w1,x.length≤9223372036854775807:=fun x hx=>by rw [hpre] at hx; have:=hl x (List.mem_of_mem_take hx); omega
 obtain ⟨n,hnn⟩:∃ n,w1.length=n:=⟨_,rfl⟩
 have hnc:n≤100000:=by have:=congrArg List.length hpre; rw [List.length_take] at this; omega
 refine zA1 Tryz.func65 rfl kp65 (S:=One g) (ρ:=fun _=>zD7 g) [.c (.p 0 0)] Tryz.ntmps65 (zO9 h.blk true (One g) (fun _=>rfl)) (by simp [SV.wf,SC.wf]) (by simp) ?_
 intro C hC hP hk
 have hLW:LW C g w:=zS9 hC Nat.zero_lt_one rfl
 have hE:zM6 C:=hE0.C hLW.S hLW.w0
 have hW0:∀ w',Upd C.S C.w0 w'→RawSV w' g a ws:=fun w' hu=>by rw [hLW.S,hLW.w0] at hu; exact h.raw.upd hu
 have hW:∀ w',Upd C.S C.w0 w'→RawSV w' g a w1:=fun w' hu=>(hW0 w' hu).pre hpre
 have hr:∀ (k:Nat) x,w1[k]?=some x→∃ b o,a=some ⟨b,o,none⟩∧C.rd b (o+k) 1=some [.s x]:=fun k x hx=>(h.raw.pre hpre).rd (D:=C) (by rw [hLW.S]; exact fun k hk=>hk) hLW.w0 hx
 have hctr:=zR9 hP hE hW hl1
 have b0:(name == [105,110,99,114])=false:=by simpa using h0
 have b1:(name == [100,101,99,114])=false:=by simpa using h1
 have b2:(name == [116,111,117,99,104])=false:=by simpa using h2
 have b3:(name == [100,101,108,101,116,101])=false:=by simpa using h3
 have b4:(name == [102,108,117,115,104,95,97,108,108])=false:=by simpa using h4
 have b5:(name == [118,101,114,98,111,115,105,116,121])=false:=by simpa using h5
 have b6:(name == [118,101,114,115,105,111,110])=false:=by simpa using h6
 have b7:(name == [113,117,105,116])=false:=by simpa using h7
 have b8:(name == [115,116,97,116,115])=false:=by simpa using h8
 (refine zA0 hctr (rs:=res65) true 300 _ _ _ ?_; simp (maxSteps:=1000000) only [VT,jg,qH,qI,qK,qO,qP,qQ,qR,qS,qV,qj,qq,ev,qy,qz,zD,zF,zG,zI,zJ,zK,zM,↓reduceIte,reduceCtorEq,Nat.reduceEqDiff,Nat.reduceLT,zP,zQ,zR,zW,zt,zu,hP,hk,res65,kp65,lnC,b0,b1,b2,b3,b4,b5,b6,b7,b8])
 exact Run_panic rfl (Pan_of hC fun ρ w' hw hn=>zC6 hC Nat.zero_lt_one rfl (f:=zA5) (by simp [zA7,h0,h1,h2,h3,h4,h5,h6,h7,h8]) (name:=name) (behind:=behind) (quiet:=false) rfl ρ w' hw)
theorem plain_w {name:List UInt8} {w:World} {g:Nat} {a:Option Addr} {c:Nat} {ws:List (List UInt8)} {behind:List UInt8} (h:Ln w g name a ws.length c ws behind 0 false) (hn:ws.length≤100000) (hl:∀ x∈ws,x.length≤100000) (hE0:EnvG g w) :
  Calls Tryz.prog 65 #[.pointer (some ⟨g,0,none⟩)] w (MP F1 g w (zA7 name ws)):=by
 by_cases h0:name=[105,110,99,114]
 ·subst h0; exact plain_incr h hn hl hE0
 by_cases h1:name=[100,101,99,114]
 ·subst h1; exact plain_decr h hn hl hE0
 by_cases h2:name=[116,111,117,99,104]
 ·subst h2; exact plain_touch h hn hl hE0
 by_cases h3:name=[100,101,108,101,116,101]
 ·subst h3; exact plain_delete h hn hl hE0
 by_cases h4:name=[102,108,117,115,104,95,97,108,108]
 ·subst h4; exact plain_flush_all h hn hl hE0
 by_cases h5:name=[118,101,114,98,111,115,105,116,121]
 ·subst h5; exact plain_verbosity h hn hl hE0
 by_cases h6:name=[118,101,114,115,105,111,110]
 ·subst h6; exact plain_version h hn hl hE0
 by_cases h7:name=[113,117,105,116]
 ·subst h7; exact plain_quit h hn hl hE0
 by_cases h8:name=[115,116,97,116,115]
 ·subst h8; exact plain_stats h hn hl hE0
 exact plain_other h0 h1 h2 h3 h4 h5 h6 h7 h8 h hn hl hE0
end Go.Proofs.YtcbmlanpianclaaGreatDoor
/- get: get, gets, gat, gats. -/
namespace Go.Proofs.YtcbmlanpianclaaGreatDoor
set_option linter.unusedSimpArgs false
set_option linter.unusedVariables false
set_option maxHeartbeats 8000000
open Go.RowKit
set_option maxRecDepth 100000
def zN9:List SV→Option (Prop × SV)
 | [.c (.s l),.c (.s p)]=>some (True,.c (.b (Lib.hasPrefix l p)))
 | _=>none
def zW3:List SV→Option (Prop × SV)
 | [.c (.s l),.c (.s p)]=>some (l.length≤9223372036854775807,.c (.b (Lib.hasSuffix l p)))
 | _=>none
def zN4:List SV→Option (Prop × SV)
 | [.c (.s l),.c (.s p)]=>some (l.length≤9223372036854775807,.t [.c (.s (Lib.trimSuffix l p)),.c (.b (Lib.hasSuffix l p))])
 | _=>none
def tC4 (a:Option Addr) (ws:List (List UInt8)):Ctr:=fun f en xs=>match f with
 | 91=>zN9 xs
 | 96=>zW3 xs
 | 61=>zN4 xs
 | _=>tC2 a ws f en xs
theorem tC4_ok {C:Cx} {a:Option Addr} {ws:List (List UInt8)} {g:Nat} (hP:C.P=Tryz.prog) (hE:zM6 C) (hW:∀ w,Upd C.S C.w0 w→RawSV w g a ws) (hl:∀ x∈ws,x.length≤9223372036854775807):zC1 C (tC4 a ws):=by
 intro f en xs p v h hp ρ w hup hHp hHo hinj hwf
 unfold tC4 at h
 split at h
 ·rw [hP]
  refine ⟨fun args w=>Tryz.call91 args w,?_⟩
  unfold zN9 at h
  split at h <;> simp only [Option.some.injEq,Prod.mk.injEq,reduceCtorEq] at h
  obtain ⟨rfl,rfl⟩:=h
  refine ⟨trivial,(Tryz.strings_HasPrefix _ _ w).mono ?_⟩
  rintro e w' ⟨rfl,rfl⟩
  exact ⟨rfl,Below.refl _ _⟩
 ·rw [hP]
  refine ⟨fun args w=>Tryz.call96 args w,?_⟩
  unfold zW3 at h
  split at h <;> simp only [Option.some.injEq,Prod.mk.injEq,reduceCtorEq] at h
  obtain ⟨rfl,rfl⟩:=h
  refine ⟨trivial,(Tryz.strings_HasSuffix _ _ w (by simpa [ByteArray.size] using hp)).mono ?_⟩
  rintro e w' ⟨rfl,rfl⟩
  exact ⟨rfl,Below.refl _ _⟩
 ·rw [hP]
  refine ⟨fun args w=>Tryz.call61 args w,?_⟩
  unfold zN4 at h
  split at h <;> simp only [Option.some.injEq,Prod.mk.injEq,reduceCtorEq] at h
  obtain ⟨rfl,rfl⟩:=h
  refine ⟨by intro x hx; simp at hx; rcases hx with rfl | rfl <;> trivial,(Tryz.strings_CutSuffix _ _ w (by simpa [ByteArray.size] using hp)).mono ?_⟩
  rintro e w' ⟨rfl,rfl⟩
  exact ⟨rfl,Below.refl _ _⟩
 ·exact zR9 hP hE hW hl f en xs p v h hp ρ w hup hHp hHo hinj hwf
theorem zZ0:(Tryz.prog.info? 52).map (fun i=>(i.zero,i.size,i.bytes))=some (some (.agg (rcA Cd.zero).toArray),16,136):=by kernel_rfl
def gkC (ex:Int) (he:Bool) (k:List UInt8):Cd:={ Cd.zero with op:=1,key:=k,exp:=ex,hasExp:=he }
def lastK (ks:List (List UInt8)) (j:Nat):List UInt8:=((ks.take j).getLast?).getD []
def gkE (ex:Int) (he:Bool) (k:List UInt8):EN:=⟨(52,0,whole),[.i .i64 1,.i .i64 0,.s k,.s [],.i .u32 0,.i .i64 ex,.b he,.i .u64 0,.b false,.i .u64 0,.i .u64 0,.b false,.b false,.i .i64 0,.i .i64 0,.b false],true⟩
def zX8 (name:List UInt8) (W:SC) (behind:List UInt8) (q:Bool) (ex:Int) (he:Bool) (ks:List (List UInt8)) (j:Nat) (lk:List UInt8):List EN:=
 [⟨(75,0,whole),lnC name W behind 0 q,true⟩,⟨(35,0,whole),rqS zB5 Rq.zero,true⟩,gkE ex he lk,rwE 52 16 j (zC2 rcS ((ks.take j).map (gkC ex he)))]
def zU0 (a:Option Addr) (m c:Nat) (j:Nat):List (Nat × SV):=[(41,.c (.i .i64 (j:Int))),(40,.c (.i .i64 (m:Int))),(39,.c (.v (.slice a m c))),(5,.c (.rw 3 j)),(3,.c (.p 2 0)),(2,.c (.p 1 0)),(0,.c (.p 0 0))]
theorem lastK_succ {ks:List (List UInt8)} {j:Nat} {x:List UInt8} (hx:ks[j]?=some x):lastK ks (j+1)=x:=by
 have hj:=(List.getElem?_eq_some_iff.1 hx).1
 have e:ks[j]=x:=(List.getElem?_eq_some_iff.1 hx).2
 unfold lastK
 rw [List.take_succ_eq_append_getElem hj,List.getLast?_append]
 simp [e]
theorem cmds_succ {ks:List (List UInt8)} {j:Nat} {x:List UInt8} (ex:Int) (he:Bool) (hx:ks[j]?=some x):zC2 rcS ((ks.take (j+1)).map (gkC ex he))=zC2 rcS ((ks.take j).map (gkC ex he))++rcS (gkC ex he x):=by
 have hj:=(List.getElem?_eq_some_iff.1 hx).1
 have e:ks[j]=x:=(List.getElem?_eq_some_iff.1 hx).2
 rw [List.take_succ_eq_append_getElem hj,List.map_append,flatG_app,e]
 simp [zC2]
theorem suf_last (name:List UInt8):Lib.hasSuffix name [115]=(name.getLast? == some 115):=by
 rw [Bool.eq_iff_iff]
 show ([115]:List UInt8).isSuffixOf name=true ↔ _
 rw [List.isSuffixOf_iff_suffix,beq_iff_eq]
 constructor
 ·rintro ⟨l,rfl⟩; simp
 ·intro h
  obtain ⟨ys,rfl⟩:=List.getLast?_eq_some_iff.1 h
  exact ⟨ys,rfl⟩
def zU1 (gat:Bool) (ws:List (List UInt8)):List (List UInt8):=if gat then ws.drop 1 else ws
def exF (gat:Bool) (ws:List (List UInt8)):Int:=if gat then (zI2 (ws.getD 0 [])).1 else 0
theorem getR_eq {name:List UInt8} {gat:Bool} (hg:Lib.hasPrefix name [103,97,116]=gat) (ws:List (List UInt8)) (h2:gat=true→2≤ws.length) (hs:gat=true→(zI2 (ws.getD 0 [])).2=true) :
  zJ7 name ws=if zU1 gat ws=[] then .fault zA5 else if (zU1 gat ws).all zG3 then .got { doR ((zU1 gat ws).map (gkC (exF gat ws) gat)) false with tokens:=Lib.hasSuffix name [115] } false 0 else .fault zA2:=by
 have hg':([103,97,116]:List UInt8).isPrefixOf name=gat:=hg
 rw [suf_last]
 cases gat with
 | false =>
  simp only [zJ7,hg',zU1,exF,Bool.false_and,Bool.false_eq_true,if_false]
  rfl
 | true =>
  have h3:¬ ws.length < 2:=by have:=h2 rfl; omega
  have h4:=hs rfl
  have h5:(decide (ws.length < 2))=false:=decide_eq_false h3
  simp only [zJ7,hg',zU1,exF,Bool.true_and,if_true,h4,Bool.not_true,Bool.false_eq_true,if_false,h5]
  rfl
theorem get_bad {name:List UInt8} {gat:Bool} (hg:Lib.hasPrefix name [103,97,116]=gat) {ws:List (List UInt8)} (h2:gat=true→2≤ws.length) (hs:gat=true→(zI2 (ws.getD 0 [])).2=true) {j:Nat} {x:List UInt8} (hx:(zU1 gat ws)[j]?=some x) (hk:zG3 x=false):zJ7 name ws=.fault zA2:=by
 have hm:=List.mem_of_getElem? hx
 have hall:(zU1 gat ws).all zG3=false:=by
  refine Bool.eq_false_iff.2 fun h=>?_
  have:=List.all_eq_true.1 h x hm
  rw [hk] at this; cases this
 rw [getR_eq hg ws h2 hs,if_neg (List.ne_nil_of_mem hm),hall,if_neg (by simp)]
theorem get_good {name:List UInt8} {gat:Bool} (hg:Lib.hasPrefix name [103,97,116]=gat) {ws:List (List UInt8)} (h2:gat=true→2≤ws.length) (hs:gat=true→(zI2 (ws.getD 0 [])).2=true) (hne:zU1 gat ws ≠ []) (hall:∀ x∈zU1 gat ws,zG3 x=true) :
  zJ7 name ws=.got { doR ((zU1 gat ws).map (gkC (exF gat ws) gat)) false with tokens:=Lib.hasSuffix name [115] } false 0:=by
 rw [getR_eq hg ws h2 hs,if_neg hne,if_pos (List.all_eq_true.2 hall)]
theorem get_w {name:List UInt8} {w:World} {g:Nat} {a:Option Addr} {c:Nat} {ws:List (List UInt8)} {behind:List UInt8} (h:Ln w g name a ws.length c ws behind 0 false) (hnl:name.length≤100000) (hn:ws.length≤100000) (hl:∀ x∈ws,x.length≤100000) (hE0:EnvG g w) :
  Calls Tryz.prog 63 #[.pointer (some ⟨g,0,none⟩)] w (MP F1 g w (zJ7 name ws)):=by
 have hl1:∀ x∈ws,x.length≤9223372036854775807:=fun x hx=>by have:=hl x hx; omega
 obtain ⟨n,hnn⟩:∃ n,ws.length=n:=⟨_,rfl⟩
 refine zA1 Tryz.func63 rfl kp63 (S:=One g) (ρ:=fun _=>zD7 g) [.c (.p 0 0)] Tryz.ntmps63 (zO9 h.blk true (One g) (fun _=>rfl)) (by simp [SV.wf,SC.wf]) (by simp) ?_
 intro C hC hP hk
 have hLW:LW C g w:=zS9 hC Nat.zero_lt_one rfl
 have hE:zM6 C:=hE0.C hLW.S hLW.w0
 have hW:∀ w',Upd C.S C.w0 w'→RawSV w' g a ws:=fun w' hu=>by rw [hLW.S,hLW.w0] at hu; exact h.raw.upd hu
 have hr:∀ (k:Nat) x,ws[k]?=some x→∃ b o,a=some ⟨b,o,none⟩∧C.rd b (o+k) 1=some [.s x]:=fun k x hx=>h.raw.rd (D:=C) (by rw [hLW.S]; exact fun k hk=>hk) hLW.w0 hx
 have hctr:=tC4_ok hP hE hW hl1
 cases hgat:Lib.hasPrefix name [103,97,116] with
 | false =>
  have e2:false=true→2≤ws.length:=fun h=>by cases h
  have es:false=true→(zI2 (ws.getD 0 [])).2=true:=fun h=>by cases h
  cases hlt:decide ((0:Int) < (n:Int)) with
  | false =>
   have h0:n=0:=by simpa using hlt
   (refine zA0 hctr (rs:=res63) true 300 _ _ _ ?_; simp (maxSteps:=1000000) only [VT,jg,qH,qI,qJ,qK,qN,qO,qP,qQ,qR,qS,qV,qe,q0t,qv,ev,qw,qy,qz,zC,zD,zE,zF,zG,zI,zJ,zK,zM,↓reduceIte,reduceCtorEq,Nat.reduceEqDiff,Nat.reduceAdd,Nat.reduceLT,zP,zQ,zR,zW,zt,zu,hP,hk,res63,kp63,tC4,tC2,tC1,zN9,zD0,lnC,hgat,hnn,hlt])
   exact zJ8 hC hP rfl rfl (zC6 hC Nat.zero_lt_one rfl (f:=zA5) (by rw [getR_eq hgat ws e2 es,if_pos]; exact List.eq_nil_of_length_eq_zero (by show ws.length=0; omega)) (name:=name) (behind:=behind) (quiet:=false) rfl)
  | true =>
   have h0:0 < n:=by simpa using hlt
   obtain ⟨x0,hx0⟩:∃ x,ws[0]?=some x:=⟨_,List.getElem?_eq_getElem (by omega)⟩
   obtain ⟨b0,oo,rfl,_⟩:=hr 0 x0 hx0
   have hrK:∀ (k:Nat) x,ws[k]?=some x→C.rd b0 (oo+k) 1=some [.s x]:=fun k x hx=>by
    obtain ⟨_,_,he,h1⟩:=hr k x hx
    cases he; exact h1
   have hlK:=hl1
   have hkn:=hnn
   (refine zA0 hctr (rs:=res63) true 300 _ _ _ ?_; simp (maxSteps:=1000000) only [VT,jg,qH,qI,qJ,qK,qN,qO,qP,qQ,qR,qS,qV,qe,q0t,qv,ev,qw,qy,qz,zC,zD,zE,zF,zG,zI,zJ,zK,zM,↓reduceIte,reduceCtorEq,Nat.reduceEqDiff,Nat.reduceAdd,Nat.reduceLT,zP,zQ,zR,zW,zt,zu,hP,hk,res63,kp63,tC4,tC2,tC1,zN9,zD0,lnC,hgat,hnn,hlt])
   refine zG2 true (en':=[⟨(75,0,whole),lnC name (.v (.slice (some ⟨b0,oo,none⟩) n c)) behind 0 false,true⟩,⟨(35,0,whole),rqS zB5 Rq.zero,true⟩,gkE 0 false []]) (sl':=zU0 (some ⟨b0,oo,none⟩) n c 0) (52,0,rowP 16 0 0) rfl (fun _=>⟨rfl,.inr ⟨rfl,rfl,rfl⟩⟩) (fun _=>by show ¬ (52:Nat)=zC9; decide) ?_ ?_ ?_
   ·refine ⟨⟨rfl,rfl,fun ρ h=>rfl,?_⟩,⟨rfl,rfl,fun ρ h=>rfl,?_⟩,⟨rfl,rfl,fun ρ h=>rfl,?_⟩,trivial⟩
    all_goals simp [wfs,SC.wf,lnC,gkE,rqS,zB5]
   ·refine ⟨⟨⟨_,rfl,fun ρ h=>rfl⟩,?_⟩,⟨⟨_,rfl,fun ρ h=>rfl⟩,?_⟩,⟨⟨_,rfl,fun ρ h=>rfl⟩,?_⟩,⟨⟨_,rfl,fun ρ h=>?_⟩,?_⟩,⟨⟨_,rfl,fun ρ h=>rfl⟩,?_⟩,⟨⟨_,rfl,fun ρ h=>rfl⟩,?_⟩,⟨⟨_,rfl,fun ρ h=>rfl⟩,?_⟩,trivial⟩
    case refine_4=>have h:(ρ 3).nl=some none:=h; simp only [SV.den,SC.den,zF1 h]
    all_goals simp [SV.wf,SC.wf,zG]
   refine zD6 (ι:={ j:Nat // j≤n∧∀ x∈(ws).take j,zG3 x=true }) (fun j=>zU0 (some ⟨b0,oo,none⟩) n c j.1) (fun j=>zX8 name (.v (.slice (some ⟨b0,oo,none⟩) n c)) behind false 0 false (ws) j.1 (lastK (ws) j.1)) (fun j=>n+1 - j.1) ⟨0,Nat.zero_le _,by simp⟩ (zB3 ⟨rfl,rfl,rfl,rfl,rfl,rfl,rfl,trivial⟩) rfl ?_
   rintro ⟨j,hj,hall⟩ D dP dS dw dn dr dk ddf dPan dRet hX hJ
   have hP0:=hP; have hk0:=hk; have hctr0:=hctr
   have hP:D.P=Tryz.prog:=by rw [dP]; exact hP0
   have hk:D.kp=kp63:=by rw [dk]; exact hk0
   have hctr:zC1 D (tC4 (some ⟨b0,oo,none⟩) ws):=tC4_ok hP (by unfold zM6; rw [dS,dw]; exact hE) (by rw [dS,dw]; exact hW) hl1
   show Run D _ _ (zU0 (some ⟨b0,oo,none⟩) n c j) (zX8 name (.v (.slice (some ⟨b0,oo,none⟩) n c)) behind false 0 false (ws) j (lastK (ws) j))
   by_cases hjn:j < n
   ·obtain ⟨x,hx⟩:∃ x,(ws)[j]?=some x:=⟨_,List.getElem?_eq_getElem (by omega)⟩
    have c1:decide ((j:Int) < ((n:Nat):Int))=true:=decide_eq_true (by omega)
    have p3:IntKind.i64.wrap ((j:Int)+1)=((j+1:Nat):Int):=by rw [IntWalk.i64_in _ (by omega)]; rfl
    have lx:=hlK x (List.mem_of_getElem? hx)
    have p0:(0:Int)≤(j:Int):=by omega
    have p1:(j:Int) < ((n:Nat):Int):=by omega
    have hrx:=hrK j x hx
    have hrx:D.rd b0 (oo+j) 1=some [.s x]:=by rw [show D.rd=C.rd by unfold Cx.rd; rw [dS,dw]]; exact hrx
    cases hkb:zG3 x with
    | false =>
     (refine zA0 hctr (rs:=res63) true 300 _ _ _ ?_; simp (maxSteps:=1000000) only [VT,jf,qH,qI,qK,qO,qP,qR,qS,qX,ev,qw,qy,qz,zI,zJ,zM,↓reduceIte,reduceCtorEq,Nat.reduceEqDiff,Nat.reduceLT,zP,zQ,zR,zT,zV,zh,zo,rwE,hP,hk,res63,kp63,tC4,tC2,tC1,zN6,zD0,zI8,zU0,zX8,gkE,rqS,zB5,Rq.zero,rwE,lnC,Nat.mul_one,p0,p1,hrx,hkb,lx])
     refine Run_needQ hP rfl rfl fun ρ w' a' hw ha=>dPan _ _ _ (q_pan hC (zC6 hC Nat.zero_lt_one rfl (f:=zA2) (get_bad hgat e2 es (j:=j) (x:=x) (by first | exact hx | (simp only [zU1,if_true]; exact hx)) hkb) (name:=name) (behind:=behind) (quiet:=false) rfl ρ w' (hw.toC dS.symm dw.symm dr.symm dn.symm)) a' (ha.trans ddf))
    | true =>
     (refine zA0 hctr (rs:=res63) true 300 _ _ _ ?_; simp (maxSteps:=1000000) only [VT,jf,qA,qB,qC,qD,qH,qI,qJ,qK,qN,qO,qP,qR,qS,qV,qX,qg,q0t,qv,ev,qw,qy,qz,zA,zB,zC,zD,zE,zF,zG,zI,zJ,zM,↓reduceIte,reduceCtorEq,Nat.reduceEqDiff,Nat.reduceAdd,Nat.reduceLT,Nat.reduceLeDiff,zP,zQ,zR,zT,zV,zh,zk,zl,zo,zt,rwE,hP,hk,res63,kp63,tC4,tC2,tC1,zN6,zD0,zI8,zU0,zX8,gkE,rqS,zB5,Rq.zero,rwE,lnC,Nat.mul_one,Nat.reduceMul,p0,p1,hrx,hkb,lx])
     obtain ⟨i0,hi,hz0,hz1,hz2⟩:=info_parts zZ0
     have jB:zC2 rcS (((ws).take j).map (gkC 0 false))++[.i .i64 1,.i .i64 0,.s x,.s [],.i .u32 0,.i .i64 0,.b false,.i .u64 0,.b false,.i .u64 0,.i .u64 0,.b false,.b false,.i .i64 0,.i .i64 0,.b false]=zC2 rcS (((ws).take (j+1)).map (gkC 0 false)):=(cmds_succ 0 false hx).symm
     refine zH9 (t:=32) (e:=52) (z:=16) (n:=j) (m:=1) (bts:=136) (X:=.rw 3 j) (Y:=.sl 4 0 1 1) (o:=some 3) (by rw [hP]; exact Tryz.underlying32) (by rw [hP]; exact hi) hz0 hz1 hz2 rfl (by decide) (by show ¬ (52:Nat)=zC9; decide) (.some rfl) rfl rfl (zU5 (L:=16) rfl rfl) rfl rfl (fun pr=>by intro y hy; simp only [List.mem_cons,List.not_mem_nil,or_false] at hy; rcases hy with rfl | rfl | rfl | rfl | rfl | rfl | rfl | rfl | rfl | rfl | rfl | rfl | rfl | rfl | rfl | rfl <;> trivial) (by omega) (by omega) (by rw [dn,hC]; simp [zL]) rfl (by simp) ?_
     rw [jB]
     (refine zA0 hctr (rs:=res63) true 300 _ _ _ ?_; simp (maxSteps:=1000000) only [VT,qH,qI,qK,qO,qR,qS,ev,qy,qz,zD,zE,zF,zG,zI,zJ,↓reduceIte,reduceCtorEq,Nat.reduceEqDiff,Nat.reduceAdd,Nat.reduceLT,zP,zQ,zR,zt,zM2,zH4,rwE,jN,hk,kp63,rwE,zM2,zH4,p3])
     have hJ':=hJ ⟨j+1,by omega,fun y hy=>?_⟩ (zU0 (some ⟨b0,oo,none⟩) n c (j+1)) (by show n+1 - (j+1) < n+1 - j; omega) (fun d v h=>h)
     rw [lastK_succ hx] at hJ'
     refine zI6 (f:=fun c=>if c=3 then 5 else c) (enK:=zX8 name (.v (.slice (some ⟨b0,oo,none⟩) n c)) behind false 0 false (ws) (j+1) x) (slK:=zU0 (some ⟨b0,oo,none⟩) n c (j+1)) ⟨fun q hq=>?_,?_⟩ ?_ ?_ ?_ hJ'
     ·have:q < 1:=by rw [dn,hC] at hq; exact hq
      rw [if_neg (by omega)]
     ·rw [dn,hC]; exact (by decide:1≤4)
     ·intro p q hp hq h
      have hp:p < 4:=hp
      have hq:q < 4:=hq
      have h:(if p=3 then 5 else p)=(if q=3 then 5 else q):=h
      split at h <;> split at h <;> omega
     ·refine ⟨⟨_,rfl,fun ρ=>rfl,?_⟩,⟨_,rfl,fun ρ=>rfl,?_⟩,⟨_,rfl,fun ρ=>rfl,?_⟩,⟨_,rfl,fun ρ=>(zQ9 _ _).trans (zQ9 _ _).symm,rc_wf _ _⟩,trivial⟩
      all_goals simp [wfs,SC.wf,lnC,gkE,rqS,zB5]
     ·refine ⟨⟨?_,_,rfl,fun ρ=>rfl⟩,⟨?_,_,rfl,fun ρ=>rfl⟩,⟨?_,_,rfl,fun ρ=>rfl⟩,⟨?_,_,rfl,fun ρ=>rfl⟩,⟨?_,_,rfl,fun ρ=>rfl⟩,⟨?_,_,rfl,fun ρ=>rfl⟩,⟨?_,_,rfl,fun ρ=>rfl⟩,trivial⟩
      all_goals simp [SV.wf,SC.wf,zX8]
     ·rw [List.take_succ_eq_append_getElem (by omega),List.mem_append,List.mem_singleton] at hy
      rcases hy with hy | rfl
      ·exact hall y hy
      ·have e:(ws)[j]'(by omega)=x:=(List.getElem?_eq_some_iff.1 hx).2
       rw [e]; exact hkb
   ·have hjm:j=n:=by omega
    have htk:(ws).take j=ws:=List.take_of_length_le (by omega)
    have c1:decide ((j:Int) < ((n:Nat):Int))=false:=decide_eq_false (by omega)
    (refine zA0 hctr (rs:=res63) true 300 _ _ _ ?_; simp (maxSteps:=1000000) only [VT,jg,qH,qI,qK,qR,qS,ev,qy,zH,zI,zJ,↓reduceIte,reduceCtorEq,Nat.reduceEqDiff,Nat.reduceLT,zP,zR,zW,rwE,hk,res63,kp63,zU0,zX8,gkE,rqS,zB5,Rq.zero,rwE,lnC,c1])
    refine hX rfl rfl ?_
    have hP:=hP0; have hk:=hk0; have hctr:=hctr0
    rw [htk,hjm]
    (refine zA0 hctr (rs:=res63) true 300 _ _ _ ?_; simp (maxSteps:=1000000) only [VT,qH,qI,qK,qO,ev,qw,qy,↓reduceIte,reduceCtorEq,Nat.reduceEqDiff,Nat.reduceLT,zR,tC4,tC2,tC1,zN6])
    have hcl:((ws).map (gkC 0 false)).length=n:=by rw [List.length_map,hkn]
    have hcl2:(((ws).map (gkC 0 false)).map reC).length=n:=by rw [List.length_map,hcl]
    have hkne:ws ≠ []:=by intro e; rw [e] at hkn; simp at hkn; omega
    have hcne:(ws).map (gkC 0 false) ≠ []:=by intro e; rw [e] at hcl; simp at hcl; omega
    refine zA6 rfl _ _ (do_h (C:=C) (name:=name) (W:=.slice _ _ c) (behind:=behind) (used:=0) (quiet:=false) (mu:=true) (M:=0) (N:=3) (V:=.rw 3 (n)) (cs:=(ws).map (gkC 0 false)) hP rfl rfl rfl (by simp [zG]) (by simp [zG]) (by decide) hcne (by rw [hcl]; omega) (fun ρ h1 h2 h3=>?_) (fun pr h=>h) (fun q hq=>by simp only [zG,zE] at hq; omega) rfl) (by simp [zG,zE]) (by simp) ?_
    ·obtain ⟨_,q⟩:=h3
     obtain ⟨_,_,_,q4,_⟩:=q.resolve_right (fun e=>by rw [h2] at e; exact absurd e.1 (by simp))
     exact ⟨(ρ 3).cap,by rw [hcl]; exact q4,by simp only [SC.den]; rw [zI3 h2,hcl]⟩
    (refine zA0 hctr (rs:=res63) true 300 _ _ _ ?_; simp (maxSteps:=1000000) only [VT,qE,qF,qG,qH,qI,qJ,qK,qO,qP,qQ,qV,q0t,qu,qv,ev,qw,qy,qz,zA,zB,zC,zD,zE,zF,zG,zI,zJ,TE.sv,zM,↓reduceIte,reduceCtorEq,Value.oneCell',Nat.reduceEqDiff,Nat.reduceAdd,Nat.reduceLT,zP,zQ,zR,zt,zu,jN,hP,hk,res63,kp63,tC4,zW3,rqS,Rq.zero])
    refine ⟨by omega,?_⟩
    refine mp_row hC Nat.zero_lt_one rfl hres63 (r:={ doR ((ws).map (gkC 0 false)) false with tokens:=Lib.hasSuffix name [115] }) (more:=false) (used:=0) (by exact get_good hgat e2 es (by first | exact hkne | (simp only [zU1,if_true]; exact hkne)) (fun x hx=>hall x (by rw [htk]; first | exact hx | (simp only [zU1,if_true] at hx; exact hx)))) (N:=3) (L:=(zC2 rcS ((ws).map (gkC 0 false))).length) (fun e=>hcne (List.map_eq_nil_iff.1 e)) (fun ρ=>?_) (name:=name) (W:=.slice (some ⟨b0,oo,none⟩) n c) (behind:=behind) (quiet:=false) (mu:=true) rfl ?_ (by decide)
    ·show _=rqA ((SC.rw 3 (((ws).map (gkC 0 false)).map reC).length).den ρ) _
     rw [hcl2]; rfl
    ·show some (⟨(_,0,rowP 16 n _),_,true⟩:EN)=some ⟨(_,0,rowP 16 (((ws).map (gkC 0 false)).map reC).length _),_,true⟩
     rw [hcl2]; rfl
 | true =>
  by_cases h2:2≤n
  ·have c2:decide ((2:Int)≤(n:Int))=true:=decide_eq_true (by omega)
   obtain ⟨x0,hx0⟩:∃ x,ws[0]?=some x:=⟨_,List.getElem?_eq_getElem (by omega)⟩
   obtain ⟨y0,hy0⟩:∃ ks,ws.drop 1=ks:=⟨_,rfl⟩
   obtain rfl:ws=x0 :: y0:=by
    cases ws with
    | nil=>simp at hx0
    | cons a l=>simp at hx0 hy0; rw [hx0,hy0]
   obtain ⟨b0,o,rfl,_⟩:=hr 0 x0 rfl
   have p0:(0:Int) < (n:Int):=by omega
   have q1:(0:Int)≤1:=by decide
   have q2:(1:Int)≤(n:Int):=by omega
   have q3:(n:Int)≤(c:Int):=by have:=h.cap; omega
   obtain ⟨oo,hoo⟩:∃ oo,(if c=1 then o else o+1)=oo:=⟨_,rfl⟩
   cases hs:(zI2 x0).2 with
   | false =>
    (refine zA0 hctr (rs:=res63) true 300 _ _ _ ?_; simp (maxSteps:=1000000) only [VT,jf,qH,qI,qJ,qK,qN,qO,qP,qQ,qV,qe,q0t,qv,ev,qw,qy,qz,zC,zD,zE,zF,zG,zI,zJ,zK,zM,↓reduceIte,reduceCtorEq,Nat.reduceEqDiff,Nat.reduceAdd,Nat.reduceLT,zP,zQ,zR,zT,zV,zo,zt,zu,zx,hP,hk,res63,kp63,tC4,tC2,zN9,zB6,zS5,lnC,Int.toNat_zero,Int.le_refl,hgat,hnn,c2,hs])
    exact zV6 hC hP hE hW hl1 rfl rfl (name:=name) (behind:=behind) (quiet:=false) (i:=0) (x:=x0) rfl (Int.le_refl _) p0 rfl hs (zC6 hC Nat.zero_lt_one rfl (f:=zG9) (by
     have hg':([103,97,116]:List UInt8).isPrefixOf name=true:=hgat
     have h5:decide ((x0 :: y0).length < 2)=false:=decide_eq_false (by omega)
     have h6:(zI2 ((x0 :: y0).getD 0 [])).2=false:=hs
     simp only [zJ7,hg',h5,h6,Bool.true_and,Bool.not_false,if_true,Bool.false_eq_true,if_false]) (name:=name) (behind:=behind) (quiet:=false) rfl)
   | true =>
    have e2:true=true→2≤(x0 :: y0).length:=fun _=>by omega
    have es:true=true→(zI2 ((x0 :: y0).getD 0 [])).2=true:=fun _=>hs
    obtain ⟨m,hm⟩:∃ m,y0.length=m:=⟨_,rfl⟩
    have hmn:n - 1=m:=by rw [← hnn,List.length_cons,hm]; omega
    obtain ⟨cc,hcc⟩:∃ cc,c - 1=cc:=⟨_,rfl⟩
    have hlt:decide ((0:Int) < (m:Int))=true:=decide_eq_true (by omega)
    have hrK:∀ (k:Nat) x,y0[k]?=some x→C.rd b0 (oo+k) 1=some [.s x]:=fun k x hx=>by
     obtain ⟨_,_,he,h1⟩:=hr (k+1) x (by simpa using hx)
     cases he
     have:c ≠ 1:=by omega
     rw [← hoo,if_neg this,show o+1+k=o+(k+1) by omega]
     exact h1
    have hlK:∀ x∈y0,x.length≤9223372036854775807:=fun x hx=>hl1 x (List.mem_cons_of_mem _ hx)
    have hkn:=hm
    have h0:0 < m:=by omega
    obtain ⟨ex,hex⟩:∃ ex,(zI2 x0).1=ex:=⟨_,rfl⟩
    (refine zA0 hctr (rs:=res63) true 300 _ _ _ ?_; simp (maxSteps:=1000000) only [VT,jf,qH,qI,qJ,qK,qN,qO,qP,qQ,qR,qS,qV,qZ,qe,ql,qm,q0t,qv,ev,qw,qy,qz,zC,zD,zE,zF,zG,zI,zJ,zK,zM,↓reduceIte,reduceCtorEq,Nat.reduceEqDiff,Nat.reduceAdd,Nat.reduceLT,zP,zQ,zR,zT,zV,zh,zo,zt,zu,zx,hP,hk,res63,kp63,tC4,tC2,tC1,zN9,zD0,zB6,zS5,lnC,Int.toNat_zero,Int.toNat_one,Nat.mul_one,Int.le_refl,hgat,hnn,c2,hs,p0,q1,q2,q3,hoo,hmn,hcc,hlt,hex])
    refine zG2 true (en':=[⟨(75,0,whole),lnC name (.v (.slice (some ⟨b0,o,none⟩) n c)) behind 0 false,true⟩,⟨(35,0,whole),rqS zB5 Rq.zero,true⟩,gkE ex true []]) (sl':=zU0 (some ⟨b0,oo,none⟩) m cc 0) (52,0,rowP 16 0 0) rfl (fun _=>⟨rfl,.inr ⟨rfl,rfl,rfl⟩⟩) (fun _=>by show ¬ (52:Nat)=zC9; decide) ?_ ?_ ?_
    ·refine ⟨⟨rfl,rfl,fun ρ h=>rfl,?_⟩,⟨rfl,rfl,fun ρ h=>rfl,?_⟩,⟨rfl,rfl,fun ρ h=>rfl,?_⟩,trivial⟩
     all_goals simp [wfs,SC.wf,lnC,gkE,rqS,zB5]
    ·refine ⟨⟨⟨_,rfl,fun ρ h=>rfl⟩,?_⟩,⟨⟨_,rfl,fun ρ h=>rfl⟩,?_⟩,⟨⟨_,rfl,fun ρ h=>rfl⟩,?_⟩,⟨⟨_,rfl,fun ρ h=>?_⟩,?_⟩,⟨⟨_,rfl,fun ρ h=>rfl⟩,?_⟩,⟨⟨_,rfl,fun ρ h=>rfl⟩,?_⟩,⟨⟨_,rfl,fun ρ h=>rfl⟩,?_⟩,trivial⟩
     case refine_4=>have h:(ρ 3).nl=some none:=h; simp only [SV.den,SC.den,zF1 h]
     all_goals simp [SV.wf,SC.wf,zG]
    refine zD6 (ι:={ j:Nat // j≤m∧∀ x∈(y0).take j,zG3 x=true }) (fun j=>zU0 (some ⟨b0,oo,none⟩) m cc j.1) (fun j=>zX8 name (.v (.slice (some ⟨b0,o,none⟩) n c)) behind false ex true (y0) j.1 (lastK (y0) j.1)) (fun j=>m+1 - j.1) ⟨0,Nat.zero_le _,by simp⟩ (zB3 ⟨rfl,rfl,rfl,rfl,rfl,rfl,rfl,trivial⟩) rfl ?_
    rintro ⟨j,hj,hall⟩ D dP dS dw dn dr dk ddf dPan dRet hX hJ
    have hP0:=hP; have hk0:=hk; have hctr0:=hctr
    have hP:D.P=Tryz.prog:=by rw [dP]; exact hP0
    have hk:D.kp=kp63:=by rw [dk]; exact hk0
    have hctr:zC1 D (tC4 (some ⟨b0,o,none⟩) (x0 :: y0)):=tC4_ok hP (by unfold zM6; rw [dS,dw]; exact hE) (by rw [dS,dw]; exact hW) hl1
    show Run D _ _ (zU0 (some ⟨b0,oo,none⟩) m cc j) (zX8 name (.v (.slice (some ⟨b0,o,none⟩) n c)) behind false ex true (y0) j (lastK (y0) j))
    by_cases hjn:j < m
    ·obtain ⟨x,hx⟩:∃ x,(y0)[j]?=some x:=⟨_,List.getElem?_eq_getElem (by omega)⟩
     have c1:decide ((j:Int) < ((m:Nat):Int))=true:=decide_eq_true (by omega)
     have p3:IntKind.i64.wrap ((j:Int)+1)=((j+1:Nat):Int):=by rw [IntWalk.i64_in _ (by omega)]; rfl
     have lx:=hlK x (List.mem_of_getElem? hx)
     have p0:(0:Int)≤(j:Int):=by omega
     have p1:(j:Int) < ((m:Nat):Int):=by omega
     have hrx:=hrK j x hx
     have hrx:D.rd b0 (oo+j) 1=some [.s x]:=by rw [show D.rd=C.rd by unfold Cx.rd; rw [dS,dw]]; exact hrx
     cases hkb:zG3 x with
     | false =>
      (refine zA0 hctr (rs:=res63) true 300 _ _ _ ?_; simp (maxSteps:=1000000) only [VT,jf,qH,qI,qK,qO,qP,qR,qS,qX,ev,qw,qy,qz,zI,zJ,zM,↓reduceIte,reduceCtorEq,Nat.reduceEqDiff,Nat.reduceLT,zP,zQ,zR,zT,zV,zh,zo,rwE,hP,hk,res63,kp63,tC4,tC2,tC1,zN6,zD0,zI8,zU0,zX8,gkE,rqS,zB5,Rq.zero,rwE,lnC,Nat.mul_one,p0,p1,hrx,hkb,lx])
      refine Run_needQ hP rfl rfl fun ρ w' a' hw ha=>dPan _ _ _ (q_pan hC (zC6 hC Nat.zero_lt_one rfl (f:=zA2) (get_bad hgat e2 es (j:=j) (x:=x) (by first | exact hx | (simp only [zU1,if_true]; exact hx)) hkb) (name:=name) (behind:=behind) (quiet:=false) rfl ρ w' (hw.toC dS.symm dw.symm dr.symm dn.symm)) a' (ha.trans ddf))
     | true =>
      (refine zA0 hctr (rs:=res63) true 300 _ _ _ ?_; simp (maxSteps:=1000000) only [VT,jf,qA,qB,qC,qD,qH,qI,qJ,qK,qN,qO,qP,qR,qS,qV,qX,qg,q0t,qv,ev,qw,qy,qz,zA,zB,zC,zD,zE,zF,zG,zI,zJ,zM,↓reduceIte,reduceCtorEq,Nat.reduceEqDiff,Nat.reduceAdd,Nat.reduceLT,Nat.reduceLeDiff,zP,zQ,zR,zT,zV,zh,zk,zl,zo,zt,rwE,hP,hk,res63,kp63,tC4,tC2,tC1,zN6,zD0,zI8,zU0,zX8,gkE,rqS,zB5,Rq.zero,rwE,lnC,Nat.mul_one,Nat.reduceMul,p0,p1,hrx,hkb,lx])
      obtain ⟨i0,hi,hz0,hz1,hz2⟩:=info_parts zZ0
      have jB:zC2 rcS (((y0).take j).map (gkC ex true))++[.i .i64 1,.i .i64 0,.s x,.s [],.i .u32 0,.i .i64 ex,.b true,.i .u64 0,.b false,.i .u64 0,.i .u64 0,.b false,.b false,.i .i64 0,.i .i64 0,.b false]=zC2 rcS (((y0).take (j+1)).map (gkC ex true)):=(cmds_succ ex true hx).symm
      refine zH9 (t:=32) (e:=52) (z:=16) (n:=j) (m:=1) (bts:=136) (X:=.rw 3 j) (Y:=.sl 4 0 1 1) (o:=some 3) (by rw [hP]; exact Tryz.underlying32) (by rw [hP]; exact hi) hz0 hz1 hz2 rfl (by decide) (by show ¬ (52:Nat)=zC9; decide) (.some rfl) rfl rfl (zU5 (L:=16) rfl rfl) rfl rfl (fun pr=>by intro y hy; simp only [List.mem_cons,List.not_mem_nil,or_false] at hy; rcases hy with rfl | rfl | rfl | rfl | rfl | rfl | rfl | rfl | rfl | rfl | rfl | rfl | rfl | rfl | rfl | rfl <;> trivial) (by omega) (by omega) (by rw [dn,hC]; simp [zL]) rfl (by simp) ?_
      rw [jB]
      (refine zA0 hctr (rs:=res63) true 300 _ _ _ ?_; simp (maxSteps:=1000000) only [VT,qH,qI,qK,qO,qR,qS,ev,qy,qz,zD,zE,zF,zG,zI,zJ,↓reduceIte,reduceCtorEq,Nat.reduceEqDiff,Nat.reduceAdd,Nat.reduceLT,zP,zQ,zR,zt,zM2,zH4,rwE,jN,hk,kp63,rwE,zM2,zH4,p3])
      have hJ':=hJ ⟨j+1,by omega,fun y hy=>?_⟩ (zU0 (some ⟨b0,oo,none⟩) m cc (j+1)) (by show m+1 - (j+1) < m+1 - j; omega) (fun d v h=>h)
      rw [lastK_succ hx] at hJ'
      refine zI6 (f:=fun c=>if c=3 then 5 else c) (enK:=zX8 name (.v (.slice (some ⟨b0,o,none⟩) n c)) behind false ex true (y0) (j+1) x) (slK:=zU0 (some ⟨b0,oo,none⟩) m cc (j+1)) ⟨fun q hq=>?_,?_⟩ ?_ ?_ ?_ hJ'
      ·have:q < 1:=by rw [dn,hC] at hq; exact hq
       rw [if_neg (by omega)]
      ·rw [dn,hC]; exact (by decide:1≤4)
      ·intro p q hp hq h
       have hp:p < 4:=hp
       have hq:q < 4:=hq
       have h:(if p=3 then 5 else p)=(if q=3 then 5 else q):=h
       split at h <;> split at h <;> omega
      ·refine ⟨⟨_,rfl,fun ρ=>rfl,?_⟩,⟨_,rfl,fun ρ=>rfl,?_⟩,⟨_,rfl,fun ρ=>rfl,?_⟩,⟨_,rfl,fun ρ=>(zQ9 _ _).trans (zQ9 _ _).symm,rc_wf _ _⟩,trivial⟩
       all_goals simp [wfs,SC.wf,lnC,gkE,rqS,zB5]
      ·refine ⟨⟨?_,_,rfl,fun ρ=>rfl⟩,⟨?_,_,rfl,fun ρ=>rfl⟩,⟨?_,_,rfl,fun ρ=>rfl⟩,⟨?_,_,rfl,fun ρ=>rfl⟩,⟨?_,_,rfl,fun ρ=>rfl⟩,⟨?_,_,rfl,fun ρ=>rfl⟩,⟨?_,_,rfl,fun ρ=>rfl⟩,trivial⟩
       all_goals simp [SV.wf,SC.wf,zX8]
      ·rw [List.take_succ_eq_append_getElem (by omega),List.mem_append,List.mem_singleton] at hy
       rcases hy with hy | rfl
       ·exact hall y hy
       ·have e:(y0)[j]'(by omega)=x:=(List.getElem?_eq_some_iff.1 hx).2
        rw [e]; exact hkb
    ·have hjm:j=m:=by omega
     have htk:(y0).take j=y0:=List.take_of_length_le (by omega)
     have c1:decide ((j:Int) < ((m:Nat):Int))=false:=decide_eq_false (by omega)
     (refine zA0 hctr (rs:=res63) true 300 _ _ _ ?_; simp (maxSteps:=1000000) only [VT,jg,qH,qI,qK,qR,qS,ev,qy,zH,zI,zJ,↓reduceIte,reduceCtorEq,Nat.reduceEqDiff,Nat.reduceLT,zP,zR,zW,rwE,hk,res63,kp63,zU0,zX8,gkE,rqS,zB5,Rq.zero,rwE,lnC,c1])
     refine hX rfl rfl ?_
     have hP:=hP0; have hk:=hk0; have hctr:=hctr0
     rw [htk,hjm]
     (refine zA0 hctr (rs:=res63) true 300 _ _ _ ?_; simp (maxSteps:=1000000) only [VT,qH,qI,qK,qO,ev,qw,qy,↓reduceIte,reduceCtorEq,Nat.reduceEqDiff,Nat.reduceLT,zR,tC4,tC2,tC1,zN6])
     have hcl:((y0).map (gkC ex true)).length=m:=by rw [List.length_map,hkn]
     have hcl2:(((y0).map (gkC ex true)).map reC).length=m:=by rw [List.length_map,hcl]
     have hkne:y0 ≠ []:=by intro e; rw [e] at hkn; simp at hkn; omega
     have hcne:(y0).map (gkC ex true) ≠ []:=by intro e; rw [e] at hcl; simp at hcl; omega
     refine zA6 rfl _ _ (do_h (C:=C) (name:=name) (W:=.slice _ _ c) (behind:=behind) (used:=0) (quiet:=false) (mu:=true) (M:=0) (N:=3) (V:=.rw 3 (m)) (cs:=(y0).map (gkC ex true)) hP rfl rfl rfl (by simp [zG]) (by simp [zG]) (by decide) hcne (by rw [hcl]; omega) (fun ρ h1 h2 h3=>?_) (fun pr h=>h) (fun q hq=>by simp only [zG,zE] at hq; omega) rfl) (by simp [zG,zE]) (by simp) ?_
     ·obtain ⟨_,q⟩:=h3
      obtain ⟨_,_,_,q4,_⟩:=q.resolve_right (fun e=>by rw [h2] at e; exact absurd e.1 (by simp))
      exact ⟨(ρ 3).cap,by rw [hcl]; exact q4,by simp only [SC.den]; rw [zI3 h2,hcl]⟩
     (refine zA0 hctr (rs:=res63) true 300 _ _ _ ?_; simp (maxSteps:=1000000) only [VT,qE,qF,qG,qH,qI,qJ,qK,qO,qP,qQ,qV,q0t,qu,qv,ev,qw,qy,qz,zA,zB,zC,zD,zE,zF,zG,zI,zJ,TE.sv,zM,↓reduceIte,reduceCtorEq,Value.oneCell',Nat.reduceEqDiff,Nat.reduceAdd,Nat.reduceLT,zP,zQ,zR,zt,zu,jN,hP,hk,res63,kp63,tC4,zW3,rqS,Rq.zero])
     refine ⟨by omega,?_⟩
     refine mp_row hC Nat.zero_lt_one rfl hres63 (r:={ doR ((y0).map (gkC ex true)) false with tokens:=Lib.hasSuffix name [115] }) (more:=false) (used:=0) (by rw [← hex]; exact get_good hgat e2 es (by first | exact hkne | (simp only [zU1,if_true]; exact hkne)) (fun x hx=>hall x (by rw [htk]; first | exact hx | (simp only [zU1,if_true] at hx; exact hx)))) (N:=3) (L:=(zC2 rcS ((y0).map (gkC ex true))).length) (fun e=>hcne (List.map_eq_nil_iff.1 e)) (fun ρ=>?_) (name:=name) (W:=.slice (some ⟨b0,o,none⟩) n c) (behind:=behind) (quiet:=false) (mu:=true) rfl ?_ (by decide)
     ·show _=rqA ((SC.rw 3 (((y0).map (gkC ex true)).map reC).length).den ρ) _
      rw [hcl2]; rfl
     ·show some (⟨(_,0,rowP 16 m _),_,true⟩:EN)=some ⟨(_,0,rowP 16 (((y0).map (gkC ex true)).map reC).length _),_,true⟩
      rw [hcl2]; rfl
  ·have c2:decide ((2:Int)≤(n:Int))=false:=decide_eq_false (by omega)
   (refine zA0 hctr (rs:=res63) true 300 _ _ _ ?_; simp (maxSteps:=1000000) only [VT,jf,qH,qI,qJ,qK,qN,qO,qP,qQ,qV,qe,q0t,qv,ev,qw,qy,qz,zC,zD,zE,zF,zG,zI,zJ,zK,zM,↓reduceIte,reduceCtorEq,Nat.reduceEqDiff,Nat.reduceAdd,Nat.reduceLT,zP,zQ,zR,zV,zo,zt,zu,zw,hP,hk,res63,kp63,tC4,tC2,zN9,zB6,lnC,Int.le_refl,hgat,hnn,c2])
   exact zE8 hC hP hE rfl rfl (name:=name) (behind:=behind) (quiet:=false) rfl (by omega) (zC6 hC Nat.zero_lt_one rfl (f:=zA5) (by
    have hg':([103,97,116]:List UInt8).isPrefixOf name=true:=hgat
    have h5:decide (ws.length < 2)=true:=decide_eq_true (by omega)
    simp only [zJ7,hg',h5,Bool.true_and,if_true]) (name:=name) (behind:=behind) (quiet:=false) rfl)
end Go.Proofs.YtcbmlanpianclaaGreatDoor
/- The contracts of library functions that this claim uses, laid at this translation by the guide's shelf tools: each is one application of a theorem of the library. -/
namespace Go.Proofs
set_option linter.unusedSimpArgs false
set_option linter.unusedVariables false
open Go.Shelf
def Tryz.lays109_ren:Go.Shelf.Ren:=⟨fun | 109=>99 | n=>n,fun | 31=>33 | 9=>9 | 3=>3 | 0=>0 | 4=>4 | n=>n,fun | n=>n⟩
theorem Tryz.lays109:Go.Proofs.Lays.n109 Tryz.prog Tryz.lays109_ren:={
 mixed:=by kernel_rfl
 f109:=Tryz.func99.trans (congrArg some (by kernel_rfl))
 t0:=Tryz.underlying0
 a0:=Tryz.isAgg0
 z0:=Tryz.sizeOf0
 v0:=Tryz.zeroValue0
 t3:=Tryz.underlying3
 a3:=Tryz.isAgg3
 z3:=Tryz.sizeOf3
 v3:=Tryz.zeroValue3
 t4:=Tryz.underlying4
 a4:=Tryz.isAgg4
 z4:=Tryz.sizeOf4
 v4:=Tryz.zeroValue4
 t9:=Tryz.underlying9
 a9:=Tryz.isAgg9
 z9:=Tryz.sizeOf9
 v9:=Tryz.zeroValue9
 t31:=Tryz.underlying33
 a31:=Tryz.isAgg33
 z31:=Tryz.sizeOf33
 v31:=Tryz.zeroValue33 }
open Go.Lib in
theorem Tryz.slices_Index_string (b off n c:Nat) (zs:List ByteArray) (x:ByteArray) (w:World) (hz:n≤zs.length) (hbig:n≤9223372036854775807) (hc:∀ j,j < zs.length→w.cell? ⟨b,off+j,none⟩=some (.string (zs.getD j ByteArray.empty))) :
  Calls Tryz.prog 99 #[.slice (some ⟨b,off,none⟩) n c,.string x] w fun e w'=>e=.returned (.int .i64 (Lib.idxOfS (zs.take n) x))∧w'=w:=Any.slices_Index_string Tryz.lays109 b off n c zs x w hz hbig hc
end Go.Proofs
/- modes, and where a name stands among them. -/
namespace Go.Proofs.YtcbmlanpianclaaGreatDoor
set_option linter.unusedSimpArgs false
set_option linter.unusedVariables false
set_option maxHeartbeats 8000000
open Go.RowKit
set_option maxRecDepth 100000
def mdN:List (List UInt8):=[[115,101,116],[97,100,100],[114,101,112,108,97,99,101],[97,112,112,101,110,100],[112,114,101,112,101,110,100]]
def mdS:List SC:=[.s [115,101,116],.s [97,100,100],.s [114,101,112,108,97,99,101],.s [97,112,112,101,110,100],.s [112,114,101,112,101,110,100]]
def mdE:EN:=⟨(9,0,whole),mdS,true⟩
theorem modes_w (w:World):Calls Tryz.prog 100 #[] w fun e w'=>∃ g,w.heap.size≤g∧e=.returned (.slice (some ⟨g,0,none⟩) 5 5)∧w'.heap[g]?=some (.cells (mdN.map fun x=>Value.string ⟨x.toArray⟩).toArray 9 (0,0))∧Below w.heap.size w w':=by
 refine zA1 Tryz.func100 rfl kp100 (S:=Non) (ρ:=fun _=>zD7 0) (en:=[]) [] Tryz.ntmps100 (At.nil _ _ _) (by simp) (by simp) ?_
 intro C hC hP hk
 have hctr:=zF8 hP
 (refine zR7 hctr (rs:=res100) 200 _ _ _ ?_; simp (maxSteps:=1000000) only [VC,qA,qB,qC,qD,qE,qF,qG,qH,qI,qK,qO,qg,q0t,ev,qy,qz,zC,zD,zF,zG,zI,zJ,TE.sv,zK,zM,↓reduceIte,reduceCtorEq,Nat.reduceAdd,Nat.reduceLT,Nat.reduceLeDiff,zP,zQ,zR,zT,zt,hP,hk,res100,kp100,Nat.reduceMul])
 refine zC3 (v:=.c (.sl 0 0 5 5)) hC hres100 fun ρ w' hw _ _=>?_
 obtain ⟨k1,k2,k3,k4,k5⟩:=zE4 (c:=0) hw.hp hw.ho (by simp) rfl (by decide) (by simp)
 have hm:=hw.mu 0 _ _ (by simp) rfl
 have hup:=hw.up
 rw [hC] at hm hup
 exact ⟨(ρ 0).blk,hm.resolve_left (fun h=>h),by simp [SV.den,SC.den,k3],k1,hup.to_below⟩
theorem modes_h {C:Cx} {nE N:Nat} {mk:Nat→Prop} {en en':List EN} (hP:C.P=Tryz.prog) (hmk:∀ q,mk q ↔ q=N) (hn0:C.n0≤N) (hN:zD en' N=some mdE) (hq:∀ q,q ≠ N→zD en' q=zD en q):zJ0 C nE mk en en' 100 [] (.c (.sl N 0 5 5)):=by
 refine zZ2 (vals:=mdN.map fun x=>Value.string ⟨x.toArray⟩) (fun args w=>by rw [hP]; exact Tryz.call100 args w) hmk hn0 hN hq (by show ¬ (9:Nat)=zC9; decide) (fun ρ=>rfl) ?_ (fun pr h=>h) ?_
 ·intro pr x hx
  simp only [mdE,mdS,List.mem_cons,List.not_mem_nil,or_false] at hx
  rcases hx with rfl | rfl | rfl | rfl | rfl <;> trivial
 ·intro ρ pr w hw _ _
  rw [hP]
  refine (modes_w w).mono ?_
  rintro z w' ⟨g,h1,rfl,h2,h3⟩
  exact ⟨zD7 g,⟨rfl,⟨rfl,rfl⟩,fun _=>⟨h1,by simpa [zD7,mdE] using h2⟩,fun h=>absurd rfl h,fun h=>absurd rfl h⟩,fun ρ' _ hr=>by simp [SV.den,SC.den,hr,zD7],h3⟩
def mdI (name:List UInt8):Int:=Lib.idxOfS (mdN.map fun x=>⟨x.toArray⟩) ⟨name.toArray⟩
theorem index_h {C:Cx} {nE d:Nat} {mk:Nat→Prop} {en:List EN} (name:List UInt8) (hP:C.P=Tryz.prog) (hmk:∀ q,¬ mk q) (hd:zD en d=some mdE):zJ0 C nE mk en en 99 [.c (.sl d 0 5 5),.c (.s name)] (.c (.i .i64 (mdI name))):=by
 refine soft_h (fun args w=>by rw [hP]; exact Tryz.call99 args w) hmk ?_
 intro ρ pr w hw hpr hx
 refine ⟨trivial,?_⟩
 have hdp:pr d:=hx (.c (.sl d 0 5 5)) (by simp)
 rw [hP]
 obtain ⟨k1,k2,k3,k4,k5⟩:=zE4 (c:=d) hw.hp hw.ho hdp hd (by decide) (by simp [mdS])
 have hi:=Tryz.slices_Index_string (ρ d).blk 0 5 5 (mdN.map fun x=>⟨x.toArray⟩) ⟨name.toArray⟩ w (by simp [mdN]) (by decide) (fun j hj=>by
  have hj:j < 5:=hj
  have:=k1.cell j
  rw [Nat.zero_add,this]
  match j,hj with
  | 0,_=>rfl
  | 1,_=>rfl
  | 2,_=>rfl
  | 3,_=>rfl
  | 4,_=>rfl)
 have e0:(List.map (SV.den ρ) [.c (.sl d 0 5 5),.c (.s name)]).toArray=#[.slice (some ⟨(ρ d).blk,0,none⟩) 5 5,.string ⟨name.toArray⟩]:=by simp [SV.den,SC.den,k3]
 rw [e0]
 refine hi.mono ?_
 rintro z w' ⟨rfl,rfl⟩
 refine ⟨?_,Below.refl _ _⟩
 rw [List.take_of_length_le (by simp [mdN])]; rfl
theorem mdI_mode {name:List UInt8} (h:name=[115,101,116]∨name=[97,100,100]∨name=[114,101,112,108,97,99,101]∨name=[97,112,112,101,110,100]∨name=[112,114,101,112,101,110,100]∨name=[99,97,115]) :
  (if (0:Int) < mdI name then mdI name else 0)=zY8 name:=by
 rcases h with rfl | rfl | rfl | rfl | rfl | rfl <;> decide
theorem four_of {α:Type} {l:List α} (h:l.length=4):∃ a b c d,l=[a,b,c,d]:=by
 match l,h with
 | [a,b,c,d],_=>exact ⟨a,b,c,d,rfl⟩
theorem five_of {α:Type} {l:List α} (h:l.length=5):∃ a b c d e,l=[a,b,c,d,e]:=by
 match l,h with
 | [a,b,c,d,e],_=>exact ⟨a,b,c,d,e,rfl⟩
theorem sec_get (x:List UInt8):(zC5 x).getD 0=(zI2 x).1:=by unfold zI2; cases zC5 x <;> rfl
theorem cut_sufV {b:List UInt8} {n:Nat} (h:n+2≤b.length):Lib.hasSuffix (b.take (n+2)) [13,10]=((b.take (n+2)).drop n == [13,10])∧(Lib.hasSuffix (b.take (n+2)) [13,10]=true→Lib.trimSuffix (b.take (n+2)) [13,10]=b.take n):=by
 have hl:(b.take (n+2)).length=n+2:=by rw [List.length_take]; omega
 constructor
 ·rw [Bool.eq_iff_iff,beq_iff_eq]
  show ([13,10]:List UInt8).isSuffixOf _=true ↔ _
  rw [List.isSuffixOf_iff_suffix,List.suffix_iff_eq_drop,hl]
  exact ⟨fun h=>h.symm,fun h=>h.symm⟩
 ·intro hs
  unfold Lib.trimSuffix
  rw [if_pos hs,hl,List.take_take,Nat.min_eq_left (by simp)]
  simp
end Go.Proofs.YtcbmlanpianclaaGreatDoor
