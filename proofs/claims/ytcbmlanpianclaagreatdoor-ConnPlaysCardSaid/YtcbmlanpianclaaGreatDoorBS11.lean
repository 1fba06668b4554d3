/- store: set, add, replace, append, prepend, cas. Printed by gen_tstore.py. -/
import Derived.Test.YtcbmlanpianclaaGreatDoorBS10
import Derived.Test.YtcbmlanpianclaaGreatDoorBS05
namespace Go.Proofs.YtcbmlanpianclaaGreatDoor
set_option linter.unusedSimpArgs false
set_option linter.unusedVariables false
set_option maxHeartbeats 8000000
open Go.RowKit
set_option maxRecDepth 100000
theorem store_set {name:List UInt8} (hname:name=[115,101,116]∨name=[97,100,100]∨name=[114,101,112,108,97,99,101]∨name=[97,112,112,101,110,100]∨name=[112,114,101,112,101,110,100]∨name=[99,97,115]) (htok:(name == [99,97,115])=false) {w:World} {g:Nat} {a:Option Addr} {c:Nat} {ws:List (List UInt8)} {behind:List UInt8} (h:Ln w g name a ws.length c ws behind 0 false) (hn:ws.length≤100000) (hl:∀ x∈ws,x.length≤100000) (hb:behind.length≤9223372036854775807) (hE0:EnvG g w) :
  Calls Tryz.prog 64 #[.pointer (some ⟨g,0,none⟩)] w (MP F2 g w (zB4 name ws behind)):=by
 obtain ⟨w1,q,hoff⟩:∃ w1 q,zN5 ws=(w1,q):=⟨_,_,rfl⟩
 have hpre:=zM0 ws
 rw [hoff] at hpre
 simp only at hpre
 have hl1:∀ x∈w1,x.length≤9223372036854775807:=fun x hx=>by rw [hpre] at hx; have:=hl x (List.mem_of_mem_take hx); omega
 obtain ⟨n,hnn⟩:∃ n,w1.length=n:=⟨_,rfl⟩
 have hmx:=mdI_mode hname
 refine zA1 Tryz.func64 rfl kp64 (S:=One g) (ρ:=fun _=>zD7 g) [.c (.p 0 0)] Tryz.ntmps64 (zO9 h.blk true (One g) (fun _=>rfl)) (by simp [SV.wf,SC.wf]) (by simp) ?_
 intro C hC hP hk
 have hLW:LW C g w:=zS9 hC Nat.zero_lt_one rfl
 have hE:zM6 C:=hE0.C hLW.S hLW.w0
 have hW0:∀ w',Upd C.S C.w0 w'→RawSV w' g a ws:=fun w' hu=>by rw [hLW.S,hLW.w0] at hu; exact h.raw.upd hu
 have hW:∀ w',Upd C.S C.w0 w'→RawSV w' g a w1:=fun w' hu=>(hW0 w' hu).pre hpre
 have hr:∀ (k:Nat) x,w1[k]?=some x→∃ b o,a=some ⟨b,o,none⟩∧C.rd b (o+k) 1=some [.s x]:=fun k x hx=>(h.raw.pre hpre).rd (D:=C) (by rw [hLW.S]; exact fun k hk=>hk) hLW.w0 hx
 have hctr:=tC4_ok hP hE hW hl1
 (refine zA0 hctr (rs:=res64) true 400 _ _ _ ?_; simp (maxSteps:=1000000) only [VT,qH,qI,qK,qO,ev,qw,qy,qz,zF,zG,zI,zJ,zK,zM,↓reduceIte,reduceCtorEq,Nat.reduceEqDiff,Nat.reduceLT,zP,zR,zt,hP,hk,kp64,tC4,tC2,tC1,zN6,lnC])
 refine zA6 rfl (.t []) _ (off_h (C:=C) hP hE (name:=name) (a:=a) (c:=c) (ws:=ws) (behind:=behind) (used:=0) (N:=0) rfl (by simp [zG]) h.cap (by omega) hLW.n0 hLW.r0 hW0 (fun q hq=>by simp only [zG,zE] at hq; omega) rfl) (by simp [zG,zE]) (by simp) ?_
 by_cases hc:n=4
 ·obtain ⟨key,fl,ex,sz,rfl⟩:=four_of (hnn.trans hc)
  have c1:(decide ((4:Int)≤((4:Nat):Int)) && decide (((4:Nat):Int)≤4))=true:=rfl
  obtain ⟨b,o,rfl,r0⟩:=hr 0 key rfl
  have r0:C.rd b o 1=some [.s key]:=r0
  obtain ⟨_,_,he,r1⟩:=hr 1 fl rfl
  cases he
  obtain ⟨_,_,he,r2⟩:=hr 2 ex rfl
  cases he
  obtain ⟨_,_,he,r3⟩:=hr 3 sz rfl
  cases he
  have p0:(0:Int) < ((4:Nat):Int):=by decide
  have q0:(0:Int)≤0:=by decide
  have t0:Int.toNat 0=0:=rfl
  have l0:key.length≤9223372036854775807:=hl1 key (by simp)
  have p1:(1:Int) < ((4:Nat):Int):=by decide
  have q1:(0:Int)≤1:=by decide
  have t1:Int.toNat 1=1:=rfl
  have l1:fl.length≤9223372036854775807:=hl1 fl (by simp)
  have p2:(2:Int) < ((4:Nat):Int):=by decide
  have q2:(0:Int)≤2:=by decide
  have t2:Int.toNat 2=2:=rfl
  have l2:ex.length≤9223372036854775807:=hl1 ex (by simp)
  have p3:(3:Int) < ((4:Nat):Int):=by decide
  have q3:(0:Int)≤3:=by decide
  have t3:Int.toNat 3=3:=rfl
  have l3:sz.length≤9223372036854775807:=hl1 sz (by simp)
  cases hv:zB0 sz with
  | none =>
   (refine zA0 hctr (rs:=res64) true 400 _ _ _ ?_; simp (maxSteps:=1000000) only [VT,jg,aA,qH,qI,qK,qO,qP,qQ,qR,qS,qV,qX,qh,qp,ev,qw,qy,qz,zD,zE,zI,zJ,TE.sv,zM,↓reduceIte,reduceCtorEq,Nat.reduceEqDiff,Nat.reduceAdd,Nat.reduceLT,zP,zQ,zR,zT,zW,zk,zl,zt,zu,jN,hP,hk,res64,kp64,tC4,tC2,tC1,zN6,zD0,zP4,zF6,zB6,lnC,hoff,Nat.mul_one,c1,htok,r3,p3,q3,t3,l3,hv,Option.getD_none,Option.isSome_none])
   exact zJ8 hC hP rfl rfl (zC6 hC Nat.zero_lt_one rfl (f:=zA2) (by simp [zB4,hoff,htok,hv]) (name:=name) (behind:=behind) (quiet:=q) rfl)
  | some m =>
   by_cases hbig:1073741824 < m
   ·have c2:decide ((m:Int)≤1073741824)=false:=decide_eq_false (by omega)
    (refine zA0 hctr (rs:=res64) true 400 _ _ _ ?_; simp (maxSteps:=1000000) only [VT,jf,jg,jZ,qH,qI,qK,qO,qP,qQ,qR,qS,qV,qX,qh,qp,ev,qw,qy,qz,zD,zE,zI,zJ,TE.sv,zM,↓reduceIte,reduceCtorEq,Nat.reduceEqDiff,Nat.reduceAdd,Nat.reduceLT,zP,zQ,zR,zT,zV,zW,zk,zl,zt,zu,jN,hP,hk,res64,kp64,tC4,tC2,tC1,zN6,zD0,zP4,zF6,zB6,lnC,hoff,Nat.mul_one,c1,htok,r3,p3,q3,t3,l3,hv,Option.getD_some,Option.isSome_some,c2])
    exact zJ8 hC hP rfl rfl (zC6 hC Nat.zero_lt_one rfl (f:=zA2) (by simp [zB4,hoff,htok,hv,hbig]) (name:=name) (behind:=behind) (quiet:=q) rfl)
   ·have c2:decide ((m:Int)≤1073741824)=true:=decide_eq_true (by omega)
    have w1:IntKind.i64.wrap (m:Int)=(m:Int):=IntWalk.i64_in _ (by omega)
    have w2:IntKind.i64.wrap ((m:Int)+2)=((m+2:Nat):Int):=by rw [IntWalk.i64_in _ (by omega)]; rfl
    have se:=sec_get ex
    obtain ⟨fv,hfv⟩:∃ fv,(zB0 fl).getD 0=fv:=⟨_,rfl⟩
    obtain ⟨fb,hfb⟩:∃ fb,(zB0 fl).isSome=fb:=⟨_,rfl⟩
    obtain ⟨xv,hxv⟩:∃ xv,(zI2 ex).1=xv:=⟨_,rfl⟩
    obtain ⟨xb,hxb⟩:∃ xb,(zI2 ex).2=xb:=⟨_,rfl⟩
    obtain ⟨md,hmd⟩:∃ md,zY8 name=md:=⟨_,rfl⟩
    rw [hxv] at se
    rw [hmd] at hmx
    (refine zA0 hctr (rs:=res64) true 400 _ _ _ ?_; simp (maxSteps:=1000000) only [VT,jf,jg,jZ,qH,qI,qK,qO,qP,qQ,qR,qS,qV,qX,qh,qp,ev,qw,qy,qz,zD,zE,zI,zJ,TE.sv,zM,↓reduceIte,reduceCtorEq,Nat.reduceEqDiff,Nat.reduceAdd,Nat.reduceLT,zP,zQ,zR,zT,zV,zW,zk,zl,zt,zu,jN,hP,hk,res64,kp64,tC4,tC2,tC1,zN6,zD0,zP4,zF6,zB6,lnC,hoff,Nat.mul_one,c1,htok,r1,p1,q1,t1,l1,r2,p2,q2,t2,l2,r3,p3,q3,t3,l3,hv,Option.getD_some,Option.isSome_some,c2,se,hfv,hfb,hxb])
    (refine zH2 hctr (by rw [hP]; rfl) rs64_10 [jB (fun N => .c (.sl N 0 5 5)) (fun _ => mdE), fun en => (.c (.i .i64 (mdI name)), en)] (ensure_type_of% (Cmp.of (by simp (maxSteps := 1000000) only [qA, qK, qN, qO, qP, qQ, qU, qV, qX, qf, qg, qo, q0t, qu, qv, ev, qw, qy, qz, zC, zD, zE, zF, zG, zM, ↓reduceIte, reduceCtorEq, Nat.reduceEqDiff, Nat.reduceAdd, zP, zT, zt, zu, cE, jA, jB, jC, jD, jF, jG, jH, jJ, jK, jL, jM, jN, hP, tC4, tC2, tC1, zN6, mdE, mdS, Nat.mul_one, r0, p0, q0, t0, hmx]; rfl)) "" Cmp.mk) (by kernel_rfl) (by kernel_rfl) (by first | exact zC7 _ | kernel_rfl) (by kernel_rfl) (by rfl) (by rfl) (by first | exact zB2 _ | rfl) (by rfl) ?_ ?_; rotate_left; refine zA0 hctr (rs := res64) true 400 _ _ _ ?_; simp (maxSteps := 1000000) only [VT, jg, qH, qI, qK, qO, qP, qR, qS, qT, qU, qV, ev, qw, qy, qz, zD, zG, zI, zJ, zM, ↓reduceIte, reduceCtorEq, Nat.reduceEqDiff, Nat.reduceAdd, Nat.reduceLT, zP, zQ, zR, zW, zt, jN, jO, hP, hk, res64, kp64, tC4, tC2, tC1, zN6, zI8, l0, w1, w2]; rotate_left; simp (maxSteps := 1000000) only [qK, qN, qO, qP, qQ, qU, qV, qX, qf, qg, qo, q0t, qu, qv, ev, qw, qy, qz, zC, zD, zE, zG, zM, ↓reduceIte, reduceCtorEq, Nat.reduceEqDiff, Nat.reduceAdd, Nat.reduceSub, Nat.reduceLeDiff, zP, zR, zS, zT, zn, zt, zu, jD, jF, jG, jH, jN, jP, jQ, jR, jS, jT, jU, hP, Nat.mul_one, r0, p0, q0, t0, hmx])
    ·exact ⟨modes_h hP (zX0 (by simp)) (by rw [hC]; exact (by decide:1≤2)) rfl (fun q _=>rfl),index_h name hP (mkC_no (by simp)) rfl⟩
    cases xb with
    | false =>
     cases hkb:zG3 key with
     | false =>
      simp (maxSteps:=1000000) only [VT,jf,aA,qE,qF,qG,qH,qI,qJ,qK,qO,qP,qV,qp,q0t,qu,qv,ev,qw,qy,qz,zA,zB,zC,zD,zE,zG,zI,zJ,zM,↓reduceIte,reduceCtorEq,Value.oneCell',Nat.reduceEqDiff,Nat.reduceAdd,Nat.reduceLT,zP,zQ,zR,zV,zW,zt,hP,hk,kp64,tC4,tC2,tC1,zF7,rqS,zB5,zD9]
      exact zE3 hC Nat.zero_lt_one rfl hres64 (r:={ zD9 zA2 with skip:=((m+2:Nat):Int) }) (more:=false) (used:=0) (by simp [zB4,hoff,htok,hv,hbig,hkb]) rfl (fun ρ=>rfl) rfl
     | true =>
      cases fb with
      | false =>
       simp (maxSteps:=1000000) only [VT,jf,jg,jZ,aA,qE,qF,qG,qH,qI,qJ,qK,qO,qP,qT,qV,qp,q0t,qu,qv,ev,qw,qy,qz,zA,zB,zC,zD,zE,zG,zI,zJ,zM,↓reduceIte,reduceCtorEq,Value.oneCell',Nat.reduceEqDiff,Nat.reduceAdd,Nat.reduceLT,zP,zQ,zR,zV,zW,zt,hP,hk,kp64,tC4,tC2,tC1,zF7,rqS,zB5,zD9]
       have hfb':zB0 fl=none:=by cases h:zB0 fl with | none=>rfl | some v=>rw [h] at hfb; cases hfb
       exact zE3 hC Nat.zero_lt_one rfl hres64 (r:={ zD9 zA2 with skip:=((m+2:Nat):Int) }) (more:=false) (used:=0) (by simp [zB4,hoff,htok,hv,hbig,hkb,hfb']) rfl (fun ρ=>rfl) rfl
      | true =>
       obtain ⟨v,hv'⟩:∃ v,zB0 fl=some v:=by cases h:zB0 fl with | none=>rw [h] at hfb; cases hfb | some v=>exact ⟨v,rfl⟩
       obtain rfl:v=fv:=by rw [hv'] at hfv; exact hfv
       by_cases hgt:4294967295 < v
       ·have g1:decide ((4294967295:Int) < (v:Int))=true:=decide_eq_true (by omega)
        simp (maxSteps:=1000000) only [VT,jf,jg,jZ,aA,qE,qF,qG,qH,qI,qJ,qK,qO,qP,qR,qS,qT,qV,qp,q0t,qu,qv,ev,qw,qy,qz,zA,zB,zC,zD,zE,zG,zI,zJ,zM,↓reduceIte,reduceCtorEq,Value.oneCell',Nat.reduceEqDiff,Nat.reduceAdd,Nat.reduceLT,zP,zQ,zR,zV,zW,zt,hP,hk,kp64,tC4,tC2,tC1,zF7,rqS,zB5,zD9,g1]
        exact zE3 hC Nat.zero_lt_one rfl hres64 (r:={ zD9 zA2 with skip:=((m+2:Nat):Int) }) (more:=false) (used:=0) (by simp [zB4,hoff,htok,hv,hbig,hkb,hv',hgt]) rfl (fun ρ=>rfl) rfl
       ·have g1:decide ((4294967295:Int) < (v:Int))=false:=decide_eq_false (by omega)
        simp (maxSteps:=1000000) only [VT,jf,jg,jZ,qE,qF,qG,qH,qI,qJ,qK,qO,qP,qR,qS,qT,qV,qp,q0t,qu,qv,ev,qw,qy,qz,zA,zB,zC,zD,zE,zG,zI,zJ,zM,↓reduceIte,reduceCtorEq,Value.oneCell',Nat.reduceEqDiff,Nat.reduceAdd,Nat.reduceLT,zP,zQ,zR,zV,zW,zt,hP,hk,kp64,tC4,tC2,tC1,zF7,rqS,zB5,zD9,g1]
        exact zE3 hC Nat.zero_lt_one rfl hres64 (r:={ zD9 zA2 with skip:=((m+2:Nat):Int) }) (more:=false) (used:=0) (by simp [zB4,hoff,htok,hv,hbig,hkb,hv',hgt,hxb]) rfl (fun ρ=>rfl) rfl
    | true =>
     cases hkb:zG3 key with
     | false =>
      simp (maxSteps:=1000000) only [VT,jf,aA,qE,qF,qG,qH,qI,qJ,qK,qO,qP,qV,qp,q0t,qu,qv,ev,qw,qy,qz,zA,zB,zC,zD,zE,zG,zI,zJ,zM,↓reduceIte,reduceCtorEq,Value.oneCell',Nat.reduceEqDiff,Nat.reduceAdd,Nat.reduceLT,zP,zQ,zR,zV,zW,zt,hP,hk,kp64,tC4,tC2,tC1,zF7,rqS,zB5,zD9]
      exact zE3 hC Nat.zero_lt_one rfl hres64 (r:={ zD9 zA2 with skip:=((m+2:Nat):Int) }) (more:=false) (used:=0) (by simp [zB4,hoff,htok,hv,hbig,hkb]) rfl (fun ρ=>rfl) rfl
     | true =>
      cases fb with
      | false =>
       simp (maxSteps:=1000000) only [VT,jf,jg,jZ,aA,qE,qF,qG,qH,qI,qJ,qK,qO,qP,qT,qV,qp,q0t,qu,qv,ev,qw,qy,qz,zA,zB,zC,zD,zE,zG,zI,zJ,zM,↓reduceIte,reduceCtorEq,Value.oneCell',Nat.reduceEqDiff,Nat.reduceAdd,Nat.reduceLT,zP,zQ,zR,zV,zW,zt,hP,hk,kp64,tC4,tC2,tC1,zF7,rqS,zB5,zD9]
       have hfb':zB0 fl=none:=by cases h:zB0 fl with | none=>rfl | some v=>rw [h] at hfb; cases hfb
       exact zE3 hC Nat.zero_lt_one rfl hres64 (r:={ zD9 zA2 with skip:=((m+2:Nat):Int) }) (more:=false) (used:=0) (by simp [zB4,hoff,htok,hv,hbig,hkb,hfb']) rfl (fun ρ=>rfl) rfl
      | true =>
       obtain ⟨v,hv'⟩:∃ v,zB0 fl=some v:=by cases h:zB0 fl with | none=>rw [h] at hfb; cases hfb | some v=>exact ⟨v,rfl⟩
       obtain rfl:v=fv:=by rw [hv'] at hfv; exact hfv
       by_cases hgt:4294967295 < v
       ·have g1:decide ((4294967295:Int) < (v:Int))=true:=decide_eq_true (by omega)
        simp (maxSteps:=1000000) only [VT,jf,jg,jZ,aA,qE,qF,qG,qH,qI,qJ,qK,qO,qP,qR,qS,qT,qV,qp,q0t,qu,qv,ev,qw,qy,qz,zA,zB,zC,zD,zE,zG,zI,zJ,zM,↓reduceIte,reduceCtorEq,Value.oneCell',Nat.reduceEqDiff,Nat.reduceAdd,Nat.reduceLT,zP,zQ,zR,zV,zW,zt,hP,hk,kp64,tC4,tC2,tC1,zF7,rqS,zB5,zD9,g1]
        exact zE3 hC Nat.zero_lt_one rfl hres64 (r:={ zD9 zA2 with skip:=((m+2:Nat):Int) }) (more:=false) (used:=0) (by simp [zB4,hoff,htok,hv,hbig,hkb,hv',hgt]) rfl (fun ρ=>rfl) rfl
       ·have g1:decide ((4294967295:Int) < (v:Int))=false:=decide_eq_false (by omega)
        have w3:IntKind.u32.wrap (v:Int)=(v:Int):=by rw [IntKind.wrap_u32]; omega
        by_cases hlarge:65536 < m
        ·have g2:decide ((65536:Int) < (m:Int))=true:=decide_eq_true (by omega)
         simp (maxSteps:=1000000) only [VT,jf,jg,jZ,qE,qF,qG,qH,qI,qJ,qK,qO,qP,qR,qS,qT,qV,qp,q0t,qu,qv,ev,qw,qy,qz,zA,zB,zC,zD,zE,zG,zI,zJ,zM,↓reduceIte,reduceCtorEq,Value.oneCell',Nat.reduceEqDiff,Nat.reduceAdd,Nat.reduceLT,zP,zQ,zR,zV,zW,zt,hP,hk,kp64,tC4,tC2,tC1,zF7,rqS,zB5,zD9,g1,g2]
         exact zE3 hC Nat.zero_lt_one rfl hres64 (r:={ zD9 zM3 with skip:=((m+2:Nat):Int) }) (more:=false) (used:=0) (by simp [zB4,hoff,htok,hv,hbig,hkb,hv',hgt,hxb,hlarge]) rfl (fun ρ=>rfl) rfl
        ·have g2:decide ((65536:Int) < (m:Int))=false:=decide_eq_false (by omega)
         by_cases hshort:behind.length < m+2
         ·have g3:decide ((behind.length:Int) < ((m+2:Nat):Int))=true:=decide_eq_true (by omega)
          simp (maxSteps:=1000000) only [VT,jf,jg,jZ,qE,qF,qG,qH,qI,qJ,qK,qN,qO,qP,qQ,qR,qS,qT,qV,qe,qp,q0t,qu,qv,ev,qy,qz,zA,zB,zC,zD,zE,zG,zI,zJ,zM,↓reduceIte,reduceCtorEq,Value.oneCell',Nat.reduceEqDiff,Nat.reduceAdd,Nat.reduceLT,zP,zQ,zR,zV,zW,zt,hP,hk,kp64,g1,g2,g3]
          exact zE3 hC Nat.zero_lt_one rfl hres64 (r:=Rq.zero) (more:=true) (used:=0) (by simp [zB4,hoff,htok,hv,hbig,hkb,hv',hgt,hxb,hlarge,hshort]) rfl (fun ρ=>rfl) rfl
         ·have g3:decide ((behind.length:Int) < ((m+2:Nat):Int))=false:=decide_eq_false (by omega)
          obtain ⟨cs1,cs2⟩:=cut_sufV (b:=behind) (n:=m) (by omega)
          have lt:(behind.take (m+2)).length≤9223372036854775807:=by rw [List.length_take]; omega
          have lb:((m+2:Nat):Int)≤(behind.length:Int):=by omega
          have lz:(0:Int)≤((m+2:Nat):Int):=by omega
          cases hsf:Lib.hasSuffix (behind.take (m+2)) [13,10] with
          | false =>
           have hsf':¬ (behind.take (m+2)).drop m=[13,10]:=by rw [hsf] at cs1; exact fun e=>by rw [e] at cs1; cases cs1
           simp (maxSteps:=1000000) only [VT,jf,jg,jZ,qE,qF,qG,qH,qI,qJ,qK,qN,qO,qP,qQ,qR,qS,qT,qV,qZ,qe,qh,ql,qp,q0t,qu,qv,ev,qw,qy,qz,zA,zB,zC,zD,zE,zG,zI,zJ,TE.sv,zM,↓reduceIte,reduceCtorEq,Value.oneCell',Nat.reduceEqDiff,Nat.reduceAdd,Nat.reduceLT,zP,zQ,zR,zT,zV,zW,zh,zt,hP,hk,kp64,tC4,tC2,tC1,zN4,zF7,rqS,zB5,zD9,Int.toNat_zero,Int.le_refl,g1,g2,g3,List.drop_zero,lt,lb,lz,hsf]
           exact zE3 hC Nat.zero_lt_one rfl hres64 (r:=zD9 zO6) (more:=false) (used:=((m+2:Nat):Int)) (by simp [zB4,hoff,htok,hv,hbig,hkb,hv',hgt,hxb,hlarge,hshort,hsf']) rfl (fun ρ=>rfl) rfl
          | true =>
           have hsf':(behind.take (m+2)).drop m=[13,10]:=by rw [hsf] at cs1; exact eq_of_beq cs1.symm
           have cs3:=cs2 hsf
           simp (maxSteps:=1000000) only [VT,jg,jZ,qA,qB,qC,qD,qH,qI,qJ,qK,qN,qO,qP,qQ,qR,qS,qT,qV,qZ,qe,qg,qh,ql,qp,q0t,qv,ev,qw,qy,qz,zA,zB,zC,zD,zE,zF,zG,zI,zJ,TE.sv,zM,↓reduceIte,reduceCtorEq,Nat.reduceEqDiff,Nat.reduceAdd,Nat.reduceLT,Nat.reduceLeDiff,zP,zQ,zR,zT,zV,zW,zh,zk,zl,zt,hP,hk,kp64,tC4,tC2,tC1,zN6,zN4,Int.toNat_zero,Int.le_refl,Nat.reduceMul,g1,g2,g3,List.drop_zero,lt,lb,lz,hsf,cs3,w3]
           refine zA6 rfl _ _ (do_h (C:=C) (name:=name) (W:=.slice _ _ c) (behind:=behind) (used:=((m+2:Nat):Int)) (quiet:=q) (mu:=true) (M:=0) (N:=4) (V:=.sl 4 0 1 1) (I:=whole) (cs:=[{ Cd.zero with op:=2,mode:=md,key:=key,val:=behind.take m,flags:=(v:Int),exp:=xv }]) hP rfl rfl rfl (by simp [zG]) (by simp [zG]) (by decide) (by simp) (by simp) (fun ρ h1 h2 h3=>⟨1,Nat.le_refl _,by simp [SC.den,h1]⟩) (fun pr h=>h) (fun q hq=>by simp only [zG,zE] at hq; omega) rfl) (by simp [zG,zE]) (by simp) ?_
           (refine zA0 hctr (rs:=res64) true 400 _ _ _ ?_; simp (maxSteps:=1000000) only [VT,qE,qF,qG,qH,qI,qJ,qK,qO,qP,q0t,qu,qv,ev,qy,qz,zA,zB,zC,zD,zE,zG,zI,zJ,zM,↓reduceIte,reduceCtorEq,Value.oneCell',Nat.reduceEqDiff,Nat.reduceAdd,Nat.reduceLT,zP,zQ,zR,zZ,za,zt,jN,hP,hk,res64,kp64,rqS,Rq.zero,zC2,reC])
           exact zW9 hC Nat.zero_lt_one rfl hres64 (r:=doR [{ Cd.zero with op:=2,mode:=md,key:=key,val:=behind.take m,flags:=(v:Int),exp:=xv }] q) (more:=false) (used:=((m+2:Nat):Int)) (by simp [zB4,hoff,htok,hv,hbig,hkb,hv',hgt,hxb,hlarge,hshort,hsf',hmd,hxv,Cd.zero]) (N:=4) (by simp [doR]) (by simp [doR]) (fun ρ=>rfl) rfl rfl (by decide)
 ·have c1:(decide ((4:Int)≤(n:Int)) && decide ((n:Int)≤4))=false:=by
   rw [Bool.and_eq_false_iff]; simp only [decide_eq_false_iff_not]; omega
  (refine zA0 hctr (rs:=res64) true 400 _ _ _ ?_; simp (maxSteps:=1000000) only [VT,jg,qH,qI,qK,qO,qP,qQ,qR,qS,qV,ev,qw,qy,qz,zD,zE,zI,zJ,zM,↓reduceIte,reduceCtorEq,Nat.reduceEqDiff,Nat.reduceLT,zP,zQ,zR,zW,zu,jN,hP,hk,res64,kp64,tC4,tC2,zB6,lnC,hoff,hnn,c1,htok])
  exact zE8 hC hP hE rfl rfl (name:=name) (behind:=behind) (quiet:=q) rfl (by omega) (zC6 hC Nat.zero_lt_one rfl (f:=zA5) (by simp [zB4,hoff,htok,hnn,hc]) rfl)
end Go.Proofs.YtcbmlanpianclaaGreatDoor
/- store: set, add, replace, append, prepend, cas. Printed by gen_tstore.py. -/
namespace Go.Proofs.YtcbmlanpianclaaGreatDoor
set_option linter.unusedSimpArgs false
set_option linter.unusedVariables false
set_option maxHeartbeats 8000000
open Go.RowKit
set_option maxRecDepth 100000
theorem store_cas {name:List UInt8} (hname:name=[115,101,116]∨name=[97,100,100]∨name=[114,101,112,108,97,99,101]∨name=[97,112,112,101,110,100]∨name=[112,114,101,112,101,110,100]∨name=[99,97,115]) (htok:(name == [99,97,115])=true) {w:World} {g:Nat} {a:Option Addr} {c:Nat} {ws:List (List UInt8)} {behind:List UInt8} (h:Ln w g name a ws.length c ws behind 0 false) (hn:ws.length≤100000) (hl:∀ x∈ws,x.length≤100000) (hb:behind.length≤9223372036854775807) (hE0:EnvG g w) :
  Calls Tryz.prog 64 #[.pointer (some ⟨g,0,none⟩)] w (MP F2 g w (zB4 name ws behind)):=by
 obtain ⟨w1,q,hoff⟩:∃ w1 q,zN5 ws=(w1,q):=⟨_,_,rfl⟩
 have hpre:=zM0 ws
 rw [hoff] at hpre
 simp only at hpre
 have hl1:∀ x∈w1,x.length≤9223372036854775807:=fun x hx=>by rw [hpre] at hx; have:=hl x (List.mem_of_mem_take hx); omega
 obtain ⟨n,hnn⟩:∃ n,w1.length=n:=⟨_,rfl⟩
 have hmx:=mdI_mode hname
 refine zA1 Tryz.func64 rfl kp64 (S:=One g) (ρ:=fun _=>zD7 g) [.c (.p 0 0)] Tryz.ntmps64 (zO9 h.blk true (One g) (fun _=>rfl)) (by simp [SV.wf,SC.wf]) (by simp) ?_
 intro C hC hP hk
 have hLW:LW C g w:=zS9 hC Nat.zero_lt_one rfl
 have hE:zM6 C:=hE0.C hLW.S hLW.w0
 have hW0:∀ w',Upd C.S C.w0 w'→RawSV w' g a ws:=fun w' hu=>by rw [hLW.S,hLW.w0] at hu; exact h.raw.upd hu
 have hW:∀ w',Upd C.S C.w0 w'→RawSV w' g a w1:=fun w' hu=>(hW0 w' hu).pre hpre
 have hr:∀ (k:Nat) x,w1[k]?=some x→∃ b o,a=some ⟨b,o,none⟩∧C.rd b (o+k) 1=some [.s x]:=fun k x hx=>(h.raw.pre hpre).rd (D:=C) (by rw [hLW.S]; exact fun k hk=>hk) hLW.w0 hx
 have hctr:=tC4_ok hP hE hW hl1
 (refine zA0 hctr (rs:=res64) true 400 _ _ _ ?_; simp (maxSteps:=1000000) only [VT,qH,qI,qK,qO,ev,qw,qy,qz,zF,zG,zI,zJ,zK,zM,↓reduceIte,reduceCtorEq,Nat.reduceEqDiff,Nat.reduceLT,zP,zR,zt,hP,hk,kp64,tC4,tC2,tC1,zN6,lnC])
 refine zA6 rfl (.t []) _ (off_h (C:=C) hP hE (name:=name) (a:=a) (c:=c) (ws:=ws) (behind:=behind) (used:=0) (N:=0) rfl (by simp [zG]) h.cap (by omega) hLW.n0 hLW.r0 hW0 (fun q hq=>by simp only [zG,zE] at hq; omega) rfl) (by simp [zG,zE]) (by simp) ?_
 by_cases hc:n=5
 ·obtain ⟨key,fl,ex,sz,cs,rfl⟩:=five_of (hnn.trans hc)
  have c1:(decide ((5:Int)≤((5:Nat):Int)) && decide (((5:Nat):Int)≤5))=true:=rfl
  obtain ⟨b,o,rfl,r0⟩:=hr 0 key rfl
  have r0:C.rd b o 1=some [.s key]:=r0
  obtain ⟨_,_,he,r1⟩:=hr 1 fl rfl
  cases he
  obtain ⟨_,_,he,r2⟩:=hr 2 ex rfl
  cases he
  obtain ⟨_,_,he,r3⟩:=hr 3 sz rfl
  cases he
  obtain ⟨_,_,he,r4⟩:=hr 4 cs rfl
  cases he
  have p0:(0:Int) < ((5:Nat):Int):=by decide
  have q0:(0:Int)≤0:=by decide
  have t0:Int.toNat 0=0:=rfl
  have l0:key.length≤9223372036854775807:=hl1 key (by simp)
  have p1:(1:Int) < ((5:Nat):Int):=by decide
  have q1:(0:Int)≤1:=by decide
  have t1:Int.toNat 1=1:=rfl
  have l1:fl.length≤9223372036854775807:=hl1 fl (by simp)
  have p2:(2:Int) < ((5:Nat):Int):=by decide
  have q2:(0:Int)≤2:=by decide
  have t2:Int.toNat 2=2:=rfl
  have l2:ex.length≤9223372036854775807:=hl1 ex (by simp)
  have p3:(3:Int) < ((5:Nat):Int):=by decide
  have q3:(0:Int)≤3:=by decide
  have t3:Int.toNat 3=3:=rfl
  have l3:sz.length≤9223372036854775807:=hl1 sz (by simp)
  have p4:(4:Int) < ((5:Nat):Int):=by decide
  have q4:(0:Int)≤4:=by decide
  have t4:Int.toNat 4=4:=rfl
  have l4:cs.length≤9223372036854775807:=hl1 cs (by simp)
  cases hv:zB0 sz with
  | none =>
   (refine zA0 hctr (rs:=res64) true 400 _ _ _ ?_; simp (maxSteps:=1000000) only [VT,jf,jg,aA,qH,qI,qK,qO,qP,qQ,qR,qS,qV,qX,qh,qp,ev,qw,qy,qz,zD,zE,zI,zJ,TE.sv,zM,↓reduceIte,reduceCtorEq,Nat.reduceEqDiff,Nat.reduceAdd,Nat.reduceLT,zP,zQ,zR,zT,zV,zW,zk,zl,zt,zu,jN,hP,hk,res64,kp64,tC4,tC2,tC1,zN6,zD0,zP4,zF6,zB6,lnC,hoff,Nat.mul_one,c1,htok,r3,p3,q3,t3,l3,hv,Option.getD_none,Option.isSome_none])
   exact zJ8 hC hP rfl rfl (zC6 hC Nat.zero_lt_one rfl (f:=zA2) (by simp [zB4,hoff,htok,hv]) (name:=name) (behind:=behind) (quiet:=q) rfl)
  | some m =>
   by_cases hbig:1073741824 < m
   ·have c2:decide ((m:Int)≤1073741824)=false:=decide_eq_false (by omega)
    (refine zA0 hctr (rs:=res64) true 400 _ _ _ ?_; simp (maxSteps:=1000000) only [VT,jf,jZ,qH,qI,qK,qO,qP,qQ,qR,qS,qV,qX,qh,qp,ev,qw,qy,qz,zD,zE,zI,zJ,TE.sv,zM,↓reduceIte,reduceCtorEq,Nat.reduceEqDiff,Nat.reduceAdd,Nat.reduceLT,zP,zQ,zR,zT,zV,zk,zl,zt,zu,jN,hP,hk,res64,kp64,tC4,tC2,tC1,zN6,zD0,zP4,zF6,zB6,lnC,hoff,Nat.mul_one,c1,htok,r3,p3,q3,t3,l3,hv,Option.getD_some,Option.isSome_some,c2])
    exact zJ8 hC hP rfl rfl (zC6 hC Nat.zero_lt_one rfl (f:=zA2) (by simp [zB4,hoff,htok,hv,hbig]) (name:=name) (behind:=behind) (quiet:=q) rfl)
   ·have c2:decide ((m:Int)≤1073741824)=true:=decide_eq_true (by omega)
    have w1:IntKind.i64.wrap (m:Int)=(m:Int):=IntWalk.i64_in _ (by omega)
    have w2:IntKind.i64.wrap ((m:Int)+2)=((m+2:Nat):Int):=by rw [IntWalk.i64_in _ (by omega)]; rfl
    have se:=sec_get ex
    obtain ⟨fv,hfv⟩:∃ fv,(zB0 fl).getD 0=fv:=⟨_,rfl⟩
    obtain ⟨fb,hfb⟩:∃ fb,(zB0 fl).isSome=fb:=⟨_,rfl⟩
    obtain ⟨xv,hxv⟩:∃ xv,(zI2 ex).1=xv:=⟨_,rfl⟩
    obtain ⟨xb,hxb⟩:∃ xb,(zI2 ex).2=xb:=⟨_,rfl⟩
    obtain ⟨md,hmd⟩:∃ md,zY8 name=md:=⟨_,rfl⟩
    obtain ⟨uv,huv⟩:∃ uv:Int,(((zB0 cs).getD 0:Nat):Int)=uv:=⟨_,rfl⟩
    obtain ⟨ub,hub⟩:∃ ub,(zB0 cs).isSome=ub:=⟨_,rfl⟩
    rw [hxv] at se
    rw [hmd] at hmx
    (refine zA0 hctr (rs:=res64) true 400 _ _ _ ?_; simp (maxSteps:=1000000) only [VT,jf,jZ,qH,qI,qK,qO,qP,qQ,qR,qS,qV,qX,qh,qp,ev,qw,qy,qz,zD,zE,zI,zJ,TE.sv,zM,↓reduceIte,reduceCtorEq,Nat.reduceEqDiff,Nat.reduceAdd,Nat.reduceLT,zP,zQ,zR,zT,zV,zk,zl,zt,zu,jN,hP,hk,res64,kp64,tC4,tC2,tC1,zN6,zD0,zP4,zF6,zB6,lnC,hoff,Nat.mul_one,c1,htok,r1,p1,q1,t1,l1,r2,p2,q2,t2,l2,r3,p3,q3,t3,l3,hv,Option.getD_some,Option.isSome_some,c2,se,hfv,hfb,hxb])
    (refine zH2 hctr (by rw [hP]; rfl) rs64_10 [jB (fun N => .c (.sl N 0 5 5)) (fun _ => mdE), fun en => (.c (.i .i64 (mdI name)), en)] (ensure_type_of% (Cmp.of (by simp (maxSteps := 1000000) only [qA, qK, qN, qO, qP, qQ, qU, qV, qX, qf, qg, qo, q0t, qu, qv, ev, qw, qy, qz, zC, zD, zE, zF, zG, zM, ↓reduceIte, reduceCtorEq, Nat.reduceEqDiff, Nat.reduceAdd, zP, zT, zt, zu, cE, jA, jB, jC, jD, jF, jG, jH, jJ, jK, jL, jM, jN, hP, tC4, tC2, tC1, zN6, mdE, mdS, Nat.mul_one, r0, p0, q0, t0, hmx]; rfl)) "" Cmp.mk) (by kernel_rfl) (by kernel_rfl) (by first | exact zC7 _ | kernel_rfl) (by kernel_rfl) (by rfl) (by rfl) (by first | exact zB2 _ | rfl) (by rfl) ?_ ?_; rotate_left; refine zA0 hctr (rs := res64) true 400 _ _ _ ?_; simp (maxSteps := 1000000) only [VT, jf, qH, qI, qJ, qK, qO, qP, qQ, qV, qX, qh, q0t, qv, ev, qw, qy, qz, zC, zD, zE, zG, zI, zJ, TE.sv, zM, ↓reduceIte, reduceCtorEq, Nat.reduceEqDiff, Nat.reduceAdd, Nat.reduceLT, zP, zQ, zR, zT, zV, zt, jN, jO, hP, hk, res64, kp64, tC4, tC2, tC1, zN6, zF6, Nat.mul_one, r4, p4, q4, t4, l4, huv, hub]; rotate_left; simp (maxSteps := 1000000) only [qK, qN, qO, qP, qQ, qU, qV, qX, qf, qg, qo, q0t, qu, qv, ev, qw, qy, qz, zC, zD, zE, zG, zM, ↓reduceIte, reduceCtorEq, Nat.reduceEqDiff, Nat.reduceAdd, Nat.reduceSub, Nat.reduceLeDiff, zP, zR, zS, zT, zn, zt, zu, jD, jF, jG, jH, jN, jP, jQ, jR, jS, jT, jU, hP, Nat.mul_one, r0, p0, q0, t0, hmx])
    ·exact ⟨modes_h hP (zX0 (by simp)) (by rw [hC]; exact (by decide:1≤2)) rfl (fun q _=>rfl),index_h name hP (mkC_no (by simp)) rfl⟩
    cases xb with
    | false =>
     simp (maxSteps:=1000000) only [VT,jg,aA,qH,qI,qK,qO,qP,qR,qS,qT,qU,qV,qp,ev,qw,qy,qz,zD,zI,zJ,zM,↓reduceIte,reduceCtorEq,Nat.reduceEqDiff,Nat.reduceLT,zP,zQ,zR,zW,zi,zt,hP,hk,kp64,tC4,tC2,tC1,zN6,zI8,w1,w2]
     cases hkb:zG3 key with
     | false =>
      simp (maxSteps:=1000000) only [VT,jf,aA,qE,qF,qG,qH,qI,qJ,qK,qO,qP,qV,qp,q0t,qu,qv,ev,qw,qy,qz,zA,zB,zC,zD,zE,zG,zI,zJ,zM,↓reduceIte,reduceCtorEq,Value.oneCell',Nat.reduceEqDiff,Nat.reduceAdd,Nat.reduceLT,zP,zQ,zR,zV,zW,zt,hP,hk,kp64,tC4,tC2,tC1,zF7,rqS,zB5,zD9,l0]
      exact zE3 hC Nat.zero_lt_one rfl hres64 (r:={ zD9 zA2 with skip:=((m+2:Nat):Int) }) (more:=false) (used:=0) (by simp [zB4,hoff,htok,hv,hbig,hkb]) rfl (fun ρ=>rfl) rfl
     | true =>
      cases fb with
      | false =>
       simp (maxSteps:=1000000) only [VT,jf,jg,jZ,aA,qE,qF,qG,qH,qI,qJ,qK,qO,qP,qT,qV,qp,q0t,qu,qv,ev,qw,qy,qz,zA,zB,zC,zD,zE,zG,zI,zJ,zM,↓reduceIte,reduceCtorEq,Value.oneCell',Nat.reduceEqDiff,Nat.reduceAdd,Nat.reduceLT,zP,zQ,zR,zV,zW,zt,hP,hk,kp64,tC4,tC2,tC1,zF7,rqS,zB5,zD9,l0]
       have hfb':zB0 fl=none:=by cases h:zB0 fl with | none=>rfl | some v=>rw [h] at hfb; cases hfb
       exact zE3 hC Nat.zero_lt_one rfl hres64 (r:={ zD9 zA2 with skip:=((m+2:Nat):Int) }) (more:=false) (used:=0) (by simp [zB4,hoff,htok,hv,hbig,hkb,hfb']) rfl (fun ρ=>rfl) rfl
      | true =>
       obtain ⟨v,hv'⟩:∃ v,zB0 fl=some v:=by cases h:zB0 fl with | none=>rw [h] at hfb; cases hfb | some v=>exact ⟨v,rfl⟩
       obtain rfl:v=fv:=by rw [hv'] at hfv; exact hfv
       by_cases hgt:4294967295 < v
       ·have g1:decide ((4294967295:Int) < (v:Int))=true:=decide_eq_true (by omega)
        simp (maxSteps:=1000000) only [VT,jf,jg,jZ,aA,qE,qF,qG,qH,qI,qJ,qK,qO,qP,qR,qS,qT,qV,qp,q0t,qu,qv,ev,qw,qy,qz,zA,zB,zC,zD,zE,zG,zI,zJ,zM,↓reduceIte,reduceCtorEq,Value.oneCell',Nat.reduceEqDiff,Nat.reduceAdd,Nat.reduceLT,zP,zQ,zR,zV,zW,zt,hP,hk,kp64,tC4,tC2,tC1,zF7,rqS,zB5,zD9,l0,g1]
        exact zE3 hC Nat.zero_lt_one rfl hres64 (r:={ zD9 zA2 with skip:=((m+2:Nat):Int) }) (more:=false) (used:=0) (by simp [zB4,hoff,htok,hv,hbig,hkb,hv',hgt]) rfl (fun ρ=>rfl) rfl
       ·have g1:decide ((4294967295:Int) < (v:Int))=false:=decide_eq_false (by omega)
        simp (maxSteps:=1000000) only [VT,jf,jg,jZ,qE,qF,qG,qH,qI,qJ,qK,qO,qP,qR,qS,qT,qV,qp,q0t,qu,qv,ev,qw,qy,qz,zA,zB,zC,zD,zE,zG,zI,zJ,zM,↓reduceIte,reduceCtorEq,Value.oneCell',Nat.reduceEqDiff,Nat.reduceAdd,Nat.reduceLT,zP,zQ,zR,zV,zW,zt,hP,hk,kp64,tC4,tC2,tC1,zF7,rqS,zB5,zD9,l0,g1]
        exact zE3 hC Nat.zero_lt_one rfl hres64 (r:={ zD9 zA2 with skip:=((m+2:Nat):Int) }) (more:=false) (used:=0) (by simp [zB4,hoff,htok,hv,hbig,hkb,hv',hgt,hxb]) rfl (fun ρ=>rfl) rfl
    | true =>
     cases ub with
     | false =>
      simp (maxSteps:=1000000) only [VT,jf,jZ,qH,qI,qK,qO,qP,qR,qS,qT,qU,qV,qp,ev,qw,qy,qz,zD,zI,zJ,zM,↓reduceIte,reduceCtorEq,Nat.reduceEqDiff,Nat.reduceLT,zP,zQ,zR,zV,zi,zt,hP,hk,kp64,tC4,tC2,tC1,zN6,zI8,w1,w2]
      cases hkb:zG3 key with
      | false =>
       simp (maxSteps:=1000000) only [VT,jf,aA,qE,qF,qG,qH,qI,qJ,qK,qO,qP,qV,qp,q0t,qu,qv,ev,qw,qy,qz,zA,zB,zC,zD,zE,zG,zI,zJ,zM,↓reduceIte,reduceCtorEq,Value.oneCell',Nat.reduceEqDiff,Nat.reduceAdd,Nat.reduceLT,zP,zQ,zR,zV,zW,zt,hP,hk,kp64,tC4,tC2,tC1,zF7,rqS,zB5,zD9,l0]
       exact zE3 hC Nat.zero_lt_one rfl hres64 (r:={ zD9 zA2 with skip:=((m+2:Nat):Int) }) (more:=false) (used:=0) (by simp [zB4,hoff,htok,hv,hbig,hkb]) rfl (fun ρ=>rfl) rfl
      | true =>
       cases fb with
       | false =>
        simp (maxSteps:=1000000) only [VT,jf,jg,jZ,aA,qE,qF,qG,qH,qI,qJ,qK,qO,qP,qT,qV,qp,q0t,qu,qv,ev,qw,qy,qz,zA,zB,zC,zD,zE,zG,zI,zJ,zM,↓reduceIte,reduceCtorEq,Value.oneCell',Nat.reduceEqDiff,Nat.reduceAdd,Nat.reduceLT,zP,zQ,zR,zV,zW,zt,hP,hk,kp64,tC4,tC2,tC1,zF7,rqS,zB5,zD9,l0]
        have hfb':zB0 fl=none:=by cases h:zB0 fl with | none=>rfl | some v=>rw [h] at hfb; cases hfb
        exact zE3 hC Nat.zero_lt_one rfl hres64 (r:={ zD9 zA2 with skip:=((m+2:Nat):Int) }) (more:=false) (used:=0) (by simp [zB4,hoff,htok,hv,hbig,hkb,hfb']) rfl (fun ρ=>rfl) rfl
       | true =>
        obtain ⟨v,hv'⟩:∃ v,zB0 fl=some v:=by cases h:zB0 fl with | none=>rw [h] at hfb; cases hfb | some v=>exact ⟨v,rfl⟩
        obtain rfl:v=fv:=by rw [hv'] at hfv; exact hfv
        by_cases hgt:4294967295 < v
        ·have g1:decide ((4294967295:Int) < (v:Int))=true:=decide_eq_true (by omega)
         simp (maxSteps:=1000000) only [VT,jf,jg,jZ,aA,qE,qF,qG,qH,qI,qJ,qK,qO,qP,qR,qS,qT,qV,qp,q0t,qu,qv,ev,qw,qy,qz,zA,zB,zC,zD,zE,zG,zI,zJ,zM,↓reduceIte,reduceCtorEq,Value.oneCell',Nat.reduceEqDiff,Nat.reduceAdd,Nat.reduceLT,zP,zQ,zR,zV,zW,zt,hP,hk,kp64,tC4,tC2,tC1,zF7,rqS,zB5,zD9,l0,g1]
         exact zE3 hC Nat.zero_lt_one rfl hres64 (r:={ zD9 zA2 with skip:=((m+2:Nat):Int) }) (more:=false) (used:=0) (by simp [zB4,hoff,htok,hv,hbig,hkb,hv',hgt]) rfl (fun ρ=>rfl) rfl
        ·have g1:decide ((4294967295:Int) < (v:Int))=false:=decide_eq_false (by omega)
         simp (maxSteps:=1000000) only [VT,jf,jg,jZ,qE,qF,qG,qH,qI,qJ,qK,qO,qP,qR,qS,qT,qV,qp,q0t,qu,qv,ev,qw,qy,qz,zA,zB,zC,zD,zE,zG,zI,zJ,zM,↓reduceIte,reduceCtorEq,Value.oneCell',Nat.reduceEqDiff,Nat.reduceAdd,Nat.reduceLT,zP,zQ,zR,zV,zW,zt,hP,hk,kp64,tC4,tC2,tC1,zF7,rqS,zB5,zD9,l0,g1]
         exact zE3 hC Nat.zero_lt_one rfl hres64 (r:={ zD9 zA2 with skip:=((m+2:Nat):Int) }) (more:=false) (used:=0) (by simp [zB4,hoff,htok,hv,hbig,hkb,hv',hgt,hxb,hub]) rfl (fun ρ=>rfl) rfl
     | true =>
      simp (maxSteps:=1000000) only [VT,jf,jZ,qH,qI,qK,qO,qP,qR,qS,qT,qU,qV,qp,ev,qw,qy,qz,zD,zI,zJ,zM,↓reduceIte,reduceCtorEq,Nat.reduceEqDiff,Nat.reduceLT,zP,zQ,zR,zV,zi,zt,hP,hk,kp64,tC4,tC2,tC1,zN6,zI8,w1,w2]
      cases hkb:zG3 key with
      | false =>
       simp (maxSteps:=1000000) only [VT,jf,aA,qE,qF,qG,qH,qI,qJ,qK,qO,qP,qV,qp,q0t,qu,qv,ev,qw,qy,qz,zA,zB,zC,zD,zE,zG,zI,zJ,zM,↓reduceIte,reduceCtorEq,Value.oneCell',Nat.reduceEqDiff,Nat.reduceAdd,Nat.reduceLT,zP,zQ,zR,zV,zW,zt,hP,hk,kp64,tC4,tC2,tC1,zF7,rqS,zB5,zD9,l0]
       exact zE3 hC Nat.zero_lt_one rfl hres64 (r:={ zD9 zA2 with skip:=((m+2:Nat):Int) }) (more:=false) (used:=0) (by simp [zB4,hoff,htok,hv,hbig,hkb]) rfl (fun ρ=>rfl) rfl
      | true =>
       cases fb with
       | false =>
        simp (maxSteps:=1000000) only [VT,jf,jg,jZ,aA,qE,qF,qG,qH,qI,qJ,qK,qO,qP,qT,qV,qp,q0t,qu,qv,ev,qw,qy,qz,zA,zB,zC,zD,zE,zG,zI,zJ,zM,↓reduceIte,reduceCtorEq,Value.oneCell',Nat.reduceEqDiff,Nat.reduceAdd,Nat.reduceLT,zP,zQ,zR,zV,zW,zt,hP,hk,kp64,tC4,tC2,tC1,zF7,rqS,zB5,zD9,l0]
        have hfb':zB0 fl=none:=by cases h:zB0 fl with | none=>rfl | some v=>rw [h] at hfb; cases hfb
        exact zE3 hC Nat.zero_lt_one rfl hres64 (r:={ zD9 zA2 with skip:=((m+2:Nat):Int) }) (more:=false) (used:=0) (by simp [zB4,hoff,htok,hv,hbig,hkb,hfb']) rfl (fun ρ=>rfl) rfl
       | true =>
        obtain ⟨v,hv'⟩:∃ v,zB0 fl=some v:=by cases h:zB0 fl with | none=>rw [h] at hfb; cases hfb | some v=>exact ⟨v,rfl⟩
        obtain rfl:v=fv:=by rw [hv'] at hfv; exact hfv
        by_cases hgt:4294967295 < v
        ·have g1:decide ((4294967295:Int) < (v:Int))=true:=decide_eq_true (by omega)
         simp (maxSteps:=1000000) only [VT,jf,jg,jZ,aA,qE,qF,qG,qH,qI,qJ,qK,qO,qP,qR,qS,qT,qV,qp,q0t,qu,qv,ev,qw,qy,qz,zA,zB,zC,zD,zE,zG,zI,zJ,zM,↓reduceIte,reduceCtorEq,Value.oneCell',Nat.reduceEqDiff,Nat.reduceAdd,Nat.reduceLT,zP,zQ,zR,zV,zW,zt,hP,hk,kp64,tC4,tC2,tC1,zF7,rqS,zB5,zD9,l0,g1]
         exact zE3 hC Nat.zero_lt_one rfl hres64 (r:={ zD9 zA2 with skip:=((m+2:Nat):Int) }) (more:=false) (used:=0) (by simp [zB4,hoff,htok,hv,hbig,hkb,hv',hgt]) rfl (fun ρ=>rfl) rfl
        ·have g1:decide ((4294967295:Int) < (v:Int))=false:=decide_eq_false (by omega)
         have w3:IntKind.u32.wrap (v:Int)=(v:Int):=by rw [IntKind.wrap_u32]; omega
         by_cases hlarge:65536 < m
         ·have g2:decide ((65536:Int) < (m:Int))=true:=decide_eq_true (by omega)
          simp (maxSteps:=1000000) only [VT,jf,jg,jZ,qE,qF,qG,qH,qI,qJ,qK,qO,qP,qR,qS,qT,qV,qp,q0t,qu,qv,ev,qw,qy,qz,zA,zB,zC,zD,zE,zG,zI,zJ,zM,↓reduceIte,reduceCtorEq,Value.oneCell',Nat.reduceEqDiff,Nat.reduceAdd,Nat.reduceLT,zP,zQ,zR,zV,zW,zt,hP,hk,kp64,tC4,tC2,tC1,zF7,rqS,zB5,zD9,l0,g1,g2]
          exact zE3 hC Nat.zero_lt_one rfl hres64 (r:={ zD9 zM3 with skip:=((m+2:Nat):Int) }) (more:=false) (used:=0) (by simp [zB4,hoff,htok,hv,hbig,hkb,hv',hgt,hxb,hub,hlarge]) rfl (fun ρ=>rfl) rfl
         ·have g2:decide ((65536:Int) < (m:Int))=false:=decide_eq_false (by omega)
          by_cases hshort:behind.length < m+2
          ·have g3:decide ((behind.length:Int) < ((m+2:Nat):Int))=true:=decide_eq_true (by omega)
           simp (maxSteps:=1000000) only [VT,jf,jg,jZ,qE,qF,qG,qH,qI,qJ,qK,qN,qO,qP,qQ,qR,qS,qT,qV,qe,qp,q0t,qu,qv,ev,qy,qz,zA,zB,zC,zD,zE,zG,zI,zJ,zM,↓reduceIte,reduceCtorEq,Value.oneCell',Nat.reduceEqDiff,Nat.reduceAdd,Nat.reduceLT,zP,zQ,zR,zV,zW,zt,hP,hk,kp64,l0,g1,g2,g3]
           exact zE3 hC Nat.zero_lt_one rfl hres64 (r:=Rq.zero) (more:=true) (used:=0) (by simp [zB4,hoff,htok,hv,hbig,hkb,hv',hgt,hxb,hub,hlarge,hshort]) rfl (fun ρ=>rfl) rfl
          ·have g3:decide ((behind.length:Int) < ((m+2:Nat):Int))=false:=decide_eq_false (by omega)
           obtain ⟨cs1,cs2⟩:=cut_sufV (b:=behind) (n:=m) (by omega)
           have lt:(behind.take (m+2)).length≤9223372036854775807:=by rw [List.length_take]; omega
           have lb:((m+2:Nat):Int)≤(behind.length:Int):=by omega
           have lz:(0:Int)≤((m+2:Nat):Int):=by omega
           cases hsf:Lib.hasSuffix (behind.take (m+2)) [13,10] with
           | false =>
            have hsf':¬ (behind.take (m+2)).drop m=[13,10]:=by rw [hsf] at cs1; exact fun e=>by rw [e] at cs1; cases cs1
            simp (maxSteps:=1000000) only [VT,jf,jg,jZ,qE,qF,qG,qH,qI,qJ,qK,qN,qO,qP,qQ,qR,qS,qT,qV,qZ,qe,qh,ql,qp,q0t,qu,qv,ev,qw,qy,qz,zA,zB,zC,zD,zE,zG,zI,zJ,TE.sv,zM,↓reduceIte,reduceCtorEq,Value.oneCell',Nat.reduceEqDiff,Nat.reduceAdd,Nat.reduceLT,zP,zQ,zR,zT,zV,zW,zh,zt,hP,hk,kp64,tC4,tC2,tC1,zN4,zF7,rqS,zB5,zD9,Int.toNat_zero,Int.le_refl,l0,g1,g2,g3,List.drop_zero,lt,lb,lz,hsf]
            exact zE3 hC Nat.zero_lt_one rfl hres64 (r:=zD9 zO6) (more:=false) (used:=((m+2:Nat):Int)) (by simp [zB4,hoff,htok,hv,hbig,hkb,hv',hgt,hxb,hub,hlarge,hshort,hsf']) rfl (fun ρ=>rfl) rfl
           | true =>
            have hsf':(behind.take (m+2)).drop m=[13,10]:=by rw [hsf] at cs1; exact eq_of_beq cs1.symm
            have cs3:=cs2 hsf
            simp (maxSteps:=1000000) only [VT,jg,jZ,qA,qB,qC,qD,qH,qI,qJ,qK,qN,qO,qP,qQ,qR,qS,qT,qV,qZ,qe,qg,qh,ql,qp,q0t,qv,ev,qw,qy,qz,zA,zB,zC,zD,zE,zF,zG,zI,zJ,TE.sv,zM,↓reduceIte,reduceCtorEq,Nat.reduceEqDiff,Nat.reduceAdd,Nat.reduceLT,Nat.reduceLeDiff,zP,zQ,zR,zT,zV,zW,zh,zk,zl,zt,hP,hk,kp64,tC4,tC2,tC1,zN6,zN4,Int.toNat_zero,Int.le_refl,Nat.reduceMul,l0,g1,g2,g3,List.drop_zero,lt,lb,lz,hsf,cs3,w3]
            refine zA6 rfl _ _ (do_h (C:=C) (name:=name) (W:=.slice _ _ c) (behind:=behind) (used:=((m+2:Nat):Int)) (quiet:=q) (mu:=true) (M:=0) (N:=4) (V:=.sl 4 0 1 1) (I:=whole) (cs:=[{ Cd.zero with op:=2,mode:=md,key:=key,val:=behind.take m,flags:=(v:Int),exp:=xv,hasCas:=true,cas:=uv }]) hP rfl rfl rfl (by simp [zG]) (by simp [zG]) (by decide) (by simp) (by simp) (fun ρ h1 h2 h3=>⟨1,Nat.le_refl _,by simp [SC.den,h1]⟩) (fun pr h=>h) (fun q hq=>by simp only [zG,zE] at hq; omega) rfl) (by simp [zG,zE]) (by simp) ?_
            (refine zA0 hctr (rs:=res64) true 400 _ _ _ ?_; simp (maxSteps:=1000000) only [VT,qE,qF,qG,qH,qI,qJ,qK,qO,qP,q0t,qu,qv,ev,qy,qz,zA,zB,zC,zD,zE,zG,zI,zJ,zM,↓reduceIte,reduceCtorEq,Value.oneCell',Nat.reduceEqDiff,Nat.reduceAdd,Nat.reduceLT,zP,zQ,zR,zZ,za,zt,jN,hP,hk,res64,kp64,rqS,Rq.zero,zC2,reC])
            exact zW9 hC Nat.zero_lt_one rfl hres64 (r:=doR [{ Cd.zero with op:=2,mode:=md,key:=key,val:=behind.take m,flags:=(v:Int),exp:=xv,hasCas:=true,cas:=uv }] q) (more:=false) (used:=((m+2:Nat):Int)) (by simp [zB4,hoff,htok,hv,hbig,hkb,hv',hgt,hxb,hub,hlarge,hshort,hsf',hmd,hxv,Cd.zero,huv]) (N:=4) (by simp [doR]) (by simp [doR]) (fun ρ=>rfl) rfl rfl (by decide)
 ·have c1:(decide ((5:Int)≤(n:Int)) && decide ((n:Int)≤5))=false:=by
   rw [Bool.and_eq_false_iff]; simp only [decide_eq_false_iff_not]; omega
  (refine zA0 hctr (rs:=res64) true 400 _ _ _ ?_; simp (maxSteps:=1000000) only [VT,jf,qH,qI,qK,qO,qP,qQ,qR,qS,qV,ev,qw,qy,qz,zD,zE,zI,zJ,zM,↓reduceIte,reduceCtorEq,Nat.reduceEqDiff,Nat.reduceLT,zP,zQ,zR,zV,zu,jN,hP,hk,res64,kp64,tC4,tC2,zB6,lnC,hoff,hnn,c1,htok])
  exact zE8 hC hP hE rfl rfl (name:=name) (behind:=behind) (quiet:=q) rfl (by omega) (zC6 hC Nat.zero_lt_one rfl (f:=zA5) (by simp [zB4,hoff,htok,hnn,hc]) rfl)
end Go.Proofs.YtcbmlanpianclaaGreatDoor
/- store, whatever its name. -/
namespace Go.Proofs.YtcbmlanpianclaaGreatDoor
set_option linter.unusedSimpArgs false
set_option linter.unusedVariables false
open Go.RowKit
theorem zY4 {name:List UInt8} (hname:name=[115,101,116]∨name=[97,100,100]∨name=[114,101,112,108,97,99,101]∨name=[97,112,112,101,110,100]∨name=[112,114,101,112,101,110,100]∨name=[99,97,115]) {w:World} {g:Nat} {a:Option Addr} {c:Nat} {ws:List (List UInt8)} {behind:List UInt8} (h:Ln w g name a ws.length c ws behind 0 false) (hn:ws.length≤100000) (hl:∀ x∈ws,x.length≤100000) (hb:behind.length≤9223372036854775807) (hE0:EnvG g w) :
  Calls Tryz.prog 64 #[.pointer (some ⟨g,0,none⟩)] w (MP F2 g w (zB4 name ws behind)):=by
 cases ht:(name == [99,97,115]) with
 | false=>exact store_set hname ht h hn hl hb hE0
 | true=>exact store_cas hname ht h hn hl hb hE0
end Go.Proofs.YtcbmlanpianclaaGreatDoor
/- read: a line is read; a fault is recovered from. -/
namespace Go.Proofs.YtcbmlanpianclaaGreatDoor
set_option linter.unusedSimpArgs false
set_option linter.unusedVariables false
set_option maxHeartbeats 8000000
open Go.RowKit
set_option maxRecDepth 100000
theorem rec_norm (g1 g2:Nat) (w:World):CallsD Tryz.prog 62 #[.pointer (some ⟨g1,0,none⟩),.pointer (some ⟨g2,0,none⟩)] .returning w fun e u' w'=>e=.returned (.tuple #[])∧u'=.returning∧Below w.heap.size w w':=by
 refine callsD_Run (nt:=13) Tryz.func62 rfl kp62 (S:=Non) (ρ:=fun _=>zD7 0) (en:=[]) [.c (.v (.pointer (some ⟨g1,0,none⟩))),.c (.v (.pointer (some ⟨g2,0,none⟩)))] Tryz.ntmps62 (At.nil _ _ _) (by simp [SV.wf,SC.wf]) (by simp) (by decide) (.v .nilIface) rfl trivial ?_
 intro C hC hP hk
 have hctr:=zF8 hP
 (refine zA0 hctr (rs:=res62) true 200 _ _ _ ?_; simp (maxSteps:=1000000) only [VT,qH,qK,qR,qS,ev,qy,qz,zK,↓reduceIte,zt])
 refine Run_isnil (b:=true) rfl (.inr ⟨_,by rw [hP]; exact Tryz.underlying20⟩) (by rw [hP]; kernel_rfl) (.inl ⟨rfl,rfl⟩) (by decide) ?_
 (refine zA0 hctr (rs:=res62) true 200 _ _ _ ?_; simp (maxSteps:=1000000) only [VT,jf,qH,qI,qK,qO,ev,qy,zI,zJ,↓reduceIte,reduceCtorEq,Nat.reduceEqDiff,Nat.reduceLT,zP,zQ,zR,zV,hk,res62,kp62])
 refine zQ6 hC hres62 fun ρ w' hw hn=>⟨rfl,rfl,?_⟩
 rw [hC] at hw
 exact hw.up.to_below
def reqL (cv:SC) (r:Rq) (b:Bool) (g1 g2:Nat):List (Nat × TypeId × List SC × Bool):=[(g1,35,rqS cv r,true),(g2,4,[.b b],true)]
theorem req_at {w:World} {g1 g2:Nat} {cv:Value} {r:Rq} {b:Bool} (h1:Blk w g1 35 (zB8 (fun _=>zD7 0) (rqS (.v cv) r)).toArray) (h2:Blk w g2 4 #[.bool b]) (hne:g1 ≠ g2):At (Two g1 g2) (roL (reqL (.v cv) r b g1 g2)) (enL (reqL (.v cv) r b g1 g2)) w:=by
 refine at_list ?_ ?_
 ·intro x hx
  simp only [reqL,List.mem_cons,List.not_mem_nil,or_false] at hx
  rcases hx with rfl | rfl
  ·refine ⟨h1,by show ¬ (35:Nat)=zC9; decide,?_,fun _=>.inl rfl⟩
   intro y hy
   simp only [rqS,List.mem_cons,List.not_mem_nil,or_false] at hy
   rcases hy with rfl | rfl | rfl | rfl | rfl | rfl | rfl | rfl | rfl | rfl | rfl <;> trivial
  ·refine ⟨h2,by show ¬ (4:Nat)=zC9; decide,?_,fun _=>.inr rfl⟩
   intro y hy
   simp only [List.mem_cons,List.not_mem_nil,or_false] at hy
   subst hy; trivial
 ·intro i j x y hi hj he
  match i,j,hi,hj with
  | 0,0,_,_=>rfl
  | 1,1,_,_=>rfl
  | 0,1,hi,hj=>simp [reqL] at hi hj; subst hi; subst hj; exact absurd he hne
  | 1,0,hi,hj=>simp [reqL] at hi hj; subst hi; subst hj; exact absurd he.symm hne
  | i+2,_,hi,_=>simp [reqL] at hi
  | 0,j+2,_,hj=>simp [reqL] at hj
  | 1,j+2,_,hj=>simp [reqL] at hj
theorem rec_fault {g1 g2:Nat} {w:World} {cv:Value} {r:Rq} {b:Bool} (f:List UInt8) (h1:Blk w g1 35 (zB8 (fun _=>zD7 0) (rqS (.v cv) r)).toArray) (h2:Blk w g2 4 #[.bool b]) (hne:g1 ≠ g2) :
  CallsD Tryz.prog 62 #[.pointer (some ⟨g1,0,none⟩),.pointer (some ⟨g2,0,none⟩)] (.panicking (zJ3 f)) w fun e u' w'=>e=.returned (.tuple #[])∧u'=.panicking [{ v:=faultV f,recovered:=true }]∧Upd (Two g1 g2) w w' ∧
   Blk w' g1 35 (zB8 (fun _=>zD7 0) (rqS (.v (.slice none 0 0)) (zD9 f))).toArray∧Blk w' g2 4 #[.bool false]:=by
 refine callsD_Run (nt:=13) Tryz.func62 rfl kp62 (S:=Two g1 g2) (ρ:=roL (reqL (.v cv) r b g1 g2)) (en:=enL (reqL (.v cv) r b g1 g2)) [.c (.p 0 0),.c (.p 1 0)] Tryz.ntmps62 (req_at h1 h2 hne) (by simp [SV.wf,SC.wf,enL,reqL]) (by simp) (by decide) (.v (faultV f)) rfl trivial ?_
 intro C hC hP hk
 have hctr:=tC1_ok' hP
 have hm:(recM (.panicking (zJ3 f))).2=.panicking [{ v:=faultV f,recovered:=true }]:=rfl
 rw [hm] at hC
 (refine zA0 hctr (rs:=res62) true 200 _ _ _ ?_; simp (maxSteps:=1000000) only [VT,qH,qI,qK,qR,qS,ev,qy,qz,zI,zJ,zK,↓reduceIte,reduceCtorEq,Nat.reduceEqDiff,Nat.reduceLT,zP,zZ,za,zi,zt,hP,hk,res62,kp62,enL,reqL,rqS])
 refine Run_isnil (b:=false) rfl (.inr ⟨_,by rw [hP]; exact Tryz.underlying20⟩) (by rw [hP]; kernel_rfl) (.inr ⟨rfl,_,_,rfl⟩) (by decide) ?_
 (refine zA0 hctr (rs:=res62) true 200 _ _ _ ?_; simp (maxSteps:=1000000) only [VT,jg,qH,qK,ev,qy,zI,zJ,↓reduceIte,reduceCtorEq,Nat.reduceEqDiff,zP,zW,hk,res62,kp62])
 refine Run_assert (D:=.string) rfl (by rw [hP]; exact Tryz.underlying96) (fun m h=>by cases h) rfl (by decide) ?_
 (refine zA0 hctr (rs:=res62) true 200 _ _ _ ?_; simp (maxSteps:=1000000) only [VT,jf,qH,qI,qJ,qK,qO,qh,q0t,qu,qv,ev,qw,qy,qz,zC,zD,zE,zG,zI,zJ,TE.sv,zM,↓reduceIte,reduceCtorEq,Value.oneCell',Nat.reduceEqDiff,Nat.reduceAdd,Nat.reduceLT,zP,zQ,zR,zV,zt,hP,hk,res62,kp62,tCB,zF7,rqS,zB5,zD9])
 refine zQ6 hC hres62 fun ρ w' hw hn=>?_
 have i0:=hw.ini 0 (by rw [hC]; exact Nat.zero_lt_two)
 have i1:=hw.ini 1 (by rw [hC]; exact Nat.one_lt_two)
 have e0:C.ρ0 0=zD7 g1:=by rw [hC]; rfl
 have e1:C.ρ0 1=zD7 g2:=by rw [hC]; rfl
 rw [e0] at i0; rw [e1] at i1
 obtain ⟨k1,_⟩:=zE4 (c:=0) hw.hp hw.ho (by simp) rfl (by decide) (by simp)
 obtain ⟨k2,_⟩:=zE4 (c:=1) hw.hp hw.ho (by simp) rfl (by decide) (by simp)
 rw [i0] at k1; rw [i1] at k2
 have hup:=hw.up
 rw [hC] at hup
 exact ⟨rfl,rfl,hup,k1,k2⟩
end Go.Proofs.YtcbmlanpianclaaGreatDoor
/- read, whole. -/
namespace Go.Proofs.YtcbmlanpianclaaGreatDoor
set_option linter.unusedSimpArgs false
set_option linter.unusedVariables false
open Go.RowKit
set_option maxRecDepth 100000
def RPost (g:Nat) (w:World) (o:Rd') (e:Ending) (w':World):Prop:=
 Upd (One g) w w'∧match o with
 | .fault f=>∃ v,e=.returned (.tuple #[v,.bool false])∧ReqV w.heap.size w' v (zD9 f)∧w'.cell? ⟨g,3,none⟩=some (.int .i64 0)
 | .got r more used=>∃ v,e=.returned (.tuple #[v,.bool more])∧ReqV w.heap.size w' v r∧w'.cell? ⟨g,3,none⟩=some (.int .i64 used)
def ptrA (g:Nat):Value:=.pointer (some ⟨g,0,none⟩)
def recD (g1 g2:Nat):Deferred:={ target:=.fn (.func 62) #[ptrA g1,ptrA g2],args:=#[] }
def reqA (cv:Value) (r:Rq):Array Value:=(zB8 (fun _=>zD7 0) (rqS (.v cv) r)).toArray
theorem read_res {tmps:Array Value} {w:World} {g1 g2:Nat} {cv:Value} {r:Rq} {b:Bool} (h1:Blk w g1 35 (reqA cv r)) (h2:Blk w g2 4 #[.bool b]) (hne:g1 ≠ g2) (t2:tmps[2]?=some (ptrA g1)) (t3:tmps[3]?=some (ptrA g2)) :
  (results Tryz.f43 tmps).run Tryz.prog w=.ok (.tuple #[rqA cv r,.bool b]) w:=by
 have hat:=req_at (cv:=cv) (r:=r) (b:=b) h1 h2 hne
 obtain ⟨C,hC⟩:∃ C:Cx,C=⟨Tryz.prog,fun _ _ _=>True,Two g1 g2,w,roL (reqL (.v cv) r b g1 g2),0,[],[]⟩:=⟨_,rfl⟩
 have hr:Rep C (roL (reqL (.v cv) r b g1 g2)) tmps.size [(2,.c (.p 0 0)),(3,.c (.p 1 0))] (enL (reqL (.v cv) r b g1 g2)) ⟨tmps,[]⟩ w:=by
  subst hC
  refine ⟨⟨hat.hp,hat.ho,hat.inj,Upd.refl _ _,fun c ty cells hc he=>.inl (hat.mu c ty cells hc he),fun c hc=>absurd hc (Nat.not_lt_zero _)⟩,?_,rfl,rfl,Nat.zero_le _⟩
  intro d v hd
  simp only [qy] at hd
  split at hd
  ·rename_i e; subst e; simp only [Option.some.injEq] at hd; subst hd
   exact ⟨t2,by simp [SV.wf,SC.wf,enL,reqL]⟩
  ·split at hd
   ·rename_i e; subst e; simp only [Option.some.injEq] at hd; subst hd
    exact ⟨t3,by simp [SV.wf,SC.wf,enL,reqL]⟩
   ·cases hd
 have hl:qE C.P [(2,.c (.p 0 0)),(3,.c (.p 1 0))] (enL (reqL (.v cv) r b g1 g2)) Tryz.f43.results.toList=some [.g (rqS (.v cv) r),.c (.b b)]:=by
  rw [hC,hres43]
  simp only [qE,qF,qP,qy,zA,zB,zD,zM,↓reduceIte,Nat.reduceEqDiff,zZ,za,enL,reqL,rqS]
 have:=(hr.resOk hl).1
 rw [hC] at this
 exact this
structure RC (g g1 g2:Nat) (w:World) (a:Act) (w2:World):Prop where
 df:a.defers=[recD g1 g2]
 t2:a.tmps[2]?=some (ptrA g1)
 t3:a.tmps[3]?=some (ptrA g2)
 up:Upd (One g) w w2
 n1:w.heap.size≤g1
 n2:w.heap.size≤g2
 ne:g1 ≠ g2
 hg:g < w.heap.size
theorem inv_rec (g1 g2:Nat) (w:World):(invoke (.fn (.func 62) #[ptrA g1,ptrA g2]) #[]).run Tryz.prog w=.ok (.enter 62 #[ptrA g1,ptrA g2]) w:=by
 simp [invoke,Tryz.call62]
theorem rc_fault {g g1 g2:Nat} {w w2 w3:World} {a:Act} {o:Rd'} {f:List UInt8} {b:Bool} {cv:Value} {r:Rq} (h:RC g g1 g2 w a w2) (hU:Upd (One g) w2 w3) (b1:Blk w3 g1 35 (reqA cv r)) (b2:Blk w3 g2 4 #[.bool b]) (hu:w3.cell? ⟨g,3,none⟩=some (.int .i64 0)) (ho:o=.fault f) :
  bodyPostD Tryz.prog Tryz.f43 (RPost g w o) (.panic (zJ3 f)) a w3:=by
 subst ho
 show Leaves _ _ a.tmps _ a.defers (.panicking (zJ3 f)) w3
 rw [h.df]
 refine leaves_cons (by simp) (inv_rec g1 g2 w3) ((rec_fault f b1 b2 h.ne).mono ?_)
 rintro e u' w4 ⟨rfl,rfl,hU4,k1,k2⟩
 refine ⟨_,read_res k1 k2 h.ne h.t2 h.t3,?_,_,rfl,⟨_,rfl,.inl ⟨rfl,rfl⟩⟩,?_⟩
 ·refine (h.up.same hU).trans hU4 fun k hk ht=>?_
  rcases ht with e | e <;> (have e:k=_:=e; have:=h.n1; have:=h.n2; omega)
 ·have hlt:g < w3.heap.size:=Nat.lt_of_lt_of_le h.hg (Nat.le_trans h.up.size hU.size)
  rw [hU4.cell (p:=⟨g,3,none⟩) hlt (by rintro (e | e) <;> (have e:g=_:=e; have:=h.n1; have:=h.n2; have:=h.hg; omega))]
  exact hu
theorem rc_ret {g g1 g2:Nat} {w w2:World} {a:Act} {o:Rd'} {more:Bool} {used:Int} {cv:Value} {r:Rq} (h:RC g g1 g2 w a w2) (b1:Blk w2 g1 35 (reqA cv r)) (b2:Blk w2 g2 4 #[.bool more]) (hu:w2.cell? ⟨g,3,none⟩=some (.int .i64 used)) (hc:CmdV w.heap.size w2 cv r.cmds) (ho:o=.got r more used) :
  bodyPostD Tryz.prog Tryz.f43 (RPost g w o) .ret a w2:=by
 subst ho
 show Leaves _ _ a.tmps _ a.defers .returning w2
 rw [h.df]
 refine leaves_cons (by simp) (inv_rec g1 g2 w2) ((rec_norm g1 g2 w2).mono ?_)
 rintro e u' w4 ⟨rfl,rfl,hb⟩
 refine ⟨_,read_res (b1.below hb) (b2.below hb) h.ne h.t2 h.t3,h.up.below hb,_,rfl,⟨_,rfl,?_⟩,?_⟩
 ·rcases hc with hc | ⟨h0,gc,cap,rest,k1,k2,k3,k4⟩
  ·exact .inl hc
  ·refine .inr ⟨h0,gc,cap,rest,k1,k2,?_,k4⟩
   rw [hb.block gc (Array.getElem?_eq_some_iff.1 k3).1]
   exact k3
 ·have hlt:g < w2.heap.size:=Nat.lt_of_lt_of_le h.hg h.up.size
  rw [hb.cell (p:=⟨g,3,none⟩) hlt]
  exact hu
end Go.Proofs.YtcbmlanpianclaaGreatDoor
/- read, walked. Printed by gen_tread.py. -/
namespace Go.Proofs.YtcbmlanpianclaaGreatDoor
set_option linter.unusedSimpArgs false
set_option linter.unusedVariables false
set_option maxHeartbeats 8000000
open Go.RowKit
set_option maxRecDepth 100000
def enRd (name:List UInt8) (W:SC) (behind:List UInt8):List EN:=[⟨(75,0,whole),lnC name W behind 0 false,true⟩,⟨(35,0,whole),rqS zB5 Rq.zero,true⟩,⟨(4,0,whole),[.b false],true⟩]
def zL6:List EN:=[⟨(4294967295,0,whole),[],false⟩,⟨(35,0,whole),rqS zB5 Rq.zero,true⟩,⟨(4,0,whole),[.b false],true⟩]
def cx2 (D:Cx) (g1 g2:Nat) (w:World) (ρ:Nat→RE):Cx:=⟨D.P,D.Q,Two g1 g2,w,ρ,3,D.kp,D.df⟩
theorem re_eq {r:RE} (h1:r.pre=[]) (h2:r.post=[]) (h3:r.nl=none):r=⟨r.blk,[],[],r.cap,none⟩:=by
 obtain ⟨b,p,q,c,n⟩:=r
 simp only at h1 h2 h3
 subst h1; subst h2; subst h3; rfl
theorem rq_wf (pr:Nat→Prop) (cv:Value) (r:Rq):SV.wf pr (.g (rqS (.v cv) r)):=by
 intro y hy
 simp only [rqS,List.mem_cons,List.not_mem_nil,or_false] at hy
 rcases hy with rfl | rfl | rfl | rfl | rfl | rfl | rfl | rfl | rfl | rfl | rfl <;> trivial
theorem rq_wf2 (pr:Nat→Prop) (cv:Value) (r:Rq) (b:Bool):SV.wf pr (.t [.g (rqS (.v cv) r),.c (.b b)]):=by
 intro y hy
 simp only [List.mem_cons,List.not_mem_nil,or_false] at hy
 rcases hy with rfl | rfl
 ·exact rq_wf pr cv r
 ·trivial
theorem zM5 {b:Nat} {w:World} {cv:Value} {cs:List Cd} (h:CmdV b w cv cs):∃ a n c,cv=.slice a n c:=by
 rcases h with ⟨_,h⟩ | ⟨_,g,cap,rest,h,_⟩
 ·exact ⟨_,_,_,h⟩
 ·exact ⟨_,_,_,h⟩
theorem get_more {name:List UInt8} {w:List (List UInt8)} {r:Rq} {more:Bool} {u:Int} (h:zJ7 name w=.got r more u):more=false:=by
 unfold zJ7 at h
 simp only at h
 repeat' split at h
 all_goals first | (cases h; rfl) | cases h
theorem plain_more {name:List UInt8} {w:List (List UInt8)} {r:Rq} {more:Bool} {u:Int} (h:zA7 name w=.got r more u):more=false:=by
 unfold zA7 zI1 at h
 simp only at h
 repeat' split at h
 all_goals first | (cases h; rfl) | cases h
structure RD (g g1 g2:Nat) (w:World) (name:List UInt8) (a:Option Addr) (n c:Nat) (ws:List (List UInt8)) (behind:List UInt8) (D:Cx) (ρ1:Nat→RE):Prop where
 P:D.P=Tryz.prog
 S:∀ k,D.S k→k=g∨w.heap.size≤k
 up:Upd (One g) w D.w0
 n0:D.n0=3
 r0:D.ρ0=ρ1
 e0:ρ1 0=zD7 g
 e1:∃ cp,ρ1 1=⟨g1,[],[],cp,none⟩
 e2:∃ cp,ρ1 2=⟨g2,[],[],cp,none⟩
 df:D.df=[recD g1 g2]
 n1:w.heap.size≤g1
 n2:w.heap.size≤g2
 ne:g1 ≠ g2
 hg:g < w.heap.size
section
variable {g g1 g2:Nat} {w:World} {name:List UInt8} {a:Option Addr} {n c:Nat} {ws:List (List UInt8)} {behind:List UInt8} {D:Cx} {ρ1 ρ2:Nat→RE} {nt:Nat} {sl:List (Nat × SV)} {a2:Act} {w2 w3:World}
theorem RD.upTo (h:RD g g1 g2 w name a n c ws behind D ρ1) (hr:Rep D ρ2 nt sl (enRd name (.v (.slice a n c)) behind) a2 w2):Upd (One g) w w2:=by
 refine h.up.trans hr.hw.up fun k hk hs=>?_
 rcases h.S k hs with e | e
 ·exact e
 ·omega
theorem RD.rho (h:RD g g1 g2 w name a n c ws behind D ρ1) (hr:Rep D ρ2 nt sl (enRd name (.v (.slice a n c)) behind) a2 w2):ρ2 0=zD7 g∧(∃ cp,ρ2 1=⟨g1,[],[],cp,none⟩)∧∃ cp,ρ2 2=⟨g2,[],[],cp,none⟩:=by
 have i:∀ c,c < 3→ρ2 c=ρ1 c:=fun c hc=>by rw [hr.hw.ini c (by rw [h.n0]; exact hc),h.r0]
 rw [i 0 (by decide),i 1 (by decide),i 2 (by decide)]
 exact ⟨h.e0,h.e1,h.e2⟩
theorem RD.blks (h:RD g g1 g2 w name a n c ws behind D ρ1) (hr:Rep D ρ2 nt sl (enRd name (.v (.slice a n c)) behind) a2 w2):Blk w2 g 75 (lnA name (.slice a n c) behind 0 false)∧Blk w2 g1 35 (reqA (.slice none 0 0) Rq.zero)∧Blk w2 g2 4 #[.bool false]:=by
 obtain ⟨q0,⟨cp1,q1⟩,⟨cp2,q2⟩⟩:=h.rho hr
 obtain ⟨k0,_⟩:=zE4 (c:=0) hr.hw.hp hr.hw.ho (by show 0 < 3; decide) rfl (by decide) (by simp [lnC])
 obtain ⟨k1,_⟩:=zE4 (c:=1) hr.hw.hp hr.hw.ho (by show 1 < 3; decide) rfl (by decide) (by simp [rqS])
 obtain ⟨k2,_⟩:=zE4 (c:=2) hr.hw.hp hr.hw.ho (by show 2 < 3; decide) rfl (by decide) (by simp)
 rw [q0] at k0; rw [q1] at k1; rw [q2] at k2
 exact ⟨k0,k1,k2⟩
theorem RD.rc (h:RD g g1 g2 w name a n c ws behind D ρ1) (hr:Rep D ρ2 nt sl (enRd name (.v (.slice a n c)) behind) a2 w2) (s2:qy sl 2=some (.c (.p 1 0))) (s3:qy sl 3=some (.c (.p 2 0))):RC g g1 g2 w a2 w2:=by
 obtain ⟨q0,⟨cp1,q1⟩,⟨cp2,q2⟩⟩:=h.rho hr
 have t2:=(hr.tm _ _ s2).1
 have t3:=(hr.tm _ _ s3).1
 refine ⟨hr.df.trans h.df,?_,?_,h.upTo hr,h.n1,h.n2,h.ne,h.hg⟩
 ·rw [t2]; simp [SV.den,SC.den,zE1,q1,ptrA]
 ·rw [t3]; simp [SV.den,SC.den,zE1,q2,ptrA]
theorem RD.fault (h:RD g g1 g2 w name a n c ws behind D ρ1) {o:Rd'} (hQ:D.Q=bodyPostD Tryz.prog Tryz.f43 (RPost g w o)) (hr:Rep D ρ2 nt sl (enRd name (.v (.slice a n c)) behind) a2 w2) (s2:qy sl 2=some (.c (.p 1 0))) (s3:qy sl 3=some (.c (.p 2 0)))
  (hU:Upd (One g) w2 w3) {f:List UInt8} (hu:w3.cell? ⟨g,3,none⟩=some (.int .i64 0)) (ho:o=.fault f):D.Q (.panic (zJ3 f)) a2 w3:=by
 obtain ⟨k0,k1,k2⟩:=h.blks hr
 rw [hQ]
 refine rc_fault (h.rc hr s2 s3) hU (k1.upd hU ?_) (k2.upd hU ?_) hu ho
 ·intro e; have e:g1=g:=e; have:=h.n1; have:=h.hg; omega
 ·intro e; have e:g2=g:=e; have:=h.n2; have:=h.hg; omega
theorem RD.rep (h:RD g g1 g2 w name a n c ws behind D ρ1) (hr:Rep D ρ2 nt sl (enRd name (.v (.slice a n c)) behind) a2 w2) (hU:Upd (One g) w2 w3) {d:Nat} (hd:d < nt) {v:SV} {u:Value} (hv:v.den ρ2=u) (hvw:v.wf (· < 3)) {s:List (Nat × SV)} (hs:∀ e x,qy s e=some x→qy sl e=some x∧x.wf (fun c=>c=1∨c=2)) :
  Rep (cx2 D g1 g2 w3 ρ2) ρ2 nt ((d,v) :: s) zL6 (a2.put (some d) u) w3:=by
 obtain ⟨q0,⟨cp1,q1⟩,⟨cp2,q2⟩⟩:=h.rho hr
 have l0:zG5 (ρ2 0) (zD (enRd name (.v (.slice a n c)) behind) 0)=false:=(zA4 rfl).2 ⟨(by show ¬ (75:Nat)=zC9; decide),by rw [q0]; rfl⟩
 have hk:=hr.hw.kill (N:=0) (by show 0 < 3; decide) rfl l0 (w':=w3) (by rw [q0]; exact hU) (fun hb=>(hr.hw.mu 0 _ _ (by show 0 < 3; decide) rfl).resolve_right (by omega))
 have hw3:Hw (cx2 D g1 g2 w3 ρ2) ρ2 (· < 3) zL6 w3:=by
  refine ⟨hk.hp,hk.ho,hk.inj,Upd.refl _ _,?_,fun _ _=>rfl⟩
  intro c ty cells hc he
  match c,hc with
  | 0,_=>simp [zL6,zD] at he
  | 1,_=>rw [q1]; exact .inl (.inl rfl)
  | 2,_=>rw [q2]; exact .inl (.inr rfl)
 have hr3:Rep (cx2 D g1 g2 w3 ρ2) ρ2 nt s zL6 a2 w3:=by
  refine ⟨hw3,fun e x he=>?_,hr.sz,hr.df,Nat.le_refl _⟩
  obtain ⟨h1,h2⟩:=hs e x he
  exact ⟨(hr.tm e x h1).1,SV.wf_mono h2 (fun c hc=>by show c < 3; omega)⟩
 rw [← hv]
 exact hr3.put hd hvw
theorem RD.ret (h:RD g g1 g2 w name a n c ws behind D ρ1) {o:Rd'} (hQ:D.Q=bodyPostD Tryz.prog Tryz.f43 (RPost g w o)) (hr:Rep D ρ2 nt sl (enRd name (.v (.slice a n c)) behind) a2 w2) (hU:Upd (One g) w2 w3) {k:List KI} {s:List (Nat × SV)} {cv:Value} {r:Rq} {more:Bool} {used:Int}
  (hu:w3.cell? ⟨g,3,none⟩=some (.int .i64 used)) (hc:CmdV w2.heap.size w3 cv r.cmds) (ho:o=.got r more used) (s2:qy s 2=some (.c (.p 1 0))) (s3:qy s 3=some (.c (.p 2 0))) :
  Run (cx2 D g1 g2 w3 ρ2) (.code .ret :: k) nt s [⟨(4294967295,0,whole),[],false⟩,⟨(35,0,whole),rqS (.v cv) r,true⟩,⟨(4,0,whole),[.b more],true⟩]:=by
 obtain ⟨q0,⟨cp1,q1⟩,⟨cp2,q2⟩⟩:=h.rho hr
 intro ρ4 a4 w4 hr4
 refine wp_ret (KQ_ret k a4 w4 ?_)
 show D.Q .ret a4 w4
 rw [hQ]
 have i:∀ c,c < 3→ρ4 c=ρ2 c:=fun c hc=>hr4.hw.ini c hc
 have q1':=(i 1 (by decide)).trans q1
 have q2':=(i 2 (by decide)).trans q2
 obtain ⟨k1,_⟩:=zE4 (c:=1) hr4.hw.hp hr4.hw.ho (by show 1 < 3; decide) rfl (by decide) (by simp [rqS])
 obtain ⟨k2,_⟩:=zE4 (c:=2) hr4.hw.hp hr4.hw.ho (by show 2 < 3; decide) rfl (by decide) (by simp)
 rw [q1'] at k1; rw [q2'] at k2
 have hup:Upd (Two g1 g2) w3 w4:=hr4.hw.up
 have hs3:=(h.upTo hr).size
 have hT:∀ k,Two g1 g2 k→w.heap.size≤k:=fun k hk=>by
  have:=h.n1; have:=h.n2
  rcases hk with e | e <;> (have e:k=_:=e; omega)
 have hfit:=h.blks hr
 have l1:g1 < w2.heap.size:=hfit.2.1.lt
 have l2:g2 < w2.heap.size:=hfit.2.2.lt
 refine rc_ret (w:=w) ⟨hr4.df.trans h.df,?_,?_,?_,h.n1,h.n2,h.ne,h.hg⟩ k1 k2 ?_ ?_ ho
 ·rw [(hr4.tm _ _ s2).1]; simp [SV.den,SC.den,zE1,q1',ptrA]
 ·rw [(hr4.tm _ _ s3).1]; simp [SV.den,SC.den,zE1,q2',ptrA]
 ·exact ((h.upTo hr).same hU).trans hup fun k hk ht=>absurd hk (by have:=hT k ht; omega)
 ·have hlt:g < w3.heap.size:=by have:=hU.size; have:=h.hg; omega
  rw [hup.cell (p:=⟨g,3,none⟩) hlt (fun ht=>by have:=hT g ht; have:=h.hg; omega)]
  exact hu
 ·rcases hc with hc | ⟨h0,gc,cap,rest,m1,m2,m3,m4⟩
  ·exact .inl hc
  ·refine .inr ⟨h0,gc,cap,rest,m1,by omega,?_,m4⟩
   rw [hup.block gc (Array.getElem?_eq_some_iff.1 m3).1 (by rintro (e | e) <;> (have e:gc=_:=e; omega))]
   exact m3
end
theorem read_wV {name:List UInt8} {w:World} {g:Nat} {a:Option Addr} {c:Nat} {ws:List (List UInt8)} {behind:List UInt8} (h:Ln w g name a ws.length c ws behind 0 false) (hnl:name.length≤100000) (hn:ws.length≤100000) (hl:∀ x∈ws,x.length≤100000) (hb:behind.length≤9223372036854775807) (hE0:EnvG g w) :
  Calls Tryz.prog 43 #[.pointer (some ⟨g,0,none⟩)] w (RPost g w (zJ2 name ws behind)):=by
 refine calls_of_RunD Tryz.func43 rfl kp43 (S:=One g) (ρ:=fun _=>zD7 g) [.c (.p 0 0)] Tryz.ntmps43 (zO9 h.blk true (One g) (fun _=>rfl)) (by simp [SV.wf,SC.wf]) (by simp) ?_
 intro C hC hP hk
 have hctr:=zF8 hP
 obtain ⟨o,hR⟩:∃ o,o=zJ2 name ws behind:=⟨_,rfl⟩
 rw [← hR] at hC
 (refine zA0 hctr (rs:=[.tmp 99999]) true 300 _ _ _ ?_; simp (maxSteps:=1000000) only [VT,qH,qI,qK,qk,ev,qy,zF,zG,zI,zJ,zK,zM,↓reduceIte,reduceCtorEq,Nat.reduceEqDiff,Nat.reduceAdd,Nat.reduceLT,zP,zR,zt,hP,hk,kp43,lnC])
 refine Run_defer rfl fun ρ1 w1 hw1 hn1=>?_
 have i0:ρ1 0=zD7 g:=by rw [hw1.ini 0 (by rw [hC]; exact Nat.zero_lt_one),hC]; rfl
 obtain ⟨k1,p1,r1a,r1b,r1n⟩:=zE4 (c:=1) hw1.hp hw1.ho (by show 1 < 3; decide) rfl (by decide) (by simp)
 obtain ⟨k2,p2,r2a,r2b,r2n⟩:=zE4 (c:=2) hw1.hp hw1.ho (by show 2 < 3; decide) rfl (by decide) (by simp)
 obtain ⟨g1,hg1⟩:∃ g1,g1=(ρ1 1).blk:=⟨_,rfl⟩
 obtain ⟨g2,hg2⟩:∃ g2,g2=(ρ1 2).blk:=⟨_,rfl⟩
 have hgl:g < w.heap.size:=h.blk.lt
 have m1:=hw1.mu 1 _ _ (by show 1 < 3; decide) rfl
 have m2:=hw1.mu 2 _ _ (by show 2 < 3; decide) rfl
 have l0:zG5 (ρ1 0) (zD (enRd name (.v (.slice a ws.length c)) behind) 0)=false:=(zA4 rfl).2 ⟨(by show ¬ (75:Nat)=zC9; decide),by rw [i0]; rfl⟩
 have l1:zG5 (ρ1 1) (zD (enRd name (.v (.slice a ws.length c)) behind) 1)=false:=(zA4 rfl).2 ⟨(by show ¬ (35:Nat)=zC9; decide),r1n⟩
 have l2:zG5 (ρ1 2) (zD (enRd name (.v (.slice a ws.length c)) behind) 2)=false:=(zA4 rfl).2 ⟨(by show ¬ (4:Nat)=zC9; decide),r2n⟩
 have n01:g1 ≠ g:=fun e=>by have:=hw1.inj 0 1 (by show 0 < 3; decide) (by show 1 < 3; decide) l0 l1 (by rw [i0,← hg1,e]; rfl); cases this
 have n02:g2 ≠ g:=fun e=>by have:=hw1.inj 0 2 (by show 0 < 3; decide) (by show 2 < 3; decide) l0 l2 (by rw [i0,← hg2,e]; rfl); cases this
 have n12:g1 ≠ g2:=fun e=>by have:=hw1.inj 1 2 (by show 1 < 3; decide) (by show 2 < 3; decide) l1 l2 (by rw [← hg1,← hg2,e]); cases this
 have hS:C.S=One g:=by rw [hC]; rfl
 have hw0:C.w0=w:=by rw [hC]; rfl
 rw [hS,hw0,← hg1] at m1
 rw [hS,hw0,← hg2] at m2
 have hup1:=hw1.up
 rw [hS,hw0] at hup1
 generalize hD:cxReb C ρ1 w1 _ _=D
 have hRD:RD g g1 g2 w name a ws.length c ws behind D ρ1:=by
  subst hD
  exact ⟨hP,fun k hk=>by rw [show (cxReb C ρ1 w1 _ _).S k=(C.S k∨C.w0.heap.size≤k) from rfl,hS,hw0] at hk; exact hk,hup1,rfl,rfl,i0,⟨_,show ρ1 1=⟨g1,[],[],(ρ1 1).cap,none⟩ by rw [hg1]; exact re_eq r1a r1b r1n⟩,⟨_,show ρ1 2=⟨g2,[],[],(ρ1 2).cap,none⟩ by rw [hg2]; exact re_eq r2a r2b r2n⟩,by
   show _ :: C.df=_
   rw [hC]
   simp [cxD,recD,p1,p2,ptrA,hg1,hg2],m1.resolve_left n01,m2.resolve_left n02,n12,hgl⟩
 have hQ:D.Q=bodyPostD Tryz.prog Tryz.f43 (RPost g w o):=by subst hD; rw [show (cxReb C ρ1 w1 _ _).Q=C.Q from rfl,hC]; rfl
 have hkD:D.kp=kp43:=by subst hD; exact hk
 have hPD:=hRD.P
 clear hD
 have hP:=hPD; have hk:=hkD
 have hctr:=zF8 hP
 by_cases h0:name=[103,101,116]
 ·subst h0
  (refine zA0 hctr (rs:=[.tmp 99999]) true 300 _ _ _ ?_; simp (maxSteps:=1000000) only [VT,jf,qH,qI,qK,qO,qP,qQ,qR,qS,qV,ev,qw,qy,qz,zD,zI,zJ,zM,↓reduceIte,reduceCtorEq,Nat.reduceEqDiff,Nat.reduceLT,Nat.reduceBEq,zP,zQ,zR,zV,zu,zx,hP,hk,kp43,noC,lb1,lb4,u8b,UInt8.reduceToNat])
  have hR:o=zJ7 [103,101,116] ws:=hR.trans (by simp [zJ2])
  refine zF9 rfl rfl (fun args w=>by rw [hP]; exact Tryz.call63 args w) (fun ρ2 a2 w2 hr2 hwf=>?_)
  have hB:=hRD.blks hr2
  have hup:=hRD.upTo hr2
  have hLn:Ln w2 g [103,101,116] a ws.length c ws behind 0 false:=⟨hB.1,h.raw.upd hup,Nat.le_refl _,h.cap⟩
  have hargs:(List.map (SV.den ρ2) [.c (.p 0 0)]).toArray=#[.pointer (some ⟨g,0,none⟩)]:=by
   obtain ⟨q0,_⟩:=hRD.rho hr2
   simp [SV.den,SC.den,zE1,q0,zD7]
  rw [hP,hargs]
  refine (get_w hLn hnl hn hl (hE0.upd hup)).mono ?_
  rintro e w3 ⟨hU3,hm⟩
  cases ho:zJ7 [103,101,116] ws with
  | fault f =>
   rw [ho] at hm
   obtain ⟨rfl,hu⟩:=hm
   exact .inr ⟨_,rfl,hRD.fault hQ hr2 rfl rfl hU3 hu (hR.trans ho)⟩
  | got r more used =>
   rw [ho] at hm
   obtain ⟨v,rfl,⟨cv,rfl,hcv⟩,hu⟩:=hm
   obtain ⟨sa,sn,sc,rfl⟩:=zM5 hcv
   refine .inl ⟨_,rfl,?_⟩
   have hrep:=hRD.rep hr2 hU3 (d:=15) (by decide) (v:=.g (rqS (.v (.slice sa sn sc)) r)) rfl (rq_wf _ _ _) (s:=[(2,.c (.p 1 0)),(3,.c (.p 2 0))]) (fun e x he=>by
    simp only [qy] at he
    split at he
    ·rename_i e'; subst e'; cases he; exact ⟨rfl,.inl rfl⟩
    ·split at he
     ·rename_i e'; subst e'; cases he; exact ⟨rfl,.inr rfl⟩
     ·cases he)
   obtain ⟨C2,hC2⟩:∃ C2,C2=cx2 D g1 g2 w3 ρ2:=⟨_,rfl⟩
   rw [← hC2] at hrep
   rw [← zG0 (C:=D) (D:=C2) (by rw [hC2]; rfl) (by rw [hC2]; rfl)]
   have hP2:C2.P=Tryz.prog:=by rw [hC2]; exact hP
   have hk2:C2.kp=kp43:=by rw [hC2]; exact hk
   refine (?_:Run C2 _ 29 _ zL6) ρ2 _ w3 hrep
   clear hrep
   have hP:=hP2; have hk:=hk2
   have hctr:=zF8 hP
   (refine zA0 hctr (rs:=[.tmp 99999]) true 300 _ _ _ ?_; simp (maxSteps:=1000000) only [VT,qE,qH,qJ,q0t,qu,qv,ev,qy,qz,zC,zD,zE,zG,zI,zJ,zM,↓reduceIte,reduceCtorEq,Value.oneCell',Nat.reduceEqDiff,Nat.reduceAdd,zP,zQ,zt,hP,hk,kp43,rqS,zB5,Rq.zero,zL6])
   rw [hC2]
   have hmo:=get_more ho
   subst hmo
   exact hRD.ret hQ hr2 hU3 hu hcv (hR.trans ho) (by rfl) (by rfl)
 by_cases h1:name=[103,101,116,115]
 ·subst h1
  (refine zA0 hctr (rs:=[.tmp 99999]) true 300 _ _ _ ?_; simp (maxSteps:=1000000) only [VT,jf,jg,qH,qI,qK,qO,qP,qQ,qR,qS,qV,ev,qw,qy,qz,zD,zI,zJ,zM,↓reduceIte,reduceCtorEq,Nat.reduceEqDiff,Nat.reduceLT,Nat.reduceBEq,zP,zQ,zR,zV,zW,zu,zx,hP,hk,kp43,noC,lb1,lb2,lb4,u8b,UInt8.reduceToNat])
  have hR:o=zJ7 [103,101,116,115] ws:=hR.trans (by simp [zJ2])
  refine zF9 rfl rfl (fun args w=>by rw [hP]; exact Tryz.call63 args w) (fun ρ2 a2 w2 hr2 hwf=>?_)
  have hB:=hRD.blks hr2
  have hup:=hRD.upTo hr2
  have hLn:Ln w2 g [103,101,116,115] a ws.length c ws behind 0 false:=⟨hB.1,h.raw.upd hup,Nat.le_refl _,h.cap⟩
  have hargs:(List.map (SV.den ρ2) [.c (.p 0 0)]).toArray=#[.pointer (some ⟨g,0,none⟩)]:=by
   obtain ⟨q0,_⟩:=hRD.rho hr2
   simp [SV.den,SC.den,zE1,q0,zD7]
  rw [hP,hargs]
  refine (get_w hLn hnl hn hl (hE0.upd hup)).mono ?_
  rintro e w3 ⟨hU3,hm⟩
  cases ho:zJ7 [103,101,116,115] ws with
  | fault f =>
   rw [ho] at hm
   obtain ⟨rfl,hu⟩:=hm
   exact .inr ⟨_,rfl,hRD.fault hQ hr2 rfl rfl hU3 hu (hR.trans ho)⟩
  | got r more used =>
   rw [ho] at hm
   obtain ⟨v,rfl,⟨cv,rfl,hcv⟩,hu⟩:=hm
   obtain ⟨sa,sn,sc,rfl⟩:=zM5 hcv
   refine .inl ⟨_,rfl,?_⟩
   have hrep:=hRD.rep hr2 hU3 (d:=15) (by decide) (v:=.g (rqS (.v (.slice sa sn sc)) r)) rfl (rq_wf _ _ _) (s:=[(2,.c (.p 1 0)),(3,.c (.p 2 0))]) (fun e x he=>by
    simp only [qy] at he
    split at he
    ·rename_i e'; subst e'; cases he; exact ⟨rfl,.inl rfl⟩
    ·split at he
     ·rename_i e'; subst e'; cases he; exact ⟨rfl,.inr rfl⟩
     ·cases he)
   obtain ⟨C2,hC2⟩:∃ C2,C2=cx2 D g1 g2 w3 ρ2:=⟨_,rfl⟩
   rw [← hC2] at hrep
   rw [← zG0 (C:=D) (D:=C2) (by rw [hC2]; rfl) (by rw [hC2]; rfl)]
   have hP2:C2.P=Tryz.prog:=by rw [hC2]; exact hP
   have hk2:C2.kp=kp43:=by rw [hC2]; exact hk
   refine (?_:Run C2 _ 29 _ zL6) ρ2 _ w3 hrep
   clear hrep
   have hP:=hP2; have hk:=hk2
   have hctr:=zF8 hP
   (refine zA0 hctr (rs:=[.tmp 99999]) true 300 _ _ _ ?_; simp (maxSteps:=1000000) only [VT,qE,qH,qJ,q0t,qu,qv,ev,qy,qz,zC,zD,zE,zG,zI,zJ,zM,↓reduceIte,reduceCtorEq,Value.oneCell',Nat.reduceEqDiff,Nat.reduceAdd,zP,zQ,zt,hP,hk,kp43,rqS,zB5,Rq.zero,zL6])
   rw [hC2]
   have hmo:=get_more ho
   subst hmo
   exact hRD.ret hQ hr2 hU3 hu hcv (hR.trans ho) (by rfl) (by rfl)
 by_cases h2:name=[103,97,116]
 ·subst h2
  (refine zA0 hctr (rs:=[.tmp 99999]) true 300 _ _ _ ?_; simp (maxSteps:=1000000) only [VT,jf,jg,qH,qI,qK,qO,qP,qQ,qR,qS,qV,ev,qw,qy,qz,zD,zI,zJ,zM,↓reduceIte,reduceCtorEq,Nat.reduceEqDiff,Nat.reduceLT,Nat.reduceBEq,zP,zQ,zR,zV,zW,zu,zw,zx,hP,hk,kp43,noC,lb1,lb3,lb4,u8b,UInt8.reduceToNat])
  have hR:o=zJ7 [103,97,116] ws:=hR.trans (by simp [zJ2])
  refine zF9 rfl rfl (fun args w=>by rw [hP]; exact Tryz.call63 args w) (fun ρ2 a2 w2 hr2 hwf=>?_)
  have hB:=hRD.blks hr2
  have hup:=hRD.upTo hr2
  have hLn:Ln w2 g [103,97,116] a ws.length c ws behind 0 false:=⟨hB.1,h.raw.upd hup,Nat.le_refl _,h.cap⟩
  have hargs:(List.map (SV.den ρ2) [.c (.p 0 0)]).toArray=#[.pointer (some ⟨g,0,none⟩)]:=by
   obtain ⟨q0,_⟩:=hRD.rho hr2
   simp [SV.den,SC.den,zE1,q0,zD7]
  rw [hP,hargs]
  refine (get_w hLn hnl hn hl (hE0.upd hup)).mono ?_
  rintro e w3 ⟨hU3,hm⟩
  cases ho:zJ7 [103,97,116] ws with
  | fault f =>
   rw [ho] at hm
   obtain ⟨rfl,hu⟩:=hm
   exact .inr ⟨_,rfl,hRD.fault hQ hr2 rfl rfl hU3 hu (hR.trans ho)⟩
  | got r more used =>
   rw [ho] at hm
   obtain ⟨v,rfl,⟨cv,rfl,hcv⟩,hu⟩:=hm
   obtain ⟨sa,sn,sc,rfl⟩:=zM5 hcv
   refine .inl ⟨_,rfl,?_⟩
   have hrep:=hRD.rep hr2 hU3 (d:=15) (by decide) (v:=.g (rqS (.v (.slice sa sn sc)) r)) rfl (rq_wf _ _ _) (s:=[(2,.c (.p 1 0)),(3,.c (.p 2 0))]) (fun e x he=>by
    simp only [qy] at he
    split at he
    ·rename_i e'; subst e'; cases he; exact ⟨rfl,.inl rfl⟩
    ·split at he
     ·rename_i e'; subst e'; cases he; exact ⟨rfl,.inr rfl⟩
     ·cases he)
   obtain ⟨C2,hC2⟩:∃ C2,C2=cx2 D g1 g2 w3 ρ2:=⟨_,rfl⟩
   rw [← hC2] at hrep
   rw [← zG0 (C:=D) (D:=C2) (by rw [hC2]; rfl) (by rw [hC2]; rfl)]
   have hP2:C2.P=Tryz.prog:=by rw [hC2]; exact hP
   have hk2:C2.kp=kp43:=by rw [hC2]; exact hk
   refine (?_:Run C2 _ 29 _ zL6) ρ2 _ w3 hrep
   clear hrep
   have hP:=hP2; have hk:=hk2
   have hctr:=zF8 hP
   (refine zA0 hctr (rs:=[.tmp 99999]) true 300 _ _ _ ?_; simp (maxSteps:=1000000) only [VT,qE,qH,qJ,q0t,qu,qv,ev,qy,qz,zC,zD,zE,zG,zI,zJ,zM,↓reduceIte,reduceCtorEq,Value.oneCell',Nat.reduceEqDiff,Nat.reduceAdd,zP,zQ,zt,hP,hk,kp43,rqS,zB5,Rq.zero,zL6])
   rw [hC2]
   have hmo:=get_more ho
   subst hmo
   exact hRD.ret hQ hr2 hU3 hu hcv (hR.trans ho) (by rfl) (by rfl)
 by_cases h3:name=[103,97,116,115]
 ·subst h3
  (refine zA0 hctr (rs:=[.tmp 99999]) true 300 _ _ _ ?_; simp (maxSteps:=1000000) only [VT,jf,jg,qH,qI,qK,qO,qP,qQ,qR,qS,qV,ev,qw,qy,qz,zD,zI,zJ,zM,↓reduceIte,reduceCtorEq,Nat.reduceEqDiff,Nat.reduceLT,Nat.reduceBEq,zP,zQ,zR,zV,zW,zu,zw,zx,hP,hk,kp43,noC,lb1,lb2,lb4,u8b,UInt8.reduceToNat])
  have hR:o=zJ7 [103,97,116,115] ws:=hR.trans (by simp [zJ2])
  refine zF9 rfl rfl (fun args w=>by rw [hP]; exact Tryz.call63 args w) (fun ρ2 a2 w2 hr2 hwf=>?_)
  have hB:=hRD.blks hr2
  have hup:=hRD.upTo hr2
  have hLn:Ln w2 g [103,97,116,115] a ws.length c ws behind 0 false:=⟨hB.1,h.raw.upd hup,Nat.le_refl _,h.cap⟩
  have hargs:(List.map (SV.den ρ2) [.c (.p 0 0)]).toArray=#[.pointer (some ⟨g,0,none⟩)]:=by
   obtain ⟨q0,_⟩:=hRD.rho hr2
   simp [SV.den,SC.den,zE1,q0,zD7]
  rw [hP,hargs]
  refine (get_w hLn hnl hn hl (hE0.upd hup)).mono ?_
  rintro e w3 ⟨hU3,hm⟩
  cases ho:zJ7 [103,97,116,115] ws with
  | fault f =>
   rw [ho] at hm
   obtain ⟨rfl,hu⟩:=hm
   exact .inr ⟨_,rfl,hRD.fault hQ hr2 rfl rfl hU3 hu (hR.trans ho)⟩
  | got r more used =>
   rw [ho] at hm
   obtain ⟨v,rfl,⟨cv,rfl,hcv⟩,hu⟩:=hm
   obtain ⟨sa,sn,sc,rfl⟩:=zM5 hcv
   refine .inl ⟨_,rfl,?_⟩
   have hrep:=hRD.rep hr2 hU3 (d:=15) (by decide) (v:=.g (rqS (.v (.slice sa sn sc)) r)) rfl (rq_wf _ _ _) (s:=[(2,.c (.p 1 0)),(3,.c (.p 2 0))]) (fun e x he=>by
    simp only [qy] at he
    split at he
    ·rename_i e'; subst e'; cases he; exact ⟨rfl,.inl rfl⟩
    ·split at he
     ·rename_i e'; subst e'; cases he; exact ⟨rfl,.inr rfl⟩
     ·cases he)
   obtain ⟨C2,hC2⟩:∃ C2,C2=cx2 D g1 g2 w3 ρ2:=⟨_,rfl⟩
   rw [← hC2] at hrep
   rw [← zG0 (C:=D) (D:=C2) (by rw [hC2]; rfl) (by rw [hC2]; rfl)]
   have hP2:C2.P=Tryz.prog:=by rw [hC2]; exact hP
   have hk2:C2.kp=kp43:=by rw [hC2]; exact hk
   refine (?_:Run C2 _ 29 _ zL6) ρ2 _ w3 hrep
   clear hrep
   have hP:=hP2; have hk:=hk2
   have hctr:=zF8 hP
   (refine zA0 hctr (rs:=[.tmp 99999]) true 300 _ _ _ ?_; simp (maxSteps:=1000000) only [VT,qE,qH,qJ,q0t,qu,qv,ev,qy,qz,zC,zD,zE,zG,zI,zJ,zM,↓reduceIte,reduceCtorEq,Value.oneCell',Nat.reduceEqDiff,Nat.reduceAdd,zP,zQ,zt,hP,hk,kp43,rqS,zB5,Rq.zero,zL6])
   rw [hC2]
   have hmo:=get_more ho
   subst hmo
   exact hRD.ret hQ hr2 hU3 hu hcv (hR.trans ho) (by rfl) (by rfl)
 by_cases h4:name=[115,101,116]
 ·subst h4
  (refine zA0 hctr (rs:=[.tmp 99999]) true 300 _ _ _ ?_; simp (maxSteps:=1000000) only [VT,jf,jg,qH,qI,qK,qO,qP,qQ,qR,qS,qV,ev,qw,qy,qz,zD,zI,zJ,zM,↓reduceIte,reduceCtorEq,Nat.reduceEqDiff,Nat.reduceLT,Nat.reduceBEq,zP,zQ,zR,zV,zW,zu,zw,zx,hP,hk,kp43,noC,lb1,lb3,lb4,u8b,UInt8.reduceToNat])
  have hR:o=zB4 [115,101,116] ws behind:=hR.trans (by simp [zJ2])
  refine zF9 rfl rfl (fun args w=>by rw [hP]; exact Tryz.call64 args w) (fun ρ2 a2 w2 hr2 hwf=>?_)
  have hB:=hRD.blks hr2
  have hup:=hRD.upTo hr2
  have hLn:Ln w2 g [115,101,116] a ws.length c ws behind 0 false:=⟨hB.1,h.raw.upd hup,Nat.le_refl _,h.cap⟩
  have hargs:(List.map (SV.den ρ2) [.c (.p 0 0)]).toArray=#[.pointer (some ⟨g,0,none⟩)]:=by
   obtain ⟨q0,_⟩:=hRD.rho hr2
   simp [SV.den,SC.den,zE1,q0,zD7]
  rw [hP,hargs]
  refine (zY4 (by simp) hLn hn hl hb (hE0.upd hup)).mono ?_
  rintro e w3 ⟨hU3,hm⟩
  cases ho:zB4 [115,101,116] ws behind with
  | fault f =>
   rw [ho] at hm
   obtain ⟨rfl,hu⟩:=hm
   exact .inr ⟨_,rfl,hRD.fault hQ hr2 rfl rfl hU3 hu (hR.trans ho)⟩
  | got r more used =>
   rw [ho] at hm
   obtain ⟨v,rfl,⟨cv,rfl,hcv⟩,hu⟩:=hm
   obtain ⟨sa,sn,sc,rfl⟩:=zM5 hcv
   refine .inl ⟨_,rfl,?_⟩
   have hrep:=hRD.rep hr2 hU3 (d:=24) (by decide) (v:=.t [.g (rqS (.v (.slice sa sn sc)) r),.c (.b more)]) rfl (rq_wf2 _ _ _ _) (s:=[(2,.c (.p 1 0)),(3,.c (.p 2 0))]) (fun e x he=>by
    simp only [qy] at he
    split at he
    ·rename_i e'; subst e'; cases he; exact ⟨rfl,.inl rfl⟩
    ·split at he
     ·rename_i e'; subst e'; cases he; exact ⟨rfl,.inr rfl⟩
     ·cases he)
   obtain ⟨C2,hC2⟩:∃ C2,C2=cx2 D g1 g2 w3 ρ2:=⟨_,rfl⟩
   rw [← hC2] at hrep
   rw [← zG0 (C:=D) (D:=C2) (by rw [hC2]; rfl) (by rw [hC2]; rfl)]
   have hP2:C2.P=Tryz.prog:=by rw [hC2]; exact hP
   have hk2:C2.kp=kp43:=by rw [hC2]; exact hk
   refine (?_:Run C2 _ 29 _ zL6) ρ2 _ w3 hrep
   clear hrep
   have hP:=hP2; have hk:=hk2
   have hctr:=zF8 hP
   (refine zA0 hctr (rs:=[.tmp 99999]) true 300 _ _ _ ?_; simp (maxSteps:=1000000) only [VT,qE,qH,qI,qJ,qK,qh,q0t,qu,qv,ev,qy,zC,zD,zE,zG,zI,zJ,TE.sv,zM,↓reduceIte,reduceCtorEq,Value.oneCell',Nat.reduceEqDiff,Nat.reduceAdd,Nat.reduceLT,zP,zQ,zR,zt,hP,hk,kp43,rqS,zB5,Rq.zero,zL6])
   rw [hC2]
   skip
   exact hRD.ret hQ hr2 hU3 hu hcv (hR.trans ho) (by rfl) (by rfl)
 by_cases h5:name=[97,100,100]
 ·subst h5
  (refine zA0 hctr (rs:=[.tmp 99999]) true 300 _ _ _ ?_; simp (maxSteps:=1000000) only [VT,jf,jg,qH,qI,qK,qO,qP,qQ,qR,qS,qV,ev,qw,qy,qz,zD,zI,zJ,zM,↓reduceIte,reduceCtorEq,Nat.reduceEqDiff,Nat.reduceLT,Nat.reduceBEq,zP,zQ,zR,zV,zW,zu,zw,zx,hP,hk,kp43,noC,lb1,lb3,lb4,u8b,UInt8.reduceToNat])
  have hR:o=zB4 [97,100,100] ws behind:=hR.trans (by simp [zJ2])
  refine zF9 rfl rfl (fun args w=>by rw [hP]; exact Tryz.call64 args w) (fun ρ2 a2 w2 hr2 hwf=>?_)
  have hB:=hRD.blks hr2
  have hup:=hRD.upTo hr2
  have hLn:Ln w2 g [97,100,100] a ws.length c ws behind 0 false:=⟨hB.1,h.raw.upd hup,Nat.le_refl _,h.cap⟩
  have hargs:(List.map (SV.den ρ2) [.c (.p 0 0)]).toArray=#[.pointer (some ⟨g,0,none⟩)]:=by
   obtain ⟨q0,_⟩:=hRD.rho hr2
   simp [SV.den,SC.den,zE1,q0,zD7]
  rw [hP,hargs]
  refine (zY4 (by simp) hLn hn hl hb (hE0.upd hup)).mono ?_
  rintro e w3 ⟨hU3,hm⟩
  cases ho:zB4 [97,100,100] ws behind with
  | fault f =>
   rw [ho] at hm
   obtain ⟨rfl,hu⟩:=hm
   exact .inr ⟨_,rfl,hRD.fault hQ hr2 rfl rfl hU3 hu (hR.trans ho)⟩
  | got r more used =>
   rw [ho] at hm
   obtain ⟨v,rfl,⟨cv,rfl,hcv⟩,hu⟩:=hm
   obtain ⟨sa,sn,sc,rfl⟩:=zM5 hcv
   refine .inl ⟨_,rfl,?_⟩
   have hrep:=hRD.rep hr2 hU3 (d:=24) (by decide) (v:=.t [.g (rqS (.v (.slice sa sn sc)) r),.c (.b more)]) rfl (rq_wf2 _ _ _ _) (s:=[(2,.c (.p 1 0)),(3,.c (.p 2 0))]) (fun e x he=>by
    simp only [qy] at he
    split at he
    ·rename_i e'; subst e'; cases he; exact ⟨rfl,.inl rfl⟩
    ·split at he
     ·rename_i e'; subst e'; cases he; exact ⟨rfl,.inr rfl⟩
     ·cases he)
   obtain ⟨C2,hC2⟩:∃ C2,C2=cx2 D g1 g2 w3 ρ2:=⟨_,rfl⟩
   rw [← hC2] at hrep
   rw [← zG0 (C:=D) (D:=C2) (by rw [hC2]; rfl) (by rw [hC2]; rfl)]
   have hP2:C2.P=Tryz.prog:=by rw [hC2]; exact hP
   have hk2:C2.kp=kp43:=by rw [hC2]; exact hk
   refine (?_:Run C2 _ 29 _ zL6) ρ2 _ w3 hrep
   clear hrep
   have hP:=hP2; have hk:=hk2
   have hctr:=zF8 hP
   (refine zA0 hctr (rs:=[.tmp 99999]) true 300 _ _ _ ?_; simp (maxSteps:=1000000) only [VT,qE,qH,qI,qJ,qK,qh,q0t,qu,qv,ev,qy,zC,zD,zE,zG,zI,zJ,TE.sv,zM,↓reduceIte,reduceCtorEq,Value.oneCell',Nat.reduceEqDiff,Nat.reduceAdd,Nat.reduceLT,zP,zQ,zR,zt,hP,hk,kp43,rqS,zB5,Rq.zero,zL6])
   rw [hC2]
   skip
   exact hRD.ret hQ hr2 hU3 hu hcv (hR.trans ho) (by rfl) (by rfl)
 by_cases h6:name=[114,101,112,108,97,99,101]
 ·subst h6
  (refine zA0 hctr (rs:=[.tmp 99999]) true 300 _ _ _ ?_; simp (maxSteps:=1000000) only [VT,jf,jg,qH,qI,qK,qO,qP,qQ,qR,qS,qV,ev,qw,qy,qz,zD,zI,zJ,zM,↓reduceIte,reduceCtorEq,Nat.reduceEqDiff,Nat.reduceLT,Nat.reduceBEq,zP,zQ,zR,zV,zW,zu,zw,zx,hP,hk,kp43,noC,lb1,lb2,lb4,u8b,UInt8.reduceToNat])
  have hR:o=zB4 [114,101,112,108,97,99,101] ws behind:=hR.trans (by simp [zJ2])
  refine zF9 rfl rfl (fun args w=>by rw [hP]; exact Tryz.call64 args w) (fun ρ2 a2 w2 hr2 hwf=>?_)
  have hB:=hRD.blks hr2
  have hup:=hRD.upTo hr2
  have hLn:Ln w2 g [114,101,112,108,97,99,101] a ws.length c ws behind 0 false:=⟨hB.1,h.raw.upd hup,Nat.le_refl _,h.cap⟩
  have hargs:(List.map (SV.den ρ2) [.c (.p 0 0)]).toArray=#[.pointer (some ⟨g,0,none⟩)]:=by
   obtain ⟨q0,_⟩:=hRD.rho hr2
   simp [SV.den,SC.den,zE1,q0,zD7]
  rw [hP,hargs]
  refine (zY4 (by simp) hLn hn hl hb (hE0.upd hup)).mono ?_
  rintro e w3 ⟨hU3,hm⟩
  cases ho:zB4 [114,101,112,108,97,99,101] ws behind with
  | fault f =>
   rw [ho] at hm
   obtain ⟨rfl,hu⟩:=hm
   exact .inr ⟨_,rfl,hRD.fault hQ hr2 rfl rfl hU3 hu (hR.trans ho)⟩
  | got r more used =>
   rw [ho] at hm
   obtain ⟨v,rfl,⟨cv,rfl,hcv⟩,hu⟩:=hm
   obtain ⟨sa,sn,sc,rfl⟩:=zM5 hcv
   refine .inl ⟨_,rfl,?_⟩
   have hrep:=hRD.rep hr2 hU3 (d:=24) (by decide) (v:=.t [.g (rqS (.v (.slice sa sn sc)) r),.c (.b more)]) rfl (rq_wf2 _ _ _ _) (s:=[(2,.c (.p 1 0)),(3,.c (.p 2 0))]) (fun e x he=>by
    simp only [qy] at he
    split at he
    ·rename_i e'; subst e'; cases he; exact ⟨rfl,.inl rfl⟩
    ·split at he
     ·rename_i e'; subst e'; cases he; exact ⟨rfl,.inr rfl⟩
     ·cases he)
   obtain ⟨C2,hC2⟩:∃ C2,C2=cx2 D g1 g2 w3 ρ2:=⟨_,rfl⟩
   rw [← hC2] at hrep
   rw [← zG0 (C:=D) (D:=C2) (by rw [hC2]; rfl) (by rw [hC2]; rfl)]
   have hP2:C2.P=Tryz.prog:=by rw [hC2]; exact hP
   have hk2:C2.kp=kp43:=by rw [hC2]; exact hk
   refine (?_:Run C2 _ 29 _ zL6) ρ2 _ w3 hrep
   clear hrep
   have hP:=hP2; have hk:=hk2
   have hctr:=zF8 hP
   (refine zA0 hctr (rs:=[.tmp 99999]) true 300 _ _ _ ?_; simp (maxSteps:=1000000) only [VT,qE,qH,qI,qJ,qK,qh,q0t,qu,qv,ev,qy,zC,zD,zE,zG,zI,zJ,TE.sv,zM,↓reduceIte,reduceCtorEq,Value.oneCell',Nat.reduceEqDiff,Nat.reduceAdd,Nat.reduceLT,zP,zQ,zR,zt,hP,hk,kp43,rqS,zB5,Rq.zero,zL6])
   rw [hC2]
   skip
   exact hRD.ret hQ hr2 hU3 hu hcv (hR.trans ho) (by rfl) (by rfl)
 by_cases h7:name=[97,112,112,101,110,100]
 ·subst h7
  (refine zA0 hctr (rs:=[.tmp 99999]) true 300 _ _ _ ?_; simp (maxSteps:=1000000) only [VT,jf,jg,qH,qI,qK,qO,qP,qQ,qR,qS,qV,ev,qw,qy,qz,zD,zI,zJ,zM,↓reduceIte,reduceCtorEq,Nat.reduceEqDiff,Nat.reduceLT,Nat.reduceBEq,zP,zQ,zR,zV,zW,zu,zw,zx,hP,hk,kp43,noC,lb1,lb2,lb3,lb4,u8b,UInt8.reduceToNat])
  have hR:o=zB4 [97,112,112,101,110,100] ws behind:=hR.trans (by simp [zJ2])
  refine zF9 rfl rfl (fun args w=>by rw [hP]; exact Tryz.call64 args w) (fun ρ2 a2 w2 hr2 hwf=>?_)
  have hB:=hRD.blks hr2
  have hup:=hRD.upTo hr2
  have hLn:Ln w2 g [97,112,112,101,110,100] a ws.length c ws behind 0 false:=⟨hB.1,h.raw.upd hup,Nat.le_refl _,h.cap⟩
  have hargs:(List.map (SV.den ρ2) [.c (.p 0 0)]).toArray=#[.pointer (some ⟨g,0,none⟩)]:=by
   obtain ⟨q0,_⟩:=hRD.rho hr2
   simp [SV.den,SC.den,zE1,q0,zD7]
  rw [hP,hargs]
  refine (zY4 (by simp) hLn hn hl hb (hE0.upd hup)).mono ?_
  rintro e w3 ⟨hU3,hm⟩
  cases ho:zB4 [97,112,112,101,110,100] ws behind with
  | fault f =>
   rw [ho] at hm
   obtain ⟨rfl,hu⟩:=hm
   exact .inr ⟨_,rfl,hRD.fault hQ hr2 rfl rfl hU3 hu (hR.trans ho)⟩
  | got r more used =>
   rw [ho] at hm
   obtain ⟨v,rfl,⟨cv,rfl,hcv⟩,hu⟩:=hm
   obtain ⟨sa,sn,sc,rfl⟩:=zM5 hcv
   refine .inl ⟨_,rfl,?_⟩
   have hrep:=hRD.rep hr2 hU3 (d:=24) (by decide) (v:=.t [.g (rqS (.v (.slice sa sn sc)) r),.c (.b more)]) rfl (rq_wf2 _ _ _ _) (s:=[(2,.c (.p 1 0)),(3,.c (.p 2 0))]) (fun e x he=>by
    simp only [qy] at he
    split at he
    ·rename_i e'; subst e'; cases he; exact ⟨rfl,.inl rfl⟩
    ·split at he
     ·rename_i e'; subst e'; cases he; exact ⟨rfl,.inr rfl⟩
     ·cases he)
   obtain ⟨C2,hC2⟩:∃ C2,C2=cx2 D g1 g2 w3 ρ2:=⟨_,rfl⟩
   rw [← hC2] at hrep
   rw [← zG0 (C:=D) (D:=C2) (by rw [hC2]; rfl) (by rw [hC2]; rfl)]
   have hP2:C2.P=Tryz.prog:=by rw [hC2]; exact hP
   have hk2:C2.kp=kp43:=by rw [hC2]; exact hk
   refine (?_:Run C2 _ 29 _ zL6) ρ2 _ w3 hrep
   clear hrep
   have hP:=hP2; have hk:=hk2
   have hctr:=zF8 hP
   (refine zA0 hctr (rs:=[.tmp 99999]) true 300 _ _ _ ?_; simp (maxSteps:=1000000) only [VT,qE,qH,qI,qJ,qK,qh,q0t,qu,qv,ev,qy,zC,zD,zE,zG,zI,zJ,TE.sv,zM,↓reduceIte,reduceCtorEq,Value.oneCell',Nat.reduceEqDiff,Nat.reduceAdd,Nat.reduceLT,zP,zQ,zR,zt,hP,hk,kp43,rqS,zB5,Rq.zero,zL6])
   rw [hC2]
   skip
   exact hRD.ret hQ hr2 hU3 hu hcv (hR.trans ho) (by rfl) (by rfl)
 by_cases h8:name=[112,114,101,112,101,110,100]
 ·subst h8
  (refine zA0 hctr (rs:=[.tmp 99999]) true 300 _ _ _ ?_; simp (maxSteps:=1000000) only [VT,jf,jg,qH,qI,qK,qO,qP,qQ,qR,qS,qV,ev,qw,qy,qz,zD,zI,zJ,zM,↓reduceIte,reduceCtorEq,Nat.reduceEqDiff,Nat.reduceLT,Nat.reduceBEq,zP,zQ,zR,zV,zW,zu,zw,zx,hP,hk,kp43,noC,lb1,lb2,lb4,u8b,UInt8.reduceToNat])
  have hR:o=zB4 [112,114,101,112,101,110,100] ws behind:=hR.trans (by simp [zJ2])
  refine zF9 rfl rfl (fun args w=>by rw [hP]; exact Tryz.call64 args w) (fun ρ2 a2 w2 hr2 hwf=>?_)
  have hB:=hRD.blks hr2
  have hup:=hRD.upTo hr2
  have hLn:Ln w2 g [112,114,101,112,101,110,100] a ws.length c ws behind 0 false:=⟨hB.1,h.raw.upd hup,Nat.le_refl _,h.cap⟩
  have hargs:(List.map (SV.den ρ2) [.c (.p 0 0)]).toArray=#[.pointer (some ⟨g,0,none⟩)]:=by
   obtain ⟨q0,_⟩:=hRD.rho hr2
   simp [SV.den,SC.den,zE1,q0,zD7]
  rw [hP,hargs]
  refine (zY4 (by simp) hLn hn hl hb (hE0.upd hup)).mono ?_
  rintro e w3 ⟨hU3,hm⟩
  cases ho:zB4 [112,114,101,112,101,110,100] ws behind with
  | fault f =>
   rw [ho] at hm
   obtain ⟨rfl,hu⟩:=hm
   exact .inr ⟨_,rfl,hRD.fault hQ hr2 rfl rfl hU3 hu (hR.trans ho)⟩
  | got r more used =>
   rw [ho] at hm
   obtain ⟨v,rfl,⟨cv,rfl,hcv⟩,hu⟩:=hm
   obtain ⟨sa,sn,sc,rfl⟩:=zM5 hcv
   refine .inl ⟨_,rfl,?_⟩
   have hrep:=hRD.rep hr2 hU3 (d:=24) (by decide) (v:=.t [.g (rqS (.v (.slice sa sn sc)) r),.c (.b more)]) rfl (rq_wf2 _ _ _ _) (s:=[(2,.c (.p 1 0)),(3,.c (.p 2 0))]) (fun e x he=>by
    simp only [qy] at he
    split at he
    ·rename_i e'; subst e'; cases he; exact ⟨rfl,.inl rfl⟩
    ·split at he
     ·rename_i e'; subst e'; cases he; exact ⟨rfl,.inr rfl⟩
     ·cases he)
   obtain ⟨C2,hC2⟩:∃ C2,C2=cx2 D g1 g2 w3 ρ2:=⟨_,rfl⟩
   rw [← hC2] at hrep
   rw [← zG0 (C:=D) (D:=C2) (by rw [hC2]; rfl) (by rw [hC2]; rfl)]
   have hP2:C2.P=Tryz.prog:=by rw [hC2]; exact hP
   have hk2:C2.kp=kp43:=by rw [hC2]; exact hk
   refine (?_:Run C2 _ 29 _ zL6) ρ2 _ w3 hrep
   clear hrep
   have hP:=hP2; have hk:=hk2
   have hctr:=zF8 hP
   (refine zA0 hctr (rs:=[.tmp 99999]) true 300 _ _ _ ?_; simp (maxSteps:=1000000) only [VT,qE,qH,qI,qJ,qK,qh,q0t,qu,qv,ev,qy,zC,zD,zE,zG,zI,zJ,TE.sv,zM,↓reduceIte,reduceCtorEq,Value.oneCell',Nat.reduceEqDiff,Nat.reduceAdd,Nat.reduceLT,zP,zQ,zR,zt,hP,hk,kp43,rqS,zB5,Rq.zero,zL6])
   rw [hC2]
   skip
   exact hRD.ret hQ hr2 hU3 hu hcv (hR.trans ho) (by rfl) (by rfl)
 by_cases h9:name=[99,97,115]
 ·subst h9
  (refine zA0 hctr (rs:=[.tmp 99999]) true 300 _ _ _ ?_; simp (maxSteps:=1000000) only [VT,jf,jg,qH,qI,qK,qO,qP,qQ,qR,qS,qV,ev,qw,qy,qz,zD,zI,zJ,zM,↓reduceIte,reduceCtorEq,Nat.reduceEqDiff,Nat.reduceLT,Nat.reduceBEq,zP,zQ,zR,zV,zW,zu,zw,zx,hP,hk,kp43,noC,lb1,lb3,lb4,u8b,UInt8.reduceToNat])
  have hR:o=zB4 [99,97,115] ws behind:=hR.trans (by simp [zJ2])
  refine zF9 rfl rfl (fun args w=>by rw [hP]; exact Tryz.call64 args w) (fun ρ2 a2 w2 hr2 hwf=>?_)
  have hB:=hRD.blks hr2
  have hup:=hRD.upTo hr2
  have hLn:Ln w2 g [99,97,115] a ws.length c ws behind 0 false:=⟨hB.1,h.raw.upd hup,Nat.le_refl _,h.cap⟩
  have hargs:(List.map (SV.den ρ2) [.c (.p 0 0)]).toArray=#[.pointer (some ⟨g,0,none⟩)]:=by
   obtain ⟨q0,_⟩:=hRD.rho hr2
   simp [SV.den,SC.den,zE1,q0,zD7]
  rw [hP,hargs]
  refine (zY4 (by simp) hLn hn hl hb (hE0.upd hup)).mono ?_
  rintro e w3 ⟨hU3,hm⟩
  cases ho:zB4 [99,97,115] ws behind with
  | fault f =>
   rw [ho] at hm
   obtain ⟨rfl,hu⟩:=hm
   exact .inr ⟨_,rfl,hRD.fault hQ hr2 rfl rfl hU3 hu (hR.trans ho)⟩
  | got r more used =>
   rw [ho] at hm
   obtain ⟨v,rfl,⟨cv,rfl,hcv⟩,hu⟩:=hm
   obtain ⟨sa,sn,sc,rfl⟩:=zM5 hcv
   refine .inl ⟨_,rfl,?_⟩
   have hrep:=hRD.rep hr2 hU3 (d:=24) (by decide) (v:=.t [.g (rqS (.v (.slice sa sn sc)) r),.c (.b more)]) rfl (rq_wf2 _ _ _ _) (s:=[(2,.c (.p 1 0)),(3,.c (.p 2 0))]) (fun e x he=>by
    simp only [qy] at he
    split at he
    ·rename_i e'; subst e'; cases he; exact ⟨rfl,.inl rfl⟩
    ·split at he
     ·rename_i e'; subst e'; cases he; exact ⟨rfl,.inr rfl⟩
     ·cases he)
   obtain ⟨C2,hC2⟩:∃ C2,C2=cx2 D g1 g2 w3 ρ2:=⟨_,rfl⟩
   rw [← hC2] at hrep
   rw [← zG0 (C:=D) (D:=C2) (by rw [hC2]; rfl) (by rw [hC2]; rfl)]
   have hP2:C2.P=Tryz.prog:=by rw [hC2]; exact hP
   have hk2:C2.kp=kp43:=by rw [hC2]; exact hk
   refine (?_:Run C2 _ 29 _ zL6) ρ2 _ w3 hrep
   clear hrep
   have hP:=hP2; have hk:=hk2
   have hctr:=zF8 hP
   (refine zA0 hctr (rs:=[.tmp 99999]) true 300 _ _ _ ?_; simp (maxSteps:=1000000) only [VT,qE,qH,qI,qJ,qK,qh,q0t,qu,qv,ev,qy,zC,zD,zE,zG,zI,zJ,TE.sv,zM,↓reduceIte,reduceCtorEq,Value.oneCell',Nat.reduceEqDiff,Nat.reduceAdd,Nat.reduceLT,zP,zQ,zR,zt,hP,hk,kp43,rqS,zB5,Rq.zero,zL6])
   rw [hC2]
   skip
   exact hRD.ret hQ hr2 hU3 hu hcv (hR.trans ho) (by rfl) (by rfl)
 have b0:(name == [103,101,116])=false:=by simpa using h0
 have b1:(name == [103,101,116,115])=false:=by simpa using h1
 have b2:(name == [103,97,116])=false:=by simpa using h2
 have b3:(name == [103,97,116,115])=false:=by simpa using h3
 have b4:(name == [115,101,116])=false:=by simpa using h4
 have b5:(name == [97,100,100])=false:=by simpa using h5
 have b6:(name == [114,101,112,108,97,99,101])=false:=by simpa using h6
 have b7:(name == [97,112,112,101,110,100])=false:=by simpa using h7
 have b8:(name == [112,114,101,112,101,110,100])=false:=by simpa using h8
 have b9:(name == [99,97,115])=false:=by simpa using h9
 (refine zA0 hctr (rs:=[.tmp 99999]) true 300 _ _ _ ?_; simp (maxSteps:=1000000) only [VT,jg,qH,qI,qK,qO,qP,qQ,qR,qS,qV,ev,qw,qy,qz,zD,zI,zJ,zM,↓reduceIte,reduceCtorEq,Nat.reduceEqDiff,Nat.reduceLT,zP,zQ,zR,zW,zu,hP,hk,kp43,noC,b0,b1,b2,b3,b4,b5,b6,b7,b8,b9])
 have hR:o=zA7 name ws:=hR.trans (by simp [zJ2,h0,h1,h2,h3,h4,h5,h6,h7,h8,h9])
 refine zF9 rfl rfl (fun args w=>by rw [hP]; exact Tryz.call65 args w) (fun ρ2 a2 w2 hr2 hwf=>?_)
 have hB:=hRD.blks hr2
 have hup:=hRD.upTo hr2
 have hLn:Ln w2 g name a ws.length c ws behind 0 false:=⟨hB.1,h.raw.upd hup,Nat.le_refl _,h.cap⟩
 have hargs:(List.map (SV.den ρ2) [.c (.p 0 0)]).toArray=#[.pointer (some ⟨g,0,none⟩)]:=by
  obtain ⟨q0,_⟩:=hRD.rho hr2
  simp [SV.den,SC.den,zE1,q0,zD7]
 rw [hP,hargs]
 refine (plain_w hLn hn hl (hE0.upd hup)).mono ?_
 rintro e w3 ⟨hU3,hm⟩
 cases ho:zA7 name ws with
 | fault f =>
  rw [ho] at hm
  obtain ⟨rfl,hu⟩:=hm
  exact .inr ⟨_,rfl,hRD.fault hQ hr2 rfl rfl hU3 hu (hR.trans ho)⟩
 | got r more used =>
  rw [ho] at hm
  obtain ⟨v,rfl,⟨cv,rfl,hcv⟩,hu⟩:=hm
  obtain ⟨sa,sn,sc,rfl⟩:=zM5 hcv
  refine .inl ⟨_,rfl,?_⟩
  have hrep:=hRD.rep hr2 hU3 (d:=28) (by decide) (v:=.g (rqS (.v (.slice sa sn sc)) r)) rfl (rq_wf _ _ _) (s:=[(2,.c (.p 1 0)),(3,.c (.p 2 0))]) (fun e x he=>by
   simp only [qy] at he
   split at he
   ·rename_i e'; subst e'; cases he; exact ⟨rfl,.inl rfl⟩
   ·split at he
    ·rename_i e'; subst e'; cases he; exact ⟨rfl,.inr rfl⟩
    ·cases he)
  obtain ⟨C2,hC2⟩:∃ C2,C2=cx2 D g1 g2 w3 ρ2:=⟨_,rfl⟩
  rw [← hC2] at hrep
  rw [← zG0 (C:=D) (D:=C2) (by rw [hC2]; rfl) (by rw [hC2]; rfl)]
  have hP2:C2.P=Tryz.prog:=by rw [hC2]; exact hP
  have hk2:C2.kp=kp43:=by rw [hC2]; exact hk
  refine (?_:Run C2 _ 29 _ zL6) ρ2 _ w3 hrep
  clear hrep
  have hP:=hP2; have hk:=hk2
  have hctr:=zF8 hP
  (refine zA0 hctr (rs:=[.tmp 99999]) true 300 _ _ _ ?_; simp (maxSteps:=1000000) only [VT,qE,qH,qJ,q0t,qu,qv,ev,qy,qz,zC,zD,zE,zG,zI,zJ,zM,↓reduceIte,reduceCtorEq,Value.oneCell',Nat.reduceEqDiff,Nat.reduceAdd,zP,zQ,zt,hP,hk,kp43,rqS,zB5,Rq.zero,zL6])
  rw [hC2]
  have hmo:=plain_more ho
  subst hmo
  exact hRD.ret hQ hr2 hU3 hu hcv (hR.trans ho) (by rfl) (by rfl)
end Go.Proofs.YtcbmlanpianclaaGreatDoor
