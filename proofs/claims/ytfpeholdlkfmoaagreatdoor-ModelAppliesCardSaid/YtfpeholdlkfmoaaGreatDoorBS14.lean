/- The document's math, walked. Printed by gen_refw8.py. -/
import Derived.Test.YtfpeholdlkfmoaaGreatDoorBS13
import Derived.Test.YtfpeholdlkfmoaaGreatDoorBS09
import Derived.Test.YtfpeholdlkfmoaaGreatDoorBS12
import Derived.Test.YtfpeholdlkfmoaaGreatDoorBS11
import Derived.Test.YtfpeholdlkfmoaaGreatDoorBS10
import Derived.Test.YtfpeholdlkfmoaaGreatDoorBS04
import Derived.Test.YtfpeholdlkfmoaaGreatDoorBS05
namespace Go.Proofs.YtfpeholdlkfmoaaGreatDoor
set_option linter.unusedSimpArgs false
set_option linter.unusedVariables false
set_option maxHeartbeats 8000000
open Go.RowKit
set_option maxRecDepth 100000
def rmC:Ctr:=fun f en xs=>match f with
 | 46=>zC5 xs
 | 48=>zG5 xs
 | 47=>zJ5 xs
 | 49=>zF7 xs
 | _=>rgC f en xs
theorem rmC_ok {C:Cx} (hP:C.P=Tryz.prog):zE8 C rmC:=by
 intro f en xs p v h hp ρ w' hup hHp hHo hinj hwf
 unfold rmC at h
 split at h
 ·rw [hP]
  refine ⟨fun args w=>Tryz.call46 args w,?_⟩
  unfold zC5 at h
  split at h <;> simp only [Option.some.injEq,Prod.mk.injEq,reduceCtorEq] at h
  obtain ⟨rfl,rfl⟩:=h
  exact ⟨trivial,rtextI _ hp.1 hp.2 w'⟩
 ·rw [hP]
  refine ⟨fun args w=>Tryz.call48 args w,?_⟩
  unfold zG5 at h
  split at h <;> simp only [Option.some.injEq,Prod.mk.injEq,reduceCtorEq] at h
  rename_i l d
  obtain ⟨rfl,rfl⟩:=h
  refine ⟨by intro x hx; simp at hx; rcases hx with rfl | rfl <;> trivial,?_⟩
  refine (radd l hp.1 d hp.2.1 hp.2.2 w').mono ?_
  rintro e w'' ⟨rfl,hb⟩
  refine ⟨?_,hb⟩
  unfold addR addV
  cases zC1 l <;> rfl
 ·rw [hP]
  refine ⟨fun args w=>Tryz.call47 args w,?_⟩
  unfold zJ5 at h
  split at h <;> simp only [Option.some.injEq,Prod.mk.injEq,reduceCtorEq] at h
  rename_i l d
  obtain ⟨rfl,rfl⟩:=h
  refine ⟨by intro x hx; simp at hx; rcases hx with rfl | rfl <;> trivial,?_⟩
  refine (rsub l hp.1 d hp.2.1 hp.2.2 w').mono ?_
  rintro e w'' ⟨rfl,hb⟩
  refine ⟨?_,hb⟩
  unfold subR subV
  cases zC1 l <;> rfl
 ·rw [hP]
  refine ⟨fun args w=>Tryz.call49 args w,?_⟩
  unfold zF7 at h
  split at h <;> simp only [Option.some.injEq,Prod.mk.injEq,reduceCtorEq] at h
  obtain ⟨rfl,rfl⟩:=h
  refine ⟨by simp [SV.wf,TE.wf,SC.wf],(rparse _ hp w').mono ?_⟩
  rintro e w'' ⟨rfl,rfl⟩
  exact ⟨rfl,Below.refl _ _⟩
 ·exact rgC_ok hP f en xs p v h hp ρ w' hup hHp hHo hinj hwf
theorem rmath_w {w:World} {a:Option Addr} {n c:Nat} {X:St} (hX:StR w a n c X) (now:Int) (hn1:1≤now) (hn2:now≤1099511627776) (cd:Cd) (x:It) (is:Bool) (most:Int) (hk1:x.key.length≤1000000000) (hv1:x.val.length≤1000000000) (hk2:cd.key.length≤1000000000) (hd0:0≤cd.delta) (hd1:cd.delta < 18446744073709551616) (hi0:0≤cd.init) (hi1:cd.init < 18446744073709551616) :
  Calls Tryz.prog 25 #[.agg #[.slice a n c,.int .u64 X.cas,.int .i64 X.flush],.int .i64 now,.agg (cdA cd),.agg (itA x),.bool is,.int .i64 most] w (OpP w a n c X (!decide ((zI5 X now cd x is most).2.st=6)) (zI5 X now cd x is most)):=by
 refine zA9 Tryz.func25 rfl kp25 (S:=Non) (ρ:=fun _=>⟨0,[],[],0,none⟩) (en:=[]) [.g [.v (.slice a n c),.i .u64 X.cas,.i .i64 X.flush],.c (.i .i64 now),.g (cdS cd),.g (itS x),.c (.b is),.c (.i .i64 most)] Tryz.ntmps25 (At.nil _ _ _) (by intro y hy; simp only [List.mem_cons,List.not_mem_nil,or_false] at hy; rcases hy with rfl | rfl | rfl | rfl | rfl | rfl; exact zD6 trivial; trivial; exact zW6 _ _; exact zI2 _ _; trivial; trivial) (by simp) ?_
 intro C hC hP hk
 have hS:C.S=Non:=by rw [hC]; rfl
 have hw:C.w0=w:=by rw [hC]; rfl
 have hn0:C.n0=0:=by rw [hC]; rfl
 have hctr:zE8 C rmC:=rmC_ok hP
 have hnow:=And.intro hn1 hn2
 have fin:∀ (Y':St × An) (en:List EN),zI5 X now cd x is most=Y'→((!decide ((zI5 X now cd x is most).2.st=6)))=true→Y'.1=X→Fin C res25 (.t [.g [.v (.slice a n c),.i .u64 X.cas,.i .i64 X.flush],.g (anS Y'.2)]) en:=fun Y' en h1 h2 h3=>by
  refine zH5 (v:=.t [.g [.v (.slice a n c),.i .u64 X.cas,.i .i64 X.flush],.g (anS Y'.2)]) hC hres25 fun ρ w' hw' _ _=>?_
  have hup:=hw'.up
  rw [hC] at hup
  rw [h1]
  refine ⟨hup.to_below,_,?_,.inl ⟨by first | exact h2 | (rw [h1] at h2; exact h2),rfl,by rw [h3]⟩⟩
  rw [h3]; rfl
 have finN:∀ (Y':St × An) (N:Nat) (en:List EN),zI5 X now cd x is most=Y'→((!decide ((zI5 X now cd x is most).2.st=6)))=false→zD en N=some (rwI Y'.1.items)→Fin C res25 (.t [.g [.rw N Y'.1.items.length,.i .u64 Y'.1.cas,.i .i64 Y'.1.flush],.g (anS Y'.2)]) en:=fun Y' N en h1 h2 h3=>by
  refine zH5 (v:=.t [.g [.rw N Y'.1.items.length,.i .u64 Y'.1.cas,.i .i64 Y'.1.flush],.g (anS Y'.2)]) hC hres25 fun ρ w' hw' _ _=>?_
  have hup:=hw'.up
  rw [hC] at hup
  rw [h1]
  have k1:=RowOk.of (N:=N) (n:=Y'.1.items.length) (z:=8) (e:=33) (cells:=zB2 itS Y'.1.items) hw' hS h3 (by decide)
  rw [hw,zD3] at k1
  exact ⟨hup.to_below,_,rfl,.inr ⟨by first | exact h2 | (rw [h1] at h2; exact h2),ρ N,k1,rfl⟩⟩
 have hlx:x.val.length≤9223372036854775807:=by omega
 (refine zA4 hctr (rs:=res25) true 16 _ _ _ ?_; simp (maxSteps:=1000000) only [VT,qH,qI,qK,qO,qP,qV,q0t,qu,qv,ev,qw,qy,zD,zF,zG,zI,zJ,zK,zM,↓reduceIte,reduceCtorEq,Value.oneCell',Nat.reduceEqDiff,Nat.reduceAdd,Nat.reduceLT,zP,zQ,zR,zT,zt,hP,hk,kp25,rmC,zC5,cdS,itS,hi0,hi1,Nat.reduceAdd])
 refine zN0 (κ:={ y:List UInt8 × It // zI5 X now cd x is most=rFit X most 6 (((zC1 y.1).getD 0:Nat):Int) { y.2 with val:=y.1 }∧y.1.length≤20∧y.2.key.length≤1000000000 }) (fun y=>[(14,.c (.s y.1.1)),(13,.c (.p 4 0)),(12,.c (.p 3 0)),(9,.c (.p 2 0)),(8,.c (.p 1 0)),(6,.c (.p 0 0)),(5,.c (.i .i64 most)),(4,.c (.b is)),(1,.c (.i .i64 now))]) (fun y=>[⟨(25,0,whole),[.v (.slice a n c),.i .u64 X.cas,.i .i64 X.flush],true⟩,⟨(28,0,whole),cdS cd,true⟩,⟨(33,0,whole),itS y.1.2,true⟩,⟨(25,0,whole),[.v (.slice none 0 0),.i .u64 0,.i .i64 0],true⟩,⟨(35,0,whole),[.i .i64 0,.s [],.i .u32 0,.s [],.i .i64 0,.i .u64 0,.i .i64 0,.b false,.b false,.i .u64 0,.b false,.b false,.b false],true⟩]) (fun y=>?_) fun use=>?_
 rotate_left
 ·cases his:is with
  | false =>
   cases hv:cd.viv with
   | false =>
    (refine zA4 hctr (rs:=res25) true 300 _ _ _ ?_; simp (maxSteps:=1000000) only [VT,jf,jZ,qE,qF,qG,qH,qI,qJ,qK,qO,qP,qT,qV,qf,qg,qp,q0t,qu,qv,ev,qy,qz,zA,zB,zC,zD,zE,zG,zI,zJ,zM,↓reduceIte,reduceCtorEq,Value.oneCell',Nat.reduceEqDiff,Nat.reduceAdd,Nat.reduceLT,zP,zQ,zR,zV,zW,zt,hP,hk,res25,kp25,Nat.reduceAdd])
    have hY:zI5 X now cd x is most=(X,zA6 5):=by simp [zI5,his,hv]
    exact fin (X,zA6 5) _ hY (by rw [hY]; rfl) rfl
   | true =>
    (refine zA4 hctr (rs:=res25) true 300 _ _ _ ?_; simp (maxSteps:=1000000) only [VT,jf,jg,jZ,qH,qI,qK,qO,qP,qT,qV,qp,ev,qy,qz,zD,zI,zJ,zM,↓reduceIte,reduceCtorEq,Nat.reduceEqDiff,Nat.reduceLT,zP,zQ,zR,zV,zW,zt,hP,hk,res25,kp25])
    (refine zA2 hctr (by rw [hP]; rfl) rs25_13 [] (ensure_type_of% (Cmp.of (by simp (maxSteps := 1000000) only [qK, qO, qP, qV, qf, qg, q0t, qu, qv, ev, qw, qy, zC, zD, zE, zF, zG, zM, ↓reduceIte, reduceCtorEq, Nat.reduceEqDiff, Nat.reduceAdd, zP, zT, zt, cD, cO, jC, jD, jH, jN, hP, rmC, rgC, zG3, hnow, Nat.reduceAdd]; rfl)) "" Cmp.mk) (by kernel_rfl) (by kernel_rfl) (by first | exact zA1 _ | kernel_rfl) (by kernel_rfl) (by rfl) (by rfl) (by first | exact zA0 _ | rfl) (by rfl) (by simp (maxSteps := 1000000) only [qK, qO, qP, qV, qf, qg, q0t, qu, qv, ev, qw, qy, zC, zD, zE, zG, zM, ↓reduceIte, reduceCtorEq, Nat.reduceEqDiff, Nat.reduceAdd, zP, zS, zT, zn, zt, jD, jH, jI, jN, jP, jQ, jR, jS, jT, jV, jW, jX, jY, hP, rmC, rgC, zG3, hnow, Nat.reduceAdd]) ?_; refine zA4 hctr (rs := res25) true 1 _ _ _ ?_; simp (maxSteps := 1000000) only [VT, zG, zI, zJ, ↓reduceIte, reduceCtorEq, Nat.reduceEqDiff, Nat.reduceAdd, zP, zQ, zt, jN, jO, hk, kp25, Nat.reduceAdd])
    have h7:=fun s h=>use ⟨(Lib.decDigits cd.init.toNat,⟨cd.key,0,[],zJ1 now cd.vive,0,0,false,false⟩),by simp [zI5,his,hv],(decI_len hi0 hi1).2,hk2⟩ s h
    simp only [cdS,itS,his,hv] at h7
    exact h7 _ (zC6 ⟨rfl,rfl,rfl,rfl,rfl,rfl,rfl,rfl,rfl,trivial⟩)
  | true =>
   by_cases hcx:cd.hasCas=true∧x.cas ≠ cd.cas
   ·have e0:=hcx.1
    have e1:(x.cas != cd.cas)=true:=by simpa using hcx.2
    (refine zA4 hctr (rs:=res25) true 300 _ _ _ ?_; simp (maxSteps:=1000000) only [VT,jf,jg,jZ,jd,qE,qF,qG,qH,qI,qJ,qK,qO,qP,qR,qS,qT,qV,qf,qg,qp,q0t,qu,qv,ev,qy,qz,zA,zB,zC,zD,zE,zG,zI,zJ,zM,↓reduceIte,reduceCtorEq,Value.oneCell',Nat.reduceEqDiff,Nat.reduceAdd,Nat.reduceLT,zP,zQ,zR,zV,zW,zt,hP,hk,res25,kp25,Nat.reduceAdd,e0,e1])
    have hY:zI5 X now cd x is most=(X,zA6 4):=by simp [zI5,his,e0,hcx.2]
    exact fin (X,zA6 4) _ hY (by rw [hY]; rfl) rfl
   have hcb:(cd.hasCas && !(x.cas == cd.cas))=false:=by
    cases hq:cd.hasCas with
    | false=>rfl
    | true=>have:x.cas=cd.cas:=Decidable.byContradiction fun h=>hcx ⟨hq,h⟩
            simp [this]
   have hM:zI5 X now cd x is most=match (if cd.down then subV x.val cd.delta else addV x.val cd.delta) with
     | none=>(X,zA6 7)
     | some v=>rFit X most 6 (((zC1 v).getD 0:Nat):Int) { x with val:=v,exp:=if cd.hasExp then zJ1 now cd.exp else x.exp }:=by
    unfold zI5
    rw [if_neg (by simp [his]),if_neg (by simp [his]),if_neg (by rw [hcb]; simp)]
    rfl
   have hct:(cd.hasCas=false)∨(cd.hasCas=true∧(x.cas != cd.cas)=false):=by
    cases hq:cd.hasCas with
    | false=>exact .inl rfl
    | true=>exact .inr ⟨rfl,by have:x.cas=cd.cas:=Decidable.byContradiction fun h=>hcx ⟨hq,h⟩
                               simp [this]⟩
   rcases hct with e0 | ⟨e0,e1⟩
   ·cases hdn:cd.down with
    | false =>
     cases hr:addV x.val cd.delta with
     | none =>
      (refine zA4 hctr (rs:=res25) true 300 _ _ _ ?_; simp (maxSteps:=1000000) only [VT,jf,jg,jd,qE,qF,qG,qH,qI,qJ,qK,qO,qP,qT,qV,qf,qg,qh,qp,q0t,qu,qv,ev,qw,qy,qz,zA,zB,zC,zD,zE,zG,zI,zJ,TE.sv,zM,↓reduceIte,reduceCtorEq,Value.oneCell',Nat.reduceEqDiff,Nat.reduceAdd,Nat.reduceLT,zP,zQ,zR,zT,zV,zW,zt,hP,hk,res25,kp25,rmC,zG5,hd0,hd1,Nat.reduceAdd,e0,hr,hlx,Option.getD_none,Option.isSome_none])
      have hY:zI5 X now cd x is most=(X,zA6 7):=by rw [hM]; simp [hdn,hr]
      exact fin (X,zA6 7) _ hY (by rw [hY]; rfl) rfl
     | some v =>
      have hvl:v.length≤20:=zT5 hr
      cases hh:cd.hasExp with
      | false =>
       (refine zA4 hctr (rs:=res25) true 73 _ _ _ ?_; simp (maxSteps:=1000000) only [VT,jg,jd,qH,qI,qK,qO,qP,qT,qV,qh,qp,ev,qw,qy,qz,zD,zI,zJ,TE.sv,zM,↓reduceIte,reduceCtorEq,Nat.reduceEqDiff,Nat.reduceLT,zP,zQ,zR,zT,zV,zW,zt,hP,hk,res25,kp25,rmC,zG5,hd0,hd1,e0,hr,hlx,Option.getD_some,Option.isSome_some])
       have h7:=fun s h=>use ⟨(v,x),by rw [hM]; simp [hdn,hr,hh],hvl,hk1⟩ s h
       simp only [cdS,itS,his,e0,hdn,hh] at h7
       exact h7 _ (zC6 ⟨rfl,rfl,rfl,rfl,rfl,rfl,rfl,rfl,rfl,trivial⟩)
      | true =>
       (refine zA4 hctr (rs:=res25) true 80 _ _ _ ?_; simp (maxSteps:=1000000) only [VT,jf,jg,jd,qH,qI,qJ,qK,qO,qP,qT,qV,qh,qp,q0t,qv,ev,qw,qy,qz,zC,zD,zE,zG,zI,zJ,TE.sv,zM,↓reduceIte,reduceCtorEq,Nat.reduceEqDiff,Nat.reduceLT,zP,zQ,zR,zT,zV,zW,zt,hP,hk,res25,kp25,rmC,rgC,zG3,zG5,hnow,hd0,hd1,e0,hr,hlx,Option.getD_some,Option.isSome_some])
       have h7:=fun s h=>use ⟨(v,{ x with exp:=zJ1 now cd.exp }),by rw [hM]; simp [hdn,hr,hh],hvl,hk1⟩ s h
       simp only [cdS,itS,his,e0,hdn,hh] at h7
       exact h7 _ (zC6 ⟨rfl,rfl,rfl,rfl,rfl,rfl,rfl,rfl,rfl,trivial⟩)
    | true =>
     cases hr:subV x.val cd.delta with
     | none =>
      (refine zA4 hctr (rs:=res25) true 300 _ _ _ ?_; simp (maxSteps:=1000000) only [VT,jf,jg,jd,qE,qF,qG,qH,qI,qJ,qK,qO,qP,qT,qV,qf,qg,qh,qp,q0t,qu,qv,ev,qw,qy,qz,zA,zB,zC,zD,zE,zG,zI,zJ,TE.sv,zM,↓reduceIte,reduceCtorEq,Value.oneCell',Nat.reduceEqDiff,Nat.reduceAdd,Nat.reduceLT,zP,zQ,zR,zT,zV,zW,zt,hP,hk,res25,kp25,rmC,zJ5,hd0,hd1,Nat.reduceAdd,e0,hr,hlx,Option.getD_none,Option.isSome_none])
      have hY:zI5 X now cd x is most=(X,zA6 7):=by rw [hM]; simp [hdn,hr]
      exact fin (X,zA6 7) _ hY (by rw [hY]; rfl) rfl
     | some v =>
      have hvl:v.length≤20:=zT0 hd0 hr
      cases hh:cd.hasExp with
      | false =>
       (refine zA4 hctr (rs:=res25) true 73 _ _ _ ?_; simp (maxSteps:=1000000) only [VT,jf,jg,jd,qH,qI,qK,qO,qP,qT,qV,qh,qp,ev,qw,qy,qz,zD,zI,zJ,TE.sv,zM,↓reduceIte,reduceCtorEq,Nat.reduceEqDiff,Nat.reduceLT,zP,zQ,zR,zT,zV,zW,zt,hP,hk,res25,kp25,rmC,zJ5,hd0,hd1,e0,hr,hlx,Option.getD_some,Option.isSome_some])
       have h7:=fun s h=>use ⟨(v,x),by rw [hM]; simp [hdn,hr,hh],hvl,hk1⟩ s h
       simp only [cdS,itS,his,e0,hdn,hh] at h7
       exact h7 _ (zC6 ⟨rfl,rfl,rfl,rfl,rfl,rfl,rfl,rfl,rfl,trivial⟩)
      | true =>
       (refine zA4 hctr (rs:=res25) true 80 _ _ _ ?_; simp (maxSteps:=1000000) only [VT,jf,jg,jd,qH,qI,qJ,qK,qO,qP,qT,qV,qh,qp,q0t,qv,ev,qw,qy,qz,zC,zD,zE,zG,zI,zJ,TE.sv,zM,↓reduceIte,reduceCtorEq,Nat.reduceEqDiff,Nat.reduceLT,zP,zQ,zR,zT,zV,zW,zt,hP,hk,res25,kp25,rmC,rgC,zG3,zJ5,hnow,hd0,hd1,e0,hr,hlx,Option.getD_some,Option.isSome_some])
       have h7:=fun s h=>use ⟨(v,{ x with exp:=zJ1 now cd.exp }),by rw [hM]; simp [hdn,hr,hh],hvl,hk1⟩ s h
       simp only [cdS,itS,his,e0,hdn,hh] at h7
       exact h7 _ (zC6 ⟨rfl,rfl,rfl,rfl,rfl,rfl,rfl,rfl,rfl,trivial⟩)
   ·cases hdn:cd.down with
    | false =>
     cases hr:addV x.val cd.delta with
     | none =>
      (refine zA4 hctr (rs:=res25) true 300 _ _ _ ?_; simp (maxSteps:=1000000) only [VT,jf,jg,jZ,jd,qE,qF,qG,qH,qI,qJ,qK,qO,qP,qR,qS,qT,qV,qf,qg,qh,qp,q0t,qu,qv,ev,qw,qy,qz,zA,zB,zC,zD,zE,zG,zI,zJ,TE.sv,zM,↓reduceIte,reduceCtorEq,Value.oneCell',Nat.reduceEqDiff,Nat.reduceAdd,Nat.reduceLT,zP,zQ,zR,zT,zV,zW,zt,hP,hk,res25,kp25,rmC,zG5,hd0,hd1,Nat.reduceAdd,e0,e1,hr,hlx,Option.getD_none,Option.isSome_none])
      have hY:zI5 X now cd x is most=(X,zA6 7):=by rw [hM]; simp [hdn,hr]
      exact fin (X,zA6 7) _ hY (by rw [hY]; rfl) rfl
     | some v =>
      have hvl:v.length≤20:=zT5 hr
      cases hh:cd.hasExp with
      | false =>
       (refine zA4 hctr (rs:=res25) true 73 _ _ _ ?_; simp (maxSteps:=1000000) only [VT,jf,jg,jZ,jd,qH,qI,qK,qO,qP,qR,qS,qT,qV,qh,qp,ev,qw,qy,qz,zD,zI,zJ,TE.sv,zM,↓reduceIte,reduceCtorEq,Nat.reduceEqDiff,Nat.reduceLT,zP,zQ,zR,zT,zV,zW,zt,hP,hk,res25,kp25,rmC,zG5,hd0,hd1,e0,e1,hr,hlx,Option.getD_some,Option.isSome_some])
       have h7:=fun s h=>use ⟨(v,x),by rw [hM]; simp [hdn,hr,hh],hvl,hk1⟩ s h
       simp only [cdS,itS,his,e0,hdn,hh] at h7
       exact h7 _ (zC6 ⟨rfl,rfl,rfl,rfl,rfl,rfl,rfl,rfl,rfl,trivial⟩)
      | true =>
       (refine zA4 hctr (rs:=res25) true 80 _ _ _ ?_; simp (maxSteps:=1000000) only [VT,jf,jg,jZ,jd,qH,qI,qJ,qK,qO,qP,qR,qS,qT,qV,qh,qp,q0t,qv,ev,qw,qy,qz,zC,zD,zE,zG,zI,zJ,TE.sv,zM,↓reduceIte,reduceCtorEq,Nat.reduceEqDiff,Nat.reduceLT,zP,zQ,zR,zT,zV,zW,zt,hP,hk,res25,kp25,rmC,rgC,zG3,zG5,hnow,hd0,hd1,e0,e1,hr,hlx,Option.getD_some,Option.isSome_some])
       have h7:=fun s h=>use ⟨(v,{ x with exp:=zJ1 now cd.exp }),by rw [hM]; simp [hdn,hr,hh],hvl,hk1⟩ s h
       simp only [cdS,itS,his,e0,hdn,hh] at h7
       exact h7 _ (zC6 ⟨rfl,rfl,rfl,rfl,rfl,rfl,rfl,rfl,rfl,trivial⟩)
    | true =>
     cases hr:subV x.val cd.delta with
     | none =>
      (refine zA4 hctr (rs:=res25) true 300 _ _ _ ?_; simp (maxSteps:=1000000) only [VT,jf,jg,jZ,jd,qE,qF,qG,qH,qI,qJ,qK,qO,qP,qR,qS,qT,qV,qf,qg,qh,qp,q0t,qu,qv,ev,qw,qy,qz,zA,zB,zC,zD,zE,zG,zI,zJ,TE.sv,zM,↓reduceIte,reduceCtorEq,Value.oneCell',Nat.reduceEqDiff,Nat.reduceAdd,Nat.reduceLT,zP,zQ,zR,zT,zV,zW,zt,hP,hk,res25,kp25,rmC,zJ5,hd0,hd1,Nat.reduceAdd,e0,e1,hr,hlx,Option.getD_none,Option.isSome_none])
      have hY:zI5 X now cd x is most=(X,zA6 7):=by rw [hM]; simp [hdn,hr]
      exact fin (X,zA6 7) _ hY (by rw [hY]; rfl) rfl
     | some v =>
      have hvl:v.length≤20:=zT0 hd0 hr
      cases hh:cd.hasExp with
      | false =>
       (refine zA4 hctr (rs:=res25) true 73 _ _ _ ?_; simp (maxSteps:=1000000) only [VT,jf,jg,jZ,jd,qH,qI,qK,qO,qP,qR,qS,qT,qV,qh,qp,ev,qw,qy,qz,zD,zI,zJ,TE.sv,zM,↓reduceIte,reduceCtorEq,Nat.reduceEqDiff,Nat.reduceLT,zP,zQ,zR,zT,zV,zW,zt,hP,hk,res25,kp25,rmC,zJ5,hd0,hd1,e0,e1,hr,hlx,Option.getD_some,Option.isSome_some])
       have h7:=fun s h=>use ⟨(v,x),by rw [hM]; simp [hdn,hr,hh],hvl,hk1⟩ s h
       simp only [cdS,itS,his,e0,hdn,hh] at h7
       exact h7 _ (zC6 ⟨rfl,rfl,rfl,rfl,rfl,rfl,rfl,rfl,rfl,trivial⟩)
      | true =>
       (refine zA4 hctr (rs:=res25) true 80 _ _ _ ?_; simp (maxSteps:=1000000) only [VT,jf,jg,jZ,jd,qH,qI,qJ,qK,qO,qP,qR,qS,qT,qV,qh,qp,q0t,qv,ev,qw,qy,qz,zC,zD,zE,zG,zI,zJ,TE.sv,zM,↓reduceIte,reduceCtorEq,Nat.reduceEqDiff,Nat.reduceLT,zP,zQ,zR,zT,zV,zW,zt,hP,hk,res25,kp25,rmC,rgC,zG3,zJ5,hnow,hd0,hd1,e0,e1,hr,hlx,Option.getD_some,Option.isSome_some])
       have h7:=fun s h=>use ⟨(v,{ x with exp:=zJ1 now cd.exp }),by rw [hM]; simp [hdn,hr,hh],hvl,hk1⟩ s h
       simp only [cdS,itS,his,e0,hdn,hh] at h7
       exact h7 _ (zC6 ⟨rfl,rfl,rfl,rfl,rfl,rfl,rfl,rfl,rfl,trivial⟩)
 obtain ⟨⟨v,z⟩,hYb,hvl,hzl⟩:=y
 simp only at hYb hvl hzl
 have lv:v.length≤9223372036854775807:=by omega
 have w1:IntKind.i64.wrap ((z.key.length:Int)+(v.length:Int))=(z.key.length:Int)+(v.length:Int):=IntWalk.i64_in _ (by omega)
 by_cases hf:most < (z.key.length:Int)+(v.length:Int)
 ·have f1:decide (most < (z.key.length:Int)+(v.length:Int))=true:=decide_eq_true hf
  (refine zA4 hctr (rs:=res25) true 300 _ _ _ ?_; simp (maxSteps:=1000000) only [VT,jf,qE,qF,qG,qH,qI,qJ,qK,qN,qO,qP,qR,qS,qV,qe,qf,qg,q0t,qu,qv,ev,qy,qz,zA,zB,zC,zD,zE,zG,zI,zJ,zM,↓reduceIte,reduceCtorEq,Value.oneCell',Nat.reduceEqDiff,Nat.reduceAdd,Nat.reduceLT,zP,zQ,zR,zV,zt,zu,hP,hk,res25,kp25,cdS,itS,Nat.reduceAdd,w1,f1])
  have hY:zI5 X now cd x is most=(X,zA6 11):=by rw [hYb,rFit]; exact if_pos hf
  exact fin (X,zA6 11) _ hY (by rw [hY]; rfl) rfl
 ·have f1:decide (most < (z.key.length:Int)+(v.length:Int))=false:=decide_eq_false hf
  obtain ⟨L,hL⟩:∃ L,(zH7 X { z with val:=v,cas:=nx X }).items=L:=⟨_,rfl⟩
  (refine zA4 hctr (rs:=res25) true 300 _ _ _ ?_; simp (maxSteps:=1000000) only [VT,jg,qH,qI,qJ,qK,qN,qO,qP,qR,qS,qV,qe,qh,q0t,qv,ev,qw,qy,qz,zC,zD,zE,zG,zI,zJ,TE.sv,zM,↓reduceIte,reduceCtorEq,Nat.reduceEqDiff,Nat.reduceLT,zP,zQ,zR,zW,zt,zu,hP,hk,res25,kp25,rmC,zF7,cdS,itS,w1,f1,lv])
  (refine zB9 hctr (by rw [hP]; rfl) rs25_22 [jB (fun N => .g [.rw N L.length, .i .u64 (nx X), .i .i64 X.flush]) (fun _ => rwI L)] (ensure_type_of% (Cmp.of (by simp (maxSteps := 1000000) only [qA, qK, qO, qP, qf, qg, q0t, qu, qv, ev, qw, qy, qz, zA, zB, zC, zD, zE, zF, zG, zM, ↓reduceIte, Nat.reduceEqDiff, Nat.reduceAdd, zP, zk, zl, zt, cE, jA, jB, jC, jD, jH, jK, jL, jM, jN, hP, rmC, rgC, nx, Nat.reduceAdd]; rfl)) "" Cmp.mk) (by kernel_rfl) (by kernel_rfl) (by first | exact zA1 _ | kernel_rfl) (by kernel_rfl) (by rfl) (by rfl) (by first | exact zA0 _ | rfl) (by rfl) ?_ ?_; rotate_left; refine zA4 hctr (rs := res25) true 300 _ _ _ ?_; simp (maxSteps := 1000000) only [VT, qE, qF, qG, qP, qy, zA, zB, zD, zG, zI, zJ, zM, ↓reduceIte, reduceCtorEq, Nat.reduceEqDiff, Nat.reduceAdd, zP, zQ, zt, jN, jO, hP, hk, res25, kp25, Nat.reduceAdd]; rotate_left; simp (maxSteps := 1000000) only [qK, qO, qP, qf, qg, q0t, qu, qv, ev, qw, qy, qz, zA, zB, zC, zD, zE, zG, zM, ↓reduceIte, Nat.reduceEqDiff, Nat.reduceAdd, zP, zR, zS, zT, zk, zl, zn, zt, jD, jH, jN, jP, jQ, jR, jS, jT, jU, hP, Nat.reduceAdd])
  ·exact zQ1 (x:={ z with val:=v,cas:=nx X }) hP hS hw hX (nx X) X.flush hL (zI7 (by simp)) (by rw [hn0]; exact Nat.zero_le _) rfl (fun q _=>rfl)
  have hY:zI5 X now cd x is most=(zH7 { X with cas:=nx X } { z with val:=v,cas:=nx X },⟨6,{ z with val:=v,cas:=nx X },(((zC1 v).getD 0:Nat):Int),false,false,false⟩):=by rw [hYb,rFit]; exact if_neg hf
  have:=fun en=>finN (zH7 { X with cas:=nx X } { z with val:=v,cas:=nx X },⟨6,{ z with val:=v,cas:=nx X },(((zC1 v).getD 0:Nat):Int),false,false,false⟩) 5 en hY (by rw [hY]; rfl)
  have hL2:(zH7 { X with cas:=nx X } { z with val:=v,cas:=nx X }).items=L:=hL
  rw [hL2] at this
  exact this _ rfl
end Go.Proofs.YtfpeholdlkfmoaaGreatDoor
/- The document's Key and may, walked. Printed by gen_refw9.py. -/
namespace Go.Proofs.YtfpeholdlkfmoaaGreatDoor
set_option linter.unusedSimpArgs false
set_option linter.unusedVariables false
set_option maxHeartbeats 8000000
open Go.RowKit
set_option maxRecDepth 100000
def slDk (s:List UInt8) (j:Nat):List (Nat × SV):=[(3,.c (.i .i64 (j:Int))),(0,.c (.s s))]
theorem dkey_w (s:List UInt8) (hs:s.length≤9223372036854775807) (w:World):Calls Tryz.prog 45 #[.string ⟨s.toArray⟩] w fun e w'=>e=.returned (.bool (zS6 s))∧Below w.heap.size w w':=by
 refine zA9 Tryz.func45 rfl kp45 (S:=Non) (ρ:=fun _=>⟨0,[],[],0,none⟩) (en:=[]) [.c (.s s)] Tryz.ntmps45 (At.nil _ _ _) (by simp [SV.wf,SC.wf]) (by simp) ?_
 intro C hC hP hk
 have hctr:=zK6 hP
 have fin:∀ b en,b=zS6 s→Fin C res45 (.c (.b b)) en:=fun b en hb=>by subst hb; exact zL9 (v:=.c (.b (zS6 s))) hC hres45 rfl trivial
 have hlt8:=fun x:UInt8=>x.toNat_lt
 (refine zA4 hctr (rs:=res45) true 300 _ _ _ ?_; simp (maxSteps:=1000000) only [VT,qH,qI,qK,qO,ev,qz,zI,zJ,zK,↓reduceIte,reduceCtorEq,Nat.reduceEqDiff,Nat.reduceLT,zP,zR,hk,kp45])
 refine zL1 (ι:={ j:Nat // j≤s.length∧(s.all fun c=>decide (32 < c.toNat) && decide (c.toNat ≠ 127))=((s.drop j).all fun c=>decide (32 < c.toNat) && decide (c.toNat ≠ 127)) }) (fun j=>slDk s j.1) (fun _=>[]) (fun j=>s.length - j.1) ⟨0,Nat.zero_le _,rfl⟩ (zC6 ⟨rfl,rfl,trivial⟩) rfl ?_
 rintro ⟨j,hj,hall⟩ D dP dS dw dn dr dk ddf dPan dRet hX hJ
 have hP0:=hP; have hk0:=hk; have hctr0:=hctr
 have hP:D.P=Tryz.prog:=by rw [dP]; exact hP0
 have hk:D.kp=kp45:=by rw [dk]; exact hk0
 have hctr:zE8 D noC:=zK6 hP
 have dFin:∀ b en,b=zS6 s→Fin D res45 (.c (.b b)) en:=fun b en hb ρ a w' hw hn hwf hd hr=>dRet _ _ (fin b en hb ρ a w' (hw.toC dS.symm dw.symm dr.symm dn.symm) (by rw [← dn]; exact hn) hwf (hd.trans ddf) (fun fn h=>by rw [← dP]; exact hr fn h))
 show Run D _ _ (slDk s j) []
 by_cases hjn:j < s.length
 ·obtain ⟨x,hx⟩:∃ x,s[j]?=some x:=⟨_,List.getElem?_eq_getElem hjn⟩
  have hgd:s.getD j 0=x:=by rw [List.getD_eq_getElem?_getD,hx]; rfl
  have q1:decide ((j:Int) < (s.length:Int))=true:=decide_eq_true (by omega)
  have p0:(0:Int)≤(j:Int):=by omega
  have p1:(j:Int) < (s.length:Int):=by omega
  have p3:IntKind.i64.wrap ((j:Int)+1)=((j+1:Nat):Int):=by rw [IntWalk.i64_in _ (by omega)]; rfl
  have hdr:s.drop j=x :: s.drop (j+1):=by
   rw [List.drop_eq_getElem_cons hjn]; congr 1
   exact (List.getElem?_eq_some_iff.1 hx).2
  rw [hdr,List.all_cons] at hall
  by_cases h1:(x.toNat:Int) < 33
  ·have e0:decide ((x.toNat:Int) < 33)=true:=decide_eq_true h1
   (refine zA4 hctr (rs:=res45) true 300 _ _ _ ?_; simp (maxSteps:=1000000) only [VT,jf,jd,qE,qF,qG,qH,qI,qK,qN,qO,qR,qS,qY,qe,qp,ev,qy,qz,zD,zI,zJ,TE.sv,zM,↓reduceIte,reduceCtorEq,Nat.reduceEqDiff,Nat.reduceLT,zP,zQ,zR,zT,zV,zh,zo,hP,hk,res45,kp45,slDk,p0,p1,hgd,e0])
   refine dFin false _ ?_
   have:decide (32 < x.toNat)=false:=decide_eq_false (by omega)
   rw [this] at hall
   simp only [Bool.false_and] at hall
   unfold zS6; rw [hall]; simp
  have e0:decide ((x.toNat:Int) < 33)=false:=decide_eq_false h1
  by_cases h2:x.toNat=127
  ·have e1:((x.toNat:Int) == 127)=true:=by rw [beq_iff_eq]; omega
   (refine zA4 hctr (rs:=res45) true 300 _ _ _ ?_; simp (maxSteps:=1000000) only [VT,jf,jg,jZ,qE,qF,qG,qH,qI,qK,qN,qO,qR,qS,qY,qe,qp,ev,qy,qz,zD,zI,zJ,TE.sv,zM,↓reduceIte,reduceCtorEq,Nat.reduceEqDiff,Nat.reduceLT,zP,zQ,zR,zT,zV,zW,zh,zo,hP,hk,res45,kp45,slDk,p0,p1,hgd,e0,e1])
   refine dFin false _ ?_
   have:decide (x.toNat ≠ 127)=false:=decide_eq_false (fun h=>h h2)
   rw [this] at hall
   simp only [Bool.and_false,Bool.false_and] at hall
   unfold zS6; rw [hall]; simp
  have e1:((x.toNat:Int) == 127)=false:=by rw [beq_eq_false_iff_ne]; omega
  (refine zA4 hctr (rs:=res45) true 300 _ _ _ ?_; simp (maxSteps:=1000000) only [VT,jf,jg,jZ,qH,qI,qK,qN,qO,qR,qS,qY,qe,qp,ev,qy,qz,zD,zI,zJ,zM,↓reduceIte,reduceCtorEq,Nat.reduceEqDiff,Nat.reduceLT,zP,zQ,zR,zT,zV,zW,zh,zo,hP,hk,res45,kp45,slDk,p0,p1,p3,hgd,e0,e1])
  refine hJ ⟨j+1,by omega,?_⟩ _ (by show s.length - (j+1) < s.length - j; omega) (zC6 ⟨rfl,rfl,trivial⟩)
  have a1:decide (32 < x.toNat)=true:=decide_eq_true (by omega)
  have a2:decide (x.toNat ≠ 127)=true:=decide_eq_true h2
  rw [a1,a2] at hall
  simpa using hall
 ·have q1:decide ((j:Int) < (s.length:Int))=false:=decide_eq_false (by omega)
  (refine zA4 hctr (rs:=res45) true 300 _ _ _ ?_; simp (maxSteps:=1000000) only [VT,jg,qH,qI,qK,qN,qO,qR,qS,qe,ev,qy,zH,zI,zJ,zM,↓reduceIte,reduceCtorEq,Nat.reduceEqDiff,Nat.reduceLT,zP,zQ,zR,zW,hP,hk,res45,kp45,slDk,q1])
  refine hX rfl rfl ?_
  have hP:=hP0; have hk:=hk0; have hctr:=hctr0
  rw [List.drop_of_length_le (by omega)] at hall
  have hkb:zS6 s=(!s.isEmpty && decide (s.length≤250)):=by unfold zS6; rw [hall]; simp
  by_cases h1:(1:Int)≤(s.length:Int)
  ·have e0:decide ((1:Int)≤(s.length:Int))=true:=decide_eq_true h1
   have hne:s.isEmpty=false:=by cases s with
    | nil=>simp at h1
    | cons c t=>rfl
   (refine zA4 hctr (rs:=res45) true 300 _ _ _ ?_; simp (maxSteps:=1000000) only [VT,jf,jZ,qE,qF,qG,qH,qI,qK,qN,qO,qR,qS,qe,qp,ev,qy,qz,zD,zI,zJ,TE.sv,zM,↓reduceIte,reduceCtorEq,Nat.reduceEqDiff,Nat.reduceLT,zP,zQ,zR,zV,hP,hk,res45,kp45,e0])
   refine fin _ _ ?_
   rw [hkb,hne]
   simp
   omega
  ·have e0:decide ((1:Int)≤(s.length:Int))=false:=decide_eq_false h1
   have hne:s=[]:=List.eq_nil_of_length_eq_zero (by omega)
   (refine zA4 hctr (rs:=res45) true 300 _ _ _ ?_; simp (maxSteps:=1000000) only [VT,jg,jd,qE,qF,qG,qH,qI,qK,qN,qO,qR,qS,qe,qp,ev,qy,qz,zD,zI,zJ,TE.sv,zM,↓reduceIte,reduceCtorEq,Nat.reduceEqDiff,Nat.reduceLT,zP,zQ,zR,zW,hP,hk,res45,kp45,e0])
   exact fin _ _ (by rw [hkb,hne]; rfl)
def ryC:Ctr:=fun f _ xs=>match f with
 | 45=>(match xs with
  | [.c (.s l)]=>some (l.length≤9223372036854775807,.c (.b (zS6 l)))
  | _=>none)
 | _=>none
theorem ryC_ok {C:Cx} (hP:C.P=Tryz.prog):zE8 C ryC:=by
 intro f en xs p v h hp ρ w' hup hHp hHo hinj hwf
 unfold ryC at h
 split at h
 ·rw [hP]
  refine ⟨fun args w=>Tryz.call45 args w,?_⟩
  split at h <;> simp only [Option.some.injEq,Prod.mk.injEq,reduceCtorEq] at h
  obtain ⟨rfl,rfl⟩:=h
  exact ⟨trivial,dkey_w _ hp w'⟩
 ·cases h
theorem rmay_w (cd:Cd) (hkl:cd.key.length≤9223372036854775807) (w:World):Calls Tryz.prog 21 #[.agg (cdA cd)] w fun e w'=>e=.returned (.bool (zK1 cd))∧Below w.heap.size w w':=by
 refine zA9 Tryz.func21 rfl kp21 (S:=Non) (ρ:=fun _=>⟨0,[],[],0,none⟩) (en:=[]) [.g (cdS cd)] Tryz.ntmps21 (At.nil _ _ _) (by intro y hy; simp only [List.mem_cons,List.not_mem_nil,or_false] at hy; subst hy; exact zW6 _ _) (by simp) ?_
 intro C hC hP hk
 have hctr:zE8 C ryC:=ryC_ok hP
 have fin:∀ b en,zK1 cd=b→Fin C res21 (.c (.b b)) en:=fun b en hb=>by subst hb; exact zL9 (v:=.c (.b (zK1 cd))) hC hres21 rfl trivial
 (refine zA4 hctr (rs:=res21) true 13 _ _ _ ?_; simp (maxSteps:=1000000) only [VT,qH,qI,qK,qO,qP,qV,q0t,qu,qv,ev,qw,qy,qz,zD,zF,zG,zI,zJ,zK,zM,↓reduceIte,reduceCtorEq,Nat.reduceEqDiff,Nat.reduceLT,zP,zQ,zR,zt,hP,hk,kp21,ryC,cdS,hkl])
 refine zN0 (κ:={ _u:Unit // 1≤cd.op∧cd.op≤7∧0≤cd.mode∧cd.mode≤4∧cd.val.length≤65536∧(decide (cd.op=6) || zS6 cd.key)=true }) (fun _=>[(1,.c (.p 0 0))]) (fun _=>[⟨(28,0,whole),cdS cd,true⟩]) (fun y=>?_) fun use=>?_
 rotate_left
 ·have hdummy:True:=trivial
  by_cases a1:cd.op < 1
  ·have fa1:decide (cd.op < 1)=true:=decide_eq_true a1
   (refine zA4 hctr (rs:=res21) true 300 _ _ _ ?_; simp (maxSteps:=1000000) only [VT,jf,jd,qE,qF,qG,qH,qI,qK,qO,qP,qR,qS,qV,qp,ev,qy,qz,zD,zI,zJ,TE.sv,zM,↓reduceIte,reduceCtorEq,Nat.reduceEqDiff,Nat.reduceLT,zP,zQ,zR,zV,zu,hP,hk,res21,kp21,fa1])
   exact fin false _ (by simp only [zK1,zD8]; simp; omega)
  have fa1:decide (cd.op < 1)=false:=decide_eq_false a1
  by_cases a2:7 < cd.op
  ·have fa2:decide (7 < cd.op)=true:=decide_eq_true a2
   (refine zA4 hctr (rs:=res21) true 300 _ _ _ ?_; simp (maxSteps:=1000000) only [VT,jf,jg,jZ,jd,qE,qF,qG,qH,qI,qK,qO,qP,qR,qS,qV,qp,ev,qy,qz,zD,zI,zJ,TE.sv,zM,↓reduceIte,reduceCtorEq,Nat.reduceEqDiff,Nat.reduceLT,zP,zQ,zR,zV,zW,zu,hP,hk,res21,kp21,fa1,fa2])
   exact fin false _ (by simp only [zK1,zD8]; simp; omega)
  have fa2:decide (7 < cd.op)=false:=decide_eq_false a2
  obtain ⟨kb,hkb⟩:∃ kb,zS6 cd.key=kb:=⟨_,rfl⟩
  obtain ⟨o6,ho6⟩:∃ o6,(cd.op != 6)=o6:=⟨_,rfl⟩
  by_cases hko:kb=false∧o6=true
  ·obtain ⟨rfl,rfl⟩:=hko
   (refine zA4 hctr (rs:=res21) true 300 _ _ _ ?_; simp (maxSteps:=1000000) only [VT,jf,jg,jZ,jd,qE,qF,qG,qH,qI,qK,qO,qP,qR,qS,qT,qV,qp,ev,qy,qz,zD,zI,zJ,TE.sv,zM,↓reduceIte,reduceCtorEq,Nat.reduceEqDiff,Nat.reduceLT,zP,zQ,zR,zV,zW,zu,hP,hk,res21,kp21,fa1,fa2,hkb,ho6])
   exact fin false _ (by have h6:¬ cd.op=6:=by simpa using ho6
                         simp [zK1,hkb,h6])
  have hgo:(decide (cd.op=6) || zS6 cd.key)=true:=by
   rw [hkb]
   cases kb with
   | true=>simp
   | false =>
    have:o6=false:=by cases o6 with | true=>exact absurd ⟨rfl,rfl⟩ hko | false=>rfl
    rw [this] at ho6
    have h6:cd.op=6:=by simpa using ho6
    simp [h6]
  have hkk:kb=true∨(kb=false∧o6=false):=by
   cases kb with
   | true=>exact .inl rfl
   | false=>right; exact ⟨rfl,by cases o6 with | true=>exact absurd ⟨rfl,rfl⟩ hko | false=>rfl⟩
  rcases hkk with rfl | ⟨rfl,rfl⟩
  ·have hx:=hkb
   by_cases b1:cd.mode < 0
   ·have fb1:decide (cd.mode < 0)=true:=decide_eq_true b1
    (refine zA4 hctr (rs:=res21) true 300 _ _ _ ?_; simp (maxSteps:=1000000) only [VT,jf,jg,jZ,jd,qE,qF,qG,qH,qI,qK,qO,qP,qR,qS,qT,qV,qp,ev,qy,qz,zD,zI,zJ,TE.sv,zM,↓reduceIte,reduceCtorEq,Nat.reduceEqDiff,Nat.reduceLT,zP,zQ,zR,zV,zW,zt,zu,hP,hk,res21,kp21,fa1,fa2,hkb,fb1])
    exact fin false _ (by simp only [zK1,zD8]; simp; omega)
   have fb1:decide (cd.mode < 0)=false:=decide_eq_false b1
   by_cases b2:4 < cd.mode
   ·have fb2:decide (4 < cd.mode)=true:=decide_eq_true b2
    (refine zA4 hctr (rs:=res21) true 300 _ _ _ ?_; simp (maxSteps:=1000000) only [VT,jf,jg,jZ,jd,qE,qF,qG,qH,qI,qK,qO,qP,qR,qS,qT,qV,qp,ev,qy,qz,zD,zI,zJ,TE.sv,zM,↓reduceIte,reduceCtorEq,Nat.reduceEqDiff,Nat.reduceLT,zP,zQ,zR,zV,zW,zt,zu,hP,hk,res21,kp21,fa1,fa2,hkb,fb1,fb2])
    exact fin false _ (by simp only [zK1,zD8]; simp; omega)
   have fb2:decide (4 < cd.mode)=false:=decide_eq_false b2
   by_cases b3:65536 < (cd.val.length:Int)
   ·have fb3:decide (65536 < (cd.val.length:Int))=true:=decide_eq_true b3
    (refine zA4 hctr (rs:=res21) true 300 _ _ _ ?_; simp (maxSteps:=1000000) only [VT,jf,jg,jZ,jd,qE,qF,qG,qH,qI,qK,qN,qO,qP,qR,qS,qT,qV,qe,qp,ev,qy,qz,zD,zI,zJ,TE.sv,zM,↓reduceIte,reduceCtorEq,Nat.reduceEqDiff,Nat.reduceLT,zP,zQ,zR,zV,zW,zt,zu,hP,hk,res21,kp21,fa1,fa2,hkb,fb1,fb2,fb3])
    exact fin false _ (by simp only [zK1,zD8]; simp; omega)
   have fb3:decide (65536 < (cd.val.length:Int))=false:=decide_eq_false b3
   (refine zA4 hctr (rs:=res21) true 38 _ _ _ ?_; simp (maxSteps:=1000000) only [VT,jg,jZ,jd,qH,qI,qK,qN,qO,qP,qR,qS,qT,qV,qe,qp,ev,qy,qz,zD,zI,zJ,zM,↓reduceIte,reduceCtorEq,Nat.reduceEqDiff,Nat.reduceLT,zP,zQ,zR,zV,zW,zt,zu,hP,hk,res21,kp21,fa1,fa2,hkb,fb1,fb2,fb3])
   have h7:=fun s h=>use ⟨(),by omega,by omega,by omega,by omega,by omega,hgo⟩ s h
   simp only [cdS] at h7
   exact h7 _ (zC6 ⟨rfl,trivial⟩)
  ·have hx:=hkb
   by_cases b1:cd.mode < 0
   ·have fb1:decide (cd.mode < 0)=true:=decide_eq_true b1
    (refine zA4 hctr (rs:=res21) true 300 _ _ _ ?_; simp (maxSteps:=1000000) only [VT,jf,jg,jZ,jd,qE,qF,qG,qH,qI,qK,qO,qP,qR,qS,qT,qV,qp,ev,qy,qz,zD,zI,zJ,TE.sv,zM,↓reduceIte,reduceCtorEq,Nat.reduceEqDiff,Nat.reduceLT,zP,zQ,zR,zV,zW,zt,zu,hP,hk,res21,kp21,fa1,fa2,hkb,ho6,fb1])
    exact fin false _ (by simp only [zK1,zD8]; simp; omega)
   have fb1:decide (cd.mode < 0)=false:=decide_eq_false b1
   by_cases b2:4 < cd.mode
   ·have fb2:decide (4 < cd.mode)=true:=decide_eq_true b2
    (refine zA4 hctr (rs:=res21) true 300 _ _ _ ?_; simp (maxSteps:=1000000) only [VT,jf,jg,jZ,jd,qE,qF,qG,qH,qI,qK,qO,qP,qR,qS,qT,qV,qp,ev,qy,qz,zD,zI,zJ,TE.sv,zM,↓reduceIte,reduceCtorEq,Nat.reduceEqDiff,Nat.reduceLT,zP,zQ,zR,zV,zW,zt,zu,hP,hk,res21,kp21,fa1,fa2,hkb,ho6,fb1,fb2])
    exact fin false _ (by simp only [zK1,zD8]; simp; omega)
   have fb2:decide (4 < cd.mode)=false:=decide_eq_false b2
   by_cases b3:65536 < (cd.val.length:Int)
   ·have fb3:decide (65536 < (cd.val.length:Int))=true:=decide_eq_true b3
    (refine zA4 hctr (rs:=res21) true 300 _ _ _ ?_; simp (maxSteps:=1000000) only [VT,jf,jg,jZ,qE,qF,qG,qH,qI,qK,qN,qO,qP,qR,qS,qT,qV,qe,qp,ev,qy,qz,zD,zI,zJ,TE.sv,zM,↓reduceIte,reduceCtorEq,Nat.reduceEqDiff,Nat.reduceLT,zP,zQ,zR,zV,zW,zt,zu,hP,hk,res21,kp21,fa1,fa2,hkb,ho6,fb1,fb2,fb3])
    exact fin false _ (by simp only [zK1,zD8]; simp; omega)
   have fb3:decide (65536 < (cd.val.length:Int))=false:=decide_eq_false b3
   (refine zA4 hctr (rs:=res21) true 38 _ _ _ ?_; simp (maxSteps:=1000000) only [VT,jf,jg,jZ,qH,qI,qK,qN,qO,qP,qR,qS,qT,qV,qe,qp,ev,qy,qz,zD,zI,zJ,zM,↓reduceIte,reduceCtorEq,Nat.reduceEqDiff,Nat.reduceLT,zP,zQ,zR,zV,zW,zt,zu,hP,hk,res21,kp21,fa1,fa2,hkb,ho6,fb1,fb2,fb3])
   have h7:=fun s h=>use ⟨(),by omega,by omega,by omega,by omega,by omega,hgo⟩ s h
   simp only [cdS] at h7
   exact h7 _ (zC6 ⟨rfl,trivial⟩)
 obtain ⟨_,y1,y2,y3,y4,y5,hgo⟩:=y
 show Run C _ 68 [(1,.c (.p 0 0))] [⟨(28,0,whole),cdS cd,true⟩]
 by_cases c0:-1099511627776≤cd.exp
 rotate_left
 ·have fc0:decide (-1099511627776≤cd.exp)=false:=decide_eq_false c0
  (refine zA4 hctr (rs:=res21) true 300 _ _ _ ?_; simp (maxSteps:=1000000) only [VT,jg,jd,qE,qF,qG,qH,qI,qK,qO,qP,qR,qS,qV,qp,ev,qy,qz,zD,zI,zJ,TE.sv,zM,↓reduceIte,reduceCtorEq,Nat.reduceEqDiff,Nat.reduceLT,zP,zQ,zR,zW,zt,hP,hk,res21,kp21,cdS,fc0])
  exact fin false _ (by simp only [zK1,zD8]; simp; omega)
 have fc0:decide (-1099511627776≤cd.exp)=true:=decide_eq_true c0
 by_cases c1:cd.exp≤1099511627776
 rotate_left
 ·have fc1:decide (cd.exp≤1099511627776)=false:=decide_eq_false c1
  (refine zA4 hctr (rs:=res21) true 300 _ _ _ ?_; simp (maxSteps:=1000000) only [VT,jf,jg,jZ,jd,qE,qF,qG,qH,qI,qK,qO,qP,qR,qS,qV,qp,ev,qy,qz,zD,zI,zJ,TE.sv,zM,↓reduceIte,reduceCtorEq,Nat.reduceEqDiff,Nat.reduceLT,zP,zQ,zR,zV,zW,zt,hP,hk,res21,kp21,cdS,fc0,fc1])
  exact fin false _ (by simp only [zK1,zD8]; simp; omega)
 have fc1:decide (cd.exp≤1099511627776)=true:=decide_eq_true c1
 by_cases d0:-1099511627776≤cd.vive
 rotate_left
 ·have fd0:decide (-1099511627776≤cd.vive)=false:=decide_eq_false d0
  (refine zA4 hctr (rs:=res21) true 300 _ _ _ ?_; simp (maxSteps:=1000000) only [VT,jf,jg,jZ,jd,qE,qF,qG,qH,qI,qK,qO,qP,qR,qS,qV,qp,ev,qy,qz,zD,zI,zJ,TE.sv,zM,↓reduceIte,reduceCtorEq,Nat.reduceEqDiff,Nat.reduceLT,zP,zQ,zR,zV,zW,zt,hP,hk,res21,kp21,cdS,fc0,fc1,fd0])
  exact fin false _ (by simp only [zK1,zD8]; simp; omega)
 have fd0:decide (-1099511627776≤cd.vive)=true:=decide_eq_true d0
 by_cases d1:cd.vive≤1099511627776
 rotate_left
 ·have fd1:decide (cd.vive≤1099511627776)=false:=decide_eq_false d1
  (refine zA4 hctr (rs:=res21) true 300 _ _ _ ?_; simp (maxSteps:=1000000) only [VT,jf,jg,jZ,jd,qE,qF,qG,qH,qI,qK,qO,qP,qR,qS,qV,qp,ev,qy,qz,zD,zI,zJ,TE.sv,zM,↓reduceIte,reduceCtorEq,Nat.reduceEqDiff,Nat.reduceLT,zP,zQ,zR,zV,zW,zt,hP,hk,res21,kp21,cdS,fc0,fc1,fd0,fd1])
  exact fin false _ (by simp only [zK1,zD8]; simp; omega)
 have fd1:decide (cd.vive≤1099511627776)=true:=decide_eq_true d1
 by_cases e0:-1099511627776≤cd.recache
 rotate_left
 ·have fe0:decide (-1099511627776≤cd.recache)=false:=decide_eq_false e0
  (refine zA4 hctr (rs:=res21) true 300 _ _ _ ?_; simp (maxSteps:=1000000) only [VT,jf,jg,jZ,jd,qE,qF,qG,qH,qI,qK,qO,qP,qR,qS,qV,qp,ev,qy,qz,zD,zI,zJ,TE.sv,zM,↓reduceIte,reduceCtorEq,Nat.reduceEqDiff,Nat.reduceLT,zP,zQ,zR,zV,zW,zt,hP,hk,res21,kp21,cdS,fc0,fc1,fd0,fd1,fe0])
  exact fin false _ (by simp only [zK1,zD8]; simp; omega)
 have fe0:decide (-1099511627776≤cd.recache)=true:=decide_eq_true e0
 by_cases e1:cd.recache≤1099511627776
 rotate_left
 ·have fe1:decide (cd.recache≤1099511627776)=false:=decide_eq_false e1
  (refine zA4 hctr (rs:=res21) true 300 _ _ _ ?_; simp (maxSteps:=1000000) only [VT,jf,jZ,qE,qF,qG,qH,qI,qK,qO,qP,qR,qS,qV,qp,ev,qy,qz,zD,zI,zJ,TE.sv,zM,↓reduceIte,reduceCtorEq,Nat.reduceEqDiff,Nat.reduceLT,zP,zQ,zR,zV,zt,hP,hk,res21,kp21,cdS,fc0,fc1,fd0,fd1,fe0,fe1])
  exact fin false _ (by simp only [zK1,zD8]; simp; omega)
 have fe1:decide (cd.recache≤1099511627776)=true:=decide_eq_true e1
 (refine zA4 hctr (rs:=res21) true 300 _ _ _ ?_; simp (maxSteps:=1000000) only [VT,jf,jZ,qE,qF,qG,qH,qI,qK,qO,qP,qR,qS,qV,qp,ev,qy,qz,zD,zI,zJ,TE.sv,zM,↓reduceIte,reduceCtorEq,Nat.reduceEqDiff,Nat.reduceLT,zP,zQ,zR,zV,zt,hP,hk,res21,kp21,cdS,fc0,fc1,fd0,fd1,fe0,fe1])
 exact fin true _ (by
  have g1:decide (1≤cd.op)=true:=decide_eq_true y1
  have g2:decide (cd.op≤7)=true:=decide_eq_true y2
  have g3:decide (0≤cd.mode)=true:=decide_eq_true y3
  have g4:decide (cd.mode≤4)=true:=decide_eq_true y4
  have g5:decide (cd.val.length≤65536)=true:=decide_eq_true y5
  simp only [zK1,zD8,g1,g2,g3,g4,g5,fc0,fc1,fd0,fd1,fe0,fe1,hgo,Bool.and_self])
end Go.Proofs.YtfpeholdlkfmoaaGreatDoor
/- ambryref16.Same of two states that are the same, at raw places. -/
namespace Go.Proofs.YtfpeholdlkfmoaaGreatDoor
set_option linter.unusedSimpArgs false
set_option linter.unusedVariables false
set_option maxHeartbeats 8000000
open Go.RowKit
def enSr (a b:Option Addr) (n c d:Nat) (cas flush:Int):List EN:=[⟨(25,0,whole),[.v (.slice a n c),.i .u64 cas,.i .i64 flush],true⟩,⟨(25,0,whole),[.v (.slice b n d),.i .u64 cas,.i .i64 flush],true⟩]
def slSr (i:Nat):List (Nat × SV):=[(5,.c (.i .i64 (i:Int))),(3,.c (.p 1 0)),(2,.c (.p 0 0))]
set_option maxRecDepth 100000
theorem same_raw (xs:List It) (cas flush:Int) (a b:Option Addr) (c d:Nat) (w:World) (ha:RawI w a xs) (hb:RawI w b xs) (hn:xs.length≤100000000) :
  Calls Tryz.prog 13 #[.agg #[.slice a xs.length c,.int .u64 cas,.int .i64 flush],.agg #[.slice b xs.length d,.int .u64 cas,.int .i64 flush]] w fun e w'=>e=.returned (.bool true)∧Below w.heap.size w w':=by
 obtain ⟨n,hnn⟩:∃ n,n=xs.length:=⟨_,rfl⟩
 rw [← hnn] at hn ⊢
 refine zA9 Tryz.func13 rfl kp13 (S:=Non) (ρ:=fun _=>⟨0,[],[],0,none⟩) (en:=[]) [.g [.v (.slice a n c),.i .u64 cas,.i .i64 flush],.g [.v (.slice b n d),.i .u64 cas,.i .i64 flush]] Tryz.ntmps13 (At.nil _ _ _) (by simp [SV.wf,SC.wf,wfs]) (by simp) ?_
 intro C hC hP hk
 have hctr:=zK6 hP
 have hn0:C.n0=0:=by rw [hC]; rfl
 have hS:C.S=Non:=by rw [hC]; rfl
 have hw0:C.w0=w:=by rw [hC]; rfl
 (refine zA4 hctr (rs:=res13) true 300 _ _ _ ?_; simp (maxSteps:=1000000) only [VT,jg,jZ,qH,qI,qK,qN,qO,qP,qR,qS,qV,qe,qp,q0t,qu,qv,ev,qy,qz,zD,zF,zG,zI,zJ,zK,zM,↓reduceIte,reduceCtorEq,Value.oneCell',Nat.reduceEqDiff,Nat.reduceLT,zP,zQ,zR,zW,zt,zu,hP,hk,res13,kp13,bne_self_eq_false])
 refine Run_loopD (slSr) (fun _=>enSr a b n c d cas flush) (fun i=>n+1 - i) 0 (zC6 ⟨rfl,rfl,rfl,trivial⟩) rfl ?_
 intro i D dP dS dw dn dk _ hX hJ
 have hP0:=hP; have hk1:=hk; have hctr0:=hctr; have hn00:=hn0
 have hP:D.P=Tryz.prog:=by rw [dP]; exact hP0
 have hk:D.kp=kp13:=by rw [dk]; exact hk1
 have hctr:=zK6 hP
 have hn0:D.n0=0:=by rw [dn]; exact hn00
 have hS':D.S=Non:=by rw [dS]; exact hS
 have hw':D.w0=w:=by rw [dw]; exact hw0
 obtain ⟨j,hj⟩:∃ j:Int,j=(i:Int):=⟨_,rfl⟩
 show Run D _ _ [(5,.c (.i .i64 (i:Int))),(3,.c (.p 1 0)),(2,.c (.p 0 0))] [⟨(25,0,whole),[.v (.slice a n c),.i .u64 cas,.i .i64 flush],true⟩,⟨(25,0,whole),[.v (.slice b n d),.i .u64 cas,.i .i64 flush],true⟩]
 rw [← hj]
 by_cases hjn:j < (n:Int)
 ·have c1:decide (j < (n:Int))=true:=decide_eq_true hjn
  have p1:0≤j:=by omega
  have p3:IntKind.i64.wrap (j+1)=j+1:=IntWalk.i64_in _ (by omega)
  obtain ⟨x,hx⟩:∃ x,xs[i]?=some x:=⟨xs[i]'(by omega),List.getElem?_eq_getElem _⟩
  obtain ⟨g,o,rfl,hg,hc⟩:=ha i x hx
  obtain ⟨g2,o2,rfl,hg2,hc2⟩:=hb i x hx
  have hji:j.toNat=i:=by omega
  have hrA:D.rd g (o+j.toNat * 8) 8=some (itS x):=by rw [hji]; exact (zU8 hS' hw' hg hc).1
  have hrB:D.rd g2 (o2+j.toNat * 8) 8=some (itS x):=by rw [hji]; exact (zU8 hS' hw' hg2 hc2).1
  (refine zA4 hctr (rs:=res13) true 300 _ _ _ ?_; simp (maxSteps:=1000000) only [VT,jf,qH,qI,qK,qN,qO,qP,qR,qS,qV,qe,ev,qy,zD,zI,zJ,zM,↓reduceIte,reduceCtorEq,Nat.reduceEqDiff,Nat.reduceLT,zP,zQ,zR,zV,zu,hP,hk,res13,kp13,c1])
  (refine zB9 hctr (by rw [hP]; rfl) rs13_6 [] (ensure_type_of% (Cmp.of (by simp (maxSteps := 1000000) only [qK, qL, qM, qO, qP, qR, qV, qX, ev, qy, zD, zM, ↓reduceIte, Nat.reduceEqDiff, zT, zV, zu, zx, cE, jA, jC, jD, jN, hP, hrA, hrB, p1, hjn, itS, steq_it, beq_self_eq_true]; rfl)) "" Cmp.mk) (by kernel_rfl) (by kernel_rfl) (by first | exact zA1 _ | kernel_rfl) (by kernel_rfl) (by rfl) (by rfl) (by first | exact zA0 _ | rfl) (by rfl) ?_ ?_; rotate_left; refine zA4 hctr (rs := res13) true 300 _ _ _ ?_; simp (maxSteps := 1000000) only [VT, jg, qH, qI, qK, qO, qR, qS, ev, qy, qz, zG, zI, zJ, ↓reduceIte, reduceCtorEq, Nat.reduceEqDiff, Nat.reduceAdd, Nat.reduceLT, zP, zQ, zR, zW, zt, jN, jO, hk, res13, kp13, p3]; rotate_left; simp (maxSteps := 1000000) only [qK, qL, qM, qO, qP, qR, qV, qX, ev, qy, zD, zM, ↓reduceIte, Nat.reduceEqDiff, zT, zV, zn, zt, zu, zx, jD, jN, jP, jQ, jR, jS, jT, hP, hrA, hrB, p1, hjn, itS, steq_it, beq_self_eq_true])
  refine Run_keep (f:=fun c=>c) (enK:=enSr (some ⟨g,o,none⟩) (some ⟨g2,o2,none⟩) n c d cas flush) (slK:=slSr (i+1)) hn0 (fun _ _ _ _ h=>h) ?_ ?_ (hJ (i+1) _ (by omega) (fun d v h=>h))
  ·refine ⟨⟨_,rfl,fun ρ=>rfl,?_⟩,⟨_,rfl,fun ρ=>rfl,?_⟩,trivial⟩ <;> simp [wfs,SC.wf,enSr]
  ·refine ⟨⟨?_,_,rfl,fun ρ=>?_⟩,⟨?_,_,rfl,fun ρ=>rfl⟩,⟨?_,_,rfl,fun ρ=>rfl⟩,trivial⟩
   case refine_2=>show Value.int .i64 _=Value.int .i64 _; rw [hj]; rfl
   all_goals simp [SV.wf,SC.wf,enSr]
 ·have c1:decide (j < (n:Int))=false:=decide_eq_false hjn
  (refine zA4 hctr (rs:=res13) true 300 _ _ _ ?_; simp (maxSteps:=1000000) only [VT,jg,qH,qI,qK,qN,qO,qP,qR,qS,qV,qe,ev,qy,zD,zH,zI,zJ,zM,↓reduceIte,reduceCtorEq,Nat.reduceEqDiff,Nat.reduceLT,zP,zQ,zR,zW,zu,hP,hk,res13,kp13,c1])
  refine hX rfl rfl ?_
  have hP:=hP0; have hk:=hk1; have hctr:=hctr0; have hn0:=hn00
  (refine zA4 hctr (rs:=res13) true 300 _ _ _ ?_; simp (maxSteps:=1000000) only [VT,qE,qF,qG,qH,qI,qK,qO,ev,qy,qz,zI,zJ,TE.sv,↓reduceIte,reduceCtorEq,Nat.reduceEqDiff,Nat.reduceLT,zP,zR,hk,res13,kp13])
  exact zY7 hC hres13 rfl
theorem own_raw {base:Nat} {w:World} {v:Value} {xs:List It} (h:OwnI base w v xs):∃ a c,v=.slice a xs.length c∧RawI w a xs:=by
 rcases h with ⟨p,rfl,rfl⟩ | ⟨g,cap,R,rfl,_,_,hI⟩
 ·exact ⟨p,0,rfl,fun k x hx=>by simp at hx⟩
 ·refine ⟨_,_,rfl,fun k x hx=>⟨g,0,rfl,hI.lt,fun j v hv=>?_⟩⟩
  have hj:j < 8:=(List.getElem?_eq_some_iff.1 hv).1
  rw [Nat.zero_add,← hv]
  exact hI.at hx j hj
theorem RawI.below {w w':World} {a:Option Addr} {xs:List It} (h:RawI w a xs) (hb:Below w.heap.size w w'):RawI w' a xs:=fun k x hx=>by
 obtain ⟨g,o,e,hg,hc⟩:=h k x hx
 refine ⟨g,o,e,Nat.lt_of_lt_of_le hg hb.size,fun j v hv=>?_⟩
 rw [← hc j v hv]
 unfold World.cell?
 rw [hb.block g hg]
end Go.Proofs.YtfpeholdlkfmoaaGreatDoor
/- What the document's Apply calls, on a state whose items are a row; its ends. -/
namespace Go.Proofs.YtfpeholdlkfmoaaGreatDoor
set_option linter.unusedSimpArgs false
set_option linter.unusedVariables false
open Go.RowKit
set_option maxRecDepth 100000
theorem own_rwI {C:Cx} {ρ:Nat→RE} {en:List EN} {w':World} {N:Nat} {L:List It} (hw:Hw C ρ (· < en.length) en w') (hS:C.S=Non) (hN:zD en N=some (rwI L)):OwnI C.w0.heap.size w' (zJ7 (ρ N) L.length) L:=by
 obtain ⟨k0,k1,k2,k3⟩:=RowOk.of (N:=N) (n:=L.length) (z:=8) (e:=33) (cells:=zB2 itS L) hw hS hN (by decide)
 rw [zD3] at k1 k2 k3
 rcases k1.2 with ⟨h1,h2,h3,h4,h5⟩ | ⟨h1,h2,h3⟩
 ·by_cases hc:(ρ N).cap=0
  ·have hL:L=[]:=List.eq_nil_of_length_eq_zero (by omega)
   subst hL
   exact .inl ⟨_,by rw [zG2 h1,hc]; rfl,rfl⟩
  ·refine .inr ⟨_,_,(ρ N).post,zG2 h1 _,k0,by omega,⟨?_,?_,h5⟩⟩
   ·rw [k2 h1,h2]; rfl
   ·have:=zB1 L; omega
 ·have hL:L=[]:=List.eq_nil_of_length_eq_zero h2
  subst hL
  exact .inl ⟨none,zI4 h1 _,rfl⟩
def OwnS (en:List EN) (L:List It) (v:SC):Prop:=(∃ N,v=.rw N L.length∧zD en N=some (rwI L))∨(L=[]∧(v=.v (.slice none 0 0)∨∃ N,v=.sl N 0 0 0))
theorem own_S {C:Cx} {ρ:Nat→RE} {en:List EN} {w':World} {L:List It} {v:SC} (hw:Hw C ρ (· < en.length) en w') (hS:C.S=Non) (h:OwnS en L v):OwnI C.w0.heap.size w' (v.den ρ) L:=by
 rcases h with ⟨N,rfl,hN⟩ | ⟨rfl,rfl | ⟨N,rfl⟩⟩
 ·exact own_rwI hw hS hN
 ·exact .inl ⟨none,rfl,rfl⟩
 ·exact .inl ⟨_,rfl,rfl⟩
def zR6:List SV→Option (Prop × SV)
 | [.g [.i .i64 op,.i .i64 mode,.s key,.s val,.i .u32 flags,.i .i64 exp,.b hasExp,.i .u64 cas,.b hasCas,.i .u64 delta,.i .u64 init,.b down,.b viv,.i .i64 vive,.i .i64 recache,.b inval]] =>
  some (key.length≤9223372036854775807,.c (.b (zK1 ⟨op,mode,key,val,flags,exp,hasExp,cas,hasCas,delta,init,down,viv,vive,recache,inval⟩)))
 | _=>none
def rowFindR (L:List It) (en:List EN):List SV→Option (Prop × SV)
 | [.g [.rw d n,.i .u64 _,.i .i64 _],.c (.s k)]=>some (zD en d=some (rwI L)∧n=L.length,.t [.c (.i .i64 (atF L k)),.c (.b (isF L k))])
 | _=>none
def raC (L:List It):Ctr:=fun f en xs=>match f with
 | 21=>zR6 xs
 | 22=>rowFindR L en xs
 | _=>rgC f en xs
theorem raC_ok {C:Cx} {L:List It} (hP:C.P=Tryz.prog) (hs:Sorted L) (hl:L.length≤100000000):zE8 C (raC L):=by
 intro f en xs p v h hp ρ w hup hHp hHo hinj hwf
 unfold raC at h
 split at h
 ·rw [hP]
  unfold zR6 at h
  split at h <;> simp only [Option.some.injEq,Prod.mk.injEq,reduceCtorEq] at h
  obtain ⟨rfl,rfl⟩:=h
  exact ⟨fun args w=>Tryz.call21 args w,trivial,rmay_w _ hp w⟩
 ·rw [hP]
  refine ⟨fun args w=>Tryz.call22 args w,?_⟩
  unfold rowFindR at h
  split at h <;> simp only [Option.some.injEq,Prod.mk.injEq,reduceCtorEq] at h
  rename_i d n cs fl k
  obtain ⟨rfl,rfl⟩:=h
  obtain ⟨hM,rfl⟩:=hp
  refine ⟨by intro x hx; simp at hx; rcases hx with rfl | rfl <;> trivial,?_⟩
  have ld:d < en.length:=by rw [zA8] at hM; exact (List.getElem?_eq_some_iff.1 hM).1
  obtain ⟨a,c,hv,hst⟩:=row_str0 hHp hHo hM ld hs hl cs fl
  have:=ref_find L cs fl a c k w hst.ha hs hl
  rw [← hv] at this
  exact this
 ·exact rgC_ok hP f en xs p v h hp ρ w hup hHp hHo hinj hwf
theorem rlive_h2 {C:Cx} {nE N:Nat} {mk:Nat→Prop} {en en':List EN} {w:World} {a:Option Addr} {n c:Nat} {X Y:St} {now:Int} (hP:C.P=Tryz.prog) (hS:C.S=Non) (hw:C.w0=w) (ha:RawI w a X.items) (hn:n=X.items.length) (hl:n≤100000000) (hY:zE4 X now=Y)
  (hmk:∀ q,mk q ↔ q=N) (hn0:C.n0≤N) (hN:zD en' N=some (rwI Y.items)) (hq:∀ q,q ≠ N→zD en' q=zD en q) :
  zL3 C nE mk en en' 19 [.g [.v (.slice a n c),.i .u64 X.cas,.i .i64 X.flush],.c (.i .i64 now)] (.g [.rw N Y.items.length,.i .u64 Y.cas,.i .i64 Y.flush]):=by
 refine zO2 (vals:=zC8 Y.items) (fun args w=>by rw [hP]; exact Tryz.call19 args w) hmk hn0 hN hq (by show ¬ (33:Nat)=zG0; decide) (fun ρ=>zD3 ρ _) (fun pr=>zD7 pr _) (fun pr h=>zD6 h) ?_
 intro ρ pr w' hw' _ _
 rw [hP]
 have hu:Upd Non w w':=by have:=hw'.up; rw [hS,hw] at this; exact this
 have hp:=rlive_w (X:=X) (c:=c) (ha.below hu.to_below) hn hl now
 rw [hY] at hp
 refine hp.mono ?_
 rintro z w'' ⟨⟨r,hr,rfl⟩,hb⟩
 refine ⟨r,hr.made (fun ρ=>zD3 ρ _),fun ρ' _ h=>?_,hb⟩
 rw [← h]; rfl
section
variable {C:Cx} {nt:Nat} {sl:List (Nat × SV)} {en:List EN} {k:List KI} {dst:Option Nat} {ty:TypeId} {pos:String} {af:Array Edge} {all r:List Oper} {args:Array Operand} {tys:Array TypeId}
theorem Run_rlive {w:World} {a:Option Addr} {n c:Nat} {X:St} (Y:St) {now:Int} (hP:C.P=Tryz.prog) (hS:C.S=Non) (hw:C.w0=w) (ha:RawI w a X.items) (hn:n=X.items.length) (hl:n≤100000000) (hY:zE4 X now=Y) (hn0:C.n0≤zG en)
  (hxs:qw sl args.toList=some [.g [.v (.slice a n c),.i .u64 X.cas,.i .i64 X.flush],.c (.i .i64 now)]) (hd:∀ d,dst=some d→d < nt) (hK:Run C (.ops all r :: k) nt (jN dst (.g [.rw (zG en) Y.items.length,.i .u64 Y.cas,.i .i64 Y.flush]) sl) (zF en (rwI Y.items))) :
  Run C (.ops all (⟨dst,.call ⟨.value (.func 19),args,tys⟩,ty,pos,af,none⟩ :: r) :: k) nt sl en:=by
 have hl':zG (zF en (rwI Y.items))=zG en+1:=zE7
 exact zF5 hxs _ _ (rlive_h2 (N:=zG en) hP hS hw ha hn hl hY (fun q=>by rw [hl']; omega) hn0 zI6 (fun q h=>zD0 h)) (by rw [hl']; omega) hd hK
theorem Run_opS {X:St} (Y:St × An) {f:FuncId} {ys:List SV} (M:Nat) (hP:C.P=Tryz.prog) (hent:∀ args w,(callFunc f args).run Tryz.prog w=.ok (.enter f args) w) (hM:zD en M=some (rwI X.items)) (hs:Sorted X.items) (hl:X.items.length≤100000000)
  (H:∀ (ρ:Nat→RE) w a c,StR w a X.items.length c X→Calls Tryz.prog f (Value.agg #[.slice a X.items.length c,.int .u64 X.cas,.int .i64 X.flush] :: ys.map (SV.den ρ)).toArray w (OpP w a X.items.length c X true Y))
  (hxs:qw sl args.toList=some (.g [.rw M X.items.length,.i .u64 X.cas,.i .i64 X.flush] :: ys)) (hd:∀ d,dst=some d→d < nt) (hK:Run C (.ops all r :: k) nt (jN dst (.t [.g [.rw M X.items.length,.i .u64 Y.1.cas,.i .i64 Y.1.flush],.g (anS Y.2)]) sl) en) :
  Run C (.ops all (⟨dst,.call ⟨.value (.func f),args,tys⟩,ty,pos,af,none⟩ :: r) :: k) nt sl en:=by
 have lM:M < zG en:=zO9 hM
 exact zF5 hxs _ _ (opS_h hP hent hM lM hs hl H (fun q h=>by omega)) (Nat.le_refl _) hd hK
theorem Run_opN {X:St} (Y:St × An) {f:FuncId} {ys:List SV} (M:Nat) (hP:C.P=Tryz.prog) (hent:∀ args w,(callFunc f args).run Tryz.prog w=.ok (.enter f args) w) (hM:zD en M=some (rwI X.items)) (hs:Sorted X.items) (hl:X.items.length≤100000000)
  (H:∀ (ρ:Nat→RE) w a c,StR w a X.items.length c X→Calls Tryz.prog f (Value.agg #[.slice a X.items.length c,.int .u64 X.cas,.int .i64 X.flush] :: ys.map (SV.den ρ)).toArray w (OpP w a X.items.length c X false Y)) (hn0:C.n0≤zG en)
  (hxs:qw sl args.toList=some (.g [.rw M X.items.length,.i .u64 X.cas,.i .i64 X.flush] :: ys)) (hd:∀ d,dst=some d→d < nt) (hK:Run C (.ops all r :: k) nt (jN dst (.t [.g [.rw (zG en) Y.1.items.length,.i .u64 Y.1.cas,.i .i64 Y.1.flush],.g (anS Y.2)]) sl) (zF en (rwI Y.1.items))) :
  Run C (.ops all (⟨dst,.call ⟨.value (.func f),args,tys⟩,ty,pos,af,none⟩ :: r) :: k) nt sl en:=by
 have lM:M < zG en:=zO9 hM
 have hl':zG (zF en (rwI Y.1.items))=zG en+1:=zE7
 exact zF5 hxs _ _ (opN_h hP hent hM lM hs hl H (N:=zG en) (fun q=>by rw [hl']; omega) hn0 zI6 (fun q h=>zD0 h)) (by rw [hl']; omega) hd hK
theorem Run_opZ {X:St} (Y:St × An) {f:FuncId} {ys:List SV} (M:Nat) (hP:C.P=Tryz.prog) (hent:∀ args w,(callFunc f args).run Tryz.prog w=.ok (.enter f args) w) (hM:zD en M=some (rwI X.items)) (hs:Sorted X.items) (hl:X.items.length≤100000000)
  (H:∀ (ρ:Nat→RE) w a c,StR w a X.items.length c X→Calls Tryz.prog f (Value.agg #[.slice a X.items.length c,.int .u64 X.cas,.int .i64 X.flush] :: ys.map (SV.den ρ)).toArray w (RemP w a X.items.length c X 2 Y)) (hn0:C.n0≤zG en)
  (hxs:qw sl args.toList=some (.g [.rw M X.items.length,.i .u64 X.cas,.i .i64 X.flush] :: ys)) (hd:∀ d,dst=some d→d < nt) (hK:Run C (.ops all r :: k) nt (jN dst (.t [.g [.sl (zG en) 0 0 0,.i .u64 Y.1.cas,.i .i64 Y.1.flush],.g (anS Y.2)]) sl) (zF en zrE)) :
  Run C (.ops all (⟨dst,.call ⟨.value (.func f),args,tys⟩,ty,pos,af,none⟩ :: r) :: k) nt sl en:=by
 have lM:M < zG en:=zO9 hM
 have hl':zG (zF en zrE)=zG en+1:=zE7
 exact zF5 hxs _ _ (opZ_h hP hent hM lM hs hl H (N:=zG en) (fun q=>by rw [hl']; omega) hn0 zI6 (fun q h=>zD0 h)) (by rw [hl']; omega) hd hK
end
theorem rputr_h {C:Cx} {nE M N:Nat} {mk:Nat→Prop} {en en':List EN} {X:St} (hP:C.P=Tryz.prog) (hM:zD en M=some (rwI X.items)) (lM:M < nE) (hs:Sorted X.items) (hl:X.items.length≤100000000) (x:It) {L:List It} (hL:(zH7 X x).items=L)
  (hmk:∀ q,mk q ↔ q=N) (hn0:C.n0≤N) (hN:zD en' N=some (rwI L)) (hq:∀ q,q ≠ N→zD en' q=zD en q) :
  zL3 C nE mk en en' 28 [.g [.rw M X.items.length,.i .u64 X.cas,.i .i64 X.flush],.g (itS x)] (.g [.rw N L.length,.i .u64 X.cas,.i .i64 X.flush]):=by
 refine zO2 (vals:=zC8 L) (fun args w=>by rw [hP]; exact Tryz.call28 args w) hmk hn0 hN hq (by show ¬ (33:Nat)=zG0; decide) (fun ρ=>zD3 ρ _) (fun pr=>zD7 pr _) (fun pr h=>zD6 h) ?_
 intro ρ pr w' hw' hpr _
 rw [hP]
 obtain ⟨a,c,hv,hst⟩:=row_str hw' hM (hpr M lM) hs hl X.cas X.flush
 have hp:=rput_w (X:=X) hst.h0 hst.ha hs rfl hst.hnc hst.hcm hl x
 have hargs:(List.map (SV.den ρ) [.g [.rw M X.items.length,.i .u64 X.cas,.i .i64 X.flush],.g (itS x)]).toArray=#[.agg #[.slice a X.items.length c,.int .u64 X.cas,.int .i64 X.flush],.agg (itA x)]:=by
  rw [← hv]; rfl
 rw [hargs]
 rw [hL] at hp
 refine hp.mono ?_
 rintro z w'' ⟨⟨r,hr,rfl⟩,hb⟩
 refine ⟨r,hr.made (fun ρ=>zD3 ρ _),fun ρ' _ h=>?_,hb⟩
 rw [← h]; rfl
end Go.Proofs.YtfpeholdlkfmoaaGreatDoor
/- A walk: values told in another way, where a fact on where entries lie makes them the same; a row as a slice with a room that is a letter. No program in sight. -/
namespace Go.Proofs.YtfpeholdlkfmoaaGreatDoor
set_option linter.unusedSimpArgs false
set_option linter.unusedVariables false
open Go.RowKit
section
variable {C:Cx} {nt:Nat} {sl:List (Nat × SV)} {en:List EN} {k:List KI}
def aliE (Φ:(Nat→RE)→Prop) (n:Nat):List EN→List EN→Prop
 | [],[]=>True
 | e :: l,e' :: l'=>(e.ty=e'.ty∧e.mu=e'.mu∧(∀ ρ:Nat→RE,Φ ρ→zC4 ρ e'.cells=zC4 ρ e.cells)∧(wfs (· < n) e.cells→wfs (· < n) e'.cells))∧aliE Φ n l l'
 | _,_=>False
theorem zX0 (Φ:(Nat→RE)→Prop) (n:Nat):∀ l:List EN,aliE Φ n l l
 | []=>trivial
 | _ :: l=>⟨⟨rfl,rfl,fun _ _=>rfl,id⟩,zX0 Φ n l⟩
theorem aliE_len {Φ:(Nat→RE)→Prop} {n:Nat}:∀ {l l':List EN},aliE Φ n l l'→l.length=l'.length
 | [],[],_=>rfl
 | _ :: l,_ :: l',h=>by simp [aliE_len h.2]
 | [],_ :: _,h=>h.elim
 | _ :: _,[],h=>h.elim
theorem zR0 {Φ:(Nat→RE)→Prop} {n:Nat}:∀ {l l':List EN},aliE Φ n l l'→∀ c e',zD l' c=some e'→∃ e,zD l c=some e∧e.ty=e'.ty∧e.mu=e'.mu∧(∀ ρ:Nat→RE,Φ ρ→zC4 ρ e'.cells=zC4 ρ e.cells)∧(wfs (· < n) e.cells→wfs (· < n) e'.cells)
 | [],[],_,c,e',h=>by simp [zD] at h
 | e :: l,e' :: l',h,0,x,hx=>by
  simp only [zD,Option.some.injEq] at hx; subst hx
  exact ⟨e,rfl,h.1.1,h.1.2.1,h.1.2.2.1,h.1.2.2.2⟩
 | e :: l,e' :: l',h,c+1,x,hx=>by
  simp only [zD] at hx ⊢
  exact zR0 h.2 c x hx
 | [],_ :: _,h,_,_,_=>h.elim
 | _ :: _,[],h,_,_,_=>h.elim
def aliS (Φ:(Nat→RE)→Prop) (n:Nat) (sl:List (Nat × SV)):List (Nat × SV)→Prop
 | []=>True
 | (d,v') :: r=>(∃ v,qy sl d=some v∧(∀ ρ:Nat→RE,Φ ρ→v'.den ρ=v.den ρ)∧(v.wf (· < n)→v'.wf (· < n)))∧aliS Φ n sl r
theorem aliS_get {Φ:(Nat→RE)→Prop} {n:Nat} {sl:List (Nat × SV)}:∀ {s:List (Nat × SV)},aliS Φ n sl s→∀ d v',qy s d=some v'→∃ v,qy sl d=some v∧(∀ ρ:Nat→RE,Φ ρ→v'.den ρ=v.den ρ)∧(v.wf (· < n)→v'.wf (· < n))
 | [],_,d,v,h=>by simp [qy] at h
 | (e,u) :: s,hs,d,v,h=>by
  simp only [qy] at h
  split at h
  ·rename_i e'; subst e'; simp only [Option.some.injEq] at h; subst h; exact hs.1
  ·exact aliS_get hs.2 d v h
theorem Rep.alias {Φ:(Nat→RE)→Prop} {ρ:Nat→RE} {a:Act} {w:World} {en':List EN} {sl':List (Nat × SV)} (hr:Rep C ρ nt sl en a w) (hΦ:Φ ρ) (hen:aliE Φ (zG en) en en') (hsl:aliS Φ (zG en) sl sl'):Rep C ρ nt sl' en' a w:=by
 rw [zC0] at hen hsl
 have hlen:=aliE_len hen
 have hdd:∀ c,c < en'.length→zF0 (ρ c) (zD en' c)=false→zF0 (ρ c) (zD en c)=false:=by
  intro c hc hd
  obtain ⟨e',he'⟩:∃ e',zD en' c=some e':=⟨_,by rw [zA8]; exact List.getElem?_eq_getElem hc⟩
  obtain ⟨t1,c1,m1⟩:=e'
  obtain ⟨⟨t0,c0,m0⟩,q1,q2,_⟩:=zR0 hen c _ he'
  simp only at q2; subst q2
  exact (zB7 q1).2 ((zB7 he').1 hd)
 refine ⟨⟨?_,?_,?_,hr.hw.up,?_,hr.hw.ini⟩,?_,hr.sz,hr.df,by have:=hr.n0; omega⟩
 ·intro c t cells mu' hc he
  obtain ⟨⟨t0,c0,m0⟩,q1,q2,q3,q4,q5⟩:=zR0 hen c _ he
  simp only at q2 q3 q4 q5
  subst q2; subst q3
  have hc:c < en'.length:=hc
  have hh:=hr.hw.hp c t0 c0 m0 (by show c < en.length; omega) q1
  have hd:=q4 ρ hΦ
  have nil:c0=[]→cells=[]:=fun e=>by rw [e] at hd; simpa [zC4] using hd
  refine ⟨fun hl=>by rw [hd]; exact hh.heap hl,?_,fun hd'=>⟨nil (hh.dead hd').1,(hh.dead hd').2⟩,fun hn=>nil (hh.non hn)⟩
  have:=q5 hh.wf
  rwa [hlen] at this
 ·intro c t cells mu' hc he
  obtain ⟨⟨t0,c0,m0⟩,q1,q2,q3,q4,q5⟩:=zR0 hen c _ he
  simp only at q2 q4; subst q2
  have hc:c < en'.length:=hc
  exact hr.hw.ho c t0 c0 m0 (by show c < en.length; omega) q1
 ·intro c d hc hd h1 h2 h3
  have hc:c < en'.length:=hc
  have hd:d < en'.length:=hd
  exact hr.hw.inj c d (by show c < en.length; omega) (by show d < en.length; omega) (hdd c hc h1) (hdd d hd h2) h3
 ·intro c t cells hc he
  obtain ⟨⟨t0,c0,m0⟩,q1,q2,q3,q4,q5⟩:=zR0 hen c _ he
  simp only at q2 q3; subst q2; subst q3
  have hc:c < en'.length:=hc
  exact hr.hw.mu c t0 c0 (by show c < en.length; omega) q1
 ·intro d v' hd
  obtain ⟨v,q1,q2,q3⟩:=aliS_get hsl d v' hd
  obtain ⟨t1,t2⟩:=hr.tm d v q1
  rw [q2 ρ hΦ]
  refine ⟨t1,?_⟩
  have:=q3 t2
  rwa [hlen] at this
theorem Run_alias {M:Type} {Φ:M→(Nat→RE)→Prop} {en':M→List EN} {sl':M→List (Nat × SV)} (hΦ:∀ ρ w,Hw C ρ (· < en.length) en w→∃ m,Φ m ρ) (hen:∀ m,aliE (Φ m) (zG en) en (en' m)) (hsl:∀ m,aliS (Φ m) (zG en) sl (sl' m)) (h:∀ m,Run C k nt (sl' m) (en' m)):Run C k nt sl en:=by
 intro ρ a w hr
 obtain ⟨m,hm⟩:=hΦ ρ w hr.hw
 exact h m ρ a w (hr.alias hm (hen m) (hsl m))
theorem row_sl {e z n N:Nat} {cells:List SC} {ρ:Nat→RE} {w:World} (hw:Hw C ρ (· < en.length) en w) (hN:zD en N=some (rwE e z n cells)) (hne:n ≠ 0):∃ m:{ m:Nat // n≤m∧m≤maxLen },(SC.sl N 0 n m.1).den ρ=(SC.rw N n).den ρ:=by
 have lN:N < en.length:=by rw [zA8] at hN; exact (List.getElem?_eq_some_iff.1 hN).1
 obtain ⟨_,_,h⟩:=hw.ho N _ _ _ lN hN
 rcases h with ⟨h1,h2,h3,h4,h5⟩ | ⟨h1,h2,h3⟩
 ·refine ⟨⟨(ρ N).cap,h4,h5⟩,?_⟩
  simp only [SC.den,h2,List.length_nil,Nat.zero_add]
  rw [zG2 h1]
 ·exact absurd h2 hne
end
end Go.Proofs.YtfpeholdlkfmoaaGreatDoor
/- The document's Apply, walked. Printed by gen_refw10.py. -/
namespace Go.Proofs.YtfpeholdlkfmoaaGreatDoor
set_option linter.unusedSimpArgs false
set_option linter.unusedVariables false
set_option maxHeartbeats 8000000
open Go.RowKit
set_option maxRecDepth 100000
theorem live_mem {X:St} {now:Int} {x:It} (h:x∈(zE4 X now).items):x∈X.items:=by
 unfold zE4 at h
 split at h
 ·cases h
 ·exact (List.mem_filter.1 h).1
theorem live_len (X:St) (now:Int):(zE4 X now).items.length≤X.items.length:=by
 unfold zE4
 split
 ·exact Nat.zero_le _
 ·exact List.length_filter_le _ _
theorem zQ3 (X:St) (x:It):(zH7 X x).items.length≤X.items.length+1:=by
 unfold zH7
 simp only [List.length_append,List.length_cons,List.length_take,List.length_drop]
 split <;> omega
theorem rFit_len (X:St) (most st num:Int) (y:It):(rFit X most st num y).1.items.length≤X.items.length+1:=by
 unfold rFit
 split
 ·exact Nat.le_succ _
 ·exact zQ3 { X with cas:=nx X } _
theorem rDo_len (X:St) (now:Int) (c:Cd) (most:Int) (x:It) (is:Bool):(rDo X now c most x is).1.items.length≤X.items.length+1:=by
 unfold rDo
 split
 ·unfold rGet
  split
  ·exact Nat.le_succ _
  split
  ·exact zQ3 { X with cas:=nx X } _
  ·exact zQ3 X _
 split
 ·unfold zE5
  split
  ·exact Nat.le_succ _
  split
  ·exact Nat.le_succ _
  split
  ·exact Nat.le_succ _
  exact rFit_len _ _ _ _ _
 split
 ·unfold zI5
  split
  ·exact Nat.le_succ _
  split
  ·exact rFit_len _ _ _ _ _
  split
  ·exact Nat.le_succ _
  split
  ·exact Nat.le_succ _
  ·exact rFit_len _ _ _ _ _
 split
 ·split
  ·exact Nat.le_succ _
  ·exact Nat.zero_le _
 split
 ·exact Nat.le_succ _
 split
 ·unfold zE3
  split
  ·exact Nat.le_succ _
  split
  ·unfold zF6
   split
   ·simp only [List.length_append,List.length_take,List.length_drop]; omega
   ·exact Nat.le_succ _
  ·exact zQ3 { X with cas:=nx X } _
 split
 ·exact Nat.le_succ _
 ·exact zQ3 X _
theorem ref_len (X:St) (now:Int) (c:Cd) (most:Int):(refF X now c most).1.items.length≤X.items.length+1:=by
 unfold refF
 split
 ·have h1:=rDo_len (zE4 X now) now c most (if isF (zE4 X now).items c.key then itF (zE4 X now).items (atF (zE4 X now).items c.key) else It.zero) (isF (zE4 X now).items c.key)
  have h2:=live_len X now
  omega
 ·exact Nat.zero_le _
theorem zV0 {X:St} {most st num:Int} {y:It} (hs:st ≠ 11) (h:(rFit X most st num y).2.st ≠ st):(rFit X most st num y).1=X:=by
 unfold rFit at h ⊢
 split
 ·rfl
 ·rename_i hf; rw [if_neg hf] at h; exact absurd rfl h
theorem rStore_same {X:St} {now:Int} {c:Cd} {x:It} {is:Bool} {most:Int} (h:(zE5 X now c x is most).2.st ≠ 2):(zE5 X now c x is most).1=X:=by
 unfold zE5 at h ⊢
 split
 ·rfl
 split
 ·rfl
 split
 ·rfl
 rename_i h1 h2 h3
 rw [if_neg h1,if_neg h2,if_neg h3] at h
 exact zV0 (by decide) h
theorem rMath_same {X:St} {now:Int} {c:Cd} {x:It} {is:Bool} {most:Int} (h:(zI5 X now c x is most).2.st ≠ 6):(zI5 X now c x is most).1=X:=by
 unfold zI5 at h ⊢
 split
 ·rfl
 split
 ·rename_i h1 h2
  rw [if_neg h1,if_pos h2] at h
  exact zV0 (by decide) h
 split
 ·rfl
 rename_i h1 h2 h3
 rw [if_neg h1,if_neg h2,if_neg h3] at h
 generalize (if c.down then subV x.val c.delta else addV x.val c.delta)=r at h ⊢
 cases r with
 | none=>rfl
 | some v=>exact zV0 (by decide) h
theorem rapply_w {w:World} {a:Option Addr} {n c:Nat} {X:St} (ha:RawI w a X.items) (hs:Sorted X.items) (hn:n=X.items.length) (hl:n≤100000000) (now:Int) (cd:Cd) (most:Int) (hk2:cd.key.length≤9223372036854775807) (hv2:cd.val.length≤1000000000) (hd0:0≤cd.delta) (hd1:cd.delta < 18446744073709551616) (hi0:0≤cd.init) (hi1:cd.init < 18446744073709551616)
  (hbd:∀ x∈X.items,x.key.length≤1000000000∧x.val.length≤1000000000∧0≤x.exp∧x.exp≤9223372036854775807) :
  Calls Tryz.prog 11 #[.agg #[.slice a n c,.int .u64 X.cas,.int .i64 X.flush],.int .i64 now,.agg (cdA cd),.int .i64 most] w (AppR (refF X now cd most) w):=by
 refine zA9 Tryz.func11 rfl kp11 (S:=Non) (ρ:=fun _=>⟨0,[],[],0,none⟩) (en:=[]) [.g [.v (.slice a n c),.i .u64 X.cas,.i .i64 X.flush],.c (.i .i64 now),.g (cdS cd),.c (.i .i64 most)] Tryz.ntmps11 (At.nil _ _ _) (by intro y hy; simp only [List.mem_cons,List.not_mem_nil,or_false] at hy; rcases hy with rfl | rfl | rfl | rfl; exact zD6 trivial; trivial; exact zW6 _ _; trivial) (by simp) ?_
 intro C hC hP hk
 have hS:C.S=Non:=by rw [hC]; rfl
 have hw:C.w0=w:=by rw [hC]; rfl
 have hn0:C.n0=0:=by rw [hC]; rfl
 have hkl:cd.key.length≤9223372036854775807:=hk2
 have fin:∀ (Y':St × An) (v:SC) (en:List EN),refF X now cd most=Y'→OwnS en Y'.1.items v→Fin C res11 (.t [.g [v,.i .u64 Y'.1.cas,.i .i64 Y'.1.flush],.g (anS Y'.2)]) en:=fun Y' v en h1 h2=>by
  refine zH5 (v:=.t [.g [v,.i .u64 Y'.1.cas,.i .i64 Y'.1.flush],.g (anS Y'.2)]) hC hres11 fun ρ w' hw' _ _=>?_
  have hup:=hw'.up
  rw [hC] at hup
  rw [h1]
  have k:=own_S hw' hS h2
  rw [hw] at k
  exact ⟨_,rfl,k,hup.to_below⟩
 by_cases hm:zK1 cd=true∧1≤now∧now≤1099511627776
 rotate_left
 ·have hctr:zE8 C (raC []):=raC_ok hP Sorted.nil (by decide)
  have hbad:refF X now cd most=(St.zero,An.zero):=by unfold refF; rw [if_neg hm]
  cases hmb:zK1 cd with
  | false =>
   have hmb':zK1 ⟨cd.op,cd.mode,cd.key,cd.val,cd.flags,cd.exp,cd.hasExp,cd.cas,cd.hasCas,cd.delta,cd.init,cd.down,cd.viv,cd.vive,cd.recache,cd.inval⟩=false:=hmb
   (refine zA4 hctr (rs:=res11) true 300 _ _ _ ?_; simp (maxSteps:=1000000) only [VT,jf,jd,qE,qF,qG,qH,qI,qJ,qK,qO,qP,qT,qf,qg,qp,q0t,qu,qv,ev,qw,qy,qz,zA,zB,zC,zD,zE,zF,zG,zI,zJ,zK,zM,↓reduceIte,reduceCtorEq,Value.oneCell',Nat.reduceEqDiff,Nat.reduceAdd,Nat.reduceLT,zP,zQ,zR,zV,zW,zt,hP,hk,res11,kp11,raC,zR6,cdS,hkl,Nat.reduceAdd,hmb'])
   exact fin (St.zero,An.zero) (.v (.slice none 0 0)) _ hbad (.inr ⟨rfl,.inl rfl⟩)
  | true =>
   have hmb':zK1 ⟨cd.op,cd.mode,cd.key,cd.val,cd.flags,cd.exp,cd.hasExp,cd.cas,cd.hasCas,cd.delta,cd.init,cd.down,cd.viv,cd.vive,cd.recache,cd.inval⟩=true:=hmb
   by_cases h1:now < 1
   ·have h1':decide (now < 1)=true:=decide_eq_true h1
    (refine zA4 hctr (rs:=res11) true 300 _ _ _ ?_; simp (maxSteps:=1000000) only [VT,jf,jg,jZ,jd,qE,qF,qG,qH,qI,qJ,qK,qO,qP,qR,qS,qT,qf,qg,qp,q0t,qu,qv,ev,qw,qy,qz,zA,zB,zC,zD,zE,zF,zG,zI,zJ,zK,zM,↓reduceIte,reduceCtorEq,Value.oneCell',Nat.reduceEqDiff,Nat.reduceAdd,Nat.reduceLT,zP,zQ,zR,zV,zW,zt,hP,hk,res11,kp11,raC,zR6,cdS,hkl,Nat.reduceAdd,hmb',h1'])
    exact fin (St.zero,An.zero) (.v (.slice none 0 0)) _ hbad (.inr ⟨rfl,.inl rfl⟩)
   ·have h1':decide (now < 1)=false:=decide_eq_false h1
    have h2':decide (1099511627776 < now)=true:=decide_eq_true (by
     rcases Int.lt_or_le 1099511627776 now with h | h
     ·exact h
     ·exact absurd ⟨hmb,by omega,h⟩ hm)
    (refine zA4 hctr (rs:=res11) true 300 _ _ _ ?_; simp (maxSteps:=1000000) only [VT,jf,jg,jZ,qE,qF,qG,qH,qI,qJ,qK,qO,qP,qR,qS,qT,qf,qg,qp,q0t,qu,qv,ev,qw,qy,qz,zA,zB,zC,zD,zE,zF,zG,zI,zJ,zK,zM,↓reduceIte,reduceCtorEq,Value.oneCell',Nat.reduceEqDiff,Nat.reduceAdd,Nat.reduceLT,zP,zQ,zR,zV,zW,zt,hP,hk,res11,kp11,raC,zR6,cdS,hkl,Nat.reduceAdd,hmb',h1',h2'])
    exact fin (St.zero,An.zero) (.v (.slice none 0 0)) _ hbad (.inr ⟨rfl,.inl rfl⟩)
 obtain ⟨hmb,hn1,hn2⟩:=hm
 have hnow:=And.intro hn1 hn2
 have hkk:cd.op ≠ 6→cd.key.length≤1000000000:=fun h6=>by
  have:=key_lt ((may_split hmb).1.resolve_left h6)
  omega
 have hmb':zK1 ⟨cd.op,cd.mode,cd.key,cd.val,cd.flags,cd.exp,cd.hasExp,cd.cas,cd.hasCas,cd.delta,cd.init,cd.down,cd.viv,cd.vive,cd.recache,cd.inval⟩=true:=hmb
 have n1:decide (now < 1)=false:=decide_eq_false (by omega)
 have n2:decide (1099511627776 < now)=false:=decide_eq_false (by omega)
 obtain ⟨Y,hY⟩:∃ Y,zE4 X now=Y:=⟨_,rfl⟩
 have hsY:Sorted Y.items:=by rw [← hY]; exact zM9 now hs
 have hlY:Y.items.length≤100000000:=by
  have:=live_len X now
  rw [hY] at this; omega
 have hbY:∀ x∈Y.items,x.key.length≤1000000000∧x.val.length≤1000000000∧0≤x.exp∧x.exp≤9223372036854775807:=fun x hx=>hbd x (live_mem (by rw [hY]; exact hx))
 have hctr:zE8 C (raC Y.items):=raC_ok hP hsY hlY
 obtain ⟨is,his⟩:∃ is,isF Y.items cd.key=is:=⟨_,rfl⟩
 obtain ⟨x0,hx0⟩:∃ x0,(if isF Y.items cd.key then itF Y.items (atF Y.items cd.key) else It.zero)=x0:=⟨_,rfl⟩
 have hRef:refF X now cd most=rDo Y now cd most x0 is:=by
  unfold refF
  rw [if_pos ⟨hmb,hn1,hn2⟩,hY,hx0,his]
 have hbx:x0.key.length≤1000000000∧x0.val.length≤1000000000∧0≤x0.exp∧x0.exp≤9223372036854775807:=by
  rw [← hx0]
  cases hi:isF Y.items cd.key with
  | false=>exact ⟨Nat.zero_le _,Nat.zero_le _,Int.le_refl 0,(show (0:Int)≤9223372036854775807 by decide)⟩
  | true =>
   have hlt:=zE6 hi
   refine hbY _ ?_
   have:itF Y.items (atF Y.items cd.key)=Y.items[atF Y.items cd.key]:=by unfold itF; rw [List.getD_eq_getElem?_getD,List.getElem?_eq_getElem hlt]; rfl
   rw [if_pos rfl,this]
   exact List.getElem_mem hlt
 (refine zA4 hctr (rs:=res11) true 300 _ _ _ ?_; simp (maxSteps:=1000000) only [VT,jg,jZ,qH,qI,qK,qO,qP,qR,qS,qT,qp,q0t,qu,qv,ev,qw,qy,qz,zA,zB,zD,zF,zG,zI,zJ,zK,zM,↓reduceIte,reduceCtorEq,Value.oneCell',Nat.reduceEqDiff,Nat.reduceAdd,Nat.reduceLT,zP,zQ,zR,zV,zW,zt,hP,hk,res11,kp11,raC,zR6,rgC,cdS,hkl,Nat.reduceAdd,hmb',n1,n2])
 refine Run_rlive Y hP hS hw ha hn hl hY (by rw [hn0]; exact Nat.zero_le _) rfl (by simp) ?_
 (refine zA4 hctr (rs:=res11) true 25 _ _ _ ?_; simp (maxSteps:=1000000) only [VT,qH,qI,qJ,qK,qO,qP,qV,qf,qg,qh,q0t,qu,qv,ev,qw,qy,zA,zB,zC,zD,zE,zF,zG,zI,zJ,TE.sv,zM,↓reduceIte,reduceCtorEq,Nat.reduceEqDiff,Nat.reduceAdd,Nat.reduceLT,zP,zQ,zR,zT,zt,rwE,jN,hP,hk,kp11,raC,rowFindR,Nat.reduceAdd,his,rwI])
 refine zN0 (κ:=Unit) (fun _=>[(13,.c (.p 5 0)),(12,.c (.b is)),(9,.c (.p 3 0)),(8,.c (.p 2 0)),(6,.c (.p 1 0)),(4,.c (.p 0 0)),(3,.c (.i .i64 most)),(1,.c (.i .i64 now))]) (fun _=>[⟨(25,0,whole),[.rw 4 Y.items.length,.i .u64 Y.cas,.i .i64 Y.flush],true⟩,⟨(28,0,whole),cdS cd,true⟩,⟨(25,0,whole),[.v (.slice none 0 0),.i .u64 0,.i .i64 0],true⟩,⟨(35,0,whole),[.i .i64 0,.s [],.i .u32 0,.s [],.i .i64 0,.i .u64 0,.i .i64 0,.b false,.b false,.i .u64 0,.b false,.b false,.b false],true⟩,rwI Y.items,⟨(33,0,whole),itS x0,true⟩]) (fun _=>?_) fun use=>?_
 rotate_left
 ·have use:=use ()
  cases is with
  | false =>
   have hz:x0=It.zero:=by rw [← hx0,his]; rfl
   (refine zA4 hctr (rs:=res11) true 2 _ _ _ ?_; simp (maxSteps:=1000000) only [VT,jg,ev,qy,↓reduceIte,zW,res11])
   rw [hz] at use
   exact use _ (zC6 ⟨rfl,rfl,rfl,rfl,rfl,rfl,rfl,rfl,trivial⟩)
  | true =>
   have hlt:=zE6 his
   obtain ⟨x,hx⟩:∃ x,Y.items[atF Y.items cd.key]?=some x:=⟨_,List.getElem?_eq_getElem hlt⟩
   have hxx:x0=x:=by rw [← hx0,if_pos his]; unfold itF; rw [List.getD_eq_getElem?_getD,hx]; rfl
   obtain ⟨i,hi⟩:∃ i,atF Y.items cd.key=i:=⟨_,rfl⟩
   rw [hi] at hlt hx
   have p0:(0:Int)≤(i:Int):=by omega
   have p1:(i:Int) < (Y.items.length:Int):=by omega
   have ht:zB (i * 8) 8 (zB2 itS Y.items)=some (itS x):=flatG_take zK0 hx
   (refine zA4 hctr (rs:=res11) true 5 _ _ _ ?_; simp (maxSteps:=1000000) only [VT,jf,qH,qI,qK,qO,qP,qV,ev,qy,zD,zM,↓reduceIte,Nat.reduceEqDiff,Nat.reduceLT,zR,zV,zu,hP,res11,hi])
   refine Run_alias (M:={ m:Nat // Y.items.length≤m∧m≤maxLen }) (Φ:=fun m ρ=>(SC.sl 4 0 Y.items.length m.1).den ρ=(SC.rw 4 Y.items.length).den ρ) (en':=fun _=>[⟨(25,0,whole),[.rw 4 Y.items.length,.i .u64 Y.cas,.i .i64 Y.flush],true⟩,⟨(28,0,whole),cdS cd,true⟩,⟨(25,0,whole),[.v (.slice none 0 0),.i .u64 0,.i .i64 0],true⟩,⟨(35,0,whole),[.i .i64 0,.s [],.i .u32 0,.s [],.i .i64 0,.i .u64 0,.i .i64 0,.b false,.b false,.i .u64 0,.b false,.b false,.b false],true⟩,rwI Y.items,⟨(33,0,whole),itS It.zero,true⟩]) (sl':=fun m=>[(43,.c (.i .i64 (i:Int))),(42,.c (.sl 4 0 Y.items.length m.1)),(13,.c (.p 5 0)),(12,.c (.b true)),(9,.c (.p 3 0)),(8,.c (.p 2 0)),(6,.c (.p 1 0)),(4,.c (.p 0 0)),(3,.c (.i .i64 most)),(1,.c (.i .i64 now))]) (fun ρ w hw=>row_sl (N:=4) (n:=Y.items.length) hw rfl (by omega)) (fun _=>zX0 _ _ _) (fun m=>⟨⟨_,rfl,fun _ _=>rfl,id⟩,⟨_,rfl,fun _ h=>h,id⟩,⟨_,rfl,fun _ _=>rfl,id⟩,⟨_,rfl,fun _ _=>rfl,id⟩,⟨_,rfl,fun _ _=>rfl,id⟩,⟨_,rfl,fun _ _=>rfl,id⟩,⟨_,rfl,fun _ _=>rfl,id⟩,⟨_,rfl,fun _ _=>rfl,id⟩,⟨_,rfl,fun _ _=>rfl,id⟩,⟨_,rfl,fun _ _=>rfl,id⟩,trivial⟩) fun m=>?_
   (refine zA4 hctr (rs:=res11) true 4 _ _ _ ?_; simp (maxSteps:=1000000) only [VT,qH,qI,qJ,qK,qP,qX,q0t,qu,qv,ev,qy,zC,zD,zE,zG,zI,zJ,zM,↓reduceIte,reduceCtorEq,Nat.reduceEqDiff,Nat.reduceAdd,Nat.reduceLT,zP,zQ,zR,zT,zh,zt,rwE,hP,hk,kp11,cdS,itS,Nat.reduceAdd,p0,p1,ht,rwI,rwE])
   rw [hxx] at use
   exact use _ (zC6 ⟨rfl,rfl,rfl,rfl,rfl,rfl,rfl,rfl,trivial⟩)
 show Run C _ 125 [(13,.c (.p 5 0)),(12,.c (.b is)),(9,.c (.p 3 0)),(8,.c (.p 2 0)),(6,.c (.p 1 0)),(4,.c (.p 0 0)),(3,.c (.i .i64 most)),(1,.c (.i .i64 now))] [⟨(25,0,whole),[.rw 4 Y.items.length,.i .u64 Y.cas,.i .i64 Y.flush],true⟩,⟨(28,0,whole),cdS cd,true⟩,⟨(25,0,whole),[.v (.slice none 0 0),.i .u64 0,.i .i64 0],true⟩,⟨(35,0,whole),[.i .i64 0,.s [],.i .u32 0,.s [],.i .i64 0,.i .u64 0,.i .i64 0,.b false,.b false,.i .u64 0,.b false,.b false,.b false],true⟩,rwI Y.items,⟨(33,0,whole),itS x0,true⟩]
 by_cases h1:cd.op=1
 ·have o1:(cd.op == 1)=true:=by simpa using h1
  have hR:refF X now cd most=rGet Y now cd x0 is:=by rw [hRef]; unfold rDo; rw [if_pos h1]
  obtain ⟨R,hRe⟩:∃ R,rGet Y now cd x0 is=R:=⟨_,rfl⟩
  have hit:(!is && !cd.viv)=true→R.1.items=Y.items:=fun h=>by rw [← hRe]; unfold rGet; rw [if_pos h]
  cases hsm:(!is && !cd.viv) with
  | true =>
   (refine zA4 hctr (rs:=res11) true 300 _ _ _ ?_; simp (maxSteps:=1000000) only [VT,jf,qH,qI,qK,qO,qP,qR,qS,qV,ev,qw,qy,qz,zA,zB,zD,zI,zJ,zM,↓reduceIte,reduceCtorEq,Nat.reduceEqDiff,Nat.reduceLT,zP,zQ,zR,zV,zu,rwE,hP,hk,res11,kp11,raC,rgC,cdS,itS,o1,rwI])
   refine Run_opS R 4 hP (fun args w=>Tryz.call23 args w) rfl hsY hlY (fun ρ w a c h=>?_) rfl (by simp) ?_
   ·have:=rget_w h now hn1 hn2 cd x0 is hbx.2.2.1 hbx.2.2.2
    rw [hsm,hRe] at this; exact this
   (refine zA4 hctr (rs:=res11) true 300 _ _ _ ?_; simp (maxSteps:=1000000) only [VT,qE,qF,qG,qH,qI,qJ,qK,qP,qh,q0t,qu,qv,ev,qy,zA,zB,zC,zD,zE,zG,zI,zJ,TE.sv,zM,↓reduceIte,reduceCtorEq,Nat.reduceEqDiff,Nat.reduceAdd,Nat.reduceLT,zP,zQ,zR,zt,jN,hP,hk,res11,kp11,Nat.reduceAdd,anS])
   exact fin R (.rw 4 Y.items.length) _ (hR.trans hRe) (by rw [hit hsm]; exact .inl ⟨4,rfl,rfl⟩)
  | false =>
   (refine zA4 hctr (rs:=res11) true 300 _ _ _ ?_; simp (maxSteps:=1000000) only [VT,jf,qH,qI,qK,qO,qP,qR,qS,qV,ev,qw,qy,qz,zA,zB,zD,zI,zJ,zM,↓reduceIte,reduceCtorEq,Nat.reduceEqDiff,Nat.reduceLT,zP,zQ,zR,zV,zu,rwE,hP,hk,res11,kp11,raC,rgC,cdS,itS,o1,rwI])
   refine Run_opN R 4 hP (fun args w=>Tryz.call23 args w) rfl hsY hlY (fun ρ w a c h=>?_) (by rw [hn0]; exact Nat.zero_le _) rfl (by simp) ?_
   ·have:=rget_w h now hn1 hn2 cd x0 is hbx.2.2.1 hbx.2.2.2
    rw [hsm,hRe] at this; exact this
   (refine zA4 hctr (rs:=res11) true 300 _ _ _ ?_; simp (maxSteps:=1000000) only [VT,qE,qF,qG,qH,qI,qJ,qK,qP,qh,q0t,qu,qv,ev,qy,zA,zB,zC,zD,zE,zF,zG,zI,zJ,TE.sv,zM,↓reduceIte,reduceCtorEq,Nat.reduceEqDiff,Nat.reduceAdd,Nat.reduceLT,zP,zQ,zR,zt,rwE,jN,hP,hk,res11,kp11,Nat.reduceAdd,anS,rwI])
   exact fin R (.rw 6 R.1.items.length) _ (hR.trans hRe) (.inl ⟨6,rfl,rfl⟩)
 have o1:(cd.op == 1)=false:=by simpa using h1
 by_cases h2:cd.op=2
 ·have o2:(cd.op == 2)=true:=by simpa using h2
  have hR:refF X now cd most=zE5 Y now cd x0 is most:=by rw [hRef]; unfold rDo; rw [if_neg h1,if_pos h2]
  obtain ⟨R,hRe⟩:∃ R,zE5 Y now cd x0 is most=R:=⟨_,rfl⟩
  have hit:(!decide (R.2.st=2))=true→R.1.items=Y.items:=fun h=>by
   rw [← hRe] at h ⊢
   rw [rStore_same (by simpa using h)]
  cases hsm:(!decide (R.2.st=2)) with
  | true =>
   (refine zA4 hctr (rs:=res11) true 300 _ _ _ ?_; simp (maxSteps:=1000000) only [VT,jf,jg,qH,qI,qK,qO,qP,qR,qS,qV,ev,qw,qy,qz,zA,zB,zD,zI,zJ,zM,↓reduceIte,reduceCtorEq,Nat.reduceEqDiff,Nat.reduceLT,zP,zQ,zR,zV,zW,zu,rwE,hP,hk,res11,kp11,raC,rgC,cdS,itS,o1,o2,rwI])
   refine Run_opS R 4 hP (fun args w=>Tryz.call24 args w) rfl hsY hlY (fun ρ w a c h=>?_) rfl (by simp) ?_
   ·have:=rstore_w h now hn1 hn2 cd x0 is most hbx.1 hbx.2.1 (hkk (by omega)) hv2
    rw [hRe,hsm] at this; exact this
   (refine zA4 hctr (rs:=res11) true 300 _ _ _ ?_; simp (maxSteps:=1000000) only [VT,qE,qF,qG,qH,qI,qJ,qK,qP,qh,q0t,qu,qv,ev,qy,zA,zB,zC,zD,zE,zG,zI,zJ,TE.sv,zM,↓reduceIte,reduceCtorEq,Nat.reduceEqDiff,Nat.reduceAdd,Nat.reduceLT,zP,zQ,zR,zt,jN,hP,hk,res11,kp11,Nat.reduceAdd,anS])
   exact fin R (.rw 4 Y.items.length) _ (hR.trans hRe) (by rw [hit hsm]; exact .inl ⟨4,rfl,rfl⟩)
  | false =>
   (refine zA4 hctr (rs:=res11) true 300 _ _ _ ?_; simp (maxSteps:=1000000) only [VT,jf,jg,qH,qI,qK,qO,qP,qR,qS,qV,ev,qw,qy,qz,zA,zB,zD,zI,zJ,zM,↓reduceIte,reduceCtorEq,Nat.reduceEqDiff,Nat.reduceLT,zP,zQ,zR,zV,zW,zu,rwE,hP,hk,res11,kp11,raC,rgC,cdS,itS,o1,o2,rwI])
   refine Run_opN R 4 hP (fun args w=>Tryz.call24 args w) rfl hsY hlY (fun ρ w a c h=>?_) (by rw [hn0]; exact Nat.zero_le _) rfl (by simp) ?_
   ·have:=rstore_w h now hn1 hn2 cd x0 is most hbx.1 hbx.2.1 (hkk (by omega)) hv2
    rw [hRe,hsm] at this; exact this
   (refine zA4 hctr (rs:=res11) true 300 _ _ _ ?_; simp (maxSteps:=1000000) only [VT,qE,qF,qG,qH,qI,qJ,qK,qP,qh,q0t,qu,qv,ev,qy,zA,zB,zC,zD,zE,zF,zG,zI,zJ,TE.sv,zM,↓reduceIte,reduceCtorEq,Nat.reduceEqDiff,Nat.reduceAdd,Nat.reduceLT,zP,zQ,zR,zt,rwE,jN,hP,hk,res11,kp11,Nat.reduceAdd,anS,rwI])
   exact fin R (.rw 6 R.1.items.length) _ (hR.trans hRe) (.inl ⟨6,rfl,rfl⟩)
 have o2:(cd.op == 2)=false:=by simpa using h2
 by_cases h3:cd.op=3
 ·have o3:(cd.op == 3)=true:=by simpa using h3
  have hR:refF X now cd most=zI5 Y now cd x0 is most:=by rw [hRef]; unfold rDo; rw [if_neg h1,if_neg h2,if_pos h3]
  obtain ⟨R,hRe⟩:∃ R,zI5 Y now cd x0 is most=R:=⟨_,rfl⟩
  have hit:(!decide (R.2.st=6))=true→R.1.items=Y.items:=fun h=>by
   rw [← hRe] at h ⊢
   rw [rMath_same (by simpa using h)]
  cases hsm:(!decide (R.2.st=6)) with
  | true =>
   (refine zA4 hctr (rs:=res11) true 300 _ _ _ ?_; simp (maxSteps:=1000000) only [VT,jf,jg,qH,qI,qK,qO,qP,qR,qS,qV,ev,qw,qy,qz,zA,zB,zD,zI,zJ,zM,↓reduceIte,reduceCtorEq,Nat.reduceEqDiff,Nat.reduceLT,zP,zQ,zR,zV,zW,zu,rwE,hP,hk,res11,kp11,raC,rgC,cdS,itS,o1,o2,o3,rwI])
   refine Run_opS R 4 hP (fun args w=>Tryz.call25 args w) rfl hsY hlY (fun ρ w a c h=>?_) rfl (by simp) ?_
   ·have:=rmath_w h now hn1 hn2 cd x0 is most hbx.1 hbx.2.1 (hkk (by omega)) hd0 hd1 hi0 hi1
    rw [hRe,hsm] at this; exact this
   (refine zA4 hctr (rs:=res11) true 300 _ _ _ ?_; simp (maxSteps:=1000000) only [VT,qE,qF,qG,qH,qI,qJ,qK,qP,qh,q0t,qu,qv,ev,qy,zA,zB,zC,zD,zE,zG,zI,zJ,TE.sv,zM,↓reduceIte,reduceCtorEq,Nat.reduceEqDiff,Nat.reduceAdd,Nat.reduceLT,zP,zQ,zR,zt,jN,hP,hk,res11,kp11,Nat.reduceAdd,anS])
   exact fin R (.rw 4 Y.items.length) _ (hR.trans hRe) (by rw [hit hsm]; exact .inl ⟨4,rfl,rfl⟩)
  | false =>
   (refine zA4 hctr (rs:=res11) true 300 _ _ _ ?_; simp (maxSteps:=1000000) only [VT,jf,jg,qH,qI,qK,qO,qP,qR,qS,qV,ev,qw,qy,qz,zA,zB,zD,zI,zJ,zM,↓reduceIte,reduceCtorEq,Nat.reduceEqDiff,Nat.reduceLT,zP,zQ,zR,zV,zW,zu,rwE,hP,hk,res11,kp11,raC,rgC,cdS,itS,o1,o2,o3,rwI])
   refine Run_opN R 4 hP (fun args w=>Tryz.call25 args w) rfl hsY hlY (fun ρ w a c h=>?_) (by rw [hn0]; exact Nat.zero_le _) rfl (by simp) ?_
   ·have:=rmath_w h now hn1 hn2 cd x0 is most hbx.1 hbx.2.1 (hkk (by omega)) hd0 hd1 hi0 hi1
    rw [hRe,hsm] at this; exact this
   (refine zA4 hctr (rs:=res11) true 300 _ _ _ ?_; simp (maxSteps:=1000000) only [VT,qE,qF,qG,qH,qI,qJ,qK,qP,qh,q0t,qu,qv,ev,qy,zA,zB,zC,zD,zE,zF,zG,zI,zJ,TE.sv,zM,↓reduceIte,reduceCtorEq,Nat.reduceEqDiff,Nat.reduceAdd,Nat.reduceLT,zP,zQ,zR,zt,rwE,jN,hP,hk,res11,kp11,Nat.reduceAdd,anS,rwI])
   exact fin R (.rw 6 R.1.items.length) _ (hR.trans hRe) (.inl ⟨6,rfl,rfl⟩)
 have o3:(cd.op == 3)=false:=by simpa using h3
 by_cases h6:cd.op=6
 ·have o6:(cd.op == 6)=true:=by simpa using h6
  by_cases hmo:now < zJ1 now cd.exp
  ·have m1:decide (now < zJ1 now cd.exp)=true:=decide_eq_true hmo
   (refine zA4 hctr (rs:=res11) true 300 _ _ _ ?_; simp (maxSteps:=1000000) only [VT,jf,jg,qE,qF,qG,qH,qI,qJ,qK,qO,qP,qR,qS,qV,qf,qg,q0t,qu,qv,ev,qw,qy,qz,zA,zB,zC,zD,zE,zG,zI,zJ,zM,↓reduceIte,reduceCtorEq,Nat.reduceEqDiff,Nat.reduceAdd,Nat.reduceLT,zP,zQ,zR,zT,zV,zW,zt,zu,rwE,hP,hk,res11,kp11,raC,rgC,zG3,cdS,itS,Nat.reduceAdd,o1,o2,o3,o6,m1,hnow,rwI])
   exact fin ({ Y with flush:=zJ1 now cd.exp },zA6 10) (.rw 4 Y.items.length) _ (by rw [hRef]; unfold rDo; rw [if_neg h1,if_neg h2,if_neg h3,if_pos h6,if_pos hmo]) (.inl ⟨4,rfl,rfl⟩)
  ·have m1:decide (now < zJ1 now cd.exp)=false:=decide_eq_false hmo
   (refine zA4 hctr (rs:=res11) true 300 _ _ _ ?_; simp (maxSteps:=1000000) only [VT,jf,jg,qE,qF,qG,qH,qI,qJ,qK,qO,qP,qR,qS,qV,qf,qg,q0t,qu,qv,ev,qw,qy,qz,zA,zB,zC,zD,zE,zG,zI,zJ,zM,↓reduceIte,reduceCtorEq,Value.oneCell',Nat.reduceEqDiff,Nat.reduceAdd,Nat.reduceLT,zP,zQ,zR,zT,zV,zW,zt,zu,rwE,hP,hk,res11,kp11,raC,rgC,zG3,cdS,itS,Nat.reduceAdd,o1,o2,o3,o6,m1,hnow,rwI])
   exact fin ({ Y with items:=[],flush:=0 },zA6 10) (.v (.slice none 0 0)) _ (by rw [hRef]; unfold rDo; rw [if_neg h1,if_neg h2,if_neg h3,if_pos h6,if_neg hmo]) (.inr ⟨rfl,.inl rfl⟩)
 have o6:(cd.op == 6)=false:=by simpa using h6
 cases is with
 | false =>
  (refine zA4 hctr (rs:=res11) true 300 _ _ _ ?_; simp (maxSteps:=1000000) only [VT,jf,jg,qE,qF,qG,qH,qI,qJ,qK,qO,qP,qR,qS,qT,qV,qf,qg,q0t,qu,qv,ev,qy,qz,zA,zB,zC,zD,zE,zG,zI,zJ,zM,↓reduceIte,reduceCtorEq,Nat.reduceEqDiff,Nat.reduceAdd,Nat.reduceLT,zP,zQ,zR,zV,zW,zt,zu,rwE,hP,hk,res11,kp11,cdS,itS,Nat.reduceAdd,o1,o2,o3,o6,rwI])
  exact fin (Y,zA6 5) (.rw 4 Y.items.length) _ (by rw [hRef]; unfold rDo; rw [if_neg h1,if_neg h2,if_neg h3,if_neg h6,if_pos (by rfl)]) (.inl ⟨4,rfl,rfl⟩)
 | true =>
 have hRx:refF X now cd most=if cd.op=5 then zE3 Y now cd x0 else if cd.op=7 then (Y,⟨1,x0,0,false,false,false⟩) else (zH7 Y { x0 with exp:=zJ1 now cd.exp },⟨8,{ x0 with exp:=zJ1 now cd.exp },0,false,false,false⟩):=by
  rw [hRef]; unfold rDo; rw [if_neg h1,if_neg h2,if_neg h3,if_neg h6,if_neg (by simp)]
 by_cases h5:cd.op=5
 ·have o5:(cd.op == 5)=true:=by simpa using h5
  have hR:refF X now cd most=zE3 Y now cd x0:=by rw [hRx,if_pos h5]
  obtain ⟨R,hRe⟩:∃ R,zE3 Y now cd x0=R:=⟨_,rfl⟩
  obtain ⟨kn,hkn⟩:∃ kn:Nat,(if (cd.hasCas && !(x0.cas == cd.cas))=true then 0 else if cd.inval=false then (if Y.items.length=1 then 2 else 1) else (1:Nat))=kn:=⟨_,rfl⟩
  have hw9:∀ w a c,StR w a Y.items.length c Y→Calls Tryz.prog 27 #[.agg #[.slice a Y.items.length c,.int .u64 Y.cas,.int .i64 Y.flush],.int .i64 now,.agg (cdA cd),.agg (itA x0)] w (RemP w a Y.items.length c Y kn R):=fun w a c h=>by
   have:=rremove_w h now hn1 hn2 cd x0 his
   rw [hkn,hRe] at this; exact this
  have hk3:kn=0∨kn=1∨kn=2:=by
   rw [← hkn]; split
   ·exact .inl rfl
   split
   ·split
    ·exact .inr (.inr rfl)
    ·exact .inr (.inl rfl)
   ·exact .inr (.inl rfl)
  rcases hk3 with h0 | h0 | h0
  ·have hit:R.1.items=Y.items:=by
    rw [← hRe]; unfold zE3
    rw [if_pos]
    revert hkn; rw [h0]
    split
    ·rename_i h; intro _; exact h
    split
    ·split <;> (intro h; cases h)
    ·intro h; cases h
   (refine zA4 hctr (rs:=res11) true 300 _ _ _ ?_; simp (maxSteps:=1000000) only [VT,jf,jg,qH,qI,qK,qO,qP,qR,qS,qT,qV,ev,qw,qy,qz,zA,zB,zD,zI,zJ,zM,↓reduceIte,reduceCtorEq,Nat.reduceEqDiff,Nat.reduceLT,zP,zQ,zR,zV,zW,zu,rwE,hP,hk,res11,kp11,raC,rgC,cdS,itS,o1,o2,o3,o6,o5,rwI])
   refine Run_opS R 4 hP (fun args w=>Tryz.call27 args w) rfl hsY hlY (fun ρ w a c h=>?_) rfl (by simp) ?_
   ·exact (hw9 w a c h).mono fun e w' h'=>by rw [h0] at h'; exact RemP.same h'
   (refine zA4 hctr (rs:=res11) true 300 _ _ _ ?_; simp (maxSteps:=1000000) only [VT,qE,qF,qG,qH,qI,qJ,qK,qP,qh,q0t,qu,qv,ev,qy,zA,zB,zC,zD,zE,zG,zI,zJ,TE.sv,zM,↓reduceIte,reduceCtorEq,Nat.reduceEqDiff,Nat.reduceAdd,Nat.reduceLT,zP,zQ,zR,zt,jN,hP,hk,res11,kp11,Nat.reduceAdd,anS])
   exact fin R (.rw 4 Y.items.length) _ (hR.trans hRe) (by rw [hit]; exact .inl ⟨4,rfl,rfl⟩)
  ·(refine zA4 hctr (rs:=res11) true 300 _ _ _ ?_; simp (maxSteps:=1000000) only [VT,jf,jg,qH,qI,qK,qO,qP,qR,qS,qT,qV,ev,qw,qy,qz,zA,zB,zD,zI,zJ,zM,↓reduceIte,reduceCtorEq,Nat.reduceEqDiff,Nat.reduceLT,zP,zQ,zR,zV,zW,zu,rwE,hP,hk,res11,kp11,raC,rgC,cdS,itS,o1,o2,o3,o6,o5,rwI])
   refine Run_opN R 4 hP (fun args w=>Tryz.call27 args w) rfl hsY hlY (fun ρ w a c h=>?_) (by rw [hn0]; exact Nat.zero_le _) rfl (by simp) ?_
   ·exact (hw9 w a c h).mono fun e w' h'=>by rw [h0] at h'; exact RemP.new h'
   (refine zA4 hctr (rs:=res11) true 300 _ _ _ ?_; simp (maxSteps:=1000000) only [VT,qE,qF,qG,qH,qI,qJ,qK,qP,qh,q0t,qu,qv,ev,qy,zA,zB,zC,zD,zE,zF,zG,zI,zJ,TE.sv,zM,↓reduceIte,reduceCtorEq,Nat.reduceEqDiff,Nat.reduceAdd,Nat.reduceLT,zP,zQ,zR,zt,rwE,jN,hP,hk,res11,kp11,Nat.reduceAdd,anS,rwI])
   exact fin R (.rw 6 R.1.items.length) _ (hR.trans hRe) (.inl ⟨6,rfl,rfl⟩)
  ·have hit:R.1.items=[]:=by
    have hlt:=zE6 his
    rw [← hRe]; unfold zE3
    revert hkn; rw [h0]
    split
    ·intro h; cases h
    rename_i hc0
    split
    ·rename_i hv0
     split
     ·rename_i hl1
      intro _
      first
       | rw [if_neg hc0,if_pos (by rw [hv0]; rfl)]
       | rw [if_pos (by rw [hv0]; rfl)]
      apply List.eq_nil_of_length_eq_zero
      show (zF6 Y cd.key).items.length=0
      unfold zF6
      rw [if_pos his]
      simp only [List.length_append,List.length_take,List.length_drop]
      omega
     ·intro h; cases h
    ·intro h; cases h
   (refine zA4 hctr (rs:=res11) true 300 _ _ _ ?_; simp (maxSteps:=1000000) only [VT,jf,jg,qH,qI,qK,qO,qP,qR,qS,qT,qV,ev,qw,qy,qz,zA,zB,zD,zI,zJ,zM,↓reduceIte,reduceCtorEq,Nat.reduceEqDiff,Nat.reduceLT,zP,zQ,zR,zV,zW,zu,rwE,hP,hk,res11,kp11,raC,rgC,cdS,itS,o1,o2,o3,o6,o5,rwI])
   refine Run_opZ R 4 hP (fun args w=>Tryz.call27 args w) rfl hsY hlY (fun ρ w a c h=>?_) (by rw [hn0]; exact Nat.zero_le _) rfl (by simp) ?_
   ·exact (hw9 w a c h).mono fun e w' h'=>by rw [h0] at h'; exact h'
   (refine zA4 hctr (rs:=res11) true 300 _ _ _ ?_; simp (maxSteps:=1000000) only [VT,qE,qF,qG,qH,qI,qJ,qK,qP,qh,q0t,qu,qv,ev,qy,zA,zB,zC,zD,zE,zF,zG,zI,zJ,TE.sv,zM,↓reduceIte,reduceCtorEq,Nat.reduceEqDiff,Nat.reduceAdd,Nat.reduceLT,zP,zQ,zR,zt,jN,hP,hk,res11,kp11,Nat.reduceAdd,anS,zrE])
   exact fin R (.sl 6 0 0 0) _ (hR.trans hRe) (.inr ⟨hit,.inr ⟨6,rfl⟩⟩)
 have o5:(cd.op == 5)=false:=by simpa using h5
 by_cases h7:cd.op=7
 ·have o7:(cd.op == 7)=true:=by simpa using h7
  (refine zA4 hctr (rs:=res11) true 300 _ _ _ ?_; simp (maxSteps:=1000000) only [VT,jf,jg,qH,qI,qK,qO,qP,qR,qS,qT,qV,ev,qy,qz,zD,zI,zJ,zM,↓reduceIte,reduceCtorEq,Nat.reduceEqDiff,Nat.reduceLT,zP,zQ,zR,zV,zW,zu,rwE,hP,hk,res11,kp11,cdS,itS,o1,o2,o3,o6,o5,o7,rwI])
  (refine zA2 hctr (by rw [hP]; rfl) rs11_28 [] (ensure_type_of% (Cmp.of (by simp (maxSteps := 1000000) only [qK, qP, qf, qg, q0t, qu, qv, ev, qy, qz, zA, zB, zC, zD, zE, zF, zG, zM, ↓reduceIte, Nat.reduceEqDiff, Nat.reduceAdd, zP, zk, zl, zt, cD, cO, jC, jD, jH, jN, hP, Nat.reduceAdd]; rfl)) "" Cmp.mk) (by kernel_rfl) (by kernel_rfl) (by first | exact zA1 _ | kernel_rfl) (by kernel_rfl) (by rfl) (by rfl) (by first | exact zA0 _ | rfl) (by rfl) (by simp (maxSteps := 1000000) only [qK, qP, qf, qg, q0t, qu, qv, ev, qy, qz, zA, zB, zC, zD, zE, zG, zM, ↓reduceIte, Nat.reduceEqDiff, Nat.reduceAdd, zP, zT, zk, zl, zn, zt, jD, jH, jN, jP, jQ, jR, jS, jT, hP, Nat.reduceAdd]) ?_; refine zA4 hctr (rs := res11) true 300 _ _ _ ?_; simp (maxSteps := 1000000) only [VT, qE, qF, qG, qP, qy, zA, zB, zD, zG, zI, zJ, zM, ↓reduceIte, reduceCtorEq, Nat.reduceEqDiff, Nat.reduceAdd, zP, zQ, zt, jN, jO, hP, hk, res11, kp11, Nat.reduceAdd])
  exact fin (Y,⟨1,x0,0,false,false,false⟩) (.rw 4 Y.items.length) _ (by rw [hRx,if_neg h5,if_pos h7]) (.inl ⟨4,rfl,rfl⟩)
 have o7:(cd.op == 7)=false:=by simpa using h7
 obtain ⟨L,hL⟩:∃ L,(zH7 Y { x0 with exp:=zJ1 now cd.exp }).items=L:=⟨_,rfl⟩
 (refine zA4 hctr (rs:=res11) true 300 _ _ _ ?_; simp (maxSteps:=1000000) only [VT,jg,qH,qI,qJ,qK,qO,qP,qR,qS,qT,qV,q0t,qv,ev,qw,qy,qz,zC,zD,zE,zG,zI,zJ,zM,↓reduceIte,reduceCtorEq,Nat.reduceEqDiff,Nat.reduceLT,zP,zQ,zR,zT,zV,zW,zt,zu,rwE,hP,hk,res11,kp11,raC,rgC,zG3,cdS,itS,o1,o2,o3,o6,o5,o7,hnow,rwI])
 (refine zB9 hctr (by rw [hP]; rfl) rs11_30 [jB (fun N => .g [.rw N L.length, .i .u64 Y.cas, .i .i64 Y.flush]) (fun _ => rwI L)] (ensure_type_of% (Cmp.of (by simp (maxSteps := 1000000) only [qA, qK, qP, qf, qg, q0t, qu, qv, ev, qw, qy, qz, zA, zB, zC, zD, zE, zF, zG, zM, ↓reduceIte, Nat.reduceEqDiff, Nat.reduceAdd, zP, zk, zl, zt, cE, jA, jB, rwE, jC, jD, jH, jK, jL, jM, jN, hP, raC, rgC, Nat.reduceAdd, rwI]; rfl)) "" Cmp.mk) (by kernel_rfl) (by kernel_rfl) (by first | exact zA1 _ | kernel_rfl) (by kernel_rfl) (by rfl) (by rfl) (by first | exact zA0 _ | rfl) (by rfl) ?_ ?_; rotate_left; refine zA4 hctr (rs := res11) true 300 _ _ _ ?_; simp (maxSteps := 1000000) only [VT, qE, qF, qG, qP, qy, zA, zB, zD, zG, zI, zJ, zM, ↓reduceIte, reduceCtorEq, Nat.reduceEqDiff, Nat.reduceAdd, zP, zQ, zt, jN, jO, hP, hk, res11, kp11, Nat.reduceAdd]; rotate_left; simp (maxSteps := 1000000) only [qK, qP, qf, qg, q0t, qu, qv, ev, qw, qy, qz, zA, zB, zC, zD, zE, zG, zM, ↓reduceIte, Nat.reduceEqDiff, Nat.reduceAdd, zP, zR, zS, zT, zk, zl, zn, zt, jD, jH, jN, jP, jQ, jR, jS, jT, jU, hP, Nat.reduceAdd])
 ·exact rputr_h (M:=4) (x:={ x0 with exp:=zJ1 now cd.exp }) hP rfl (by decide) hsY hlY hL (zI7 (by simp)) (by rw [hn0]; exact Nat.zero_le _) rfl (fun q _=>rfl)
 have:=fun en=>fin (zH7 Y { x0 with exp:=zJ1 now cd.exp },⟨8,{ x0 with exp:=zJ1 now cd.exp },0,false,false,false⟩) (.rw 6 L.length) en (by rw [hRx,if_neg h5,if_neg h7])
 rw [hL] at this
 exact this _ (.inl ⟨6,rfl,rfl⟩)
end Go.Proofs.YtfpeholdlkfmoaaGreatDoor
/- Plain laws of zB3 at states of one item at most. No program in sight. -/
namespace Go.Proofs.YtfpeholdlkfmoaaGreatDoor
set_option linter.unusedSimpArgs false
set_option linter.unusedVariables false
def one (x:It) (cas:Int):St:=⟨[x],cas,0⟩
def zV5 (cas:Int):St:=⟨[],cas,0⟩
def okB (now:Int) (c:Cd):Prop:=zK1 c=true∧1≤now∧now≤1099511627776
theorem atF_one (x:It):atF [x] x.key=0:=by simp [atF,zF8]
theorem isF_one (x:It):isF [x] x.key=true:=by simp [isF,atF_one]
theorem live_nil (cas now:Int):zE4 (zV5 cas) now=zV5 cas:=by simp [zE4,zV5]
theorem live_one {x:It} {cas now:Int} (h:zE9 now x=false):zE4 (one x cas) now=one x cas:=by simp [zE4,one,h]
theorem live_gone {x:It} {cas now:Int} (h:zE9 now x=true):zE4 (one x cas) now=zV5 cas:=by simp [zE4,one,zV5,h]
theorem app_nil {cas now:Int} {c:Cd} {most:Int} (h:okB now c):zB3 (zV5 cas) now c most=doF (zV5 cas) now c most 0 false:=by
 unfold zB3; rw [if_pos (show zK1 c=true∧1≤now∧now≤1099511627776 from h),live_nil]; rfl
theorem app_one {x:It} {cas now:Int} {c:Cd} {most:Int} (h:okB now c) (hg:zE9 now x=false) (hk:c.key=x.key):zB3 (one x cas) now c most=doF (one x cas) now c most 0 true:=by
 unfold zB3; rw [if_pos (show zK1 c=true∧1≤now∧now≤1099511627776 from h),live_one hg,hk]
 show doF (one x cas) now c most (atF [x] x.key) (isF [x] x.key)=_
 rw [atF_one,isF_one]
theorem app_gone {x:It} {cas now:Int} {c:Cd} {most:Int} (h:okB now c) (hg:zE9 now x=true):zB3 (one x cas) now c most=doF (zV5 cas) now c most 0 false:=by
 unfold zB3; rw [if_pos (show zK1 c=true∧1≤now∧now≤1099511627776 from h),live_gone hg]; rfl
end Go.Proofs.YtfpeholdlkfmoaaGreatDoor
