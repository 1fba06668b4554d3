/- The document's store, walked. Printed by gen_refw5.py. -/
import Derived.Test.YtfpeholdlkfmoaaGreatDoorBS12
import Derived.Test.YtfpeholdlkfmoaaGreatDoorBS00
import Derived.Test.YtfpeholdlkfmoaaGreatDoorBS09
namespace Go.Proofs.YtfpeholdlkfmoaaGreatDoor
set_option linter.unusedSimpArgs false
set_option linter.unusedVariables false
set_option maxHeartbeats 8000000
open Go.RowKit
set_option maxRecDepth 100000
theorem zW6 (pr:Nat→Prop) (c:Cd):wfs pr (cdS c):=by
 intro z hz
 simp only [cdS,List.mem_cons,List.not_mem_nil,or_false] at hz
 rcases hz with rfl | rfl | rfl | rfl | rfl | rfl | rfl | rfl | rfl | rfl | rfl | rfl | rfl | rfl | rfl | rfl <;> trivial
theorem rstore_w {w:World} {a:Option Addr} {n c:Nat} {X:St} (hX:StR w a n c X) (now:Int) (hn1:1≤now) (hn2:now≤1099511627776) (cd:Cd) (x:It) (is:Bool) (most:Int) (hk1:x.key.length≤1000000000) (hv1:x.val.length≤1000000000) (hk2:cd.key.length≤1000000000) (hv2:cd.val.length≤1000000000) :
  Calls Tryz.prog 24 #[.agg #[.slice a n c,.int .u64 X.cas,.int .i64 X.flush],.int .i64 now,.agg (cdA cd),.agg (itA x),.bool is,.int .i64 most] w (OpP w a n c X (!decide ((zE5 X now cd x is most).2.st=2)) (zE5 X now cd x is most)):=by
 refine zA9 Tryz.func24 rfl kp24 (S:=Non) (ρ:=fun _=>⟨0,[],[],0,none⟩) (en:=[]) [.g [.v (.slice a n c),.i .u64 X.cas,.i .i64 X.flush],.c (.i .i64 now),.g (cdS cd),.g (itS x),.c (.b is),.c (.i .i64 most)] Tryz.ntmps24 (At.nil _ _ _) (by intro y hy; simp only [List.mem_cons,List.not_mem_nil,or_false] at hy; rcases hy with rfl | rfl | rfl | rfl | rfl | rfl; exact zD6 trivial; trivial; exact zW6 _ _; exact zI2 _ _; trivial; trivial) (by simp) ?_
 intro C hC hP hk
 have hS:C.S=Non:=by rw [hC]; rfl
 have hw:C.w0=w:=by rw [hC]; rfl
 have hn0:C.n0=0:=by rw [hC]; rfl
 have hctr:zE8 C rgC:=rgC_ok hP
 have hnow:=And.intro hn1 hn2
 have fin:∀ (Y':St × An) (en:List EN),zE5 X now cd x is most=Y'→((!decide ((zE5 X now cd x is most).2.st=2)))=true→Y'.1=X→Fin C res24 (.t [.g [.v (.slice a n c),.i .u64 X.cas,.i .i64 X.flush],.g (anS Y'.2)]) en:=fun Y' en h1 h2 h3=>by
  refine zH5 (v:=.t [.g [.v (.slice a n c),.i .u64 X.cas,.i .i64 X.flush],.g (anS Y'.2)]) hC hres24 fun ρ w' hw' _ _=>?_
  have hup:=hw'.up
  rw [hC] at hup
  rw [h1]
  refine ⟨hup.to_below,_,?_,.inl ⟨by first | exact h2 | (rw [h1] at h2; exact h2),rfl,by rw [h3]⟩⟩
  rw [h3]; rfl
 have finN:∀ (Y':St × An) (N:Nat) (en:List EN),zE5 X now cd x is most=Y'→((!decide ((zE5 X now cd x is most).2.st=2)))=false→zD en N=some (rwI Y'.1.items)→Fin C res24 (.t [.g [.rw N Y'.1.items.length,.i .u64 Y'.1.cas,.i .i64 Y'.1.flush],.g (anS Y'.2)]) en:=fun Y' N en h1 h2 h3=>by
  refine zH5 (v:=.t [.g [.rw N Y'.1.items.length,.i .u64 Y'.1.cas,.i .i64 Y'.1.flush],.g (anS Y'.2)]) hC hres24 fun ρ w' hw' _ _=>?_
  have hup:=hw'.up
  rw [hC] at hup
  rw [h1]
  have k1:=RowOk.of (N:=N) (n:=Y'.1.items.length) (z:=8) (e:=33) (cells:=zB2 itS Y'.1.items) hw' hS h3 (by decide)
  rw [hw,zD3] at k1
  exact ⟨hup.to_below,_,rfl,.inr ⟨by first | exact h2 | (rw [h1] at h2; exact h2),ρ N,k1,rfl⟩⟩
 (refine zA4 hctr (rs:=res24) true 9 _ _ _ ?_; simp (maxSteps:=1000000) only [VT,qH,qI,q0t,qu,qv,ev,qy,zF,zG,zI,zJ,zK,zM,↓reduceIte,reduceCtorEq,Value.oneCell',Nat.reduceEqDiff,Nat.reduceAdd,Nat.reduceLT,zP,zt,hP,hk,kp24,cdS,itS,Nat.reduceAdd])
 refine zN0 (κ:={ _u:Unit // ((cd.mode == 1 && is) || (decide (2≤cd.mode) && !is))=false }) (fun _=>[(13,.c (.p 4 0)),(12,.c (.p 3 0)),(9,.c (.p 2 0)),(8,.c (.p 1 0)),(6,.c (.p 0 0)),(5,.c (.i .i64 most)),(4,.c (.b is)),(1,.c (.i .i64 now))]) (fun _=>[⟨(25,0,whole),[.v (.slice a n c),.i .u64 X.cas,.i .i64 X.flush],true⟩,⟨(28,0,whole),cdS cd,true⟩,⟨(33,0,whole),itS x,true⟩,⟨(25,0,whole),[.v (.slice none 0 0),.i .u64 0,.i .i64 0],true⟩,⟨(35,0,whole),[.i .i64 0,.s [],.i .u32 0,.s [],.i .i64 0,.i .u64 0,.i .i64 0,.b false,.b false,.i .u64 0,.b false,.b false,.b false],true⟩]) (fun y=>?_) fun use=>?_
 rotate_left
 ·cases his:is with
  | true =>
   cases m1:(cd.mode == 1) with
   | true =>
    (refine zA4 hctr (rs:=res24) true 300 _ _ _ ?_; simp (maxSteps:=1000000) only [VT,jf,jZ,jd,qE,qF,qG,qH,qI,qJ,qK,qO,qP,qR,qS,qV,qf,qg,qp,q0t,qu,qv,ev,qy,qz,zA,zB,zC,zD,zE,zG,zI,zJ,zM,↓reduceIte,reduceCtorEq,Value.oneCell',Nat.reduceEqDiff,Nat.reduceAdd,Nat.reduceLT,zP,zQ,zR,zV,zt,hP,hk,res24,kp24,Nat.reduceAdd,m1])
    have hY:zE5 X now cd x is most=(X,zA6 3):=by simp [zE5,his,m1]
    exact fin (X,zA6 3) _ hY (by rw [hY]; rfl) rfl
   | false =>
    cases m2:decide (2≤cd.mode) with
    | true =>
     (refine zA4 hctr (rs:=res24) true 20 _ _ _ ?_; simp (maxSteps:=1000000) only [VT,jf,jg,jZ,jd,qH,qI,qK,qO,qP,qR,qS,qT,qV,qp,ev,qy,qz,zD,zI,zJ,zM,↓reduceIte,reduceCtorEq,Nat.reduceEqDiff,Nat.reduceLT,zP,zQ,zR,zV,zW,zt,hP,hk,res24,kp24,m1,m2])
     have h7:=fun s h=>use ⟨(),by simp [his,m1]⟩ s h
     simp only [cdS,itS,his] at h7
     exact h7 _ (zC6 ⟨rfl,rfl,rfl,rfl,rfl,rfl,rfl,rfl,trivial⟩)
    | false =>
     (refine zA4 hctr (rs:=res24) true 20 _ _ _ ?_; simp (maxSteps:=1000000) only [VT,jg,jZ,jd,qH,qI,qK,qO,qP,qR,qS,qV,qp,ev,qy,qz,zD,zI,zJ,zM,↓reduceIte,reduceCtorEq,Nat.reduceEqDiff,Nat.reduceLT,zP,zQ,zR,zW,zt,hP,hk,res24,kp24,m1,m2])
     have h7:=fun s h=>use ⟨(),by simp [his,m1]⟩ s h
     simp only [cdS,itS,his] at h7
     exact h7 _ (zC6 ⟨rfl,rfl,rfl,rfl,rfl,rfl,rfl,rfl,trivial⟩)
  | false =>
   cases m1:(cd.mode == 1) with
   | true =>
    have m2:decide (2≤cd.mode)=false:=by
     have:cd.mode=1:=by simpa using m1
     rw [this]; rfl
    (refine zA4 hctr (rs:=res24) true 20 _ _ _ ?_; simp (maxSteps:=1000000) only [VT,jf,jg,jZ,jd,qH,qI,qK,qO,qP,qR,qS,qV,qp,ev,qy,qz,zD,zI,zJ,zM,↓reduceIte,reduceCtorEq,Nat.reduceEqDiff,Nat.reduceLT,zP,zQ,zR,zV,zW,zt,hP,hk,res24,kp24,m1,m2])
    have h7:=fun s h=>use ⟨(),by simp [his,m2]⟩ s h
    simp only [cdS,itS,his] at h7
    exact h7 _ (zC6 ⟨rfl,rfl,rfl,rfl,rfl,rfl,rfl,rfl,trivial⟩)
   | false =>
    cases m2:decide (2≤cd.mode) with
    | true =>
     (refine zA4 hctr (rs:=res24) true 300 _ _ _ ?_; simp (maxSteps:=1000000) only [VT,jf,jg,jZ,jd,qE,qF,qG,qH,qI,qJ,qK,qO,qP,qR,qS,qT,qV,qf,qg,qp,q0t,qu,qv,ev,qy,qz,zA,zB,zC,zD,zE,zG,zI,zJ,zM,↓reduceIte,reduceCtorEq,Value.oneCell',Nat.reduceEqDiff,Nat.reduceAdd,Nat.reduceLT,zP,zQ,zR,zV,zW,zt,hP,hk,res24,kp24,Nat.reduceAdd,m1,m2])
     have hY:zE5 X now cd x is most=(X,zA6 3):=by simp [zE5,his,m1,m2]
     exact fin (X,zA6 3) _ hY (by rw [hY]; rfl) rfl
    | false =>
     (refine zA4 hctr (rs:=res24) true 20 _ _ _ ?_; simp (maxSteps:=1000000) only [VT,jg,jZ,jd,qH,qI,qK,qO,qP,qR,qS,qV,qp,ev,qy,qz,zD,zI,zJ,zM,↓reduceIte,reduceCtorEq,Nat.reduceEqDiff,Nat.reduceLT,zP,zQ,zR,zW,zt,hP,hk,res24,kp24,m1,m2])
     have h7:=fun s h=>use ⟨(),by simp [his,m2]⟩ s h
     simp only [cdS,itS,his] at h7
     exact h7 _ (zC6 ⟨rfl,rfl,rfl,rfl,rfl,rfl,rfl,rfl,trivial⟩)
 obtain ⟨_,hmo⟩:=y
 show Run C _ 125 [(13,.c (.p 4 0)),(12,.c (.p 3 0)),(9,.c (.p 2 0)),(8,.c (.p 1 0)),(6,.c (.p 0 0)),(5,.c (.i .i64 most)),(4,.c (.b is)),(1,.c (.i .i64 now))] [⟨(25,0,whole),[.v (.slice a n c),.i .u64 X.cas,.i .i64 X.flush],true⟩,⟨(28,0,whole),cdS cd,true⟩,⟨(33,0,whole),itS x,true⟩,⟨(25,0,whole),[.v (.slice none 0 0),.i .u64 0,.i .i64 0],true⟩,⟨(35,0,whole),[.i .i64 0,.s [],.i .u32 0,.s [],.i .i64 0,.i .u64 0,.i .i64 0,.b false,.b false,.i .u64 0,.b false,.b false,.b false],true⟩]
 (refine zA4 hctr (rs:=res24) true 5 _ _ _ ?_; simp (maxSteps:=1000000) only [VT,qH,qI,qK,qO,ev,qz,zI,zJ,↓reduceIte,reduceCtorEq,Nat.reduceEqDiff,Nat.reduceLT,zP,zR,hk,kp24,cdS,itS])
 refine zN0 (κ:={ b:Bool // zE5 X now cd x is most=rFit X most 2 0 (rNew now cd x b) }) (fun y=>[(14,.c (.b y.1)),(13,.c (.p 4 0)),(12,.c (.p 3 0)),(9,.c (.p 2 0)),(8,.c (.p 1 0)),(6,.c (.p 0 0)),(5,.c (.i .i64 most)),(4,.c (.b is)),(1,.c (.i .i64 now))]) (fun _=>[⟨(25,0,whole),[.v (.slice a n c),.i .u64 X.cas,.i .i64 X.flush],true⟩,⟨(28,0,whole),cdS cd,true⟩,⟨(33,0,whole),itS x,true⟩,⟨(25,0,whole),[.v (.slice none 0 0),.i .u64 0,.i .i64 0],true⟩,⟨(35,0,whole),[.i .i64 0,.s [],.i .u32 0,.s [],.i .i64 0,.i .u64 0,.i .i64 0,.b false,.b false,.i .u64 0,.b false,.b false,.b false],true⟩]) (fun y=>?_) fun use=>?_
 rotate_left
 ·cases hc:cd.hasCas with
  | false =>
   (refine zA4 hctr (rs:=res24) true 7 _ _ _ ?_; simp (maxSteps:=1000000) only [VT,jg,qH,qI,qK,qP,qV,ev,qy,zD,zI,zJ,zM,↓reduceIte,reduceCtorEq,Nat.reduceEqDiff,Nat.reduceLT,zP,zQ,zR,zW,zt,hP,hk,res24,kp24])
   have h7:=fun s h=>use ⟨false,by unfold zE5; rw [if_neg (by rw [hmo]; simp)]; simp [hc]⟩ s h
   simp only [cdS,itS,hc] at h7
   exact h7 _ (zC6 ⟨rfl,rfl,rfl,rfl,rfl,rfl,rfl,rfl,rfl,trivial⟩)
  | true =>
   cases his:is with
   | false =>
    (refine zA4 hctr (rs:=res24) true 300 _ _ _ ?_; simp (maxSteps:=1000000) only [VT,jf,qE,qF,qG,qH,qI,qJ,qK,qO,qP,qT,qV,qf,qg,q0t,qu,qv,ev,qy,qz,zA,zB,zC,zD,zE,zG,zI,zJ,zM,↓reduceIte,reduceCtorEq,Value.oneCell',Nat.reduceEqDiff,Nat.reduceAdd,Nat.reduceLT,zP,zQ,zR,zV,zW,zt,hP,hk,res24,kp24,Nat.reduceAdd])
    have hY:zE5 X now cd x is most=(X,zA6 5):=by unfold zE5; rw [if_neg (by rw [hmo]; simp)]; simp [hc,his]
    exact fin (X,zA6 5) _ hY (by rw [hY]; rfl) rfl
   | true =>
    by_cases he:x.cas=cd.cas
    ·have e1:(x.cas != cd.cas)=false:=by simp [he]
     (refine zA4 hctr (rs:=res24) true 45 _ _ _ ?_; simp (maxSteps:=1000000) only [VT,jf,jg,jd,qH,qI,qK,qO,qP,qR,qS,qT,qV,qp,ev,qy,qz,zD,zI,zJ,zM,↓reduceIte,reduceCtorEq,Nat.reduceEqDiff,Nat.reduceLT,zP,zQ,zR,zV,zW,zt,hP,hk,res24,kp24,e1])
     have h7:=fun s h=>use ⟨false,by unfold zE5; rw [if_neg (by rw [hmo]; simp)]; simp [hc,his,he]⟩ s h
     simp only [cdS,itS,hc,his] at h7
     exact h7 _ (zC6 ⟨rfl,rfl,rfl,rfl,rfl,rfl,rfl,rfl,rfl,trivial⟩)
    ·have e1:(x.cas != cd.cas)=true:=by simpa using he
     have e2:(x.cas == cd.cas)=false:=by simpa using he
     cases hv:cd.inval with
     | false =>
      (refine zA4 hctr (rs:=res24) true 300 _ _ _ ?_; simp (maxSteps:=1000000) only [VT,jf,jg,jZ,jd,qE,qF,qG,qH,qI,qJ,qK,qO,qP,qR,qS,qT,qV,qf,qg,qp,q0t,qu,qv,ev,qy,qz,zA,zB,zC,zD,zE,zG,zI,zJ,zM,↓reduceIte,reduceCtorEq,Value.oneCell',Nat.reduceEqDiff,Nat.reduceAdd,Nat.reduceLT,zP,zQ,zR,zV,zW,zt,hP,hk,res24,kp24,Nat.reduceAdd,e1])
      have hY:zE5 X now cd x is most=(X,zA6 4):=by unfold zE5; rw [if_neg (by rw [hmo]; simp)]; simp [hc,his,he,hv]
      exact fin (X,zA6 4) _ hY (by rw [hY]; rfl) rfl
     | true =>
      by_cases hl:cd.cas < x.cas
      ·have l1:decide (cd.cas < x.cas)=true:=decide_eq_true hl
       (refine zA4 hctr (rs:=res24) true 45 _ _ _ ?_; simp (maxSteps:=1000000) only [VT,jf,jg,jZ,qH,qI,qK,qO,qP,qR,qS,qT,qV,qp,ev,qy,qz,zD,zI,zJ,zM,↓reduceIte,reduceCtorEq,Nat.reduceEqDiff,Nat.reduceLT,zP,zQ,zR,zV,zW,zt,hP,hk,res24,kp24,e1,l1])
       have h7:=fun s h=>use ⟨true,by unfold zE5; rw [if_neg (by rw [hmo]; simp)]; simp [hc,his,hv,hl,e2]⟩ s h
       simp only [cdS,itS,hc,his,hv] at h7
       exact h7 _ (zC6 ⟨rfl,rfl,rfl,rfl,rfl,rfl,rfl,rfl,rfl,trivial⟩)
      ·have l1:decide (cd.cas < x.cas)=false:=decide_eq_false hl
       (refine zA4 hctr (rs:=res24) true 300 _ _ _ ?_; simp (maxSteps:=1000000) only [VT,jf,jg,jZ,qE,qF,qG,qH,qI,qJ,qK,qO,qP,qR,qS,qT,qV,qf,qg,qp,q0t,qu,qv,ev,qy,qz,zA,zB,zC,zD,zE,zG,zI,zJ,zM,↓reduceIte,reduceCtorEq,Value.oneCell',Nat.reduceEqDiff,Nat.reduceAdd,Nat.reduceLT,zP,zQ,zR,zV,zW,zt,hP,hk,res24,kp24,Nat.reduceAdd,e1,l1])
       have hY:zE5 X now cd x is most=(X,zA6 4):=by unfold zE5; rw [if_neg (by rw [hmo]; simp)]; simp [hc,his,he,hv,hl]
       exact fin (X,zA6 4) _ hY (by rw [hY]; rfl) rfl
 obtain ⟨b,hYb⟩:=y
 show Run C _ 125 [(14,.c (.b b)),(13,.c (.p 4 0)),(12,.c (.p 3 0)),(9,.c (.p 2 0)),(8,.c (.p 1 0)),(6,.c (.p 0 0)),(5,.c (.i .i64 most)),(4,.c (.b is)),(1,.c (.i .i64 now))] [⟨(25,0,whole),[.v (.slice a n c),.i .u64 X.cas,.i .i64 X.flush],true⟩,⟨(28,0,whole),cdS cd,true⟩,⟨(33,0,whole),itS x,true⟩,⟨(25,0,whole),[.v (.slice none 0 0),.i .u64 0,.i .i64 0],true⟩,⟨(35,0,whole),[.i .i64 0,.s [],.i .u32 0,.s [],.i .i64 0,.i .u64 0,.i .i64 0,.b false,.b false,.i .u64 0,.b false,.b false,.b false],true⟩]
 (refine zA4 hctr (rs:=res24) true 300 _ _ _ ?_; simp (maxSteps:=1000000) only [VT,cdS,itS])
 (refine zA2 hctr (by rw [hP]; rfl) rs24_10 [] (ensure_type_of% (Cmp.of (by simp (maxSteps := 1000000) only [qK, qO, qP, qV, qf, qg, q0t, qu, qv, ev, qw, qy, zC, zD, zE, zF, zG, zM, ↓reduceIte, Nat.reduceEqDiff, Nat.reduceAdd, zP, zT, zt, cD, cO, jC, jD, jF, jG, jH, jJ, jN, hP, rgC, zG3, hnow, Nat.reduceAdd]; rfl)) "" Cmp.mk) (by kernel_rfl) (by kernel_rfl) (by first | exact zA1 _ | kernel_rfl) (by kernel_rfl) (by rfl) (by rfl) (by first | exact zA0 _ | rfl) (by rfl) (by simp (maxSteps := 1000000) only [qK, qO, qP, qV, qf, qg, q0t, qu, qv, ev, qw, qy, zC, zD, zE, zG, zM, ↓reduceIte, Nat.reduceEqDiff, Nat.reduceAdd, zP, zS, zT, zm, zn, zq, zt, jD, jF, jG, jH, jI, jN, jP, jQ, jR, jS, jT, jV, jW, jX, jY, hP, rgC, zG3, hnow, Nat.reduceAdd]) ?_; refine zA4 hctr (rs := res24) true 1 _ _ _ ?_; simp (maxSteps := 1000000) only [VT, zG, zI, zJ, ↓reduceIte, reduceCtorEq, Nat.reduceEqDiff, Nat.reduceAdd, zP, zQ, zt, jN, jO, hk, kp24, Nat.reduceAdd])
 refine zN0 (κ:=Unit) (fun _=>[(15,.c (.p 5 0)),(13,.c (.p 4 0)),(12,.c (.p 3 0)),(9,.c (.p 2 0)),(8,.c (.p 1 0)),(6,.c (.p 0 0)),(5,.c (.i .i64 most)),(4,.c (.b is)),(1,.c (.i .i64 now))]) (fun _=>[⟨(25,0,whole),[.v (.slice a n c),.i .u64 X.cas,.i .i64 X.flush],true⟩,⟨(28,0,whole),cdS cd,true⟩,⟨(33,0,whole),itS x,true⟩,⟨(25,0,whole),[.v (.slice none 0 0),.i .u64 0,.i .i64 0],true⟩,⟨(35,0,whole),[.i .i64 0,.s [],.i .u32 0,.s [],.i .i64 0,.i .u64 0,.i .i64 0,.b false,.b false,.i .u64 0,.b false,.b false,.b false],true⟩,⟨(33,0,whole),itS (rNew now cd x b),true⟩]) (fun _=>?_) fun use=>?_
 rotate_left
 ·by_cases hq3:cd.mode=3
  ·have m3:(cd.mode == 3)=true:=by simpa using hq3
   have hq4:¬ cd.mode=4:=by omega
   (refine zA4 hctr (rs:=res24) true 44 _ _ _ ?_; simp (maxSteps:=1000000) only [VT,jf,jd,qH,qI,qJ,qK,qO,qP,qR,qS,qV,qp,q0t,qu,qv,ev,qy,qz,zA,zB,zC,zD,zE,zG,zI,zJ,zM,↓reduceIte,reduceCtorEq,Nat.reduceEqDiff,Nat.reduceAdd,Nat.reduceLT,zP,zQ,zR,zV,zt,hP,hk,res24,kp24,Nat.reduceAdd,m3])
   refine ⟨by first | omega | (simp only [List.length_append]; omega),?_⟩
   have hN:rNew now cd x b={ x with val:=x.val++cd.val,stale:=b,won:=false }:=by simp [rNew,hq3]
   rw [hN] at use
   have h7:=fun s h=>use () s h
   simp only [cdS,itS] at h7
   exact h7 _ (zC6 ⟨rfl,rfl,rfl,rfl,rfl,rfl,rfl,rfl,rfl,trivial⟩)
  ·have m3:(cd.mode == 3)=false:=by simpa using hq3
   by_cases hq4:cd.mode=4
   ·have m4:(cd.mode == 4)=true:=by simpa using hq4
    (refine zA4 hctr (rs:=res24) true 44 _ _ _ ?_; simp (maxSteps:=1000000) only [VT,jf,jg,jZ,qH,qI,qJ,qK,qO,qP,qR,qS,qV,qp,q0t,qu,qv,ev,qy,qz,zA,zB,zC,zD,zE,zG,zI,zJ,zM,↓reduceIte,reduceCtorEq,Nat.reduceEqDiff,Nat.reduceAdd,Nat.reduceLT,zP,zQ,zR,zV,zW,zt,hP,hk,res24,kp24,Nat.reduceAdd,m3,m4])
    refine ⟨by first | omega | (simp only [List.length_append]; omega),?_⟩
    have hN:rNew now cd x b={ x with val:=cd.val++x.val,stale:=b,won:=false }:=by simp [rNew,hq4]
    rw [hN] at use
    have h7:=fun s h=>use () s h
    simp only [cdS,itS] at h7
    exact h7 _ (zC6 ⟨rfl,rfl,rfl,rfl,rfl,rfl,rfl,rfl,rfl,trivial⟩)
   ·have m4:(cd.mode == 4)=false:=by simpa using hq4
    (refine zA4 hctr (rs:=res24) true 13 _ _ _ ?_; simp (maxSteps:=1000000) only [VT,jg,jZ,qH,qI,qK,qO,qP,qR,qS,qV,qp,ev,qy,qz,zD,zI,zJ,zM,↓reduceIte,reduceCtorEq,Nat.reduceEqDiff,Nat.reduceLT,zP,zQ,zR,zW,zt,hP,hk,res24,kp24,m3,m4])
    have hN:rNew now cd x b=⟨cd.key,cd.flags,cd.val,zJ1 now cd.exp,0,0,b,false⟩:=by simp [rNew,hq3,hq4]
    rw [hN] at use
    have h7:=fun s h=>use () s h
    simp only [cdS,itS] at h7
    exact h7 _ (zC6 ⟨rfl,rfl,rfl,rfl,rfl,rfl,rfl,rfl,rfl,trivial⟩)
 obtain ⟨z,hz⟩:∃ z,rNew now cd x b=z:=⟨_,rfl⟩
 have hzl:z.key.length≤1000000000∧z.val.length≤2000000000:=by
  rw [← hz]; unfold rNew
  repeat' split
  ·exact ⟨hk1,by simp only [List.length_append]; omega⟩
  ·exact ⟨hk1,by simp only [List.length_append]; omega⟩
  ·exact ⟨hk2,by show cd.val.length≤_; omega⟩
 obtain ⟨hz1,hz2⟩:=hzl
 rw [hz] at hYb ⊢
 have w1:IntKind.i64.wrap ((z.key.length:Int)+(z.val.length:Int))=(z.key.length:Int)+(z.val.length:Int):=IntWalk.i64_in _ (by omega)
 show Run C _ 125 [(15,.c (.p 5 0)),(13,.c (.p 4 0)),(12,.c (.p 3 0)),(9,.c (.p 2 0)),(8,.c (.p 1 0)),(6,.c (.p 0 0)),(5,.c (.i .i64 most)),(4,.c (.b is)),(1,.c (.i .i64 now))] [⟨(25,0,whole),[.v (.slice a n c),.i .u64 X.cas,.i .i64 X.flush],true⟩,⟨(28,0,whole),cdS cd,true⟩,⟨(33,0,whole),itS x,true⟩,⟨(25,0,whole),[.v (.slice none 0 0),.i .u64 0,.i .i64 0],true⟩,⟨(35,0,whole),[.i .i64 0,.s [],.i .u32 0,.s [],.i .i64 0,.i .u64 0,.i .i64 0,.b false,.b false,.i .u64 0,.b false,.b false,.b false],true⟩,⟨(33,0,whole),itS (z),true⟩]
 by_cases hf:most < (z.key.length:Int)+(z.val.length:Int)
 ·have f1:decide (most < (z.key.length:Int)+(z.val.length:Int))=true:=decide_eq_true hf
  (refine zA4 hctr (rs:=res24) true 300 _ _ _ ?_; simp (maxSteps:=1000000) only [VT,jf,qE,qF,qG,qH,qI,qJ,qK,qN,qO,qP,qR,qS,qV,qe,qf,qg,q0t,qu,qv,ev,qy,qz,zA,zB,zC,zD,zE,zG,zI,zJ,zM,↓reduceIte,reduceCtorEq,Value.oneCell',Nat.reduceEqDiff,Nat.reduceAdd,Nat.reduceLT,zP,zQ,zR,zV,zt,zu,hP,hk,res24,kp24,cdS,itS,Nat.reduceAdd,w1,f1])
  have hY:zE5 X now cd x is most=(X,zA6 11):=by rw [hYb,rFit,if_pos hf]
  exact fin (X,zA6 11) _ hY (by rw [hY]; rfl) rfl
 ·have f1:decide (most < (z.key.length:Int)+(z.val.length:Int))=false:=decide_eq_false hf
  obtain ⟨L,hL⟩:∃ L,(zH7 X { z with cas:=nx X }).items=L:=⟨_,rfl⟩
  (refine zA4 hctr (rs:=res24) true 300 _ _ _ ?_; simp (maxSteps:=1000000) only [VT,jg,qH,qI,qJ,qK,qN,qO,qP,qR,qS,qV,qe,q0t,qv,ev,qy,qz,zC,zD,zE,zG,zI,zJ,zM,↓reduceIte,reduceCtorEq,Nat.reduceEqDiff,Nat.reduceLT,zP,zQ,zR,zW,zt,zu,hP,hk,res24,kp24,cdS,itS,w1,f1])
  (refine zB9 hctr (by rw [hP]; rfl) rs24_22 [jB (fun N => .g [.rw N L.length, .i .u64 (nx X), .i .i64 X.flush]) (fun _ => rwI L)] (ensure_type_of% (Cmp.of (by simp (maxSteps := 1000000) only [qA, qK, qP, qf, qg, q0t, qu, qv, ev, qw, qy, qz, zA, zB, zC, zD, zE, zF, zG, zM, ↓reduceIte, Nat.reduceEqDiff, Nat.reduceAdd, zP, zk, zl, zt, cE, jA, jB, jC, jD, jH, jK, jL, jM, jN, hP, rgC, nx, Nat.reduceAdd]; rfl)) "" Cmp.mk) (by kernel_rfl) (by kernel_rfl) (by first | exact zA1 _ | kernel_rfl) (by kernel_rfl) (by rfl) (by rfl) (by first | exact zA0 _ | rfl) (by rfl) ?_ ?_; rotate_left; refine zA4 hctr (rs := res24) true 300 _ _ _ ?_; simp (maxSteps := 1000000) only [VT, qE, qF, qG, qP, qy, zA, zB, zD, zG, zI, zJ, zM, ↓reduceIte, reduceCtorEq, Nat.reduceEqDiff, Nat.reduceAdd, zP, zQ, zt, jN, jO, hP, hk, res24, kp24, Nat.reduceAdd]; rotate_left; simp (maxSteps := 1000000) only [qK, qP, qf, qg, q0t, qu, qv, ev, qw, qy, qz, zA, zB, zC, zD, zE, zG, zM, ↓reduceIte, Nat.reduceEqDiff, Nat.reduceAdd, zP, zR, zS, zT, zk, zl, zn, zt, jD, jH, jN, jP, jQ, jR, jS, jT, jU, hP, Nat.reduceAdd])
  ·exact zQ1 (x:={ z with cas:=nx X }) hP hS hw hX (nx X) X.flush hL (zI7 (by simp)) (by rw [hn0]; exact Nat.zero_le _) rfl (fun q _=>rfl)
  have hY:zE5 X now cd x is most=(zH7 { X with cas:=nx X } { z with cas:=nx X },⟨2,{ z with cas:=nx X },0,false,false,false⟩):=by rw [hYb,rFit,if_neg hf]
  have:=fun en=>finN (zH7 { X with cas:=nx X } { z with cas:=nx X },⟨2,{ z with cas:=nx X },0,false,false,false⟩) 6 en hY (by rw [hY]; rfl)
  have hL2:(zH7 { X with cas:=nx X } { z with cas:=nx X }).items=L:=hL
  rw [hL2] at this
  exact this _ rfl
end Go.Proofs.YtfpeholdlkfmoaaGreatDoor
/- The document's Drop of a key that is there, walked. Printed by gen_refw6.py. -/
namespace Go.Proofs.YtfpeholdlkfmoaaGreatDoor
set_option linter.unusedSimpArgs false
set_option linter.unusedVariables false
set_option maxHeartbeats 8000000
open Go.RowKit
set_option maxRecDepth 100000
def DropP (w:World) (n:Nat) (L:List It) (cs fl:Int) (e:Ending) (w':World):Prop:=
 Below w.heap.size w w'∧∃ v,e=.returned (.tuple #[.agg #[v,.int .u64 cs,.int .i64 fl],.bool true])∧((n=1∧L=[]∧∃ b,w.heap.size≤b∧v=.slice (some ⟨b,0,none⟩) 0 0)∨(n ≠ 1∧∃ r,RowOk w.heap.size w' r 33 8 L.length (zC8 L)∧v=zJ7 r L.length))
theorem rdropO_w {w:World} {g oo n c:Nat} {X:St} (hg:g < w.heap.size) (ha:RawI w (some ⟨g,oo,none⟩) X.items) (hs:Sorted X.items) (hn:n=X.items.length) (hnc:n≤c) (hcm:c≤maxLen) (hl:n≤100000000) (k:List UInt8) (hi0:atF X.items k=0) (hm0:n=1) (his:isF X.items k=true) :
  Calls Tryz.prog 50 #[.agg #[.slice (some ⟨g,oo,none⟩) n c,.int .u64 X.cas,.int .i64 X.flush],.string ⟨k.toArray⟩] w (DropP w n (zF6 X k).items X.cas X.flush):=by
 obtain ⟨i,hi⟩:∃ i,atF X.items k=i:=⟨_,rfl⟩
 rw [hi] at hi0
 have hilt:i < n:=by rw [← hi,hn]; exact zE6 his
 unfold maxLen at hcm
 refine zA9 Tryz.func50 rfl kp50 (S:=Non) (ρ:=fun _=>⟨0,[],[],0,none⟩) (en:=[]) [.g [.v (.slice (some ⟨g,oo,none⟩) n c),.i .u64 X.cas,.i .i64 X.flush],.c (.s k)] Tryz.ntmps50 (At.nil _ _ _) (by intro y hy; simp only [List.mem_cons,List.not_mem_nil,or_false] at hy; rcases hy with rfl | rfl; exact zD6 trivial; trivial) (by simp) ?_
 intro C hC hP hk
 have hS:C.S=Non:=by rw [hC]; rfl
 have hw:C.w0=w:=by rw [hC]; rfl
 have hn0:C.n0=0:=by rw [hC]; rfl
 have hctr:zE8 C (rpC (some ⟨g,oo,none⟩) n c X):=zS4 hP hS hw ha hs hn hl
 have b1:(0:Int)≤(i:Int):=by omega
 have b3:(n:Int)≤(c:Int):=by omega
 have b4:(i:Int)≤(c:Int):=by omega
 have b5:IntKind.i64.wrap ((i:Int)+1)=((i+1:Nat):Int):=by rw [IntWalk.i64_in _ (by omega)]; rfl
 have b6:(0:Int)≤((i+1:Nat):Int):=by omega
 have b7:((i+1:Nat):Int)≤(n:Int):=by omega
 obtain ⟨m,hm⟩:∃ m,n - (i+1)=m:=⟨_,rfl⟩
 obtain ⟨mc,hmc⟩:∃ mc,c - (i+1)=mc:=⟨_,rfl⟩
 obtain ⟨mo,hmo⟩:∃ mo,(if c=i+1 then oo else oo+(i+1) * 8)=mo:=⟨_,rfl⟩
 have hrd:zF6 X k={ X with items:=X.items.take i++X.items.drop (i+1) }:=by unfold zF6; rw [if_pos his,hi]
 have hdl:(X.items.drop (i+1)).length=m:=by rw [List.length_drop,← hn]; exact hm
 obtain ⟨i0,hi',hz0,hz1,hz2⟩:=info_parts zK7
 have hiC:C.P.info? 33=some i0:=by rw [hP]; exact hi'
 have hund:C.P.underlying 22=some (.slice 33):=by rw [hP]; exact Tryz.underlying22
 have hnd:¬ (33:Nat)=zG0:=by decide
 (refine zA4 hctr (rs:=res50) true 300 _ _ _ ?_; simp (maxSteps:=1000000) only [VT,jg,qH,qI,qK,qO,qP,qT,qh,q0t,qu,qv,ev,qw,qy,qz,zA,zB,zD,zF,zG,zI,zJ,TE.sv,zK,zM,↓reduceIte,reduceCtorEq,Value.oneCell',Nat.reduceEqDiff,Nat.reduceLT,zP,zQ,zR,zT,zV,zW,zt,hP,hk,res50,kp50,rpC,zJ3,hi,his])
 (refine zB9 hctr (by rw [hP]; rfl) rs50_4 [fun en => (.c (.sl 2 0 0 0), en), fun en => (.c (.sl 2 0 0 0), en)] (ensure_type_of% (Cmp.of (by simp (maxSteps := 1000000) only [qA, qD, qK, qO, qP, qR, qS, qV, qZ, ql, qm, q0t, qv, ev, qy, qz, zC, zD, zE, zF, zG, zM, ↓reduceIte, Nat.reduceEqDiff, Nat.reduceAdd, zP, zT, zh, zn, zt, zu, cE, jA, jC, jD, jF, jG, jH, jJ, jK, jL, jM, jN, hP, Int.toNat_zero, Nat.zero_mul, Int.le_refl, Nat.reduceAdd, ite_self, b1, b3, b4, b5, b6, b7, hm, hmc, hmo]; rfl)) "" Cmp.mk) (by kernel_rfl) (by kernel_rfl) (by first | exact zA1 _ | kernel_rfl) (by kernel_rfl) (by rfl) (by rfl) (by first | exact zA0 _ | rfl) (by rfl) ?_ ?_; rotate_left; refine zA4 hctr (rs := res50) true 300 _ _ _ ?_; simp (maxSteps := 1000000) only [VT, qE, qF, qG, qH, qI, qJ, qK, qO, qP, q0t, qu, qv, ev, qy, qz, zA, zB, zC, zD, zE, zG, zI, zJ, zM, ↓reduceIte, reduceCtorEq, Nat.reduceEqDiff, Nat.reduceAdd, Nat.reduceLT, zP, zQ, zR, zt, jN, jO, hP, hk, res50, kp50, Nat.reduceAdd]; rotate_left; simp (maxSteps := 1000000) only [qD, qK, qO, qP, qR, qS, qV, qZ, ql, qm, q0t, qv, ev, qw, qy, qz, zC, zD, zE, zG, zM, ↓reduceIte, Nat.reduceEqDiff, Nat.reduceAdd, Nat.reduceSub, zP, zR, zS, zT, zh, zm, zn, zq, zt, zu, jD, jF, jG, jH, jN, jP, jQ, jR, jS, jT, jU, hP, Int.toNat_zero, Nat.zero_mul, Int.le_refl, Nat.reduceAdd, ite_self, b1, b3, b4, b5, b6, b7, hm, hmc, hmo])
 ·have hm0':m=0:=by omega
  exact ⟨zG8 hund hiC (zV6 (by simp)) (fun ρ _ _ _ _=>⟨_,_,_,rfl,Nat.le_refl _⟩) (fun ρ=>⟨_,_,by rw [hi0]; rfl⟩),zG8 hund hiC (zV6 (by simp)) (fun ρ _ _ _ _=>⟨_,_,_,rfl,Nat.le_refl _⟩) (fun ρ=>⟨_,_,by rw [hm0']; rfl⟩)⟩
 refine zH5 (v:=.t [.g [.sl 2 0 0 0,.i .u64 X.cas,.i .i64 X.flush],.c (.b true)]) hC hres50 fun ρ w' hw' _ _=>?_
 have hup:=hw'.up
 rw [hC] at hup
 obtain ⟨_,hpre,_⟩:=hw'.ho 2 _ _ _ (by show 2 < 3; decide) rfl
 have hmu:=(hw'.mu 2 _ _ (by show 2 < 3; decide) rfl).resolve_left (by rw [hS]; exact fun h=>h)
 rw [hw] at hmu
 refine ⟨hup.to_below,_,rfl,.inl ⟨hm0,?_,(ρ 2).blk,hmu,?_⟩⟩
 ·rw [hrd]
  have h1:X.items.take i=[]:=by rw [hi0]; rfl
  have h2:X.items.drop (i+1)=[]:=List.eq_nil_of_length_eq_zero (by omega)
  show X.items.take i++X.items.drop (i+1)=[]
  rw [h1,h2]; rfl
 ·simp only [SC.den,hpre,List.length_nil]
theorem rdropZ_w {w:World} {g oo n c:Nat} {X:St} (hg:g < w.heap.size) (ha:RawI w (some ⟨g,oo,none⟩) X.items) (hs:Sorted X.items) (hn:n=X.items.length) (hnc:n≤c) (hcm:c≤maxLen) (hl:n≤100000000) (k:List UInt8) (hi0:atF X.items k=0) (hm0:1 < n) (his:isF X.items k=true) :
  Calls Tryz.prog 50 #[.agg #[.slice (some ⟨g,oo,none⟩) n c,.int .u64 X.cas,.int .i64 X.flush],.string ⟨k.toArray⟩] w (DropP w n (zF6 X k).items X.cas X.flush):=by
 obtain ⟨i,hi⟩:∃ i,atF X.items k=i:=⟨_,rfl⟩
 rw [hi] at hi0
 have hilt:i < n:=by rw [← hi,hn]; exact zE6 his
 unfold maxLen at hcm
 refine zA9 Tryz.func50 rfl kp50 (S:=Non) (ρ:=fun _=>⟨0,[],[],0,none⟩) (en:=[]) [.g [.v (.slice (some ⟨g,oo,none⟩) n c),.i .u64 X.cas,.i .i64 X.flush],.c (.s k)] Tryz.ntmps50 (At.nil _ _ _) (by intro y hy; simp only [List.mem_cons,List.not_mem_nil,or_false] at hy; rcases hy with rfl | rfl; exact zD6 trivial; trivial) (by simp) ?_
 intro C hC hP hk
 have hS:C.S=Non:=by rw [hC]; rfl
 have hw:C.w0=w:=by rw [hC]; rfl
 have hn0:C.n0=0:=by rw [hC]; rfl
 have hctr:zE8 C (rpC (some ⟨g,oo,none⟩) n c X):=zS4 hP hS hw ha hs hn hl
 have b1:(0:Int)≤(i:Int):=by omega
 have b3:(n:Int)≤(c:Int):=by omega
 have b4:(i:Int)≤(c:Int):=by omega
 have b5:IntKind.i64.wrap ((i:Int)+1)=((i+1:Nat):Int):=by rw [IntWalk.i64_in _ (by omega)]; rfl
 have b6:(0:Int)≤((i+1:Nat):Int):=by omega
 have b7:((i+1:Nat):Int)≤(n:Int):=by omega
 obtain ⟨m,hm⟩:∃ m,n - (i+1)=m:=⟨_,rfl⟩
 obtain ⟨mc,hmc⟩:∃ mc,c - (i+1)=mc:=⟨_,rfl⟩
 obtain ⟨mo,hmo⟩:∃ mo,(if c=i+1 then oo else oo+(i+1) * 8)=mo:=⟨_,rfl⟩
 have hrd:zF6 X k={ X with items:=X.items.take i++X.items.drop (i+1) }:=by unfold zF6; rw [if_pos his,hi]
 have hdl:(X.items.drop (i+1)).length=m:=by rw [List.length_drop,← hn]; exact hm
 obtain ⟨i0,hi',hz0,hz1,hz2⟩:=info_parts zK7
 have hiC:C.P.info? 33=some i0:=by rw [hP]; exact hi'
 have hund:C.P.underlying 22=some (.slice 33):=by rw [hP]; exact Tryz.underlying22
 have hnd:¬ (33:Nat)=zG0:=by decide
 (refine zA4 hctr (rs:=res50) true 300 _ _ _ ?_; simp (maxSteps:=1000000) only [VT,jg,qH,qI,qK,qO,qP,qT,qh,q0t,qu,qv,ev,qw,qy,qz,zA,zB,zD,zF,zG,zI,zJ,TE.sv,zK,zM,↓reduceIte,reduceCtorEq,Value.oneCell',Nat.reduceEqDiff,Nat.reduceLT,zP,zQ,zR,zT,zV,zW,zt,hP,hk,res50,kp50,rpC,zJ3,hi,his])
 have hsrc:∀ en,zX7 C en (.v (.slice (some ⟨g,mo,none⟩) m mc)) m (zB2 itS (X.items.drop (i+1))):=fun en=>by
  by_cases h0:m=0
  ·have:X.items.drop (i+1)=[]:=List.eq_nil_of_length_eq_zero (by rw [hdl]; exact h0)
   rw [this]
   exact fun ρ pr w hw hwf=>⟨_,_,rfl,fun j u h=>by simp [zC4,zB2] at h⟩
  ·have:=zH6 hS hw ha (i+1) m (by omega) (by omega)
   rw [List.take_of_length_le (by omega)] at this
   rw [← hmo,if_neg (by omega)]
   exact zM0 this
 have w1:∀ q,jW q (zB2 itS (X.items.drop (i+1)))=true:=fun q=>zG1 (zD7 _ _)
 have w2:∀ q,jW q (zB2 itS (X.items.take i))=true:=fun q=>zG1 (zD7 _ _)
 (refine zB9 hctr (by rw [hP]; rfl) rs50_4 [fun en => (.c (.sl 2 0 0 0), en), hap none 33 8 m (zB2 itS (X.items.drop (i + 1)))] (ensure_type_of% (Cmp.of (by simp (maxSteps := 1000000) only [qA, qD, qK, qO, qP, qR, qS, qV, qZ, ql, qm, q0t, qv, ev, qy, qz, zC, zD, zE, zF, zG, zM, ↓reduceIte, Nat.reduceEqDiff, Nat.reduceAdd, zP, zT, zh, zn, zt, zu, cE, jA, hap, zH8, rwE, jC, jD, jF, jG, jH, jJ, jK, jL, jM, jN, hP, Int.toNat_zero, Nat.zero_mul, Int.le_refl, Nat.reduceAdd, ite_self, b1, b3, b4, b5, b6, b7, hm, hmc, hmo, hap, zH8, rwE]; rfl)) "" Cmp.mk) (by kernel_rfl) (by kernel_rfl) (by first | exact zA1 _ | kernel_rfl) (by kernel_rfl) (by rfl) (by rfl) (by first | exact zA0 _ | rfl) (by rfl) ?_ ?_; rotate_left; refine zA4 hctr (rs := res50) true 300 _ _ _ ?_; simp (maxSteps := 1000000) only [VT, qE, qF, qG, qH, qI, qJ, qK, qO, qP, q0t, qu, qv, ev, qy, qz, zA, zB, zC, zD, zE, zG, zI, zJ, zM, ↓reduceIte, reduceCtorEq, Nat.reduceEqDiff, Nat.reduceAdd, Nat.reduceLT, zP, zQ, zR, zt, jN, jO, hP, hk, res50, kp50, Nat.reduceAdd]; rotate_left; simp (maxSteps := 1000000) only [qD, qK, qO, qP, qR, qS, qV, qZ, ql, qm, q0t, qv, ev, qw, qy, qz, zC, zD, zE, zG, zM, ↓reduceIte, Nat.reduceEqDiff, Nat.reduceAdd, Nat.reduceSub, zP, zR, zS, zT, zh, zm, zn, zq, zt, zu, jD, jF, jG, jH, jN, jP, jQ, jR, jS, jT, jU, hP, Int.toNat_zero, Nat.zero_mul, Int.le_refl, Nat.reduceAdd, ite_self, b1, b3, b4, b5, b6, b7, hm, hmc, hmo])
 ·refine ⟨zG8 hund hiC (zV6 (by simp)) (fun ρ _ _ _ _=>⟨_,_,_,rfl,Nat.le_refl _⟩) (fun ρ=>⟨_,_,by rw [hi0]; rfl⟩),?_⟩
  rw [show (SV.c (SC.rw 3 m))=SV.c (SC.rw 3 (0+m)) by rw [Nat.zero_add]]
  exact zC7 (N:=3) (n:=0) (m:=m) (z:=8) (bts:=72) (cells:=[]) (news:=zB2 itS (X.items.drop (i+1))) (o:=none) hund hiC hz0 hz1 hz2 rfl (by decide) hnd (.zero rfl rfl (by omega)) (hsrc _) (by rw [zF9 zK0,hdl]) (zJ4 _) (fun pr=>zD7 pr _) (by omega) (by omega) (by rw [hn0]; exact Nat.zero_le _) (fun q=>zG7 (nE:=2) (i:=1) (fun k=>by match k with | 0=>simp | 1=>simp | _+2=>simp)) (by rw [Nat.zero_add]; rfl) (fun q hq=>by match q with | 0=>rfl | 1=>rfl | 2=>rfl | 3=>exact absurd rfl hq | _+4=>rfl)
 have hL:(zF6 X k).items=X.items.drop (i+1):=by
  rw [hrd]
  have h1:X.items.take i=[]:=by rw [hi0]; rfl
  show X.items.take i++X.items.drop (i+1)=_
  rw [h1]; rfl
 have hLl:(X.items.drop (i+1)).length=m:=by exact hdl
 refine zH5 (v:=.t [.g [.rw 3 (m),.i .u64 X.cas,.i .i64 X.flush],.c (.b true)]) hC hres50 fun ρ w' hw' _ _=>?_
 have hup:=hw'.up
 rw [hC] at hup
 have k1:=RowOk.of (N:=3) (n:=m) (z:=8) (e:=33) (cells:=zB2 itS (X.items.drop (i+1))) hw' hS rfl (by decide)
 have hce:zB2 itS (X.items.drop (i+1))=zB2 itS (X.items.drop (i+1)):=by simp [zB2]
 rw [hw,hce,zD3] at k1
 rw [hL]
 refine ⟨hup.to_below,_,rfl,.inr ⟨by omega,ρ 3,by rw [hLl]; exact k1,?_⟩⟩
 rw [hLl]; rfl
theorem rdropP_w {w:World} {g oo n c:Nat} {X:St} (hg:g < w.heap.size) (ha:RawI w (some ⟨g,oo,none⟩) X.items) (hs:Sorted X.items) (hn:n=X.items.length) (hnc:n≤c) (hcm:c≤maxLen) (hl:n≤100000000) (k:List UInt8) (hi0:0 < atF X.items k) (his:isF X.items k=true) :
  Calls Tryz.prog 50 #[.agg #[.slice (some ⟨g,oo,none⟩) n c,.int .u64 X.cas,.int .i64 X.flush],.string ⟨k.toArray⟩] w (DropP w n (zF6 X k).items X.cas X.flush):=by
 obtain ⟨i,hi⟩:∃ i,atF X.items k=i:=⟨_,rfl⟩
 rw [hi] at hi0
 have hilt:i < n:=by rw [← hi,hn]; exact zE6 his
 unfold maxLen at hcm
 refine zA9 Tryz.func50 rfl kp50 (S:=Non) (ρ:=fun _=>⟨0,[],[],0,none⟩) (en:=[]) [.g [.v (.slice (some ⟨g,oo,none⟩) n c),.i .u64 X.cas,.i .i64 X.flush],.c (.s k)] Tryz.ntmps50 (At.nil _ _ _) (by intro y hy; simp only [List.mem_cons,List.not_mem_nil,or_false] at hy; rcases hy with rfl | rfl; exact zD6 trivial; trivial) (by simp) ?_
 intro C hC hP hk
 have hS:C.S=Non:=by rw [hC]; rfl
 have hw:C.w0=w:=by rw [hC]; rfl
 have hn0:C.n0=0:=by rw [hC]; rfl
 have hctr:zE8 C (rpC (some ⟨g,oo,none⟩) n c X):=zS4 hP hS hw ha hs hn hl
 have b1:(0:Int)≤(i:Int):=by omega
 have b3:(n:Int)≤(c:Int):=by omega
 have b4:(i:Int)≤(c:Int):=by omega
 have b5:IntKind.i64.wrap ((i:Int)+1)=((i+1:Nat):Int):=by rw [IntWalk.i64_in _ (by omega)]; rfl
 have b6:(0:Int)≤((i+1:Nat):Int):=by omega
 have b7:((i+1:Nat):Int)≤(n:Int):=by omega
 obtain ⟨m,hm⟩:∃ m,n - (i+1)=m:=⟨_,rfl⟩
 obtain ⟨mc,hmc⟩:∃ mc,c - (i+1)=mc:=⟨_,rfl⟩
 obtain ⟨mo,hmo⟩:∃ mo,(if c=i+1 then oo else oo+(i+1) * 8)=mo:=⟨_,rfl⟩
 have hrd:zF6 X k={ X with items:=X.items.take i++X.items.drop (i+1) }:=by unfold zF6; rw [if_pos his,hi]
 have hdl:(X.items.drop (i+1)).length=m:=by rw [List.length_drop,← hn]; exact hm
 obtain ⟨i0,hi',hz0,hz1,hz2⟩:=info_parts zK7
 have hiC:C.P.info? 33=some i0:=by rw [hP]; exact hi'
 have hund:C.P.underlying 22=some (.slice 33):=by rw [hP]; exact Tryz.underlying22
 have hnd:¬ (33:Nat)=zG0:=by decide
 (refine zA4 hctr (rs:=res50) true 300 _ _ _ ?_; simp (maxSteps:=1000000) only [VT,jg,qH,qI,qK,qO,qP,qT,qh,q0t,qu,qv,ev,qw,qy,qz,zA,zB,zD,zF,zG,zI,zJ,TE.sv,zK,zM,↓reduceIte,reduceCtorEq,Value.oneCell',Nat.reduceEqDiff,Nat.reduceLT,zP,zQ,zR,zT,zV,zW,zt,hP,hk,res50,kp50,rpC,zJ3,hi,his])
 have hsrc:∀ en,zX7 C en (.v (.slice (some ⟨g,mo,none⟩) m mc)) m (zB2 itS (X.items.drop (i+1))):=fun en=>by
  by_cases h0:m=0
  ·have:X.items.drop (i+1)=[]:=List.eq_nil_of_length_eq_zero (by rw [hdl]; exact h0)
   rw [this]
   exact fun ρ pr w hw hwf=>⟨_,_,rfl,fun j u h=>by simp [zC4,zB2] at h⟩
  ·have:=zH6 hS hw ha (i+1) m (by omega) (by omega)
   rw [List.take_of_length_le (by omega)] at this
   rw [← hmo,if_neg (by omega)]
   exact zM0 this
 have w1:∀ q,jW q (zB2 itS (X.items.drop (i+1)))=true:=fun q=>zG1 (zD7 _ _)
 have w2:∀ q,jW q (zB2 itS (X.items.take i))=true:=fun q=>zG1 (zD7 _ _)
 (refine zB9 hctr (by rw [hP]; rfl) rs50_4 [hap none 33 8 i (zB2 itS (X.items.take i)), hap (some 3) 33 8 (i + m) (zB2 itS (X.items.take i) ++ zB2 itS (X.items.drop (i + 1)))] (ensure_type_of% (Cmp.of (by simp (maxSteps := 1000000) only [qA, qD, qK, qO, qP, qR, qS, qV, qZ, ql, qm, q0t, qv, ev, qy, qz, zC, zD, zE, zF, zG, zM, ↓reduceIte, Nat.reduceEqDiff, Nat.reduceAdd, zP, zT, zh, zn, zt, zu, cE, jA, hap, zH8, zA5, rwE, jC, jD, jF, jG, jH, jJ, jK, jL, jM, jN, hP, Int.toNat_zero, Nat.zero_mul, Int.le_refl, Nat.reduceAdd, ite_self, b1, b3, b4, b5, b6, b7, hm, hmc, hmo, hap, zH8, zA5, rwE]; rfl)) "" Cmp.mk) (by kernel_rfl) (by kernel_rfl) (by first | exact zA1 _ | kernel_rfl) (by kernel_rfl) (by rfl) (by rfl) (by first | exact zA0 _ | rfl) (by rfl) ?_ ?_; rotate_left; refine zA4 hctr (rs := res50) true 300 _ _ _ ?_; simp (maxSteps := 1000000) only [VT, qE, qF, qG, qH, qI, qJ, qK, qO, qP, q0t, qu, qv, ev, qy, qz, zA, zB, zC, zD, zE, zG, zI, zJ, zM, ↓reduceIte, reduceCtorEq, Nat.reduceEqDiff, Nat.reduceAdd, Nat.reduceLT, zP, zQ, zR, zt, jN, jO, hP, hk, res50, kp50, Nat.reduceAdd]; rotate_left; simp (maxSteps := 1000000) only [qD, qK, qO, qP, qR, qS, qV, qZ, ql, qm, q0t, qv, ev, qw, qy, qz, zC, zD, zE, zG, zM, ↓reduceIte, Nat.reduceEqDiff, Nat.reduceAdd, Nat.reduceSub, zP, zR, zS, zT, zh, zm, zn, zq, zt, zu, jD, jF, jG, jH, jN, jP, jQ, jR, jS, jT, jU, hP, Int.toNat_zero, Nat.zero_mul, Int.le_refl, Nat.reduceAdd, ite_self, b1, b3, b4, b5, b6, b7, hm, hmc, hmo])
 ·have hr1:C.rd g oo (i * 8)=some (zB2 itS (X.items.take i)):=by have:=zH6 hS hw ha 0 i (by omega) hi0; rw [Nat.zero_mul,Nat.add_zero,List.drop_zero] at this; exact this
  refine ⟨?_,?_⟩
  ·rw [show (SV.c (SC.rw 3 i))=SV.c (SC.rw 3 (0+i)) by rw [Nat.zero_add]]
   exact zC7 (N:=3) (n:=0) (m:=i) (z:=8) (bts:=72) (cells:=[]) (news:=zB2 itS (X.items.take i)) (o:=none) hund hiC hz0 hz1 hz2 rfl (by decide) hnd (.zero rfl rfl hi0) (zM0 hr1) (by rw [zF9 zK0,List.length_take]; omega) (zJ4 _) (fun pr=>zD7 pr _) (by omega) (by omega) (by rw [hn0]; exact Nat.zero_le _) (fun q=>zG7 (nE:=2) (i:=1) (fun k=>by match k with | 0=>simp | 1=>simp | 2=>simp | _+3=>simp)) (by rw [Nat.zero_add]; rfl) (fun q hq=>by match q with | 0=>rfl | 1=>rfl | 2=>rfl | 3=>exact absurd rfl hq | 4=>rfl | _+5=>rfl)
  ·exact zC7 (N:=4) (n:=i) (m:=m) (z:=8) (bts:=72) (cells:=zB2 itS (X.items.take i)) (news:=zB2 itS (X.items.drop (i+1))) (o:=some 3) hund hiC hz0 hz1 hz2 rfl (by decide) hnd (.some rfl) (hsrc _) (by rw [zF9 zK0,hdl]) (zJ4 _) (fun pr=>zD7 pr _) (by omega) (by omega) (by rw [hn0]; exact Nat.zero_le _) (fun q=>zG7 (nE:=2) (i:=2) (fun k=>by match k with | 0=>simp | 1=>simp | 2=>simp | _+3=>simp)) rfl (fun q hq=>by match q with | 0=>rfl | 1=>rfl | 2=>rfl | 3=>rfl | 4=>exact absurd rfl hq | _+5=>rfl)
 have hL:(zF6 X k).items=X.items.take i++X.items.drop (i+1):=by
  rw [hrd]
 have hLl:(X.items.take i++X.items.drop (i+1)).length=i+m:=by simp only [List.length_append,List.length_take,hdl]; omega
 refine zH5 (v:=.t [.g [.rw 4 (i+m),.i .u64 X.cas,.i .i64 X.flush],.c (.b true)]) hC hres50 fun ρ w' hw' _ _=>?_
 have hup:=hw'.up
 rw [hC] at hup
 have k1:=RowOk.of (N:=4) (n:=i+m) (z:=8) (e:=33) (cells:=zB2 itS (X.items.take i)++zB2 itS (X.items.drop (i+1))) hw' hS rfl (by decide)
 have hce:zB2 itS (X.items.take i)++zB2 itS (X.items.drop (i+1))=zB2 itS (X.items.take i++X.items.drop (i+1)):=by simp [zB2,List.flatMap_append]
 rw [hw,hce,zD3] at k1
 rw [hL]
 refine ⟨hup.to_below,_,rfl,.inr ⟨by omega,ρ 4,by rw [hLl]; exact k1,?_⟩⟩
 rw [hLl]; rfl
theorem rdrop_w {w:World} {a:Option Addr} {n c:Nat} {X:St} (hX:StR w a n c X) (k:List UInt8) (his:isF X.items k=true) :
  Calls Tryz.prog 50 #[.agg #[.slice a n c,.int .u64 X.cas,.int .i64 X.flush],.string ⟨k.toArray⟩] w (DropP w n (zF6 X k).items X.cas X.flush):=by
 have hlt:=zE6 his
 have hn:=hX.hn
 rcases hX.h0 with ⟨g,o,rfl,hg⟩ | ⟨_,h0,_⟩
 ·by_cases hi0:atF X.items k=0
  ·by_cases hm0:n=1
   ·exact rdropO_w hg hX.ha hX.hs hn hX.hnc hX.hcm hX.hl k hi0 hm0 his
   ·exact rdropZ_w hg hX.ha hX.hs hn hX.hnc hX.hcm hX.hl k hi0 (by omega) his
  ·exact rdropP_w hg hX.ha hX.hs hn hX.hnc hX.hcm hX.hl k (Nat.pos_of_ne_zero hi0) his
 ·omega
end Go.Proofs.YtfpeholdlkfmoaaGreatDoor
/- Drop as a call of a walk; the document's remove, walked. Printed by gen_refw7.py. -/
namespace Go.Proofs.YtfpeholdlkfmoaaGreatDoor
set_option linter.unusedSimpArgs false
set_option linter.unusedVariables false
set_option maxHeartbeats 8000000
open Go.RowKit
set_option maxRecDepth 100000
def zrE:EN:=⟨(33,0,whole),[],true⟩
def itV (z:Bool) (N:Nat) (L:List It):SC:=if z then .sl N 0 0 0 else .rw N L.length
def itE (z:Bool) (L:List It):EN:=if z then zrE else rwI L
theorem rdrop_h {C:Cx} {nE N:Nat} {mk:Nat→Prop} {en en':List EN} {w:World} {a:Option Addr} {n c:Nat} {X:St} (hP:C.P=Tryz.prog) (hS:C.S=Non) (hw:C.w0=w) (hX:StR w a n c X) (k:List UInt8) (his:isF X.items k=true) (cs fl:Int) {L:List It} (hL:(zF6 X k).items=L) {z:Bool} (hz:z=decide (n=1))
  (hmk:∀ q,mk q ↔ q=N) (hn0:C.n0≤N) (hN:zD en' N=some (itE z L)) (hq:∀ q,q ≠ N→zD en' q=zD en q) :
  zL3 C nE mk en en' 50 [.g [.v (.slice a n c),.i .u64 cs,.i .i64 fl],.c (.s k)] (.t [.g [itV z N L,.i .u64 cs,.i .i64 fl],.c (.b true)]):=by
 have call:∀ (ρ:Nat→RE) pr w',Hw C ρ pr en w'→Calls Tryz.prog 50 #[.agg #[.slice a n c,.int .u64 cs,.int .i64 fl],.string ⟨k.toArray⟩] w' (DropP w' n L cs fl):=fun ρ pr w' hw'=>by
  have hu:Upd Non w w':=by have:=hw'.up; rw [hS,hw] at this; exact this
  have hX':=hX.upd hu
  have hX2:StR w' a n c ⟨X.items,cs,fl⟩:=⟨hX'.h0,hX'.ha,hX'.hs,hX'.hn,hX'.hnc,hX'.hcm,hX'.hl⟩
  have hp:=rdrop_w hX2 k his
  have hL':(zF6 ⟨X.items,cs,fl⟩ k).items=L:=by
   rw [← hL]; unfold zF6; simp only; split <;> rfl
  rw [hL'] at hp
  exact hp
 by_cases h1:n=1
 ·obtain rfl:z=true:=by rw [hz]; simp [h1]
  refine zO2 (e:=zrE) (vals:=[]) (fun args w=>by rw [hP]; exact Tryz.call50 args w) hmk hn0 hN hq (by show ¬ (33:Nat)=zG0; decide) (fun ρ=>rfl) (fun pr x hx=>by cases hx) (fun pr h=>?_) ?_
  ·intro y hy
   simp only [List.mem_cons,List.not_mem_nil,or_false] at hy
   rcases hy with rfl | rfl
   ·exact zD6 h
   ·trivial
  intro ρ pr w' hw' _ _
  rw [hP]
  refine (call ρ pr w' hw').mono ?_
  rintro e w'' ⟨hb,v,rfl,h⟩
  rcases h with ⟨_,rfl,b,hbb,rfl⟩ | ⟨hne,_⟩
  ·refine ⟨⟨b,[],[],0,some none⟩,⟨rfl,⟨rfl,rfl⟩,(fun h=>by cases h),fun _=>rfl,fun _=>hbb⟩,fun ρ' _ hr=>?_,hb⟩
   show _=Ending.returned (Value.tuple #[.agg #[(SC.sl N 0 0 0).den ρ',_,_],_])
   simp only [SC.den,hr,List.length_nil,Nat.zero_add]
   rfl
  ·exact absurd h1 hne
 ·obtain rfl:z=false:=by rw [hz]; simp [h1]
  refine zO2 (e:=rwI L) (vals:=zC8 L) (fun args w=>by rw [hP]; exact Tryz.call50 args w) hmk hn0 hN hq (by show ¬ (33:Nat)=zG0; decide) (fun ρ=>zD3 ρ _) (fun pr=>zD7 pr _) (fun pr h=>?_) ?_
  ·intro y hy
   simp only [List.mem_cons,List.not_mem_nil,or_false] at hy
   rcases hy with rfl | rfl
   ·exact zD6 h
   ·trivial
  intro ρ pr w' hw' _ _
  rw [hP]
  refine (call ρ pr w' hw').mono ?_
  rintro e w'' ⟨hb,v,rfl,h⟩
  rcases h with ⟨hne,_⟩ | ⟨_,r,hr,rfl⟩
  ·exact absurd hne h1
  ·refine ⟨r,hr.made (fun ρ=>zD3 ρ _),fun ρ' _ h=>?_,hb⟩
   rw [← h]; rfl
theorem zT6 {C:Cx} {nt:Nat} {sl:List (Nat × SV)} {en:List EN} {k:List KI} {dst:Option Nat} {ty:TypeId} {pos:String} {af:Array Edge} {all r:List Oper} {args:Array Operand} {tys:Array TypeId} {w:World} {a:Option Addr} {n c:Nat} {X:St} (hP:C.P=Tryz.prog) (hS:C.S=Non) (hw:C.w0=w) (hX:StR w a n c X) (key:List UInt8) (his:isF X.items key=true) (cs fl:Int) {L:List It} (hL:(zF6 X key).items=L) {z:Bool} (hz:z=decide (n=1)) (hn0:C.n0≤zG en)
  (hxs:qw sl args.toList=some [.g [.v (.slice a n c),.i .u64 cs,.i .i64 fl],.c (.s key)]) (hd:∀ d,dst=some d→d < nt) (hK:Run C (.ops all r :: k) nt (jN dst (.t [.g [itV z (zG en) L,.i .u64 cs,.i .i64 fl],.c (.b true)]) sl) (zF en (itE z L))) :
  Run C (.ops all (⟨dst,.call ⟨.value (.func 50),args,tys⟩,ty,pos,af,none⟩ :: r) :: k) nt sl en:=by
 have hl:zG (zF en (itE z L))=zG en+1:=zE7
 exact zF5 hxs _ _ (rdrop_h (N:=zG en) hP hS hw hX key his cs fl hL hz (fun q=>by rw [hl]; omega) hn0 zI6 (fun q h=>zD0 h)) (by rw [hl]; omega) hd hK
def RemP (w:World) (a:Option Addr) (n c:Nat) (X:St) (knd:Nat) (Y:St × An) (e:Ending) (w':World):Prop:=
 Below w.heap.size w w'∧∃ v,e=.returned (.tuple #[.agg #[v,.int .u64 Y.1.cas,.int .i64 Y.1.flush],.agg (anA Y.2)])∧((knd=0∧v=.slice a n c∧Y.1.items=X.items)∨(knd=1∧∃ r,RowOk w.heap.size w' r 33 8 Y.1.items.length (zC8 Y.1.items)∧v=zJ7 r Y.1.items.length)∨(knd=2∧Y.1.items=[]∧∃ b,w.heap.size≤b∧v=.slice (some ⟨b,0,none⟩) 0 0))
theorem rremove_w {w:World} {a:Option Addr} {n c:Nat} {X:St} (hX:StR w a n c X) (now:Int) (hn1:1≤now) (hn2:now≤1099511627776) (cd:Cd) (x:It) (his:isF X.items cd.key=true) :
  Calls Tryz.prog 27 #[.agg #[.slice a n c,.int .u64 X.cas,.int .i64 X.flush],.int .i64 now,.agg (cdA cd),.agg (itA x)] w (RemP w a n c X (if (cd.hasCas && !(x.cas == cd.cas))=true then 0 else if cd.inval=false then (if n=1 then 2 else 1) else (1:Nat)) (zE3 X now cd x)):=by
 refine zA9 Tryz.func27 rfl kp27 (S:=Non) (ρ:=fun _=>⟨0,[],[],0,none⟩) (en:=[]) [.g [.v (.slice a n c),.i .u64 X.cas,.i .i64 X.flush],.c (.i .i64 now),.g (cdS cd),.g (itS x)] Tryz.ntmps27 (At.nil _ _ _) (by intro y hy; simp only [List.mem_cons,List.not_mem_nil,or_false] at hy; rcases hy with rfl | rfl | rfl | rfl; exact zD6 trivial; trivial; exact zW6 _ _; exact zI2 _ _) (by simp) ?_
 intro C hC hP hk
 have hS:C.S=Non:=by rw [hC]; rfl
 have hw:C.w0=w:=by rw [hC]; rfl
 have hn0:C.n0=0:=by rw [hC]; rfl
 have hctr:zE8 C rgC:=rgC_ok hP
 have hnow:=And.intro hn1 hn2
 have fin:∀ (Y':St × An) (en:List EN),zE3 X now cd x=Y'→(if (cd.hasCas && !(x.cas == cd.cas))=true then 0 else if cd.inval=false then (if n=1 then 2 else 1) else (1:Nat))=0→Y'.1=X→Fin C res27 (.t [.g [.v (.slice a n c),.i .u64 X.cas,.i .i64 X.flush],.g (anS Y'.2)]) en:=fun Y' en h1 h2 h3=>by
  refine zH5 (v:=.t [.g [.v (.slice a n c),.i .u64 X.cas,.i .i64 X.flush],.g (anS Y'.2)]) hC hres27 fun ρ w' hw' _ _=>?_
  have hup:=hw'.up
  rw [hC] at hup
  rw [h1]
  refine ⟨hup.to_below,_,?_,.inl ⟨h2,rfl,by rw [h3]⟩⟩
  rw [h3]; rfl
 have finN:∀ (Y':St × An) (N:Nat) (en:List EN),zE3 X now cd x=Y'→(if (cd.hasCas && !(x.cas == cd.cas))=true then 0 else if cd.inval=false then (if n=1 then 2 else 1) else (1:Nat))=1→zD en N=some (rwI Y'.1.items)→Fin C res27 (.t [.g [.rw N Y'.1.items.length,.i .u64 Y'.1.cas,.i .i64 Y'.1.flush],.g (anS Y'.2)]) en:=fun Y' N en h1 h2 h3=>by
  refine zH5 (v:=.t [.g [.rw N Y'.1.items.length,.i .u64 Y'.1.cas,.i .i64 Y'.1.flush],.g (anS Y'.2)]) hC hres27 fun ρ w' hw' _ _=>?_
  have hup:=hw'.up
  rw [hC] at hup
  rw [h1]
  have k1:=RowOk.of (N:=N) (n:=Y'.1.items.length) (z:=8) (e:=33) (cells:=zB2 itS Y'.1.items) hw' hS h3 (by decide)
  rw [hw,zD3] at k1
  exact ⟨hup.to_below,_,rfl,.inr (.inl ⟨h2,ρ N,k1,rfl⟩)⟩
 have finZ:∀ (Y':St × An) (N:Nat) (en:List EN),zE3 X now cd x=Y'→(if (cd.hasCas && !(x.cas == cd.cas))=true then 0 else if cd.inval=false then (if n=1 then 2 else 1) else (1:Nat))=2→Y'.1.items=[]→zD en N=some zrE→Fin C res27 (.t [.g [.sl N 0 0 0,.i .u64 Y'.1.cas,.i .i64 Y'.1.flush],.g (anS Y'.2)]) en:=fun Y' N en h1 h2 h4 h3=>by
  refine zH5 (v:=.t [.g [.sl N 0 0 0,.i .u64 Y'.1.cas,.i .i64 Y'.1.flush],.g (anS Y'.2)]) hC hres27 fun ρ w' hw' _ _=>?_
  have hup:=hw'.up
  rw [hC] at hup
  rw [h1]
  have lN:N < en.length:=by rw [zA8] at h3; exact (List.getElem?_eq_some_iff.1 h3).1
  obtain ⟨_,hpre,_⟩:=hw'.ho N _ _ _ lN h3
  have hmu:=(hw'.mu N _ _ lN h3).resolve_left (by rw [hS]; exact fun h=>h)
  rw [hw] at hmu
  refine ⟨hup.to_below,_,rfl,.inr (.inr ⟨h2,h4,(ρ N).blk,hmu,?_⟩)⟩
  simp only [SC.den,hpre,List.length_nil,Nat.zero_add]
 cases hc:cd.hasCas with
 | false =>
  cases hv:cd.inval with
  | false =>
   (refine zA4 hctr (rs:=res27) true 300 _ _ _ ?_; simp (maxSteps:=1000000) only [VT,jf,jg,jd,qH,qI,qK,qO,qP,qT,qV,qp,q0t,qu,qv,ev,qw,qy,qz,zA,zB,zD,zF,zG,zI,zJ,zK,zM,↓reduceIte,reduceCtorEq,Value.oneCell',Nat.reduceEqDiff,Nat.reduceAdd,Nat.reduceLT,zP,zQ,zR,zV,zW,zt,hP,hk,res27,kp27,rgC,cdS,itS,Nat.reduceAdd,hc,hv])
   obtain ⟨L,hL⟩:∃ L,(zF6 X cd.key).items=L:=⟨_,rfl⟩
   have hY:zE3 X now cd x=(zF6 X cd.key,zA6 9):=by unfold zE3; rw [if_neg (by simp [hc]),if_pos (by rw [hv]; rfl)]
   have jB:(zF6 X cd.key).cas=X.cas∧(zF6 X cd.key).flush=X.flush:=by unfold zF6; split <;> exact ⟨rfl,rfl⟩
   by_cases h1:n=1
   ·refine zT6 (z:=true) hP hS hw hX cd.key his X.cas X.flush hL (by simp [h1]) (by rw [hn0]; exact Nat.zero_le _) rfl (by simp) ?_
    (refine zA4 hctr (rs:=res27) true 300 _ _ _ ?_; simp (maxSteps:=1000000) only [VT,qE,qF,qG,qH,qI,qJ,qK,qO,qP,qf,qg,qh,q0t,qu,qv,ev,qy,qz,zA,zB,zC,zD,zE,zF,zG,zI,zJ,TE.sv,zM,↓reduceIte,reduceCtorEq,Nat.reduceEqDiff,Nat.reduceAdd,Nat.reduceLT,zP,zQ,zR,zt,jN,hP,hk,res27,kp27,Nat.reduceAdd,itV,itE])
    have hne:(zF6 X cd.key).items=[]:=by
     have hlt:=zE6 his
     have hn:=hX.hn
     apply List.eq_nil_of_length_eq_zero
     unfold zF6
     rw [if_pos his]
     simp only [List.length_append,List.length_take,List.length_drop]
     omega
    have:=fun en=>finZ (zF6 X cd.key,zA6 9) 5 en hY (by simp [hc,hv,h1]) hne
    simp only [jB.1,jB.2] at this
    exact this _ rfl
   ·refine zT6 (z:=false) hP hS hw hX cd.key his X.cas X.flush hL (by simp [h1]) (by rw [hn0]; exact Nat.zero_le _) rfl (by simp) ?_
    (refine zA4 hctr (rs:=res27) true 300 _ _ _ ?_; simp (maxSteps:=1000000) only [VT,qE,qF,qG,qH,qI,qJ,qK,qO,qP,qf,qg,qh,q0t,qu,qv,ev,qy,qz,zA,zB,zC,zD,zE,zF,zG,zI,zJ,TE.sv,zM,↓reduceIte,reduceCtorEq,Nat.reduceEqDiff,Nat.reduceAdd,Nat.reduceLT,zP,zQ,zR,zt,jN,hP,hk,res27,kp27,Nat.reduceAdd,itV,itE,Bool.false_eq_true])
    have:=fun en=>finN (zF6 X cd.key,zA6 9) 5 en hY (by simp [hc,hv,h1])
    simp only [jB.1,jB.2,hL] at this
    exact this _ rfl
  | true =>
   cases hh:cd.hasExp with
   | false =>
    obtain ⟨L,hL⟩:∃ L,(zH7 X (⟨x.key,x.flags,x.val,x.exp,nx X,x.last,true,false⟩:It)).items=L:=⟨_,rfl⟩
    (refine zA4 hctr (rs:=res27) true 300 _ _ _ ?_; simp (maxSteps:=1000000) only [VT,jg,jd,qH,qI,qJ,qK,qO,qP,qR,qS,qT,qV,qp,q0t,qu,qv,ev,qy,qz,zC,zD,zE,zF,zG,zI,zJ,zK,zM,↓reduceIte,reduceCtorEq,Value.oneCell',Nat.reduceEqDiff,Nat.reduceAdd,Nat.reduceLT,zP,zQ,zR,zV,zW,zt,hP,hk,res27,kp27,cdS,itS,Nat.reduceAdd,hc,hv,hh])
    (refine zB9 hctr (by rw [hP]; rfl) rs27_12 [jB (fun N => .g [.rw N L.length, .i .u64 (nx X), .i .i64 X.flush]) (fun _ => rwI L)] (ensure_type_of% (Cmp.of (by simp (maxSteps := 1000000) only [qA, qK, qP, qf, qg, q0t, qu, qv, ev, qw, qy, qz, zA, zB, zC, zD, zE, zF, zG, zM, ↓reduceIte, Nat.reduceEqDiff, Nat.reduceAdd, zP, zk, zl, zt, cE, jA, jB, jC, jD, jH, jK, jL, jM, jN, hP, rgC, nx, Nat.reduceAdd]; rfl)) "" Cmp.mk) (by kernel_rfl) (by kernel_rfl) (by first | exact zA1 _ | kernel_rfl) (by kernel_rfl) (by rfl) (by rfl) (by first | exact zA0 _ | rfl) (by rfl) ?_ ?_; rotate_left; refine zA4 hctr (rs := res27) true 300 _ _ _ ?_; simp (maxSteps := 1000000) only [VT, qE, qF, qG, qP, qy, zA, zB, zD, zG, zI, zJ, zM, ↓reduceIte, reduceCtorEq, Nat.reduceEqDiff, Nat.reduceAdd, zP, zQ, zt, jN, jO, hP, hk, res27, kp27, Nat.reduceAdd]; rotate_left; simp (maxSteps := 1000000) only [qK, qP, qf, qg, q0t, qu, qv, ev, qw, qy, qz, zA, zB, zC, zD, zE, zG, zM, ↓reduceIte, Nat.reduceEqDiff, Nat.reduceAdd, zP, zR, zS, zT, zk, zl, zn, zt, jD, jH, jN, jP, jQ, jR, jS, jT, jU, hP, Nat.reduceAdd])
    ·exact zQ1 (x:=(⟨x.key,x.flags,x.val,x.exp,nx X,x.last,true,false⟩:It)) hP hS hw hX (nx X) X.flush hL (zI7 (by simp)) (by rw [hn0]; exact Nat.zero_le _) rfl (fun q _=>rfl)
    have hY:zE3 X now cd x=(zH7 { X with cas:=nx X } (⟨x.key,x.flags,x.val,x.exp,nx X,x.last,true,false⟩:It),⟨9,(⟨x.key,x.flags,x.val,x.exp,nx X,x.last,true,false⟩:It),0,false,false,false⟩):=by unfold zE3; rw [if_neg (by simp [hc]),if_neg (by rw [hv]; simp)]; simp [rGone,hh]
    have:=fun en=>finN (zH7 { X with cas:=nx X } (⟨x.key,x.flags,x.val,x.exp,nx X,x.last,true,false⟩:It),⟨9,(⟨x.key,x.flags,x.val,x.exp,nx X,x.last,true,false⟩:It),0,false,false,false⟩) 5 en hY (by simp [hc,hv])
    have hL2:(zH7 { X with cas:=nx X } (⟨x.key,x.flags,x.val,x.exp,nx X,x.last,true,false⟩:It)).items=L:=hL
    rw [hL2] at this
    exact this _ rfl
   | true =>
    obtain ⟨L,hL⟩:∃ L,(zH7 X (⟨x.key,x.flags,x.val,zJ1 now cd.exp,nx X,x.last,true,false⟩:It)).items=L:=⟨_,rfl⟩
    (refine zA4 hctr (rs:=res27) true 300 _ _ _ ?_; simp (maxSteps:=1000000) only [VT,jf,jg,jd,qH,qI,qJ,qK,qO,qP,qR,qS,qT,qV,qp,q0t,qu,qv,ev,qw,qy,qz,zC,zD,zE,zF,zG,zI,zJ,zK,zM,↓reduceIte,reduceCtorEq,Value.oneCell',Nat.reduceEqDiff,Nat.reduceAdd,Nat.reduceLT,zP,zQ,zR,zT,zV,zW,zt,hP,hk,res27,kp27,rgC,zG3,cdS,itS,hnow,Nat.reduceAdd,hc,hv,hh])
    (refine zB9 hctr (by rw [hP]; rfl) rs27_12 [jB (fun N => .g [.rw N L.length, .i .u64 (nx X), .i .i64 X.flush]) (fun _ => rwI L)] (ensure_type_of% (Cmp.of (by simp (maxSteps := 1000000) only [qA, qK, qP, qf, qg, q0t, qu, qv, ev, qw, qy, qz, zA, zB, zC, zD, zE, zF, zG, zM, ↓reduceIte, Nat.reduceEqDiff, Nat.reduceAdd, zP, zk, zl, zt, cE, jA, jB, jC, jD, jH, jK, jL, jM, jN, hP, rgC, nx, Nat.reduceAdd]; rfl)) "" Cmp.mk) (by kernel_rfl) (by kernel_rfl) (by first | exact zA1 _ | kernel_rfl) (by kernel_rfl) (by rfl) (by rfl) (by first | exact zA0 _ | rfl) (by rfl) ?_ ?_; rotate_left; refine zA4 hctr (rs := res27) true 300 _ _ _ ?_; simp (maxSteps := 1000000) only [VT, qE, qF, qG, qP, qy, zA, zB, zD, zG, zI, zJ, zM, ↓reduceIte, reduceCtorEq, Nat.reduceEqDiff, Nat.reduceAdd, zP, zQ, zt, jN, jO, hP, hk, res27, kp27, Nat.reduceAdd]; rotate_left; simp (maxSteps := 1000000) only [qK, qP, qf, qg, q0t, qu, qv, ev, qw, qy, qz, zA, zB, zC, zD, zE, zG, zM, ↓reduceIte, Nat.reduceEqDiff, Nat.reduceAdd, zP, zR, zS, zT, zk, zl, zn, zt, jD, jH, jN, jP, jQ, jR, jS, jT, jU, hP, Nat.reduceAdd])
    ·exact zQ1 (x:=(⟨x.key,x.flags,x.val,zJ1 now cd.exp,nx X,x.last,true,false⟩:It)) hP hS hw hX (nx X) X.flush hL (zI7 (by simp)) (by rw [hn0]; exact Nat.zero_le _) rfl (fun q _=>rfl)
    have hY:zE3 X now cd x=(zH7 { X with cas:=nx X } (⟨x.key,x.flags,x.val,zJ1 now cd.exp,nx X,x.last,true,false⟩:It),⟨9,(⟨x.key,x.flags,x.val,zJ1 now cd.exp,nx X,x.last,true,false⟩:It),0,false,false,false⟩):=by unfold zE3; rw [if_neg (by simp [hc]),if_neg (by rw [hv]; simp)]; simp [rGone,hh]
    have:=fun en=>finN (zH7 { X with cas:=nx X } (⟨x.key,x.flags,x.val,zJ1 now cd.exp,nx X,x.last,true,false⟩:It),⟨9,(⟨x.key,x.flags,x.val,zJ1 now cd.exp,nx X,x.last,true,false⟩:It),0,false,false,false⟩) 5 en hY (by simp [hc,hv])
    have hL2:(zH7 { X with cas:=nx X } (⟨x.key,x.flags,x.val,zJ1 now cd.exp,nx X,x.last,true,false⟩:It)).items=L:=hL
    rw [hL2] at this
    exact this _ rfl
 | true =>
  by_cases he:x.cas=cd.cas
  ·have e1:(x.cas != cd.cas)=false:=by simp [he]
   cases hv:cd.inval with
   | false =>
    (refine zA4 hctr (rs:=res27) true 300 _ _ _ ?_; simp (maxSteps:=1000000) only [VT,jf,jg,jZ,qH,qI,qK,qO,qP,qR,qS,qT,qV,qp,q0t,qu,qv,ev,qw,qy,qz,zA,zB,zD,zF,zG,zI,zJ,zK,zM,↓reduceIte,reduceCtorEq,Value.oneCell',Nat.reduceEqDiff,Nat.reduceAdd,Nat.reduceLT,zP,zQ,zR,zV,zW,zt,hP,hk,res27,kp27,rgC,cdS,itS,Nat.reduceAdd,hc,e1,hv])
    obtain ⟨L,hL⟩:∃ L,(zF6 X cd.key).items=L:=⟨_,rfl⟩
    have hY:zE3 X now cd x=(zF6 X cd.key,zA6 9):=by unfold zE3; rw [if_neg (by simp [hc,he]),if_pos (by rw [hv]; rfl)]
    have jB:(zF6 X cd.key).cas=X.cas∧(zF6 X cd.key).flush=X.flush:=by unfold zF6; split <;> exact ⟨rfl,rfl⟩
    by_cases h1:n=1
    ·refine zT6 (z:=true) hP hS hw hX cd.key his X.cas X.flush hL (by simp [h1]) (by rw [hn0]; exact Nat.zero_le _) rfl (by simp) ?_
     (refine zA4 hctr (rs:=res27) true 300 _ _ _ ?_; simp (maxSteps:=1000000) only [VT,qE,qF,qG,qH,qI,qJ,qK,qO,qP,qf,qg,qh,q0t,qu,qv,ev,qy,qz,zA,zB,zC,zD,zE,zF,zG,zI,zJ,TE.sv,zM,↓reduceIte,reduceCtorEq,Nat.reduceEqDiff,Nat.reduceAdd,Nat.reduceLT,zP,zQ,zR,zt,jN,hP,hk,res27,kp27,Nat.reduceAdd,itV,itE])
     have hne:(zF6 X cd.key).items=[]:=by
      have hlt:=zE6 his
      have hn:=hX.hn
      apply List.eq_nil_of_length_eq_zero
      unfold zF6
      rw [if_pos his]
      simp only [List.length_append,List.length_take,List.length_drop]
      omega
     have:=fun en=>finZ (zF6 X cd.key,zA6 9) 5 en hY (by simp [hc,he,hv,h1]) hne
     simp only [jB.1,jB.2] at this
     exact this _ rfl
    ·refine zT6 (z:=false) hP hS hw hX cd.key his X.cas X.flush hL (by simp [h1]) (by rw [hn0]; exact Nat.zero_le _) rfl (by simp) ?_
     (refine zA4 hctr (rs:=res27) true 300 _ _ _ ?_; simp (maxSteps:=1000000) only [VT,qE,qF,qG,qH,qI,qJ,qK,qO,qP,qf,qg,qh,q0t,qu,qv,ev,qy,qz,zA,zB,zC,zD,zE,zF,zG,zI,zJ,TE.sv,zM,↓reduceIte,reduceCtorEq,Nat.reduceEqDiff,Nat.reduceAdd,Nat.reduceLT,zP,zQ,zR,zt,jN,hP,hk,res27,kp27,Nat.reduceAdd,itV,itE,Bool.false_eq_true])
     have:=fun en=>finN (zF6 X cd.key,zA6 9) 5 en hY (by simp [hc,he,hv,h1])
     simp only [jB.1,jB.2,hL] at this
     exact this _ rfl
   | true =>
    cases hh:cd.hasExp with
    | false =>
     obtain ⟨L,hL⟩:∃ L,(zH7 X (⟨x.key,x.flags,x.val,x.exp,nx X,x.last,true,false⟩:It)).items=L:=⟨_,rfl⟩
     (refine zA4 hctr (rs:=res27) true 300 _ _ _ ?_; simp (maxSteps:=1000000) only [VT,jf,jg,jZ,qH,qI,qJ,qK,qO,qP,qR,qS,qT,qV,qp,q0t,qu,qv,ev,qy,qz,zC,zD,zE,zF,zG,zI,zJ,zK,zM,↓reduceIte,reduceCtorEq,Value.oneCell',Nat.reduceEqDiff,Nat.reduceAdd,Nat.reduceLT,zP,zQ,zR,zV,zW,zt,hP,hk,res27,kp27,cdS,itS,Nat.reduceAdd,hc,e1,hv,hh])
     (refine zB9 hctr (by rw [hP]; rfl) rs27_12 [jB (fun N => .g [.rw N L.length, .i .u64 (nx X), .i .i64 X.flush]) (fun _ => rwI L)] (ensure_type_of% (Cmp.of (by simp (maxSteps := 1000000) only [qA, qK, qP, qf, qg, q0t, qu, qv, ev, qw, qy, qz, zA, zB, zC, zD, zE, zF, zG, zM, ↓reduceIte, Nat.reduceEqDiff, Nat.reduceAdd, zP, zk, zl, zt, cE, jA, jB, jC, jD, jH, jK, jL, jM, jN, hP, rgC, nx, Nat.reduceAdd]; rfl)) "" Cmp.mk) (by kernel_rfl) (by kernel_rfl) (by first | exact zA1 _ | kernel_rfl) (by kernel_rfl) (by rfl) (by rfl) (by first | exact zA0 _ | rfl) (by rfl) ?_ ?_; rotate_left; refine zA4 hctr (rs := res27) true 300 _ _ _ ?_; simp (maxSteps := 1000000) only [VT, qE, qF, qG, qP, qy, zA, zB, zD, zG, zI, zJ, zM, ↓reduceIte, reduceCtorEq, Nat.reduceEqDiff, Nat.reduceAdd, zP, zQ, zt, jN, jO, hP, hk, res27, kp27, Nat.reduceAdd]; rotate_left; simp (maxSteps := 1000000) only [qK, qP, qf, qg, q0t, qu, qv, ev, qw, qy, qz, zA, zB, zC, zD, zE, zG, zM, ↓reduceIte, Nat.reduceEqDiff, Nat.reduceAdd, zP, zR, zS, zT, zk, zl, zn, zt, jD, jH, jN, jP, jQ, jR, jS, jT, jU, hP, Nat.reduceAdd])
     ·exact zQ1 (x:=(⟨x.key,x.flags,x.val,x.exp,nx X,x.last,true,false⟩:It)) hP hS hw hX (nx X) X.flush hL (zI7 (by simp)) (by rw [hn0]; exact Nat.zero_le _) rfl (fun q _=>rfl)
     have hY:zE3 X now cd x=(zH7 { X with cas:=nx X } (⟨x.key,x.flags,x.val,x.exp,nx X,x.last,true,false⟩:It),⟨9,(⟨x.key,x.flags,x.val,x.exp,nx X,x.last,true,false⟩:It),0,false,false,false⟩):=by unfold zE3; rw [if_neg (by simp [hc,he]),if_neg (by rw [hv]; simp)]; simp [rGone,hh]
     have:=fun en=>finN (zH7 { X with cas:=nx X } (⟨x.key,x.flags,x.val,x.exp,nx X,x.last,true,false⟩:It),⟨9,(⟨x.key,x.flags,x.val,x.exp,nx X,x.last,true,false⟩:It),0,false,false,false⟩) 5 en hY (by simp [hc,he,hv])
     have hL2:(zH7 { X with cas:=nx X } (⟨x.key,x.flags,x.val,x.exp,nx X,x.last,true,false⟩:It)).items=L:=hL
     rw [hL2] at this
     exact this _ rfl
    | true =>
     obtain ⟨L,hL⟩:∃ L,(zH7 X (⟨x.key,x.flags,x.val,zJ1 now cd.exp,nx X,x.last,true,false⟩:It)).items=L:=⟨_,rfl⟩
     (refine zA4 hctr (rs:=res27) true 300 _ _ _ ?_; simp (maxSteps:=1000000) only [VT,jf,jg,jZ,qH,qI,qJ,qK,qO,qP,qR,qS,qT,qV,qp,q0t,qu,qv,ev,qw,qy,qz,zC,zD,zE,zF,zG,zI,zJ,zK,zM,↓reduceIte,reduceCtorEq,Value.oneCell',Nat.reduceEqDiff,Nat.reduceAdd,Nat.reduceLT,zP,zQ,zR,zT,zV,zW,zt,hP,hk,res27,kp27,rgC,zG3,cdS,itS,hnow,Nat.reduceAdd,hc,e1,hv,hh])
     (refine zB9 hctr (by rw [hP]; rfl) rs27_12 [jB (fun N => .g [.rw N L.length, .i .u64 (nx X), .i .i64 X.flush]) (fun _ => rwI L)] (ensure_type_of% (Cmp.of (by simp (maxSteps := 1000000) only [qA, qK, qP, qf, qg, q0t, qu, qv, ev, qw, qy, qz, zA, zB, zC, zD, zE, zF, zG, zM, ↓reduceIte, Nat.reduceEqDiff, Nat.reduceAdd, zP, zk, zl, zt, cE, jA, jB, jC, jD, jH, jK, jL, jM, jN, hP, rgC, nx, Nat.reduceAdd]; rfl)) "" Cmp.mk) (by kernel_rfl) (by kernel_rfl) (by first | exact zA1 _ | kernel_rfl) (by kernel_rfl) (by rfl) (by rfl) (by first | exact zA0 _ | rfl) (by rfl) ?_ ?_; rotate_left; refine zA4 hctr (rs := res27) true 300 _ _ _ ?_; simp (maxSteps := 1000000) only [VT, qE, qF, qG, qP, qy, zA, zB, zD, zG, zI, zJ, zM, ↓reduceIte, reduceCtorEq, Nat.reduceEqDiff, Nat.reduceAdd, zP, zQ, zt, jN, jO, hP, hk, res27, kp27, Nat.reduceAdd]; rotate_left; simp (maxSteps := 1000000) only [qK, qP, qf, qg, q0t, qu, qv, ev, qw, qy, qz, zA, zB, zC, zD, zE, zG, zM, ↓reduceIte, Nat.reduceEqDiff, Nat.reduceAdd, zP, zR, zS, zT, zk, zl, zn, zt, jD, jH, jN, jP, jQ, jR, jS, jT, jU, hP, Nat.reduceAdd])
     ·exact zQ1 (x:=(⟨x.key,x.flags,x.val,zJ1 now cd.exp,nx X,x.last,true,false⟩:It)) hP hS hw hX (nx X) X.flush hL (zI7 (by simp)) (by rw [hn0]; exact Nat.zero_le _) rfl (fun q _=>rfl)
     have hY:zE3 X now cd x=(zH7 { X with cas:=nx X } (⟨x.key,x.flags,x.val,zJ1 now cd.exp,nx X,x.last,true,false⟩:It),⟨9,(⟨x.key,x.flags,x.val,zJ1 now cd.exp,nx X,x.last,true,false⟩:It),0,false,false,false⟩):=by unfold zE3; rw [if_neg (by simp [hc,he]),if_neg (by rw [hv]; simp)]; simp [rGone,hh]
     have:=fun en=>finN (zH7 { X with cas:=nx X } (⟨x.key,x.flags,x.val,zJ1 now cd.exp,nx X,x.last,true,false⟩:It),⟨9,(⟨x.key,x.flags,x.val,zJ1 now cd.exp,nx X,x.last,true,false⟩:It),0,false,false,false⟩) 5 en hY (by simp [hc,he,hv])
     have hL2:(zH7 { X with cas:=nx X } (⟨x.key,x.flags,x.val,zJ1 now cd.exp,nx X,x.last,true,false⟩:It)).items=L:=hL
     rw [hL2] at this
     exact this _ rfl
  ·have e1:(x.cas != cd.cas)=true:=by simpa using he
   (refine zA4 hctr (rs:=res27) true 300 _ _ _ ?_; simp (maxSteps:=1000000) only [VT,jf,jZ,qE,qF,qG,qH,qI,qJ,qK,qO,qP,qR,qS,qV,qf,qg,qp,q0t,qu,qv,ev,qy,qz,zA,zB,zC,zD,zE,zF,zG,zI,zJ,zK,zM,↓reduceIte,reduceCtorEq,Value.oneCell',Nat.reduceEqDiff,Nat.reduceAdd,Nat.reduceLT,zP,zQ,zR,zV,zt,hP,hk,res27,kp27,cdS,itS,Nat.reduceAdd,hc,e1])
   exact fin (X,zA6 4) _ (by simp [zE3,hc,he]) (by simp [hc,he]) rfl
end Go.Proofs.YtfpeholdlkfmoaaGreatDoor
/- A row of items as a state's items at a raw place; the document's Live as a call of a walk. -/
namespace Go.Proofs.YtfpeholdlkfmoaaGreatDoor
set_option linter.unusedSimpArgs false
set_option linter.unusedVariables false
open Go.RowKit
set_option maxRecDepth 100000
theorem row_str0 {ρ:Nat→RE} {pr:Nat→Prop} {en:List EN} {w:World} {M:Nat} {L:List It} (hp:Hp ρ pr en w) (ho:Ho ρ pr en) (hM:zD en M=some (rwI L)) (lM:pr M) (hs:Sorted L) (hl:L.length≤100000000) (cs fl:Int) :
  ∃ a c,(SC.rw M L.length).den ρ=.slice a L.length c∧StR w a L.length c ⟨L,cs,fl⟩:=by
 obtain ⟨_,_,hO⟩:=ho M _ _ _ lM hM
 rcases hO with ⟨h1,h2,h3,h4,h5⟩ | ⟨h1,h2,h3⟩
 ·have hwd:=(hp M _ _ _ lM hM).heap ⟨(by show ¬ (33:Nat)=zG0; decide),h1⟩
  rw [h2,List.nil_append,zD3] at hwd
  have hb:=(Array.getElem?_eq_some_iff.1 hwd).1
  refine ⟨_,_,zG2 h1 _,⟨.inl ⟨_,_,rfl,hb⟩,fun k x hx=>⟨_,0,rfl,hb,fun j v hv=>?_⟩,hs,rfl,h4,h5,hl⟩⟩
  have hx:L[k]?=some x:=hx
  rw [Nat.zero_add,Go.cell_of_row w _ (k * 8+j) _ _ (0,0) hwd]
  have hj:=(List.getElem?_eq_some_iff.1 hv).1
  rw [It.cells_len] at hj
  have hk:=(List.getElem?_eq_some_iff.1 hx).1
  simp only [List.getElem?_toArray]
  rw [List.getElem?_append_left (by rw [zB1]; omega),← zL4 hx,List.append_assoc,List.getElem?_append_right (by rw [zB1,List.length_take]; omega),List.getElem?_append_left (by rw [zB1,List.length_take,It.cells_len]; omega),← hv]
  congr 1
  rw [zB1,List.length_take]; omega
 ·have hL:L=[]:=List.eq_nil_of_length_eq_zero h2
  subst hL
  exact ⟨none,0,zI4 h1 _,⟨.inr ⟨rfl,rfl,rfl⟩,fun k x hx=>by simp at hx,hs,rfl,Nat.le_refl _,Nat.zero_le _,Nat.zero_le _⟩⟩
theorem row_str {C:Cx} {ρ:Nat→RE} {pr:Nat→Prop} {en:List EN} {w:World} {M:Nat} {L:List It} (hw:Hw C ρ pr en w) (hM:zD en M=some (rwI L)) (lM:pr M) (hs:Sorted L) (hl:L.length≤100000000) (cs fl:Int) :
  ∃ a c,(SC.rw M L.length).den ρ=.slice a L.length c∧StR w a L.length c ⟨L,cs,fl⟩:=row_str0 hw.hp hw.ho hM lM hs hl cs fl
end Go.Proofs.YtfpeholdlkfmoaaGreatDoor
/- The document's operations on a state whose items are a row, as calls of a walk: new items, or the ones handed in. -/
namespace Go.Proofs.YtfpeholdlkfmoaaGreatDoor
set_option linter.unusedSimpArgs false
set_option linter.unusedVariables false
open Go.RowKit
set_option maxRecDepth 100000
theorem opN_h {C:Cx} {nE M N:Nat} {mk:Nat→Prop} {en en':List EN} {X:St} {Y:St × An} {f:FuncId} {ys:List SV} (hP:C.P=Tryz.prog) (hent:∀ args w,(callFunc f args).run Tryz.prog w=.ok (.enter f args) w) (hM:zD en M=some (rwI X.items)) (lM:M < nE) (hs:Sorted X.items) (hl:X.items.length≤100000000)
  (H:∀ (ρ:Nat→RE) w a c,StR w a X.items.length c X→Calls Tryz.prog f (Value.agg #[.slice a X.items.length c,.int .u64 X.cas,.int .i64 X.flush] :: ys.map (SV.den ρ)).toArray w (OpP w a X.items.length c X false Y))
  (hmk:∀ q,mk q ↔ q=N) (hn0:C.n0≤N) (hN:zD en' N=some (rwI Y.1.items)) (hq:∀ q,q ≠ N→zD en' q=zD en q) :
  zL3 C nE mk en en' f (.g [.rw M X.items.length,.i .u64 X.cas,.i .i64 X.flush] :: ys) (.t [.g [.rw N Y.1.items.length,.i .u64 Y.1.cas,.i .i64 Y.1.flush],.g (anS Y.2)]):=by
 refine zO2 (vals:=zC8 Y.1.items) (fun args w=>by rw [hP]; exact hent args w) hmk hn0 hN hq (by show ¬ (33:Nat)=zG0; decide) (fun ρ=>zD3 ρ _) (fun pr=>zD7 pr _) (fun pr h=>?_) ?_
 ·intro y hy
  simp only [List.mem_cons,List.not_mem_nil,or_false] at hy
  rcases hy with rfl | rfl
  ·exact zD6 h
  ·exact zZ1 _ _
 intro ρ pr w' hw' hpr _
 rw [hP]
 obtain ⟨a,c,hv,hst⟩:=row_str hw' hM (hpr M lM) hs hl X.cas X.flush
 have hargs:(List.map (SV.den ρ) (.g [.rw M X.items.length,.i .u64 X.cas,.i .i64 X.flush] :: ys)).toArray=(Value.agg #[.slice a X.items.length c,.int .u64 X.cas,.int .i64 X.flush] :: ys.map (SV.den ρ)).toArray:=by
  rw [← hv]; rfl
 rw [hargs]
 refine (H ρ w' a c hst).mono ?_
 rintro z w'' ⟨hb,v,rfl,h⟩
 rcases h with ⟨h,_⟩ | ⟨_,r,hr,rfl⟩
 ·cases h
 ·refine ⟨r,hr.made (fun ρ=>zD3 ρ _),fun ρ' _ h=>?_,hb⟩
  rw [← h]; rfl
theorem opS_h {C:Cx} {nE M:Nat} {mk:Nat→Prop} {en:List EN} {X:St} {Y:St × An} {f:FuncId} {ys:List SV} (hP:C.P=Tryz.prog) (hent:∀ args w,(callFunc f args).run Tryz.prog w=.ok (.enter f args) w) (hM:zD en M=some (rwI X.items)) (lM:M < nE) (hs:Sorted X.items) (hl:X.items.length≤100000000)
  (H:∀ (ρ:Nat→RE) w a c,StR w a X.items.length c X→Calls Tryz.prog f (Value.agg #[.slice a X.items.length c,.int .u64 X.cas,.int .i64 X.flush] :: ys.map (SV.den ρ)).toArray w (OpP w a X.items.length c X true Y))
  (hmk:∀ q,¬ mk q) :
  zL3 C nE mk en en f (.g [.rw M X.items.length,.i .u64 X.cas,.i .i64 X.flush] :: ys) (.t [.g [.rw M X.items.length,.i .u64 Y.1.cas,.i .i64 Y.1.flush],.g (anS Y.2)]):=by
 refine soft_h (fun args w=>by rw [hP]; exact hent args w) hmk fun ρ pr w' hw' hpr _=>⟨?_,?_⟩
 ·intro y hy
  simp only [List.mem_cons,List.not_mem_nil,or_false] at hy
  rcases hy with rfl | rfl
  ·exact zD6 (hpr M lM)
  ·exact zZ1 _ _
 rw [hP]
 obtain ⟨a,c,hv,hst⟩:=row_str hw' hM (hpr M lM) hs hl X.cas X.flush
 have hargs:(List.map (SV.den ρ) (.g [.rw M X.items.length,.i .u64 X.cas,.i .i64 X.flush] :: ys)).toArray=(Value.agg #[.slice a X.items.length c,.int .u64 X.cas,.int .i64 X.flush] :: ys.map (SV.den ρ)).toArray:=by
  rw [← hv]; rfl
 rw [hargs]
 refine (H ρ w' a c hst).mono ?_
 rintro z w'' ⟨hb,v,rfl,h⟩
 rcases h with ⟨_,rfl,_⟩ | ⟨h,_⟩
 ·exact ⟨by rw [← hv]; rfl,hb⟩
 ·cases h
theorem RemP.same {w:World} {a:Option Addr} {n c:Nat} {X:St} {Y:St × An} {e:Ending} {w':World} (h:RemP w a n c X 0 Y e w'):OpP w a n c X true Y e w':=by
 obtain ⟨hb,v,he,h⟩:=h
 refine ⟨hb,v,he,?_⟩
 rcases h with ⟨_,h1,h2⟩ | ⟨h,_⟩ | ⟨h,_⟩
 ·exact .inl ⟨rfl,h1,h2⟩
 ·cases h
 ·cases h
theorem RemP.new {w:World} {a:Option Addr} {n c:Nat} {X:St} {Y:St × An} {e:Ending} {w':World} (h:RemP w a n c X 1 Y e w'):OpP w a n c X false Y e w':=by
 obtain ⟨hb,v,he,h⟩:=h
 refine ⟨hb,v,he,?_⟩
 rcases h with ⟨h,_⟩ | ⟨_,h⟩ | ⟨h,_⟩
 ·cases h
 ·exact .inr ⟨rfl,h⟩
 ·cases h
theorem opZ_h {C:Cx} {nE M N:Nat} {mk:Nat→Prop} {en en':List EN} {X:St} {Y:St × An} {f:FuncId} {ys:List SV} (hP:C.P=Tryz.prog) (hent:∀ args w,(callFunc f args).run Tryz.prog w=.ok (.enter f args) w) (hM:zD en M=some (rwI X.items)) (lM:M < nE) (hs:Sorted X.items) (hl:X.items.length≤100000000)
  (H:∀ (ρ:Nat→RE) w a c,StR w a X.items.length c X→Calls Tryz.prog f (Value.agg #[.slice a X.items.length c,.int .u64 X.cas,.int .i64 X.flush] :: ys.map (SV.den ρ)).toArray w (RemP w a X.items.length c X 2 Y))
  (hmk:∀ q,mk q ↔ q=N) (hn0:C.n0≤N) (hN:zD en' N=some zrE) (hq:∀ q,q ≠ N→zD en' q=zD en q) :
  zL3 C nE mk en en' f (.g [.rw M X.items.length,.i .u64 X.cas,.i .i64 X.flush] :: ys) (.t [.g [.sl N 0 0 0,.i .u64 Y.1.cas,.i .i64 Y.1.flush],.g (anS Y.2)]):=by
 refine zO2 (e:=zrE) (vals:=[]) (fun args w=>by rw [hP]; exact hent args w) hmk hn0 hN hq (by show ¬ (33:Nat)=zG0; decide) (fun ρ=>rfl) (fun pr x hx=>by cases hx) (fun pr h=>?_) ?_
 ·intro y hy
  simp only [List.mem_cons,List.not_mem_nil,or_false] at hy
  rcases hy with rfl | rfl
  ·exact zD6 h
  ·exact zZ1 _ _
 intro ρ pr w' hw' hpr _
 rw [hP]
 obtain ⟨a,c,hv,hst⟩:=row_str hw' hM (hpr M lM) hs hl X.cas X.flush
 have hargs:(List.map (SV.den ρ) (.g [.rw M X.items.length,.i .u64 X.cas,.i .i64 X.flush] :: ys)).toArray=(Value.agg #[.slice a X.items.length c,.int .u64 X.cas,.int .i64 X.flush] :: ys.map (SV.den ρ)).toArray:=by
  rw [← hv]; rfl
 rw [hargs]
 refine (H ρ w' a c hst).mono ?_
 rintro z w'' ⟨hb,v,rfl,h⟩
 rcases h with ⟨h,_⟩ | ⟨h,_⟩ | ⟨_,_,b,hbb,rfl⟩
 ·cases h
 ·cases h
 ·refine ⟨⟨b,[],[],0,some none⟩,⟨rfl,⟨rfl,rfl⟩,(fun h=>by cases h),fun _=>rfl,fun _=>hbb⟩,fun ρ' _ hr=>?_,hb⟩
  show _=Ending.returned (Value.tuple #[.agg #[(SC.sl N 0 0 0).den ρ',_,_],_])
  simp only [SC.den,hr,List.length_nil,Nat.zero_add]
  rfl
end Go.Proofs.YtfpeholdlkfmoaaGreatDoor
/- (from XRNums) The reference's reader of numbers: a text says one number or none. -/
namespace Go.Proofs.YtfpeholdlkfmoaaGreatDoor
set_option linter.unusedSimpArgs false
set_option linter.unusedVariables false
open Go.Shelf Go.RowKit
set_option maxHeartbeats 1000000 in
theorem rparse (l:List UInt8) (hl:l.length≤9223372036854775807) (w:World) :
  Calls Tryz.prog 49 #[.string ⟨l.toArray⟩] w fun e w'=>e=.returned (zN1 l)∧w=w':=by
 by_cases hlen:l.length < 1∨20 < l.length
 ·rw [zI1 (parseV_len l hlen)]
  by_cases h1:l.length < 1
  ·have h1':(l.length:Int) < 1:=by omega
   go_enter Tryz.func49,Tryz.ntmps49
   go_wp2_with fail
   go_ret2
   exact ⟨rfl,rfl⟩
  ·have h1':1≤(l.length:Int):=by omega
   have h2':20 < (l.length:Int):=by omega
   go_enter Tryz.func49,Tryz.ntmps49
   go_wp2_with fail
   go_ret2
   exact ⟨rfl,rfl⟩
 ·obtain ⟨n,hn⟩:∃ n,n=l.length:=⟨_,rfl⟩
  have h1:1≤n:=by omega
  have h2:n≤20:=by omega
  have h1':1≤(n:Int):=by omega
  have h2':(n:Int)≤20:=by omega
  have HN:=Lib.hid hn
  clear hlen
  go_enter Tryz.func49,Tryz.ntmps49
  go_wp2_with fail
  go_loop [4,5] (fun v i=>∃ k:Nat,k≤n∧i=.int .i64 k∧v=.int .u64 (zI3 (l.take k):Nat)∧zL8 (l.take k)=true∧zI3 (l.take k) < 18446744073709551616) (fun _ i=>n - (intOf i).toNat)
  case atStart=>exact ⟨0,by omega,rfl,rfl,rfl,by show (0:Nat) < _; omega⟩
  case round =>
   obtain ⟨k,hk,rfl,rfl,hd,hv⟩:=hrel
   by_cases hlt:k < n
   ·have hkl:k < l.length:=by rw [← HN.out]; exact hlt
    have hlt':(k:Int) < (n:Int):=by omega
    have ht:=take_one l k hkl
    have hb:=UInt8.toNat_lt l[k]
    have HT:=Lib.hid ht; clear ht
    by_cases hc:48≤l[k].toNat∧l[k].toNat≤57
    ·have hc1:(48:Int)≤((⟨l.toArray⟩:ByteArray)[k]'hkl).toNat:=by show (48:Int)≤(l[k].toNat:Nat); omega
     have hc2:(((⟨l.toArray⟩:ByteArray)[k]'hkl).toNat:Int)≤57:=by show ((l[k].toNat:Nat):Int)≤57; omega
     have hdg:dgt l[k]=true:=by simp [dgt,hc]
     have HDG:=Lib.hid hdg; have HD:=Lib.hid hd; clear hdg hd
     by_cases ho:18446744073709551616≤10 * zI3 (l.take k)+(l[k].toNat - 48)
     ·have ho':(18446744073709551615 - ((((⟨l.toArray⟩:ByteArray)[k]'hkl).toNat:Int) - 48)) / 10 < (zI3 (l.take k):Int):=by
       show (18446744073709551615 - (((l[k].toNat:Nat):Int) - 48)) / 10 < (zI3 (l.take k):Int)
       omega
      have hfin:=zI1 (parseV_over l (k+1) (by rw [HT.out,zR4]; exact ho))
      have HF:=Lib.hid hfin
      clear hfin ho
      go_wp2_with fail
      go_ret2
      exact ⟨by rw [HF.out]; rfl,rfl⟩
     ·have ho':(zI3 (l.take k):Int)≤(18446744073709551615 - ((((⟨l.toArray⟩:ByteArray)[k]'hkl).toNat:Int) - 48)) / 10:=by
       show (zI3 (l.take k):Int)≤(18446744073709551615 - (((l[k].toNat:Nat):Int) - 48)) / 10
       omega
      go_wp2_with fail
      go_round
      case rel =>
       refine ⟨k+1,by omega,by go_num,?_,?_,?_⟩
       ·rw [HT.out,zR4]
        have e:((10 * zI3 (l.take k)+(l[k].toNat - 48):Nat):Int)=10 * (zI3 (l.take k):Int)+(((l[k].toNat:Nat):Int) - 48):=by omega
        rw [e]; rfl
       ·rw [HT.out,allDgt_snoc,HD.out,HDG.out]; rfl
       ·rw [HT.out,zR4]; omega
      case measure=>simp [intOf]; omega
    ·have hdg:dgt l[k]=false:=by
      unfold dgt
      rw [Bool.and_eq_false_iff,decide_eq_false_iff_not,decide_eq_false_iff_not]
      omega
     have hfin:=zI1 (parseV_bad l k hkl hdg)
     have HF:=Lib.hid hfin
     clear hfin hdg
     by_cases hc1:l[k].toNat < 48
     ·have hc1':(((⟨l.toArray⟩:ByteArray)[k]'hkl).toNat:Int) < 48:=by show ((l[k].toNat:Nat):Int) < 48; omega
      clear hc
      go_wp2_with fail
      go_ret2
      exact ⟨by rw [HF.out]; rfl,rfl⟩
     ·have hc1':(48:Int)≤((⟨l.toArray⟩:ByteArray)[k]'hkl).toNat:=by show (48:Int)≤(l[k].toNat:Nat); omega
      have hc2':(57:Int) < ((⟨l.toArray⟩:ByteArray)[k]'hkl).toNat:=by show (57:Int) < (l[k].toNat:Nat); omega
      clear hc hc1
      go_wp2_with fail
      go_ret2
      exact ⟨by rw [HF.out]; rfl,rfl⟩
   ·obtain rfl:k=n:=by omega
    have hfin:=zK5 (parseV_all l (by intro e; rw [e] at hn; simp at hn; omega) (by omega) (by rw [hn,List.take_length] at hd; exact hd) (by rw [hn,List.take_length] at hv; exact hv))
    have HF:=Lib.hid hfin
    clear hfin
    go_wp2_with fail
    go_ret2
    exact ⟨by rw [HF.out]; rfl,rfl⟩
end Go.Proofs.YtfpeholdlkfmoaaGreatDoor
/- The reference's text of a number. -/
namespace Go.Proofs.YtfpeholdlkfmoaaGreatDoor
set_option linter.unusedSimpArgs false
set_option linter.unusedVariables false
open Go.Shelf Go.RowKit Go.Sort Go.Lib
set_option maxHeartbeats 1000000 in
theorem rtext_k (k:Nat):∀ (n:Int) (w:World),n.toNat < k→0≤n→n < 18446744073709551616 →
  Calls Tryz.prog 46 #[.int .u64 n] w fun e w'=>e=.returned (.string ⟨(zT3 n).toArray⟩)∧Below w.heap.size w w':=by
 induction k with
 | zero =>
  intro n w hk h0 h1
  omega
 | succ k ih =>
  intro n w hk h0 h1
  by_cases hs:n < 10
  ·have hcv:∀ (w:World),(convert 98 9 (.slice (some ⟨w.heap.size,0,none⟩) 1 1)).run Tryz.prog (w.alloc (.cells #[.int .u8 (48+n)] 5))=.ok (.string ⟨(zT3 n).toArray⟩) (w.alloc (.cells #[.int .u8 (48+n)] 5)):=fun w=>by
    obtain ⟨b,hb1,hb2⟩:∃ b:UInt8,48+n=(b.toNat:Int)∧[b]=zT3 n:=⟨UInt8.ofNat (48+n.toNat),by rw [UInt8.toNat_ofNat']; omega,by rw [decI_small h0 hs]⟩
    rw [hb1,← hb2]
    exact run_convert_bytes_back (P:=Tryz.prog) _ 98 9 5 ⟨w.heap.size,0,none⟩ 1 [b] Tryz.underlying98 Tryz.underlying5 Tryz.underlying9 (fun j hj=>by
     have:j=0:=by simpa using hj
     subst this
     simp [Addr.add])
   clear ih hk
   go_enter Tryz.func46,Tryz.ntmps46
   go_wp2_with fail
   go_ret
   exact ⟨rfl,(Below.refl _ _).alloc (Nat.le_refl _) _⟩
  ·have hl1:=decI_len (n:=n / 10) (by omega) (by omega)
   have hl2:=decI_len (n:=n % 10) (by omega) (by omega)
   obtain ⟨a1,b1,e1⟩:∃ a b:List UInt8,a=zT3 (n / 10)∧b=zT3 (n % 10):=⟨_,_,rfl,rfl⟩
   have i1:=fun w=>ih (n / 10) w (by omega) (by omega) (by omega)
   have i2:=fun w=>ih (n % 10) w (by omega) (by omega) (by omega)
   have hfin:=decI_big (n:=n) (by omega)
   rw [← e1.1] at hl1 i1 hfin; rw [← e1.2] at hl2 i2 hfin
   have I1:=Lib.hid i1; have I2:=Lib.hid i2; have HF:=Lib.hid hfin
   clear e1 i1 i2 hfin ih
   obtain ⟨_,hl1⟩:=hl1; obtain ⟨_,hl2⟩:=hl2
   go_enter Tryz.func46,Tryz.ntmps46
   go_wp2_with fail
   refine (I1.out _).mono ?_
   rintro e w1 ⟨rfl,hb1⟩
   go_wp2_with fail
   refine (I2.out _).mono ?_
   rintro e w2 ⟨rfl,hb2⟩
   go_wp2_with fail
   go_ret
   refine ⟨?_,hb1.trans (hb2.mono hb1.size)⟩
   rw [HF.out]
   exact ret_str (by rw [ByteArray.mk_append_mk])
theorem rtextI (n:Int) (h0:0≤n) (h:n < 18446744073709551616) (w:World) :
  Calls Tryz.prog 46 #[.int .u64 n] w fun e w'=>e=.returned (.string ⟨(zT3 n).toArray⟩)∧Below w.heap.size w w':=
 rtext_k (n.toNat+1) n w (by omega) h0 h
end Go.Proofs.YtfpeholdlkfmoaaGreatDoor
/- The reference's sums. -/
namespace Go.Proofs.YtfpeholdlkfmoaaGreatDoor
set_option linter.unusedSimpArgs false
set_option linter.unusedVariables false
open Go.Shelf Go.RowKit
set_option maxRecDepth 100000 in
set_option maxHeartbeats 1000000 in
theorem radd (l:List UInt8) (hl:l.length≤9223372036854775807) (d:Int) (_hd0:0≤d) (_hd1:d < 18446744073709551616) (w:World) :
  Calls Tryz.prog 48 #[.string ⟨l.toArray⟩,.int .u64 d] w fun e w'=>e=.returned (addR l d)∧Below w.heap.size w w':=by
 have P:=fun w=>rparse l hl w
 cases hp:zC1 l with
 | none =>
  have hfin:addR l d=.tuple #[.string ⟨#[]⟩,.bool false]:=by unfold addR; rw [hp]
  rw [hfin]
  rw [zI1 hp] at P
  have PA:=Lib.hid P
  clear P hp hfin
  go_enter Tryz.func48,Tryz.ntmps48
  go_wp2_with fail
  refine (PA.out _).mono ?_
  rintro e w1 ⟨rfl,rfl⟩
  go_wp2_with fail
  go_ret2
  exact ⟨rfl,Below.refl _ _⟩
 | some n =>
  have hn:=zO0 hp
  have hn0:(0:Int)≤(n:Int):=by omega
  have hn1:(n:Int) < 18446744073709551616:=by omega
  rw [zK5 hp] at P
  have PA:=Lib.hid P
  clear P
  have hfin:addR l d=.tuple #[.string ⟨(zT3 (IntKind.u64.wrap ((n:Int)+d))).toArray⟩,.bool true]:=by unfold addR; rw [hp]
  rw [hfin]
  obtain ⟨q,hq⟩:∃ q,q=IntKind.u64.wrap ((n:Int)+d):=⟨_,rfl⟩
  have hr:=u64_rng ((n:Int)+d)
  rw [← hq] at hr ⊢
  have T:=Lib.hid (fun w=>rtextI q hr.1 hr.2 w)
  clear hp hfin
  have HQ:=Lib.hid hq; clear hq
  go_enter Tryz.func48,Tryz.ntmps48
  go_wp2_with fail
  refine (PA.out _).mono ?_
  rintro e w1 ⟨rfl,rfl⟩
  go_wp2_with fail
  rw [← HQ.out]
  refine (T.out _).mono ?_
  rintro e w2 ⟨rfl,b2⟩
  go_wp2_with fail
  go_ret2
  exact ⟨rfl,b2⟩
set_option maxRecDepth 100000 in
set_option maxHeartbeats 1000000 in
theorem rsub (l:List UInt8) (hl:l.length≤9223372036854775807) (d:Int) (hd0:0≤d) (hd1:d < 18446744073709551616) (w:World) :
  Calls Tryz.prog 47 #[.string ⟨l.toArray⟩,.int .u64 d] w fun e w'=>e=.returned (subR l d)∧Below w.heap.size w w':=by
 have P:=fun w=>rparse l hl w
 cases hp:zC1 l with
 | none =>
  have hfin:subR l d=.tuple #[.string ⟨#[]⟩,.bool false]:=by unfold subR; rw [hp]
  rw [hfin]
  rw [zI1 hp] at P
  have PA:=Lib.hid P
  clear P hp hfin
  go_enter Tryz.func47,Tryz.ntmps47
  go_wp2_with fail
  refine (PA.out _).mono ?_
  rintro e w1 ⟨rfl,rfl⟩
  go_wp2_with fail
  go_ret2
  exact ⟨rfl,Below.refl _ _⟩
 | some n =>
  have hn:=zO0 hp
  have hn0:(0:Int)≤(n:Int):=by omega
  have hn1:(n:Int) < 18446744073709551616:=by omega
  rw [zK5 hp] at P
  have PA:=Lib.hid P
  clear P
  by_cases hc:(n:Int) < d
  ·have hfin:subR l d=.tuple #[.string ⟨(zT3 0).toArray⟩,.bool true]:=by unfold subR; rw [hp]; simp only [show (n:Int) - min (n:Int) d=0 by omega]
   rw [hfin]
   have e0:zT3 0=[48]:=by decide +kernel
   rw [e0]
   clear hp hfin e0
   go_enter Tryz.func47,Tryz.ntmps47
   go_wp2_with fail
   refine (PA.out _).mono ?_
   rintro e w1 ⟨rfl,rfl⟩
   go_wp2_with fail
   go_ret2
   exact ⟨rfl,Below.refl _ _⟩
  ·have hfin:subR l d=.tuple #[.string ⟨(zT3 ((n:Int) - d)).toArray⟩,.bool true]:=by unfold subR; rw [hp]; simp only [show (n:Int) - min (n:Int) d=((n:Int) - d) by omega]
   rw [hfin]
   have T:=Lib.hid (fun w=>rtextI ((n:Int) - d) (by omega) (by omega) w)
   have hc2:d≤(n:Int):=by omega
   clear hp hfin hc hn
   generalize (n:Int)=q at *
   go_enter Tryz.func47,Tryz.ntmps47
   go_wp2_with fail
   refine (PA.out _).mono ?_
   rintro e w1 ⟨rfl,rfl⟩
   go_wp2_with fail
   refine (T.out _).mono ?_
   rintro e w2 ⟨rfl,b2⟩
   go_wp2_with fail
   go_ret2
   exact ⟨rfl,b2⟩
end Go.Proofs.YtfpeholdlkfmoaaGreatDoor
