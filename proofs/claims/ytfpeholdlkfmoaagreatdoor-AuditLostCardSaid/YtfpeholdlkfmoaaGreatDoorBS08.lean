/- store, by the symbolic walk: printed by gen_store.py. -/
import Derived.Test.YtfpeholdlkfmoaaGreatDoorBS06
namespace Go.Proofs.YtfpeholdlkfmoaaGreatDoor
set_option linter.unusedSimpArgs false
set_option linter.unusedVariables false
set_option maxHeartbeats 8000000
open Go.RowKit
set_option maxRecDepth 100000
theorem store_no (base g:Nat) (v:Value) (X:St) (now:Int) (op mode:Int) (key val:List UInt8) (flags exp:Int) (hasExp:Bool) (cas:Int) (hasCas:Bool) (delta init:Int) (down viv:Bool) (vive recache:Int) (inval:Bool) (most:Int) (i:Nat) (w:World) (h:WS base w g v X now ⟨op,mode,key,val,flags,exp,hasExp,cas,hasCas,delta,init,down,viv,vive,recache,inval⟩ most i false) (hbase:base≤w.heap.size) (hi:i≤X.items.length) (his:false=true→i < X.items.length) (hl:X.items.length≤100000000)
 (hn0:1≤now) (hn1:now≤1099511627776) (hck:key.length≤100000000) (hcv:val.length≤100000000)
 : Calls Tryz.prog 35 #[.pointer (some ⟨g,0,none⟩)] w (OpR base g v (zA8 X now ⟨op,mode,key,val,flags,exp,hasExp,cas,hasCas,delta,init,down,viv,vive,recache,inval⟩ most i false).1 now ⟨op,mode,key,val,flags,exp,hasExp,cas,hasCas,delta,init,down,viv,vive,recache,inval⟩ most i false (zA8 X now ⟨op,mode,key,val,flags,exp,hasExp,cas,hasCas,delta,init,down,viv,vive,recache,inval⟩ most i false).2 w):=by
 refine zN1 Tryz.func35 rfl kp35 Tryz.ntmps35 (by decide) h hbase his ?_
 intro vS tl hsh ρ hρ n hn hn' C hC hG hP hk
 have hctr:=zL7 hP
 rcases hsh with ⟨rfl,⟨_,rfl⟩ | ⟨h1,_⟩⟩
 ·by_cases h2:1 < mode
  ·have hm2:decide (1 < mode)=true:=decide_eq_true h2
   have hm1:(mode == 1)=false:=by simp; omega
   (refine zA6 hctr (rs:=res35) true 300 _ _ _ ?_; simp (maxSteps:=1000000) only [VG,jZ,ja,jd,je,qE,qF,qG,qH,qI,qJ,qK,qO,qP,qQ,qR,qS,qT,qV,qp,q0t,qu,qv,ev,qw,qy,qz,zA,zB,zC,zD,zE,zF,zG,zI,zJ,TE.sv,zK,zM,↓reduceIte,reduceCtorEq,Nat.reduceEqDiff,Nat.reduceAdd,Nat.reduceLT,zP,zQ,zR,zS,zV,zW,zb,zc,zt,zy,zz,hP,hk,res35,kp35,mC1,mC0,zB5,zA7,It.zero,anS,woE,woS,zG3,hm1,hm2])
   rw [show zA8 X now ⟨op,mode,key,val,flags,exp,hasExp,cas,hasCas,delta,init,down,viv,vive,recache,inval⟩ most i false=(X,zA7 3) by simp [zA8,h2]] at hC
   exact zC4 hC hres35 hn hρ h.low (vS:=.rw 1 X.items.length) rfl (.inr ⟨1,rfl,by decide,.inl rfl⟩) rfl
  ·have hm2:decide (1 < mode)=false:=decide_eq_false h2
   have h3:¬ mode=3:=by omega
   have h4:¬ mode=4:=by omega
   have hm3:(mode == 3)=false:=by simpa using h3
   have hm4:(mode == 4)=false:=by simpa using h4
   obtain ⟨m1,hm1⟩:∃ m1,(mode == 1)=m1:=⟨_,rfl⟩
   cases hasCas with
   | true =>
    cases m1
    all_goals
     (refine zA6 hctr (rs:=res35) true 300 _ _ _ ?_; simp (maxSteps:=1000000) only [VG,jZ,ja,jd,je,qE,qF,qG,qH,qI,qJ,qK,qO,qP,qQ,qR,qS,qT,qV,qp,q0t,qu,qv,ev,qw,qy,qz,zA,zB,zC,zD,zE,zF,zG,zI,zJ,TE.sv,zK,zM,↓reduceIte,reduceCtorEq,Nat.reduceEqDiff,Nat.reduceAdd,Nat.reduceLT,zP,zQ,zR,zS,zV,zW,zb,zc,zt,zy,zz,hP,hk,res35,kp35,mC1,mC0,zB5,zA7,It.zero,anS,woE,woS,zG3,hm1,hm2])
     rw [show zA8 X now ⟨op,mode,key,val,flags,exp,hasExp,cas,true,delta,init,down,viv,vive,recache,inval⟩ most i false=(X,zA7 5) by simp [zA8,h2]] at hC
     exact zC4 hC hres35 hn hρ h.low (vS:=.rw 1 X.items.length) rfl (.inr ⟨1,rfl,by decide,.inl rfl⟩) rfl
   | false =>
    cases m1
    all_goals
     (refine zA6 hctr (rs:=res35) true 300 _ _ _ ?_; simp (maxSteps:=1000000) only [VG,jZ,ja,jd,je,qH,qI,qJ,qK,qO,qP,qQ,qR,qS,qV,qp,q0t,qu,qv,ev,qy,qz,zA,zB,zC,zD,zE,zF,zG,zI,zJ,zK,zM,↓reduceIte,reduceCtorEq,Nat.reduceEqDiff,Nat.reduceAdd,Nat.reduceLT,zP,zQ,zR,zS,zV,zW,zb,zc,zt,zy,zz,hP,hk,res35,kp35,woE,woS,zG3,hm1,hm2])
     have hsub:IntKind.i64.wrap ((key.length:Int)+(val.length:Int))=(key.length:Int)+(val.length:Int):=IntWalk.i64_in _ (by omega)
     (refine zA1 hctr (by rw [hP]; rfl) rs35_12 [] (ensure_type_of% (Cmp.of (by simp (maxSteps := 1000000) only [qK, qO, qP, qV, qf, qg, q0t, qu, qv, ev, qw, qy, zC, zD, zE, zF, zG, zM, ↓reduceIte, reduceCtorEq, Nat.reduceEqDiff, Nat.reduceAdd, zP, zT, zt, cD, cO, jC, jD, jF, jG, jH, jI, jJ, jN, hP, mC1, mC0, zA3, hn0, hn1]; rfl)) "" Cmp.mk) (by kernel_rfl) (by kernel_rfl) (by first | exact zA2 _ | kernel_rfl) (by kernel_rfl) (by rfl) (by rfl) (by first | exact zA0 _ | rfl) (by rfl) (by simp (maxSteps := 1000000) only [qK, qO, qP, qV, qf, qg, q0t, qu, qv, ev, qw, qy, zC, zD, zE, zG, zM, ↓reduceIte, reduceCtorEq, Nat.reduceEqDiff, Nat.reduceAdd, Nat.reduceLT, zP, zR, zT, zm, zn, zo, zq, zt, jD, jF, jG, jH, jI, jN, jP, jQ, jR, jS, jT, jV, jW, jX, jY, hP, mC1, mC0, zA3, hn0, hn1]) ?_; refine zA6 hctr (rs := res35) true 300 _ _ _ ?_; simp (maxSteps := 1000000) only [VG, qH, qI, qJ, qK, qO, qP, qR, qS, qV, q0t, qv, ev, qy, qz, zC, zD, zE, zG, zI, zJ, zM, ↓reduceIte, reduceCtorEq, Nat.reduceEqDiff, Nat.reduceAdd, Nat.reduceLT, zP, zQ, zR, zW, zb, zc, zt, jN, jO, hP, hk, res35, kp35, hm3, hm4])
     (refine zA1 hctr (by rw [hP]; rfl) rs35_21 [] (ensure_type_of% (Cmp.of (by simp (maxSteps := 1000000) only [qK, qN, qO, qP, qQ, qR, qS, qV, qe, ev, qy, zD, zM, ↓reduceIte, reduceCtorEq, Nat.reduceEqDiff, zt, zu, cD, cO, jC, jD, jN, hP, hsub]; rfl)) "" Cmp.mk) (by kernel_rfl) (by kernel_rfl) (by first | exact zA2 _ | kernel_rfl) (by kernel_rfl) (by rfl) (by rfl) (by first | exact zA0 _ | rfl) (by rfl) (by simp (maxSteps := 1000000) only [qK, qN, qO, qP, qQ, qR, qS, qV, qe, ev, qy, zD, zM, ↓reduceIte, reduceCtorEq, Nat.reduceEqDiff, zT, zn, zt, zu, jD, jN, jP, jQ, jR, jS, jT, hP, hsub]) ?_; refine zA6 hctr (rs := res35) true 300 _ _ _ ?_; simp (maxSteps := 1000000) only [VG, ev, qy, zG, zI, zJ, ↓reduceIte, reduceCtorEq, Nat.reduceEqDiff, Nat.reduceAdd, zP, zQ, zf, zg, zt, jN, jO, hk, res35, kp35])
     refine ⟨fun hfit=>?_,fun hfit=>?_⟩
     ·have hfit':decide (most < (key.length:Int)+(val.length:Int))=true:=decide_eq_true hfit
      simp (maxSteps:=1000000) only [VG,qE,qF,qG,qH,qI,qJ,qP,q0t,qu,qv,ev,qw,qy,qz,zA,zB,zC,zD,zE,zG,zI,zJ,TE.sv,zM,↓reduceIte,reduceCtorEq,Nat.reduceEqDiff,Nat.reduceAdd,Nat.reduceLT,zP,zQ,zR,zt,hP,hk,kp35,mC1,mC0,zB5,zA7,It.zero,anS,hfit']
      rw [show zA8 X now ⟨op,mode,key,val,flags,exp,hasExp,cas,false,delta,init,down,viv,vive,recache,inval⟩ most i false=(X,zA7 11) by simp [zA8,zB3,zD9,zK1,h2,h3,h4]; omega] at hC
      exact zC4 hC hres35 hn hρ h.low (vS:=.rw 1 X.items.length) rfl (.inr ⟨1,rfl,by decide,.inl rfl⟩) rfl
     ·have hfit':decide (most < (key.length:Int)+(val.length:Int))=false:=decide_eq_false hfit
      simp (maxSteps:=1000000) only [VG,qH,qI,qK,qO,qP,ev,qw,qy,zA,zB,zD,zM,↓reduceIte,reduceCtorEq,Nat.reduceEqDiff,Nat.reduceLT,zR,zW,hP,mC1,mC0,hfit']
      obtain ⟨Y,hY⟩:∃ Y,Y=zJ4 X i false ⟨key,flags,val,zF3 now exp,0,0,false,false⟩:=⟨_,rfl⟩
      have hYi:Y.1.items[i]?=some Y.2:=by rw [hY]; exact zC5 X i _ _ hi his
      rw [show zA8 X now ⟨op,mode,key,val,flags,exp,hasExp,cas,false,delta,init,down,viv,vive,recache,inval⟩ most i false=(Y.1,⟨2,Y.2,0,false,false,false⟩) by rw [hY]; simp [zA8,zB3,zD9,zK1,h2,h3,h4]; omega] at hC
      refine zE1 ⟨key,flags,val,zF3 now exp,0,0,false,false⟩ hY hG (X:=X) (now:=now) (c:=⟨op,mode,key,val,flags,exp,hasExp,cas,false,delta,init,down,viv,vive,recache,inval⟩) (most:=most) (i:=i) (is:=false) rfl (.inl rfl) hi his hl rfl (by simp) ?_
      (refine zA6 hctr (rs:=res35) true 300 _ _ _ ?_; simp (maxSteps:=1000000) only [VG,qE,qF,qG,qH,qI,qJ,qK,qP,qQ,qf,qg,q0t,qu,qv,ev,qy,qz,zA,zB,zC,zD,zE,zF,zG,zI,zJ,TE.sv,zM,↓reduceIte,reduceCtorEq,Nat.reduceEqDiff,Nat.reduceAdd,Nat.reduceLT,zP,zQ,zR,zk,zl,zt,zA4,jN,hP,hk,res35,kp35,woE,woS,zF1,itS,zA4])
      exact zC4 hC hres35 hn hρ h.low (vS:=.rw 5 Y.1.items.length) rfl (.inr ⟨5,rfl,by decide,.inr ⟨i,Y.2,hYi,rfl⟩⟩) rfl
 ·cases h1
theorem store_win1 (base g:Nat) (v:Value) (X:St) (now:Int) (op mode:Int) (key val:List UInt8) (flags exp:Int) (hasExp:Bool) (cas:Int) (hasCas:Bool) (delta init:Int) (down viv:Bool) (vive recache:Int) (inval:Bool) (most:Int) (i:Nat) (w:World) (h:WS base w g v X now ⟨op,mode,key,val,flags,exp,hasExp,cas,hasCas,delta,init,down,viv,vive,recache,inval⟩ most i true) (hbase:base≤w.heap.size) (hi:i≤X.items.length) (his:true=true→i < X.items.length) (hl:X.items.length≤100000000)
 (hn0:1≤now) (hn1:now≤1099511627776) (hck:key.length≤100000000) (hcv:val.length≤100000000)
 (x:It) (hx:X.items[i]?=some x) (hxk:x.key.length≤100000000) (hxv:x.val.length≤100000000) (hkind:mode=1):Calls Tryz.prog 35 #[.pointer (some ⟨g,0,none⟩)] w (OpR base g v (zA8 X now ⟨op,mode,key,val,flags,exp,hasExp,cas,hasCas,delta,init,down,viv,vive,recache,inval⟩ most i true).1 now ⟨op,mode,key,val,flags,exp,hasExp,cas,hasCas,delta,init,down,viv,vive,recache,inval⟩ most i true (zA8 X now ⟨op,mode,key,val,flags,exp,hasExp,cas,hasCas,delta,init,down,viv,vive,recache,inval⟩ most i true).2 w):=by
 refine zN1 Tryz.func35 rfl kp35 Tryz.ntmps35 (by decide) h hbase his ?_
 intro vS tl hsh ρ hρ n hn hn' C hC hG hP hk
 have hctr:=zL7 hP
 rcases hsh with ⟨rfl,⟨h1,_⟩ | ⟨_,x',hx',rfl⟩⟩
 ·cases h1
 obtain rfl:x=x':=by rw [hx] at hx'; exact Option.some.inj hx'
 clear hx'
 have hif:itF X.items i=x:=by simp [itF,hx]
 have hil':(i:Int) < (X.items.length:Int):=by have:=his rfl; omega
 have hm1:(mode == 1)=true:=by simpa using hkind
 (refine zA6 hctr (rs:=res35) true 300 _ _ _ ?_; simp (maxSteps:=1000000) only [VG,jZ,je,qE,qF,qG,qH,qI,qJ,qK,qO,qP,qQ,qR,qS,qV,qp,q0t,qu,qv,ev,qw,qy,qz,zA,zB,zC,zD,zE,zF,zG,zI,zJ,TE.sv,zK,zM,↓reduceIte,reduceCtorEq,Nat.reduceEqDiff,Nat.reduceAdd,Nat.reduceLT,zP,zQ,zR,zS,zV,zb,zc,zt,zy,hP,hk,res35,kp35,mC1,mC0,zB5,zA7,It.zero,anS,woE,woS,zF1,itS,hm1])
 rw [show zA8 X now ⟨op,mode,key,val,flags,exp,hasExp,cas,hasCas,delta,init,down,viv,vive,recache,inval⟩ most i true=(X,zA7 3) by simp [zA8,hkind]] at hC
 exact zC4 hC hres35 hn hρ h.low (vS:=.rw 1 X.items.length) rfl (.inr ⟨1,rfl,by decide,.inr ⟨i,x,hx,rfl⟩⟩) rfl
theorem store_win3 (base g:Nat) (v:Value) (X:St) (now:Int) (op mode:Int) (key val:List UInt8) (flags exp:Int) (hasExp:Bool) (cas:Int) (hasCas:Bool) (delta init:Int) (down viv:Bool) (vive recache:Int) (inval:Bool) (most:Int) (i:Nat) (w:World) (h:WS base w g v X now ⟨op,mode,key,val,flags,exp,hasExp,cas,hasCas,delta,init,down,viv,vive,recache,inval⟩ most i true) (hbase:base≤w.heap.size) (hi:i≤X.items.length) (his:true=true→i < X.items.length) (hl:X.items.length≤100000000)
 (hn0:1≤now) (hn1:now≤1099511627776) (hck:key.length≤100000000) (hcv:val.length≤100000000)
 (x:It) (hx:X.items[i]?=some x) (hxk:x.key.length≤100000000) (hxv:x.val.length≤100000000) (hkind:mode=3):Calls Tryz.prog 35 #[.pointer (some ⟨g,0,none⟩)] w (OpR base g v (zA8 X now ⟨op,mode,key,val,flags,exp,hasExp,cas,hasCas,delta,init,down,viv,vive,recache,inval⟩ most i true).1 now ⟨op,mode,key,val,flags,exp,hasExp,cas,hasCas,delta,init,down,viv,vive,recache,inval⟩ most i true (zA8 X now ⟨op,mode,key,val,flags,exp,hasExp,cas,hasCas,delta,init,down,viv,vive,recache,inval⟩ most i true).2 w):=by
 refine zN1 Tryz.func35 rfl kp35 Tryz.ntmps35 (by decide) h hbase his ?_
 intro vS tl hsh ρ hρ n hn hn' C hC hG hP hk
 have hctr:=zL7 hP
 rcases hsh with ⟨rfl,⟨h1,_⟩ | ⟨_,x',hx',rfl⟩⟩
 ·cases h1
 obtain rfl:x=x':=by rw [hx] at hx'; exact Option.some.inj hx'
 clear hx'
 have hif:itF X.items i=x:=by simp [itF,hx]
 have hil':(i:Int) < (X.items.length:Int):=by have:=his rfl; omega
 have h3:=hkind
 have h1:¬ mode=1:=by omega
 have hm1:(mode == 1)=false:=by simpa using h1
 have hm2:decide (1 < mode)=true:=by simp; omega
 have hm3:(mode == 3)=true:=by simp; omega
 cases hasCas with
 | false =>
  (refine zA6 hctr (rs:=res35) true 300 _ _ _ ?_; simp (maxSteps:=1000000) only [VG,jZ,ja,jd,je,qH,qI,qJ,qK,qO,qP,qQ,qR,qS,qT,qV,qp,q0t,qu,qv,ev,qw,qy,qz,zA,zB,zC,zD,zE,zF,zG,zI,zJ,zK,zM,↓reduceIte,reduceCtorEq,Nat.reduceEqDiff,Nat.reduceAdd,Nat.reduceLT,zP,zQ,zR,zS,zT,zV,zW,zb,zc,zh,zt,zw,zy,zz,hP,hk,res35,kp35,mC1,zC2,woE,woS,zF1,itS,Int.natCast_nonneg,hil',hm1,hm2])
  have hsub:IntKind.i64.wrap ((x.key.length:Int)+((x.val++val).length:Int))=(x.key.length:Int)+((x.val++val).length:Int):=IntWalk.i64_in _ (by rw [List.length_append]; omega)
  (refine zA1 hctr (by rw [hP]; rfl) rs35_12 [] (ensure_type_of% (Cmp.of (by simp (maxSteps := 1000000) only [qK, qO, qP, qV, qf, qg, q0t, qu, qv, ev, qw, qy, zC, zD, zE, zF, zG, zM, ↓reduceIte, reduceCtorEq, Nat.reduceEqDiff, Nat.reduceAdd, zP, zT, zt, cD, cO, jC, jD, jF, jG, jH, jI, jJ, jN, hP, mC1, mC0, zA3, hn0, hn1]; rfl)) "" Cmp.mk) (by kernel_rfl) (by kernel_rfl) (by first | exact zA2 _ | kernel_rfl) (by kernel_rfl) (by rfl) (by rfl) (by first | exact zA0 _ | rfl) (by rfl) (by simp (maxSteps := 1000000) only [qK, qO, qP, qV, qf, qg, q0t, qu, qv, ev, qw, qy, zC, zD, zE, zG, zM, ↓reduceIte, reduceCtorEq, Nat.reduceEqDiff, Nat.reduceAdd, Nat.reduceLT, zP, zR, zT, zm, zn, zo, zq, zt, jD, jF, jG, jH, jI, jN, jP, jQ, jR, jS, jT, jV, jW, jX, jY, hP, mC1, mC0, zA3, hn0, hn1]) ?_; refine zA6 hctr (rs := res35) true 300 _ _ _ ?_; simp (maxSteps := 1000000) only [VG, qH, qI, qJ, qK, qO, qP, qQ, qR, qS, qV, q0t, qu, qv, ev, qw, qy, qz, zA, zB, zC, zD, zE, zG, zI, zJ, zM, ↓reduceIte, reduceCtorEq, Nat.reduceEqDiff, Nat.reduceAdd, Nat.reduceLT, zP, zQ, zR, zS, zT, zV, zb, zc, zh, zt, jN, jO, hP, hk, res35, kp35, mC1, mC0, zB7, Int.natCast_nonneg, hil', hm3])
  refine ⟨by omega,?_⟩
  (refine zA1 hctr (by rw [hP]; rfl) rs35_21 [] (ensure_type_of% (Cmp.of (by simp (maxSteps := 1000000) only [qK, qN, qO, qP, qQ, qR, qS, qV, qe, ev, qy, zD, zM, ↓reduceIte, reduceCtorEq, Nat.reduceEqDiff, zt, zu, cD, cO, jC, jD, jN, hP, hsub]; rfl)) "" Cmp.mk) (by kernel_rfl) (by kernel_rfl) (by first | exact zA2 _ | kernel_rfl) (by kernel_rfl) (by rfl) (by rfl) (by first | exact zA0 _ | rfl) (by rfl) (by simp (maxSteps := 1000000) only [qK, qN, qO, qP, qQ, qR, qS, qV, qe, ev, qy, zD, zM, ↓reduceIte, reduceCtorEq, Nat.reduceEqDiff, zT, zn, zt, zu, jD, jN, jP, jQ, jR, jS, jT, hP, hsub]) ?_; refine zA6 hctr (rs := res35) true 300 _ _ _ ?_; simp (maxSteps := 1000000) only [VG, ev, qy, zG, zI, zJ, ↓reduceIte, reduceCtorEq, Nat.reduceEqDiff, Nat.reduceAdd, zP, zQ, zf, zg, zt, jN, jO, hk, res35, kp35])
  refine ⟨fun hfit=>?_,fun hfit=>?_⟩
  ·have hfit':decide (most < (x.key.length:Int)+((x.val++val).length:Int))=true:=decide_eq_true hfit
   simp (maxSteps:=1000000) only [VG,qE,qF,qG,qH,qI,qJ,qP,q0t,qu,qv,ev,qw,qy,qz,zA,zB,zC,zD,zE,zG,zI,zJ,TE.sv,zM,↓reduceIte,reduceCtorEq,Nat.reduceEqDiff,Nat.reduceAdd,Nat.reduceLT,zP,zQ,zR,zt,hP,hk,kp35,mC1,mC0,zB5,zA7,It.zero,anS,hfit']
   rw [show zA8 X now ⟨op,mode,key,val,flags,exp,hasExp,cas,false,delta,init,down,viv,vive,recache,inval⟩ most i true=(X,zA7 11) by simp [zA8,zB3,zD9,zK1,hif,h3]; rw [List.length_append] at hfit; omega] at hC
   exact zC4 hC hres35 hn hρ h.low (vS:=.rw 1 X.items.length) rfl (.inr ⟨1,rfl,by decide,.inr ⟨i,x,hx,rfl⟩⟩) rfl
  ·have hfit':decide (most < (x.key.length:Int)+((x.val++val).length:Int))=false:=decide_eq_false hfit
   simp (maxSteps:=1000000) only [VG,qH,qI,qK,qO,qP,ev,qw,qy,zA,zB,zD,zM,↓reduceIte,reduceCtorEq,Nat.reduceEqDiff,Nat.reduceLT,zR,zW,hP,mC1,mC0,hfit']
   obtain ⟨Y,hY⟩:∃ Y,Y=zJ4 X i true ⟨x.key,x.flags,x.val++val,x.exp,x.cas,x.last,false,false⟩:=⟨_,rfl⟩
   have hYi:Y.1.items[i]?=some Y.2:=by rw [hY]; exact zC5 X i _ _ hi his
   rw [show zA8 X now ⟨op,mode,key,val,flags,exp,hasExp,cas,false,delta,init,down,viv,vive,recache,inval⟩ most i true=(Y.1,⟨2,Y.2,0,false,false,false⟩) by rw [hY]; simp [zA8,zB3,zD9,zK1,hif,h3]; rw [List.length_append] at hfit; omega] at hC
   refine zE1 ⟨x.key,x.flags,x.val++val,x.exp,x.cas,x.last,false,false⟩ hY hG (X:=X) (now:=now) (c:=⟨op,mode,key,val,flags,exp,hasExp,cas,false,delta,init,down,viv,vive,recache,inval⟩) (most:=most) (i:=i) (is:=true) rfl (.inr ⟨i,x,hx,rfl⟩) hi his hl rfl (by simp) ?_
   (refine zA6 hctr (rs:=res35) true 300 _ _ _ ?_; simp (maxSteps:=1000000) only [VG,qE,qF,qG,qH,qI,qJ,qK,qP,qQ,qf,qg,q0t,qu,qv,ev,qy,qz,zA,zB,zC,zD,zE,zF,zG,zI,zJ,TE.sv,zM,↓reduceIte,reduceCtorEq,Nat.reduceEqDiff,Nat.reduceAdd,Nat.reduceLT,zP,zQ,zR,zk,zl,zt,zA4,jN,hP,hk,res35,kp35,woE,woS,zF1,itS,zA4])
   exact zC4 hC hres35 hn hρ h.low (vS:=.rw 5 Y.1.items.length) rfl (.inr ⟨5,rfl,by decide,.inr ⟨i,Y.2,hYi,rfl⟩⟩) rfl
 | true =>
  by_cases hoc:x.cas=cas
  ·have hoc':decide (x.cas=cas)=true:=decide_eq_true hoc
   (refine zA6 hctr (rs:=res35) true 300 _ _ _ ?_; simp (maxSteps:=1000000) only [VG,jZ,ja,jd,je,qH,qI,qJ,qK,qO,qP,qQ,qR,qS,qT,qV,qp,q0t,qu,qv,ev,qw,qy,qz,zA,zB,zC,zD,zE,zF,zG,zI,zJ,zK,zM,↓reduceIte,reduceCtorEq,Nat.reduceEqDiff,Nat.reduceAdd,Nat.reduceLT,zP,zQ,zR,zS,zT,zV,zW,zb,zc,zh,zt,zx,zy,zz,hP,hk,res35,kp35,mC1,zC2,woE,woS,zF1,itS,Int.natCast_nonneg,hil',hm1,hm2,hoc'])
   have hsub:IntKind.i64.wrap ((x.key.length:Int)+((x.val++val).length:Int))=(x.key.length:Int)+((x.val++val).length:Int):=IntWalk.i64_in _ (by rw [List.length_append]; omega)
   (refine zA1 hctr (by rw [hP]; rfl) rs35_12 [] (ensure_type_of% (Cmp.of (by simp (maxSteps := 1000000) only [qK, qO, qP, qV, qf, qg, q0t, qu, qv, ev, qw, qy, zC, zD, zE, zF, zG, zM, ↓reduceIte, reduceCtorEq, Nat.reduceEqDiff, Nat.reduceAdd, zP, zT, zt, cD, cO, jC, jD, jF, jG, jH, jI, jJ, jN, hP, mC1, mC0, zA3, hn0, hn1]; rfl)) "" Cmp.mk) (by kernel_rfl) (by kernel_rfl) (by first | exact zA2 _ | kernel_rfl) (by kernel_rfl) (by rfl) (by rfl) (by first | exact zA0 _ | rfl) (by rfl) (by simp (maxSteps := 1000000) only [qK, qO, qP, qV, qf, qg, q0t, qu, qv, ev, qw, qy, zC, zD, zE, zG, zM, ↓reduceIte, reduceCtorEq, Nat.reduceEqDiff, Nat.reduceAdd, Nat.reduceLT, zP, zR, zT, zm, zn, zo, zq, zt, jD, jF, jG, jH, jI, jN, jP, jQ, jR, jS, jT, jV, jW, jX, jY, hP, mC1, mC0, zA3, hn0, hn1]) ?_; refine zA6 hctr (rs := res35) true 300 _ _ _ ?_; simp (maxSteps := 1000000) only [VG, qH, qI, qJ, qK, qO, qP, qQ, qR, qS, qV, q0t, qu, qv, ev, qw, qy, qz, zA, zB, zC, zD, zE, zG, zI, zJ, zM, ↓reduceIte, reduceCtorEq, Nat.reduceEqDiff, Nat.reduceAdd, Nat.reduceLT, zP, zQ, zR, zS, zT, zV, zb, zc, zh, zt, jN, jO, hP, hk, res35, kp35, mC1, mC0, zB7, Int.natCast_nonneg, hil', hm3])
   refine ⟨by omega,?_⟩
   (refine zA1 hctr (by rw [hP]; rfl) rs35_21 [] (ensure_type_of% (Cmp.of (by simp (maxSteps := 1000000) only [qK, qN, qO, qP, qQ, qR, qS, qV, qe, ev, qy, zD, zM, ↓reduceIte, reduceCtorEq, Nat.reduceEqDiff, zt, zu, cD, cO, jC, jD, jN, hP, hsub]; rfl)) "" Cmp.mk) (by kernel_rfl) (by kernel_rfl) (by first | exact zA2 _ | kernel_rfl) (by kernel_rfl) (by rfl) (by rfl) (by first | exact zA0 _ | rfl) (by rfl) (by simp (maxSteps := 1000000) only [qK, qN, qO, qP, qQ, qR, qS, qV, qe, ev, qy, zD, zM, ↓reduceIte, reduceCtorEq, Nat.reduceEqDiff, zT, zn, zt, zu, jD, jN, jP, jQ, jR, jS, jT, hP, hsub]) ?_; refine zA6 hctr (rs := res35) true 300 _ _ _ ?_; simp (maxSteps := 1000000) only [VG, ev, qy, zG, zI, zJ, ↓reduceIte, reduceCtorEq, Nat.reduceEqDiff, Nat.reduceAdd, zP, zQ, zf, zg, zt, jN, jO, hk, res35, kp35])
   refine ⟨fun hfit=>?_,fun hfit=>?_⟩
   ·have hfit':decide (most < (x.key.length:Int)+((x.val++val).length:Int))=true:=decide_eq_true hfit
    simp (maxSteps:=1000000) only [VG,qE,qF,qG,qH,qI,qJ,qP,q0t,qu,qv,ev,qw,qy,qz,zA,zB,zC,zD,zE,zG,zI,zJ,TE.sv,zM,↓reduceIte,reduceCtorEq,Nat.reduceEqDiff,Nat.reduceAdd,Nat.reduceLT,zP,zQ,zR,zt,hP,hk,kp35,mC1,mC0,zB5,zA7,It.zero,anS,hfit']
    rw [show zA8 X now ⟨op,mode,key,val,flags,exp,hasExp,cas,true,delta,init,down,viv,vive,recache,inval⟩ most i true=(X,zA7 11) by simp [zA8,zB3,zD9,zK1,hif,h3,hoc]; rw [List.length_append] at hfit; omega] at hC
    exact zC4 hC hres35 hn hρ h.low (vS:=.rw 1 X.items.length) rfl (.inr ⟨1,rfl,by decide,.inr ⟨i,x,hx,rfl⟩⟩) rfl
   ·have hfit':decide (most < (x.key.length:Int)+((x.val++val).length:Int))=false:=decide_eq_false hfit
    simp (maxSteps:=1000000) only [VG,qH,qI,qK,qO,qP,ev,qw,qy,zA,zB,zD,zM,↓reduceIte,reduceCtorEq,Nat.reduceEqDiff,Nat.reduceLT,zR,zW,hP,mC1,mC0,hfit']
    obtain ⟨Y,hY⟩:∃ Y,Y=zJ4 X i true ⟨x.key,x.flags,x.val++val,x.exp,x.cas,x.last,false,false⟩:=⟨_,rfl⟩
    have hYi:Y.1.items[i]?=some Y.2:=by rw [hY]; exact zC5 X i _ _ hi his
    rw [show zA8 X now ⟨op,mode,key,val,flags,exp,hasExp,cas,true,delta,init,down,viv,vive,recache,inval⟩ most i true=(Y.1,⟨2,Y.2,0,false,false,false⟩) by rw [hY]; simp [zA8,zB3,zD9,zK1,hif,h3,hoc]; rw [List.length_append] at hfit; omega] at hC
    refine zE1 ⟨x.key,x.flags,x.val++val,x.exp,x.cas,x.last,false,false⟩ hY hG (X:=X) (now:=now) (c:=⟨op,mode,key,val,flags,exp,hasExp,cas,true,delta,init,down,viv,vive,recache,inval⟩) (most:=most) (i:=i) (is:=true) rfl (.inr ⟨i,x,hx,rfl⟩) hi his hl rfl (by simp) ?_
    (refine zA6 hctr (rs:=res35) true 300 _ _ _ ?_; simp (maxSteps:=1000000) only [VG,qE,qF,qG,qH,qI,qJ,qK,qP,qQ,qf,qg,q0t,qu,qv,ev,qy,qz,zA,zB,zC,zD,zE,zF,zG,zI,zJ,TE.sv,zM,↓reduceIte,reduceCtorEq,Nat.reduceEqDiff,Nat.reduceAdd,Nat.reduceLT,zP,zQ,zR,zk,zl,zt,zA4,jN,hP,hk,res35,kp35,woE,woS,zF1,itS,zA4])
    exact zC4 hC hres35 hn hρ h.low (vS:=.rw 5 Y.1.items.length) rfl (.inr ⟨5,rfl,by decide,.inr ⟨i,Y.2,hYi,rfl⟩⟩) rfl
  ·have hoc':decide (x.cas=cas)=false:=decide_eq_false hoc
   (refine zA6 hctr (rs:=res35) true 300 _ _ _ ?_; simp (maxSteps:=1000000) only [VG,jZ,ja,jd,je,qH,qI,qJ,qK,qO,qP,qQ,qR,qS,qT,qV,qp,q0t,qu,qv,ev,qw,qy,qz,zA,zB,zC,zD,zE,zF,zG,zI,zJ,zK,zM,↓reduceIte,reduceCtorEq,Nat.reduceEqDiff,Nat.reduceAdd,Nat.reduceLT,zP,zQ,zR,zS,zT,zV,zW,zb,zc,zh,zt,zx,zy,zz,hP,hk,res35,kp35,mC1,zC2,woE,woS,zF1,itS,Int.natCast_nonneg,hil',hm1,hm2,hoc'])
   cases inval with
   | false =>
    (refine zA1 hctr (by rw [hP]; rfl) rs35_9 [] (ensure_type_of% (Cmp.of (by simp (maxSteps := 1000000) only [qK, qO, qP, qV, qp, ev, qy, qz, zD, zM, ↓reduceIte, Nat.reduceEqDiff, zt, cD, cO, jC, jD, jE, jN, hP]; rfl)) "" Cmp.mk) (by kernel_rfl) (by kernel_rfl) (by first | exact zA2 _ | kernel_rfl) (by kernel_rfl) (by rfl) (by rfl) (by first | exact zA0 _ | rfl) (by rfl) (by simp (maxSteps := 1000000) only [qK, qO, qP, qV, qp, ev, qy, qz, zD, zM, ↓reduceIte, Nat.reduceEqDiff, zT, zn, zt, jD, jE, jN, jP, jQ, jR, jS, jT, hP]) ?_; refine zA6 hctr (rs := res35) true 300 _ _ _ ?_; simp (maxSteps := 1000000) only [VG, qE, qF, qG, qH, qI, qJ, qK, qO, qP, qT, q0t, qu, qv, ev, qw, qy, qz, zA, zB, zC, zD, zE, zG, zI, zJ, TE.sv, zM, ↓reduceIte, reduceCtorEq, Nat.reduceEqDiff, Nat.reduceAdd, Nat.reduceLT, zP, zQ, zR, zS, zV, zW, zb, zc, zt, jN, jO, hP, hk, res35, kp35, mC1, mC0, zB5, zA7, It.zero, anS])
    rw [show zA8 X now ⟨op,mode,key,val,flags,exp,hasExp,cas,true,delta,init,down,viv,vive,recache,false⟩ most i true=(X,zA7 4) by simp [zA8,zB3,hif,h3,hoc]] at hC
    exact zC4 hC hres35 hn hρ h.low (vS:=.rw 1 X.items.length) rfl (.inr ⟨1,rfl,by decide,.inr ⟨i,x,hx,rfl⟩⟩) rfl
   | true =>
    by_cases hlt:cas < x.cas
    ·have hlt':decide (cas < x.cas)=true:=decide_eq_true hlt
     (refine zA1 hctr (by rw [hP]; rfl) rs35_9 [] (ensure_type_of% (Cmp.of (by simp (maxSteps := 1000000) only [qK, qO, qP, qQ, qR, qS, qV, qp, ev, qw, qy, qz, zD, zG, zM, ↓reduceIte, reduceCtorEq, Nat.reduceEqDiff, Nat.reduceAdd, zT, zh, zt, cD, cO, jC, jD, jE, jI, jN, hP, mC1, mC0, zB7, Int.natCast_nonneg, hil', hlt']; rfl)) "" Cmp.mk) (by kernel_rfl) (by kernel_rfl) (by first | exact zA2 _ | kernel_rfl) (by kernel_rfl) (by rfl) (by rfl) (by first | exact zA0 _ | rfl) (by rfl) (by simp (maxSteps := 1000000) only [qK, qO, qP, qQ, qR, qS, qV, qp, ev, qw, qy, qz, zD, zG, zM, ↓reduceIte, reduceCtorEq, Nat.reduceEqDiff, Nat.reduceAdd, Nat.reduceLT, zP, zR, zT, zh, zn, zo, zt, jD, jE, jI, jN, jP, jQ, jR, jS, jT, jV, jW, jX, jY, hP, mC1, mC0, zB7, Int.natCast_nonneg, hil', hlt']) ?_; refine zA6 hctr (rs := res35) true 300 _ _ _ ?_; simp (maxSteps := 1000000) only [VG, qH, qI, qK, qO, qT, ev, qy, zG, zI, zJ, ↓reduceIte, reduceCtorEq, Nat.reduceEqDiff, Nat.reduceAdd, Nat.reduceLT, zP, zQ, zR, zV, zW, zb, zc, zt, jN, jO, hk, res35, kp35])
     have hsub:IntKind.i64.wrap ((x.key.length:Int)+((x.val++val).length:Int))=(x.key.length:Int)+((x.val++val).length:Int):=IntWalk.i64_in _ (by rw [List.length_append]; omega)
     (refine zA1 hctr (by rw [hP]; rfl) rs35_12 [] (ensure_type_of% (Cmp.of (by simp (maxSteps := 1000000) only [qK, qO, qP, qV, qf, qg, q0t, qu, qv, ev, qw, qy, zC, zD, zE, zF, zG, zM, ↓reduceIte, reduceCtorEq, Nat.reduceEqDiff, Nat.reduceAdd, zP, zT, zt, cD, cO, jC, jD, jF, jG, jH, jI, jJ, jN, hP, mC1, mC0, zA3, hn0, hn1]; rfl)) "" Cmp.mk) (by kernel_rfl) (by kernel_rfl) (by first | exact zA2 _ | kernel_rfl) (by kernel_rfl) (by rfl) (by rfl) (by first | exact zA0 _ | rfl) (by rfl) (by simp (maxSteps := 1000000) only [qK, qO, qP, qV, qf, qg, q0t, qu, qv, ev, qw, qy, zC, zD, zE, zG, zM, ↓reduceIte, reduceCtorEq, Nat.reduceEqDiff, Nat.reduceAdd, Nat.reduceLT, zP, zR, zT, zm, zn, zo, zq, zt, jD, jF, jG, jH, jI, jN, jP, jQ, jR, jS, jT, jV, jW, jX, jY, hP, mC1, mC0, zA3, hn0, hn1]) ?_; refine zA6 hctr (rs := res35) true 300 _ _ _ ?_; simp (maxSteps := 1000000) only [VG, qH, qI, qJ, qK, qO, qP, qQ, qR, qS, qV, q0t, qu, qv, ev, qw, qy, qz, zA, zB, zC, zD, zE, zG, zI, zJ, zM, ↓reduceIte, reduceCtorEq, Nat.reduceEqDiff, Nat.reduceAdd, Nat.reduceLT, zP, zQ, zR, zS, zT, zV, zb, zc, zh, zt, jN, jO, hP, hk, res35, kp35, mC1, mC0, zB7, Int.natCast_nonneg, hil', hm3])
     refine ⟨by omega,?_⟩
     (refine zA1 hctr (by rw [hP]; rfl) rs35_21 [] (ensure_type_of% (Cmp.of (by simp (maxSteps := 1000000) only [qK, qN, qO, qP, qQ, qR, qS, qV, qe, ev, qy, zD, zM, ↓reduceIte, reduceCtorEq, Nat.reduceEqDiff, zt, zu, cD, cO, jC, jD, jN, hP, hsub]; rfl)) "" Cmp.mk) (by kernel_rfl) (by kernel_rfl) (by first | exact zA2 _ | kernel_rfl) (by kernel_rfl) (by rfl) (by rfl) (by first | exact zA0 _ | rfl) (by rfl) (by simp (maxSteps := 1000000) only [qK, qN, qO, qP, qQ, qR, qS, qV, qe, ev, qy, zD, zM, ↓reduceIte, reduceCtorEq, Nat.reduceEqDiff, zT, zn, zt, zu, jD, jN, jP, jQ, jR, jS, jT, hP, hsub]) ?_; refine zA6 hctr (rs := res35) true 300 _ _ _ ?_; simp (maxSteps := 1000000) only [VG, ev, qy, zG, zI, zJ, ↓reduceIte, reduceCtorEq, Nat.reduceEqDiff, Nat.reduceAdd, zP, zQ, zf, zg, zt, jN, jO, hk, res35, kp35])
     refine ⟨fun hfit=>?_,fun hfit=>?_⟩
     ·have hfit':decide (most < (x.key.length:Int)+((x.val++val).length:Int))=true:=decide_eq_true hfit
      simp (maxSteps:=1000000) only [VG,qE,qF,qG,qH,qI,qJ,qP,q0t,qu,qv,ev,qw,qy,qz,zA,zB,zC,zD,zE,zG,zI,zJ,TE.sv,zM,↓reduceIte,reduceCtorEq,Nat.reduceEqDiff,Nat.reduceAdd,Nat.reduceLT,zP,zQ,zR,zt,hP,hk,kp35,mC1,mC0,zB5,zA7,It.zero,anS,hfit']
      rw [show zA8 X now ⟨op,mode,key,val,flags,exp,hasExp,cas,true,delta,init,down,viv,vive,recache,true⟩ most i true=(X,zA7 11) by simp [zA8,zB3,zD9,zK1,hif,h3,hoc,hlt]; rw [List.length_append] at hfit; omega] at hC
      exact zC4 hC hres35 hn hρ h.low (vS:=.rw 1 X.items.length) rfl (.inr ⟨1,rfl,by decide,.inr ⟨i,x,hx,rfl⟩⟩) rfl
     ·have hfit':decide (most < (x.key.length:Int)+((x.val++val).length:Int))=false:=decide_eq_false hfit
      simp (maxSteps:=1000000) only [VG,qH,qI,qK,qO,qP,ev,qw,qy,zA,zB,zD,zM,↓reduceIte,reduceCtorEq,Nat.reduceEqDiff,Nat.reduceLT,zR,zW,hP,mC1,mC0,hfit']
      obtain ⟨Y,hY⟩:∃ Y,Y=zJ4 X i true ⟨x.key,x.flags,x.val++val,x.exp,x.cas,x.last,true,false⟩:=⟨_,rfl⟩
      have hYi:Y.1.items[i]?=some Y.2:=by rw [hY]; exact zC5 X i _ _ hi his
      rw [show zA8 X now ⟨op,mode,key,val,flags,exp,hasExp,cas,true,delta,init,down,viv,vive,recache,true⟩ most i true=(Y.1,⟨2,Y.2,0,false,false,false⟩) by rw [hY]; simp [zA8,zB3,zD9,zK1,hif,h3,hoc,hlt]; rw [List.length_append] at hfit; omega] at hC
      refine zE1 ⟨x.key,x.flags,x.val++val,x.exp,x.cas,x.last,true,false⟩ hY hG (X:=X) (now:=now) (c:=⟨op,mode,key,val,flags,exp,hasExp,cas,true,delta,init,down,viv,vive,recache,true⟩) (most:=most) (i:=i) (is:=true) rfl (.inr ⟨i,x,hx,rfl⟩) hi his hl rfl (by simp) ?_
      (refine zA6 hctr (rs:=res35) true 300 _ _ _ ?_; simp (maxSteps:=1000000) only [VG,qE,qF,qG,qH,qI,qJ,qK,qP,qQ,qf,qg,q0t,qu,qv,ev,qy,qz,zA,zB,zC,zD,zE,zF,zG,zI,zJ,TE.sv,zM,↓reduceIte,reduceCtorEq,Nat.reduceEqDiff,Nat.reduceAdd,Nat.reduceLT,zP,zQ,zR,zk,zl,zt,zA4,jN,hP,hk,res35,kp35,woE,woS,zF1,itS,zA4])
      exact zC4 hC hres35 hn hρ h.low (vS:=.rw 5 Y.1.items.length) rfl (.inr ⟨5,rfl,by decide,.inr ⟨i,Y.2,hYi,rfl⟩⟩) rfl
    ·have hlt':decide (cas < x.cas)=false:=decide_eq_false hlt
     (refine zA1 hctr (by rw [hP]; rfl) rs35_9 [] (ensure_type_of% (Cmp.of (by simp (maxSteps := 1000000) only [qK, qO, qP, qQ, qR, qS, qV, qp, ev, qw, qy, qz, zD, zG, zM, ↓reduceIte, reduceCtorEq, Nat.reduceEqDiff, Nat.reduceAdd, zT, zh, zt, cD, cO, jC, jD, jE, jI, jN, hP, mC1, mC0, zB7, Int.natCast_nonneg, hil', hlt']; rfl)) "" Cmp.mk) (by kernel_rfl) (by kernel_rfl) (by first | exact zA2 _ | kernel_rfl) (by kernel_rfl) (by rfl) (by rfl) (by first | exact zA0 _ | rfl) (by rfl) (by simp (maxSteps := 1000000) only [qK, qO, qP, qQ, qR, qS, qV, qp, ev, qw, qy, qz, zD, zG, zM, ↓reduceIte, reduceCtorEq, Nat.reduceEqDiff, Nat.reduceAdd, Nat.reduceLT, zP, zR, zT, zh, zn, zo, zt, jD, jE, jI, jN, jP, jQ, jR, jS, jT, jV, jW, jX, jY, hP, mC1, mC0, zB7, Int.natCast_nonneg, hil', hlt']) ?_; refine zA6 hctr (rs := res35) true 300 _ _ _ ?_; simp (maxSteps := 1000000) only [VG, qE, qF, qG, qH, qI, qJ, qK, qO, qP, qT, q0t, qu, qv, ev, qw, qy, qz, zA, zB, zC, zD, zE, zG, zI, zJ, TE.sv, zM, ↓reduceIte, reduceCtorEq, Nat.reduceEqDiff, Nat.reduceAdd, Nat.reduceLT, zP, zQ, zR, zS, zV, zW, zb, zc, zt, jN, jO, hP, hk, res35, kp35, mC1, mC0, zB5, zA7, It.zero, anS])
     rw [show zA8 X now ⟨op,mode,key,val,flags,exp,hasExp,cas,true,delta,init,down,viv,vive,recache,true⟩ most i true=(X,zA7 4) by simp [zA8,zB3,hif,h3,hoc,hlt]] at hC
     exact zC4 hC hres35 hn hρ h.low (vS:=.rw 1 X.items.length) rfl (.inr ⟨1,rfl,by decide,.inr ⟨i,x,hx,rfl⟩⟩) rfl
theorem store_win4 (base g:Nat) (v:Value) (X:St) (now:Int) (op mode:Int) (key val:List UInt8) (flags exp:Int) (hasExp:Bool) (cas:Int) (hasCas:Bool) (delta init:Int) (down viv:Bool) (vive recache:Int) (inval:Bool) (most:Int) (i:Nat) (w:World) (h:WS base w g v X now ⟨op,mode,key,val,flags,exp,hasExp,cas,hasCas,delta,init,down,viv,vive,recache,inval⟩ most i true) (hbase:base≤w.heap.size) (hi:i≤X.items.length) (his:true=true→i < X.items.length) (hl:X.items.length≤100000000)
 (hn0:1≤now) (hn1:now≤1099511627776) (hck:key.length≤100000000) (hcv:val.length≤100000000)
 (x:It) (hx:X.items[i]?=some x) (hxk:x.key.length≤100000000) (hxv:x.val.length≤100000000) (hkind:mode=4):Calls Tryz.prog 35 #[.pointer (some ⟨g,0,none⟩)] w (OpR base g v (zA8 X now ⟨op,mode,key,val,flags,exp,hasExp,cas,hasCas,delta,init,down,viv,vive,recache,inval⟩ most i true).1 now ⟨op,mode,key,val,flags,exp,hasExp,cas,hasCas,delta,init,down,viv,vive,recache,inval⟩ most i true (zA8 X now ⟨op,mode,key,val,flags,exp,hasExp,cas,hasCas,delta,init,down,viv,vive,recache,inval⟩ most i true).2 w):=by
 refine zN1 Tryz.func35 rfl kp35 Tryz.ntmps35 (by decide) h hbase his ?_
 intro vS tl hsh ρ hρ n hn hn' C hC hG hP hk
 have hctr:=zL7 hP
 rcases hsh with ⟨rfl,⟨h1,_⟩ | ⟨_,x',hx',rfl⟩⟩
 ·cases h1
 obtain rfl:x=x':=by rw [hx] at hx'; exact Option.some.inj hx'
 clear hx'
 have hif:itF X.items i=x:=by simp [itF,hx]
 have hil':(i:Int) < (X.items.length:Int):=by have:=his rfl; omega
 have h4:=hkind
 have h1:¬ mode=1:=by omega
 have hm1:(mode == 1)=false:=by simpa using h1
 have hm2:decide (1 < mode)=true:=by simp; omega
 have hm3:(mode == 3)=false:=by simp; omega
 have hm4:(mode == 4)=true:=by simp; omega
 cases hasCas with
 | false =>
  (refine zA6 hctr (rs:=res35) true 300 _ _ _ ?_; simp (maxSteps:=1000000) only [VG,jZ,ja,jd,je,qH,qI,qJ,qK,qO,qP,qQ,qR,qS,qT,qV,qp,q0t,qu,qv,ev,qw,qy,qz,zA,zB,zC,zD,zE,zF,zG,zI,zJ,zK,zM,↓reduceIte,reduceCtorEq,Nat.reduceEqDiff,Nat.reduceAdd,Nat.reduceLT,zP,zQ,zR,zS,zT,zV,zW,zb,zc,zh,zt,zw,zy,zz,hP,hk,res35,kp35,mC1,zC2,woE,woS,zF1,itS,Int.natCast_nonneg,hil',hm1,hm2])
  have hsub:IntKind.i64.wrap ((x.key.length:Int)+((val++x.val).length:Int))=(x.key.length:Int)+((val++x.val).length:Int):=IntWalk.i64_in _ (by rw [List.length_append]; omega)
  (refine zA1 hctr (by rw [hP]; rfl) rs35_12 [] (ensure_type_of% (Cmp.of (by simp (maxSteps := 1000000) only [qK, qO, qP, qV, qf, qg, q0t, qu, qv, ev, qw, qy, zC, zD, zE, zF, zG, zM, ↓reduceIte, reduceCtorEq, Nat.reduceEqDiff, Nat.reduceAdd, zP, zT, zt, cD, cO, jC, jD, jF, jG, jH, jI, jJ, jN, hP, mC1, mC0, zA3, hn0, hn1]; rfl)) "" Cmp.mk) (by kernel_rfl) (by kernel_rfl) (by first | exact zA2 _ | kernel_rfl) (by kernel_rfl) (by rfl) (by rfl) (by first | exact zA0 _ | rfl) (by rfl) (by simp (maxSteps := 1000000) only [qK, qO, qP, qV, qf, qg, q0t, qu, qv, ev, qw, qy, zC, zD, zE, zG, zM, ↓reduceIte, reduceCtorEq, Nat.reduceEqDiff, Nat.reduceAdd, Nat.reduceLT, zP, zR, zT, zm, zn, zo, zq, zt, jD, jF, jG, jH, jI, jN, jP, jQ, jR, jS, jT, jV, jW, jX, jY, hP, mC1, mC0, zA3, hn0, hn1]) ?_; refine zA6 hctr (rs := res35) true 300 _ _ _ ?_; simp (maxSteps := 1000000) only [VG, qH, qI, qJ, qK, qO, qP, qQ, qR, qS, qV, q0t, qu, qv, ev, qw, qy, qz, zA, zB, zC, zD, zE, zG, zI, zJ, zM, ↓reduceIte, reduceCtorEq, Nat.reduceEqDiff, Nat.reduceAdd, Nat.reduceLT, zP, zQ, zR, zS, zT, zV, zW, zb, zc, zh, zt, jN, jO, hP, hk, res35, kp35, mC1, mC0, zB7, Int.natCast_nonneg, hil', hm3, hm4])
  refine ⟨by omega,?_⟩
  (refine zA1 hctr (by rw [hP]; rfl) rs35_21 [] (ensure_type_of% (Cmp.of (by simp (maxSteps := 1000000) only [qK, qN, qO, qP, qQ, qR, qS, qV, qe, ev, qy, zD, zM, ↓reduceIte, reduceCtorEq, Nat.reduceEqDiff, zt, zu, cD, cO, jC, jD, jN, hP, hsub]; rfl)) "" Cmp.mk) (by kernel_rfl) (by kernel_rfl) (by first | exact zA2 _ | kernel_rfl) (by kernel_rfl) (by rfl) (by rfl) (by first | exact zA0 _ | rfl) (by rfl) (by simp (maxSteps := 1000000) only [qK, qN, qO, qP, qQ, qR, qS, qV, qe, ev, qy, zD, zM, ↓reduceIte, reduceCtorEq, Nat.reduceEqDiff, zT, zn, zt, zu, jD, jN, jP, jQ, jR, jS, jT, hP, hsub]) ?_; refine zA6 hctr (rs := res35) true 300 _ _ _ ?_; simp (maxSteps := 1000000) only [VG, ev, qy, zG, zI, zJ, ↓reduceIte, reduceCtorEq, Nat.reduceEqDiff, Nat.reduceAdd, zP, zQ, zf, zg, zt, jN, jO, hk, res35, kp35])
  refine ⟨fun hfit=>?_,fun hfit=>?_⟩
  ·have hfit':decide (most < (x.key.length:Int)+((val++x.val).length:Int))=true:=decide_eq_true hfit
   simp (maxSteps:=1000000) only [VG,qE,qF,qG,qH,qI,qJ,qP,q0t,qu,qv,ev,qw,qy,qz,zA,zB,zC,zD,zE,zG,zI,zJ,TE.sv,zM,↓reduceIte,reduceCtorEq,Nat.reduceEqDiff,Nat.reduceAdd,Nat.reduceLT,zP,zQ,zR,zt,hP,hk,kp35,mC1,mC0,zB5,zA7,It.zero,anS,hfit']
   rw [show zA8 X now ⟨op,mode,key,val,flags,exp,hasExp,cas,false,delta,init,down,viv,vive,recache,inval⟩ most i true=(X,zA7 11) by simp [zA8,zB3,zD9,zK1,hif,h4]; rw [List.length_append] at hfit; omega] at hC
   exact zC4 hC hres35 hn hρ h.low (vS:=.rw 1 X.items.length) rfl (.inr ⟨1,rfl,by decide,.inr ⟨i,x,hx,rfl⟩⟩) rfl
  ·have hfit':decide (most < (x.key.length:Int)+((val++x.val).length:Int))=false:=decide_eq_false hfit
   simp (maxSteps:=1000000) only [VG,qH,qI,qK,qO,qP,ev,qw,qy,zA,zB,zD,zM,↓reduceIte,reduceCtorEq,Nat.reduceEqDiff,Nat.reduceLT,zR,zW,hP,mC1,mC0,hfit']
   obtain ⟨Y,hY⟩:∃ Y,Y=zJ4 X i true ⟨x.key,x.flags,val++x.val,x.exp,x.cas,x.last,false,false⟩:=⟨_,rfl⟩
   have hYi:Y.1.items[i]?=some Y.2:=by rw [hY]; exact zC5 X i _ _ hi his
   rw [show zA8 X now ⟨op,mode,key,val,flags,exp,hasExp,cas,false,delta,init,down,viv,vive,recache,inval⟩ most i true=(Y.1,⟨2,Y.2,0,false,false,false⟩) by rw [hY]; simp [zA8,zB3,zD9,zK1,hif,h4]; rw [List.length_append] at hfit; omega] at hC
   refine zE1 ⟨x.key,x.flags,val++x.val,x.exp,x.cas,x.last,false,false⟩ hY hG (X:=X) (now:=now) (c:=⟨op,mode,key,val,flags,exp,hasExp,cas,false,delta,init,down,viv,vive,recache,inval⟩) (most:=most) (i:=i) (is:=true) rfl (.inr ⟨i,x,hx,rfl⟩) hi his hl rfl (by simp) ?_
   (refine zA6 hctr (rs:=res35) true 300 _ _ _ ?_; simp (maxSteps:=1000000) only [VG,qE,qF,qG,qH,qI,qJ,qK,qP,qQ,qf,qg,q0t,qu,qv,ev,qy,qz,zA,zB,zC,zD,zE,zF,zG,zI,zJ,TE.sv,zM,↓reduceIte,reduceCtorEq,Nat.reduceEqDiff,Nat.reduceAdd,Nat.reduceLT,zP,zQ,zR,zk,zl,zt,zA4,jN,hP,hk,res35,kp35,woE,woS,zF1,itS,zA4])
   exact zC4 hC hres35 hn hρ h.low (vS:=.rw 5 Y.1.items.length) rfl (.inr ⟨5,rfl,by decide,.inr ⟨i,Y.2,hYi,rfl⟩⟩) rfl
 | true =>
  by_cases hoc:x.cas=cas
  ·have hoc':decide (x.cas=cas)=true:=decide_eq_true hoc
   (refine zA6 hctr (rs:=res35) true 300 _ _ _ ?_; simp (maxSteps:=1000000) only [VG,jZ,ja,jd,je,qH,qI,qJ,qK,qO,qP,qQ,qR,qS,qT,qV,qp,q0t,qu,qv,ev,qw,qy,qz,zA,zB,zC,zD,zE,zF,zG,zI,zJ,zK,zM,↓reduceIte,reduceCtorEq,Nat.reduceEqDiff,Nat.reduceAdd,Nat.reduceLT,zP,zQ,zR,zS,zT,zV,zW,zb,zc,zh,zt,zx,zy,zz,hP,hk,res35,kp35,mC1,zC2,woE,woS,zF1,itS,Int.natCast_nonneg,hil',hm1,hm2,hoc'])
   have hsub:IntKind.i64.wrap ((x.key.length:Int)+((val++x.val).length:Int))=(x.key.length:Int)+((val++x.val).length:Int):=IntWalk.i64_in _ (by rw [List.length_append]; omega)
   (refine zA1 hctr (by rw [hP]; rfl) rs35_12 [] (ensure_type_of% (Cmp.of (by simp (maxSteps := 1000000) only [qK, qO, qP, qV, qf, qg, q0t, qu, qv, ev, qw, qy, zC, zD, zE, zF, zG, zM, ↓reduceIte, reduceCtorEq, Nat.reduceEqDiff, Nat.reduceAdd, zP, zT, zt, cD, cO, jC, jD, jF, jG, jH, jI, jJ, jN, hP, mC1, mC0, zA3, hn0, hn1]; rfl)) "" Cmp.mk) (by kernel_rfl) (by kernel_rfl) (by first | exact zA2 _ | kernel_rfl) (by kernel_rfl) (by rfl) (by rfl) (by first | exact zA0 _ | rfl) (by rfl) (by simp (maxSteps := 1000000) only [qK, qO, qP, qV, qf, qg, q0t, qu, qv, ev, qw, qy, zC, zD, zE, zG, zM, ↓reduceIte, reduceCtorEq, Nat.reduceEqDiff, Nat.reduceAdd, Nat.reduceLT, zP, zR, zT, zm, zn, zo, zq, zt, jD, jF, jG, jH, jI, jN, jP, jQ, jR, jS, jT, jV, jW, jX, jY, hP, mC1, mC0, zA3, hn0, hn1]) ?_; refine zA6 hctr (rs := res35) true 300 _ _ _ ?_; simp (maxSteps := 1000000) only [VG, qH, qI, qJ, qK, qO, qP, qQ, qR, qS, qV, q0t, qu, qv, ev, qw, qy, qz, zA, zB, zC, zD, zE, zG, zI, zJ, zM, ↓reduceIte, reduceCtorEq, Nat.reduceEqDiff, Nat.reduceAdd, Nat.reduceLT, zP, zQ, zR, zS, zT, zV, zW, zb, zc, zh, zt, jN, jO, hP, hk, res35, kp35, mC1, mC0, zB7, Int.natCast_nonneg, hil', hm3, hm4])
   refine ⟨by omega,?_⟩
   (refine zA1 hctr (by rw [hP]; rfl) rs35_21 [] (ensure_type_of% (Cmp.of (by simp (maxSteps := 1000000) only [qK, qN, qO, qP, qQ, qR, qS, qV, qe, ev, qy, zD, zM, ↓reduceIte, reduceCtorEq, Nat.reduceEqDiff, zt, zu, cD, cO, jC, jD, jN, hP, hsub]; rfl)) "" Cmp.mk) (by kernel_rfl) (by kernel_rfl) (by first | exact zA2 _ | kernel_rfl) (by kernel_rfl) (by rfl) (by rfl) (by first | exact zA0 _ | rfl) (by rfl) (by simp (maxSteps := 1000000) only [qK, qN, qO, qP, qQ, qR, qS, qV, qe, ev, qy, zD, zM, ↓reduceIte, reduceCtorEq, Nat.reduceEqDiff, zT, zn, zt, zu, jD, jN, jP, jQ, jR, jS, jT, hP, hsub]) ?_; refine zA6 hctr (rs := res35) true 300 _ _ _ ?_; simp (maxSteps := 1000000) only [VG, ev, qy, zG, zI, zJ, ↓reduceIte, reduceCtorEq, Nat.reduceEqDiff, Nat.reduceAdd, zP, zQ, zf, zg, zt, jN, jO, hk, res35, kp35])
   refine ⟨fun hfit=>?_,fun hfit=>?_⟩
   ·have hfit':decide (most < (x.key.length:Int)+((val++x.val).length:Int))=true:=decide_eq_true hfit
    simp (maxSteps:=1000000) only [VG,qE,qF,qG,qH,qI,qJ,qP,q0t,qu,qv,ev,qw,qy,qz,zA,zB,zC,zD,zE,zG,zI,zJ,TE.sv,zM,↓reduceIte,reduceCtorEq,Nat.reduceEqDiff,Nat.reduceAdd,Nat.reduceLT,zP,zQ,zR,zt,hP,hk,kp35,mC1,mC0,zB5,zA7,It.zero,anS,hfit']
    rw [show zA8 X now ⟨op,mode,key,val,flags,exp,hasExp,cas,true,delta,init,down,viv,vive,recache,inval⟩ most i true=(X,zA7 11) by simp [zA8,zB3,zD9,zK1,hif,h4,hoc]; rw [List.length_append] at hfit; omega] at hC
    exact zC4 hC hres35 hn hρ h.low (vS:=.rw 1 X.items.length) rfl (.inr ⟨1,rfl,by decide,.inr ⟨i,x,hx,rfl⟩⟩) rfl
   ·have hfit':decide (most < (x.key.length:Int)+((val++x.val).length:Int))=false:=decide_eq_false hfit
    simp (maxSteps:=1000000) only [VG,qH,qI,qK,qO,qP,ev,qw,qy,zA,zB,zD,zM,↓reduceIte,reduceCtorEq,Nat.reduceEqDiff,Nat.reduceLT,zR,zW,hP,mC1,mC0,hfit']
    obtain ⟨Y,hY⟩:∃ Y,Y=zJ4 X i true ⟨x.key,x.flags,val++x.val,x.exp,x.cas,x.last,false,false⟩:=⟨_,rfl⟩
    have hYi:Y.1.items[i]?=some Y.2:=by rw [hY]; exact zC5 X i _ _ hi his
    rw [show zA8 X now ⟨op,mode,key,val,flags,exp,hasExp,cas,true,delta,init,down,viv,vive,recache,inval⟩ most i true=(Y.1,⟨2,Y.2,0,false,false,false⟩) by rw [hY]; simp [zA8,zB3,zD9,zK1,hif,h4,hoc]; rw [List.length_append] at hfit; omega] at hC
    refine zE1 ⟨x.key,x.flags,val++x.val,x.exp,x.cas,x.last,false,false⟩ hY hG (X:=X) (now:=now) (c:=⟨op,mode,key,val,flags,exp,hasExp,cas,true,delta,init,down,viv,vive,recache,inval⟩) (most:=most) (i:=i) (is:=true) rfl (.inr ⟨i,x,hx,rfl⟩) hi his hl rfl (by simp) ?_
    (refine zA6 hctr (rs:=res35) true 300 _ _ _ ?_; simp (maxSteps:=1000000) only [VG,qE,qF,qG,qH,qI,qJ,qK,qP,qQ,qf,qg,q0t,qu,qv,ev,qy,qz,zA,zB,zC,zD,zE,zF,zG,zI,zJ,TE.sv,zM,↓reduceIte,reduceCtorEq,Nat.reduceEqDiff,Nat.reduceAdd,Nat.reduceLT,zP,zQ,zR,zk,zl,zt,zA4,jN,hP,hk,res35,kp35,woE,woS,zF1,itS,zA4])
    exact zC4 hC hres35 hn hρ h.low (vS:=.rw 5 Y.1.items.length) rfl (.inr ⟨5,rfl,by decide,.inr ⟨i,Y.2,hYi,rfl⟩⟩) rfl
  ·have hoc':decide (x.cas=cas)=false:=decide_eq_false hoc
   (refine zA6 hctr (rs:=res35) true 300 _ _ _ ?_; simp (maxSteps:=1000000) only [VG,jZ,ja,jd,je,qH,qI,qJ,qK,qO,qP,qQ,qR,qS,qT,qV,qp,q0t,qu,qv,ev,qw,qy,qz,zA,zB,zC,zD,zE,zF,zG,zI,zJ,zK,zM,↓reduceIte,reduceCtorEq,Nat.reduceEqDiff,Nat.reduceAdd,Nat.reduceLT,zP,zQ,zR,zS,zT,zV,zW,zb,zc,zh,zt,zx,zy,zz,hP,hk,res35,kp35,mC1,zC2,woE,woS,zF1,itS,Int.natCast_nonneg,hil',hm1,hm2,hoc'])
   cases inval with
   | false =>
    (refine zA1 hctr (by rw [hP]; rfl) rs35_9 [] (ensure_type_of% (Cmp.of (by simp (maxSteps := 1000000) only [qK, qO, qP, qV, qp, ev, qy, qz, zD, zM, ↓reduceIte, Nat.reduceEqDiff, zt, cD, cO, jC, jD, jE, jN, hP]; rfl)) "" Cmp.mk) (by kernel_rfl) (by kernel_rfl) (by first | exact zA2 _ | kernel_rfl) (by kernel_rfl) (by rfl) (by rfl) (by first | exact zA0 _ | rfl) (by rfl) (by simp (maxSteps := 1000000) only [qK, qO, qP, qV, qp, ev, qy, qz, zD, zM, ↓reduceIte, Nat.reduceEqDiff, zT, zn, zt, jD, jE, jN, jP, jQ, jR, jS, jT, hP]) ?_; refine zA6 hctr (rs := res35) true 300 _ _ _ ?_; simp (maxSteps := 1000000) only [VG, qE, qF, qG, qH, qI, qJ, qK, qO, qP, qT, q0t, qu, qv, ev, qw, qy, qz, zA, zB, zC, zD, zE, zG, zI, zJ, TE.sv, zM, ↓reduceIte, reduceCtorEq, Nat.reduceEqDiff, Nat.reduceAdd, Nat.reduceLT, zP, zQ, zR, zS, zV, zW, zb, zc, zt, jN, jO, hP, hk, res35, kp35, mC1, mC0, zB5, zA7, It.zero, anS])
    rw [show zA8 X now ⟨op,mode,key,val,flags,exp,hasExp,cas,true,delta,init,down,viv,vive,recache,false⟩ most i true=(X,zA7 4) by simp [zA8,zB3,hif,h4,hoc]] at hC
    exact zC4 hC hres35 hn hρ h.low (vS:=.rw 1 X.items.length) rfl (.inr ⟨1,rfl,by decide,.inr ⟨i,x,hx,rfl⟩⟩) rfl
   | true =>
    by_cases hlt:cas < x.cas
    ·have hlt':decide (cas < x.cas)=true:=decide_eq_true hlt
     (refine zA1 hctr (by rw [hP]; rfl) rs35_9 [] (ensure_type_of% (Cmp.of (by simp (maxSteps := 1000000) only [qK, qO, qP, qQ, qR, qS, qV, qp, ev, qw, qy, qz, zD, zG, zM, ↓reduceIte, reduceCtorEq, Nat.reduceEqDiff, Nat.reduceAdd, zT, zh, zt, cD, cO, jC, jD, jE, jI, jN, hP, mC1, mC0, zB7, Int.natCast_nonneg, hil', hlt']; rfl)) "" Cmp.mk) (by kernel_rfl) (by kernel_rfl) (by first | exact zA2 _ | kernel_rfl) (by kernel_rfl) (by rfl) (by rfl) (by first | exact zA0 _ | rfl) (by rfl) (by simp (maxSteps := 1000000) only [qK, qO, qP, qQ, qR, qS, qV, qp, ev, qw, qy, qz, zD, zG, zM, ↓reduceIte, reduceCtorEq, Nat.reduceEqDiff, Nat.reduceAdd, Nat.reduceLT, zP, zR, zT, zh, zn, zo, zt, jD, jE, jI, jN, jP, jQ, jR, jS, jT, jV, jW, jX, jY, hP, mC1, mC0, zB7, Int.natCast_nonneg, hil', hlt']) ?_; refine zA6 hctr (rs := res35) true 300 _ _ _ ?_; simp (maxSteps := 1000000) only [VG, qH, qI, qK, qO, qT, ev, qy, zG, zI, zJ, ↓reduceIte, reduceCtorEq, Nat.reduceEqDiff, Nat.reduceAdd, Nat.reduceLT, zP, zQ, zR, zV, zW, zb, zc, zt, jN, jO, hk, res35, kp35])
     have hsub:IntKind.i64.wrap ((x.key.length:Int)+((val++x.val).length:Int))=(x.key.length:Int)+((val++x.val).length:Int):=IntWalk.i64_in _ (by rw [List.length_append]; omega)
     (refine zA1 hctr (by rw [hP]; rfl) rs35_12 [] (ensure_type_of% (Cmp.of (by simp (maxSteps := 1000000) only [qK, qO, qP, qV, qf, qg, q0t, qu, qv, ev, qw, qy, zC, zD, zE, zF, zG, zM, ↓reduceIte, reduceCtorEq, Nat.reduceEqDiff, Nat.reduceAdd, zP, zT, zt, cD, cO, jC, jD, jF, jG, jH, jI, jJ, jN, hP, mC1, mC0, zA3, hn0, hn1]; rfl)) "" Cmp.mk) (by kernel_rfl) (by kernel_rfl) (by first | exact zA2 _ | kernel_rfl) (by kernel_rfl) (by rfl) (by rfl) (by first | exact zA0 _ | rfl) (by rfl) (by simp (maxSteps := 1000000) only [qK, qO, qP, qV, qf, qg, q0t, qu, qv, ev, qw, qy, zC, zD, zE, zG, zM, ↓reduceIte, reduceCtorEq, Nat.reduceEqDiff, Nat.reduceAdd, Nat.reduceLT, zP, zR, zT, zm, zn, zo, zq, zt, jD, jF, jG, jH, jI, jN, jP, jQ, jR, jS, jT, jV, jW, jX, jY, hP, mC1, mC0, zA3, hn0, hn1]) ?_; refine zA6 hctr (rs := res35) true 300 _ _ _ ?_; simp (maxSteps := 1000000) only [VG, qH, qI, qJ, qK, qO, qP, qQ, qR, qS, qV, q0t, qu, qv, ev, qw, qy, qz, zA, zB, zC, zD, zE, zG, zI, zJ, zM, ↓reduceIte, reduceCtorEq, Nat.reduceEqDiff, Nat.reduceAdd, Nat.reduceLT, zP, zQ, zR, zS, zT, zV, zW, zb, zc, zh, zt, jN, jO, hP, hk, res35, kp35, mC1, mC0, zB7, Int.natCast_nonneg, hil', hm3, hm4])
     refine ⟨by omega,?_⟩
     (refine zA1 hctr (by rw [hP]; rfl) rs35_21 [] (ensure_type_of% (Cmp.of (by simp (maxSteps := 1000000) only [qK, qN, qO, qP, qQ, qR, qS, qV, qe, ev, qy, zD, zM, ↓reduceIte, reduceCtorEq, Nat.reduceEqDiff, zt, zu, cD, cO, jC, jD, jN, hP, hsub]; rfl)) "" Cmp.mk) (by kernel_rfl) (by kernel_rfl) (by first | exact zA2 _ | kernel_rfl) (by kernel_rfl) (by rfl) (by rfl) (by first | exact zA0 _ | rfl) (by rfl) (by simp (maxSteps := 1000000) only [qK, qN, qO, qP, qQ, qR, qS, qV, qe, ev, qy, zD, zM, ↓reduceIte, reduceCtorEq, Nat.reduceEqDiff, zT, zn, zt, zu, jD, jN, jP, jQ, jR, jS, jT, hP, hsub]) ?_; refine zA6 hctr (rs := res35) true 300 _ _ _ ?_; simp (maxSteps := 1000000) only [VG, ev, qy, zG, zI, zJ, ↓reduceIte, reduceCtorEq, Nat.reduceEqDiff, Nat.reduceAdd, zP, zQ, zf, zg, zt, jN, jO, hk, res35, kp35])
     refine ⟨fun hfit=>?_,fun hfit=>?_⟩
     ·have hfit':decide (most < (x.key.length:Int)+((val++x.val).length:Int))=true:=decide_eq_true hfit
      simp (maxSteps:=1000000) only [VG,qE,qF,qG,qH,qI,qJ,qP,q0t,qu,qv,ev,qw,qy,qz,zA,zB,zC,zD,zE,zG,zI,zJ,TE.sv,zM,↓reduceIte,reduceCtorEq,Nat.reduceEqDiff,Nat.reduceAdd,Nat.reduceLT,zP,zQ,zR,zt,hP,hk,kp35,mC1,mC0,zB5,zA7,It.zero,anS,hfit']
      rw [show zA8 X now ⟨op,mode,key,val,flags,exp,hasExp,cas,true,delta,init,down,viv,vive,recache,true⟩ most i true=(X,zA7 11) by simp [zA8,zB3,zD9,zK1,hif,h4,hoc,hlt]; rw [List.length_append] at hfit; omega] at hC
      exact zC4 hC hres35 hn hρ h.low (vS:=.rw 1 X.items.length) rfl (.inr ⟨1,rfl,by decide,.inr ⟨i,x,hx,rfl⟩⟩) rfl
     ·have hfit':decide (most < (x.key.length:Int)+((val++x.val).length:Int))=false:=decide_eq_false hfit
      simp (maxSteps:=1000000) only [VG,qH,qI,qK,qO,qP,ev,qw,qy,zA,zB,zD,zM,↓reduceIte,reduceCtorEq,Nat.reduceEqDiff,Nat.reduceLT,zR,zW,hP,mC1,mC0,hfit']
      obtain ⟨Y,hY⟩:∃ Y,Y=zJ4 X i true ⟨x.key,x.flags,val++x.val,x.exp,x.cas,x.last,true,false⟩:=⟨_,rfl⟩
      have hYi:Y.1.items[i]?=some Y.2:=by rw [hY]; exact zC5 X i _ _ hi his
      rw [show zA8 X now ⟨op,mode,key,val,flags,exp,hasExp,cas,true,delta,init,down,viv,vive,recache,true⟩ most i true=(Y.1,⟨2,Y.2,0,false,false,false⟩) by rw [hY]; simp [zA8,zB3,zD9,zK1,hif,h4,hoc,hlt]; rw [List.length_append] at hfit; omega] at hC
      refine zE1 ⟨x.key,x.flags,val++x.val,x.exp,x.cas,x.last,true,false⟩ hY hG (X:=X) (now:=now) (c:=⟨op,mode,key,val,flags,exp,hasExp,cas,true,delta,init,down,viv,vive,recache,true⟩) (most:=most) (i:=i) (is:=true) rfl (.inr ⟨i,x,hx,rfl⟩) hi his hl rfl (by simp) ?_
      (refine zA6 hctr (rs:=res35) true 300 _ _ _ ?_; simp (maxSteps:=1000000) only [VG,qE,qF,qG,qH,qI,qJ,qK,qP,qQ,qf,qg,q0t,qu,qv,ev,qy,qz,zA,zB,zC,zD,zE,zF,zG,zI,zJ,TE.sv,zM,↓reduceIte,reduceCtorEq,Nat.reduceEqDiff,Nat.reduceAdd,Nat.reduceLT,zP,zQ,zR,zk,zl,zt,zA4,jN,hP,hk,res35,kp35,woE,woS,zF1,itS,zA4])
      exact zC4 hC hres35 hn hρ h.low (vS:=.rw 5 Y.1.items.length) rfl (.inr ⟨5,rfl,by decide,.inr ⟨i,Y.2,hYi,rfl⟩⟩) rfl
    ·have hlt':decide (cas < x.cas)=false:=decide_eq_false hlt
     (refine zA1 hctr (by rw [hP]; rfl) rs35_9 [] (ensure_type_of% (Cmp.of (by simp (maxSteps := 1000000) only [qK, qO, qP, qQ, qR, qS, qV, qp, ev, qw, qy, qz, zD, zG, zM, ↓reduceIte, reduceCtorEq, Nat.reduceEqDiff, Nat.reduceAdd, zT, zh, zt, cD, cO, jC, jD, jE, jI, jN, hP, mC1, mC0, zB7, Int.natCast_nonneg, hil', hlt']; rfl)) "" Cmp.mk) (by kernel_rfl) (by kernel_rfl) (by first | exact zA2 _ | kernel_rfl) (by kernel_rfl) (by rfl) (by rfl) (by first | exact zA0 _ | rfl) (by rfl) (by simp (maxSteps := 1000000) only [qK, qO, qP, qQ, qR, qS, qV, qp, ev, qw, qy, qz, zD, zG, zM, ↓reduceIte, reduceCtorEq, Nat.reduceEqDiff, Nat.reduceAdd, Nat.reduceLT, zP, zR, zT, zh, zn, zo, zt, jD, jE, jI, jN, jP, jQ, jR, jS, jT, jV, jW, jX, jY, hP, mC1, mC0, zB7, Int.natCast_nonneg, hil', hlt']) ?_; refine zA6 hctr (rs := res35) true 300 _ _ _ ?_; simp (maxSteps := 1000000) only [VG, qE, qF, qG, qH, qI, qJ, qK, qO, qP, qT, q0t, qu, qv, ev, qw, qy, qz, zA, zB, zC, zD, zE, zG, zI, zJ, TE.sv, zM, ↓reduceIte, reduceCtorEq, Nat.reduceEqDiff, Nat.reduceAdd, Nat.reduceLT, zP, zQ, zR, zS, zV, zW, zb, zc, zt, jN, jO, hP, hk, res35, kp35, mC1, mC0, zB5, zA7, It.zero, anS])
     rw [show zA8 X now ⟨op,mode,key,val,flags,exp,hasExp,cas,true,delta,init,down,viv,vive,recache,true⟩ most i true=(X,zA7 4) by simp [zA8,zB3,hif,h4,hoc,hlt]] at hC
     exact zC4 hC hres35 hn hρ h.low (vS:=.rw 1 X.items.length) rfl (.inr ⟨1,rfl,by decide,.inr ⟨i,x,hx,rfl⟩⟩) rfl
theorem store_wint (base g:Nat) (v:Value) (X:St) (now:Int) (op mode:Int) (key val:List UInt8) (flags exp:Int) (hasExp:Bool) (cas:Int) (hasCas:Bool) (delta init:Int) (down viv:Bool) (vive recache:Int) (inval:Bool) (most:Int) (i:Nat) (w:World) (h:WS base w g v X now ⟨op,mode,key,val,flags,exp,hasExp,cas,hasCas,delta,init,down,viv,vive,recache,inval⟩ most i true) (hbase:base≤w.heap.size) (hi:i≤X.items.length) (his:true=true→i < X.items.length) (hl:X.items.length≤100000000)
 (hn0:1≤now) (hn1:now≤1099511627776) (hck:key.length≤100000000) (hcv:val.length≤100000000)
 (x:It) (hx:X.items[i]?=some x) (hxk:x.key.length≤100000000) (hxv:x.val.length≤100000000) (hkind:¬ mode=1∧¬ mode=3∧¬ mode=4∧decide (1 < mode)=true):Calls Tryz.prog 35 #[.pointer (some ⟨g,0,none⟩)] w (OpR base g v (zA8 X now ⟨op,mode,key,val,flags,exp,hasExp,cas,hasCas,delta,init,down,viv,vive,recache,inval⟩ most i true).1 now ⟨op,mode,key,val,flags,exp,hasExp,cas,hasCas,delta,init,down,viv,vive,recache,inval⟩ most i true (zA8 X now ⟨op,mode,key,val,flags,exp,hasExp,cas,hasCas,delta,init,down,viv,vive,recache,inval⟩ most i true).2 w):=by
 refine zN1 Tryz.func35 rfl kp35 Tryz.ntmps35 (by decide) h hbase his ?_
 intro vS tl hsh ρ hρ n hn hn' C hC hG hP hk
 have hctr:=zL7 hP
 rcases hsh with ⟨rfl,⟨h1,_⟩ | ⟨_,x',hx',rfl⟩⟩
 ·cases h1
 obtain rfl:x=x':=by rw [hx] at hx'; exact Option.some.inj hx'
 clear hx'
 have hif:itF X.items i=x:=by simp [itF,hx]
 have hil':(i:Int) < (X.items.length:Int):=by have:=his rfl; omega
 obtain ⟨h1,h3,h4,hm2⟩:=hkind
 have hm1:(mode == 1)=false:=by simpa using h1
 have hm3:(mode == 3)=false:=by simp; omega
 have hm4:(mode == 4)=false:=by simp; omega
 cases hasCas with
 | false =>
  (refine zA6 hctr (rs:=res35) true 300 _ _ _ ?_; simp (maxSteps:=1000000) only [VG,jZ,ja,jd,je,qH,qI,qJ,qK,qO,qP,qQ,qR,qS,qT,qV,qp,q0t,qu,qv,ev,qw,qy,qz,zA,zB,zC,zD,zE,zF,zG,zI,zJ,zK,zM,↓reduceIte,reduceCtorEq,Nat.reduceEqDiff,Nat.reduceAdd,Nat.reduceLT,zP,zQ,zR,zS,zT,zV,zW,zb,zc,zh,zt,zw,zy,zz,hP,hk,res35,kp35,mC1,zC2,woE,woS,zF1,itS,Int.natCast_nonneg,hil',hm1,hm2])
  have hsub:IntKind.i64.wrap ((key.length:Int)+(val.length:Int))=(key.length:Int)+(val.length:Int):=IntWalk.i64_in _ (by omega)
  (refine zA1 hctr (by rw [hP]; rfl) rs35_12 [] (ensure_type_of% (Cmp.of (by simp (maxSteps := 1000000) only [qK, qO, qP, qV, qf, qg, q0t, qu, qv, ev, qw, qy, zC, zD, zE, zF, zG, zM, ↓reduceIte, reduceCtorEq, Nat.reduceEqDiff, Nat.reduceAdd, zP, zT, zt, cD, cO, jC, jD, jF, jG, jH, jI, jJ, jN, hP, mC1, mC0, zA3, hn0, hn1]; rfl)) "" Cmp.mk) (by kernel_rfl) (by kernel_rfl) (by first | exact zA2 _ | kernel_rfl) (by kernel_rfl) (by rfl) (by rfl) (by first | exact zA0 _ | rfl) (by rfl) (by simp (maxSteps := 1000000) only [qK, qO, qP, qV, qf, qg, q0t, qu, qv, ev, qw, qy, zC, zD, zE, zG, zM, ↓reduceIte, reduceCtorEq, Nat.reduceEqDiff, Nat.reduceAdd, Nat.reduceLT, zP, zR, zT, zm, zn, zo, zq, zt, jD, jF, jG, jH, jI, jN, jP, jQ, jR, jS, jT, jV, jW, jX, jY, hP, mC1, mC0, zA3, hn0, hn1]) ?_; refine zA6 hctr (rs := res35) true 300 _ _ _ ?_; simp (maxSteps := 1000000) only [VG, qH, qI, qJ, qK, qO, qP, qR, qS, qV, q0t, qv, ev, qy, qz, zC, zD, zE, zG, zI, zJ, zM, ↓reduceIte, reduceCtorEq, Nat.reduceEqDiff, Nat.reduceAdd, Nat.reduceLT, zP, zQ, zR, zW, zb, zc, zt, jN, jO, hP, hk, res35, kp35, hm3, hm4])
  (refine zA1 hctr (by rw [hP]; rfl) rs35_21 [] (ensure_type_of% (Cmp.of (by simp (maxSteps := 1000000) only [qK, qN, qO, qP, qQ, qR, qS, qV, qe, ev, qy, zD, zM, ↓reduceIte, reduceCtorEq, Nat.reduceEqDiff, zt, zu, cD, cO, jC, jD, jN, hP, hsub]; rfl)) "" Cmp.mk) (by kernel_rfl) (by kernel_rfl) (by first | exact zA2 _ | kernel_rfl) (by kernel_rfl) (by rfl) (by rfl) (by first | exact zA0 _ | rfl) (by rfl) (by simp (maxSteps := 1000000) only [qK, qN, qO, qP, qQ, qR, qS, qV, qe, ev, qy, zD, zM, ↓reduceIte, reduceCtorEq, Nat.reduceEqDiff, zT, zn, zt, zu, jD, jN, jP, jQ, jR, jS, jT, hP, hsub]) ?_; refine zA6 hctr (rs := res35) true 300 _ _ _ ?_; simp (maxSteps := 1000000) only [VG, ev, qy, zG, zI, zJ, ↓reduceIte, reduceCtorEq, Nat.reduceEqDiff, Nat.reduceAdd, zP, zQ, zf, zg, zt, jN, jO, hk, res35, kp35])
  refine ⟨fun hfit=>?_,fun hfit=>?_⟩
  ·have hfit':decide (most < (key.length:Int)+(val.length:Int))=true:=decide_eq_true hfit
   simp (maxSteps:=1000000) only [VG,qE,qF,qG,qH,qI,qJ,qP,q0t,qu,qv,ev,qw,qy,qz,zA,zB,zC,zD,zE,zG,zI,zJ,TE.sv,zM,↓reduceIte,reduceCtorEq,Nat.reduceEqDiff,Nat.reduceAdd,Nat.reduceLT,zP,zQ,zR,zt,hP,hk,kp35,mC1,mC0,zB5,zA7,It.zero,anS,hfit']
   rw [show zA8 X now ⟨op,mode,key,val,flags,exp,hasExp,cas,false,delta,init,down,viv,vive,recache,inval⟩ most i true=(X,zA7 11) by simp [zA8,zB3,zD9,zK1,hif,h1,h3,h4]; omega] at hC
   exact zC4 hC hres35 hn hρ h.low (vS:=.rw 1 X.items.length) rfl (.inr ⟨1,rfl,by decide,.inr ⟨i,x,hx,rfl⟩⟩) rfl
  ·have hfit':decide (most < (key.length:Int)+(val.length:Int))=false:=decide_eq_false hfit
   simp (maxSteps:=1000000) only [VG,qH,qI,qK,qO,qP,ev,qw,qy,zA,zB,zD,zM,↓reduceIte,reduceCtorEq,Nat.reduceEqDiff,Nat.reduceLT,zR,zW,hP,mC1,mC0,hfit']
   obtain ⟨Y,hY⟩:∃ Y,Y=zJ4 X i true ⟨key,flags,val,zF3 now exp,0,0,false,false⟩:=⟨_,rfl⟩
   have hYi:Y.1.items[i]?=some Y.2:=by rw [hY]; exact zC5 X i _ _ hi his
   rw [show zA8 X now ⟨op,mode,key,val,flags,exp,hasExp,cas,false,delta,init,down,viv,vive,recache,inval⟩ most i true=(Y.1,⟨2,Y.2,0,false,false,false⟩) by rw [hY]; simp [zA8,zB3,zD9,zK1,hif,h1,h3,h4]; omega] at hC
   refine zE1 ⟨key,flags,val,zF3 now exp,0,0,false,false⟩ hY hG (X:=X) (now:=now) (c:=⟨op,mode,key,val,flags,exp,hasExp,cas,false,delta,init,down,viv,vive,recache,inval⟩) (most:=most) (i:=i) (is:=true) rfl (.inr ⟨i,x,hx,rfl⟩) hi his hl rfl (by simp) ?_
   (refine zA6 hctr (rs:=res35) true 300 _ _ _ ?_; simp (maxSteps:=1000000) only [VG,qE,qF,qG,qH,qI,qJ,qK,qP,qQ,qf,qg,q0t,qu,qv,ev,qy,qz,zA,zB,zC,zD,zE,zF,zG,zI,zJ,TE.sv,zM,↓reduceIte,reduceCtorEq,Nat.reduceEqDiff,Nat.reduceAdd,Nat.reduceLT,zP,zQ,zR,zk,zl,zt,zA4,jN,hP,hk,res35,kp35,woE,woS,zF1,itS,zA4])
   exact zC4 hC hres35 hn hρ h.low (vS:=.rw 5 Y.1.items.length) rfl (.inr ⟨5,rfl,by decide,.inr ⟨i,Y.2,hYi,rfl⟩⟩) rfl
 | true =>
  by_cases hoc:x.cas=cas
  ·have hoc':decide (x.cas=cas)=true:=decide_eq_true hoc
   (refine zA6 hctr (rs:=res35) true 300 _ _ _ ?_; simp (maxSteps:=1000000) only [VG,jZ,ja,jd,je,qH,qI,qJ,qK,qO,qP,qQ,qR,qS,qT,qV,qp,q0t,qu,qv,ev,qw,qy,qz,zA,zB,zC,zD,zE,zF,zG,zI,zJ,zK,zM,↓reduceIte,reduceCtorEq,Nat.reduceEqDiff,Nat.reduceAdd,Nat.reduceLT,zP,zQ,zR,zS,zT,zV,zW,zb,zc,zh,zt,zx,zy,zz,hP,hk,res35,kp35,mC1,zC2,woE,woS,zF1,itS,Int.natCast_nonneg,hil',hm1,hm2,hoc'])
   have hsub:IntKind.i64.wrap ((key.length:Int)+(val.length:Int))=(key.length:Int)+(val.length:Int):=IntWalk.i64_in _ (by omega)
   (refine zA1 hctr (by rw [hP]; rfl) rs35_12 [] (ensure_type_of% (Cmp.of (by simp (maxSteps := 1000000) only [qK, qO, qP, qV, qf, qg, q0t, qu, qv, ev, qw, qy, zC, zD, zE, zF, zG, zM, ↓reduceIte, reduceCtorEq, Nat.reduceEqDiff, Nat.reduceAdd, zP, zT, zt, cD, cO, jC, jD, jF, jG, jH, jI, jJ, jN, hP, mC1, mC0, zA3, hn0, hn1]; rfl)) "" Cmp.mk) (by kernel_rfl) (by kernel_rfl) (by first | exact zA2 _ | kernel_rfl) (by kernel_rfl) (by rfl) (by rfl) (by first | exact zA0 _ | rfl) (by rfl) (by simp (maxSteps := 1000000) only [qK, qO, qP, qV, qf, qg, q0t, qu, qv, ev, qw, qy, zC, zD, zE, zG, zM, ↓reduceIte, reduceCtorEq, Nat.reduceEqDiff, Nat.reduceAdd, Nat.reduceLT, zP, zR, zT, zm, zn, zo, zq, zt, jD, jF, jG, jH, jI, jN, jP, jQ, jR, jS, jT, jV, jW, jX, jY, hP, mC1, mC0, zA3, hn0, hn1]) ?_; refine zA6 hctr (rs := res35) true 300 _ _ _ ?_; simp (maxSteps := 1000000) only [VG, qH, qI, qJ, qK, qO, qP, qR, qS, qV, q0t, qv, ev, qy, qz, zC, zD, zE, zG, zI, zJ, zM, ↓reduceIte, reduceCtorEq, Nat.reduceEqDiff, Nat.reduceAdd, Nat.reduceLT, zP, zQ, zR, zW, zb, zc, zt, jN, jO, hP, hk, res35, kp35, hm3, hm4])
   (refine zA1 hctr (by rw [hP]; rfl) rs35_21 [] (ensure_type_of% (Cmp.of (by simp (maxSteps := 1000000) only [qK, qN, qO, qP, qQ, qR, qS, qV, qe, ev, qy, zD, zM, ↓reduceIte, reduceCtorEq, Nat.reduceEqDiff, zt, zu, cD, cO, jC, jD, jN, hP, hsub]; rfl)) "" Cmp.mk) (by kernel_rfl) (by kernel_rfl) (by first | exact zA2 _ | kernel_rfl) (by kernel_rfl) (by rfl) (by rfl) (by first | exact zA0 _ | rfl) (by rfl) (by simp (maxSteps := 1000000) only [qK, qN, qO, qP, qQ, qR, qS, qV, qe, ev, qy, zD, zM, ↓reduceIte, reduceCtorEq, Nat.reduceEqDiff, zT, zn, zt, zu, jD, jN, jP, jQ, jR, jS, jT, hP, hsub]) ?_; refine zA6 hctr (rs := res35) true 300 _ _ _ ?_; simp (maxSteps := 1000000) only [VG, ev, qy, zG, zI, zJ, ↓reduceIte, reduceCtorEq, Nat.reduceEqDiff, Nat.reduceAdd, zP, zQ, zf, zg, zt, jN, jO, hk, res35, kp35])
   refine ⟨fun hfit=>?_,fun hfit=>?_⟩
   ·have hfit':decide (most < (key.length:Int)+(val.length:Int))=true:=decide_eq_true hfit
    simp (maxSteps:=1000000) only [VG,qE,qF,qG,qH,qI,qJ,qP,q0t,qu,qv,ev,qw,qy,qz,zA,zB,zC,zD,zE,zG,zI,zJ,TE.sv,zM,↓reduceIte,reduceCtorEq,Nat.reduceEqDiff,Nat.reduceAdd,Nat.reduceLT,zP,zQ,zR,zt,hP,hk,kp35,mC1,mC0,zB5,zA7,It.zero,anS,hfit']
    rw [show zA8 X now ⟨op,mode,key,val,flags,exp,hasExp,cas,true,delta,init,down,viv,vive,recache,inval⟩ most i true=(X,zA7 11) by simp [zA8,zB3,zD9,zK1,hif,h1,h3,h4,hoc]; omega] at hC
    exact zC4 hC hres35 hn hρ h.low (vS:=.rw 1 X.items.length) rfl (.inr ⟨1,rfl,by decide,.inr ⟨i,x,hx,rfl⟩⟩) rfl
   ·have hfit':decide (most < (key.length:Int)+(val.length:Int))=false:=decide_eq_false hfit
    simp (maxSteps:=1000000) only [VG,qH,qI,qK,qO,qP,ev,qw,qy,zA,zB,zD,zM,↓reduceIte,reduceCtorEq,Nat.reduceEqDiff,Nat.reduceLT,zR,zW,hP,mC1,mC0,hfit']
    obtain ⟨Y,hY⟩:∃ Y,Y=zJ4 X i true ⟨key,flags,val,zF3 now exp,0,0,false,false⟩:=⟨_,rfl⟩
    have hYi:Y.1.items[i]?=some Y.2:=by rw [hY]; exact zC5 X i _ _ hi his
    rw [show zA8 X now ⟨op,mode,key,val,flags,exp,hasExp,cas,true,delta,init,down,viv,vive,recache,inval⟩ most i true=(Y.1,⟨2,Y.2,0,false,false,false⟩) by rw [hY]; simp [zA8,zB3,zD9,zK1,hif,h1,h3,h4,hoc]; omega] at hC
    refine zE1 ⟨key,flags,val,zF3 now exp,0,0,false,false⟩ hY hG (X:=X) (now:=now) (c:=⟨op,mode,key,val,flags,exp,hasExp,cas,true,delta,init,down,viv,vive,recache,inval⟩) (most:=most) (i:=i) (is:=true) rfl (.inr ⟨i,x,hx,rfl⟩) hi his hl rfl (by simp) ?_
    (refine zA6 hctr (rs:=res35) true 300 _ _ _ ?_; simp (maxSteps:=1000000) only [VG,qE,qF,qG,qH,qI,qJ,qK,qP,qQ,qf,qg,q0t,qu,qv,ev,qy,qz,zA,zB,zC,zD,zE,zF,zG,zI,zJ,TE.sv,zM,↓reduceIte,reduceCtorEq,Nat.reduceEqDiff,Nat.reduceAdd,Nat.reduceLT,zP,zQ,zR,zk,zl,zt,zA4,jN,hP,hk,res35,kp35,woE,woS,zF1,itS,zA4])
    exact zC4 hC hres35 hn hρ h.low (vS:=.rw 5 Y.1.items.length) rfl (.inr ⟨5,rfl,by decide,.inr ⟨i,Y.2,hYi,rfl⟩⟩) rfl
  ·have hoc':decide (x.cas=cas)=false:=decide_eq_false hoc
   (refine zA6 hctr (rs:=res35) true 300 _ _ _ ?_; simp (maxSteps:=1000000) only [VG,jZ,ja,jd,je,qH,qI,qJ,qK,qO,qP,qQ,qR,qS,qT,qV,qp,q0t,qu,qv,ev,qw,qy,qz,zA,zB,zC,zD,zE,zF,zG,zI,zJ,zK,zM,↓reduceIte,reduceCtorEq,Nat.reduceEqDiff,Nat.reduceAdd,Nat.reduceLT,zP,zQ,zR,zS,zT,zV,zW,zb,zc,zh,zt,zx,zy,zz,hP,hk,res35,kp35,mC1,zC2,woE,woS,zF1,itS,Int.natCast_nonneg,hil',hm1,hm2,hoc'])
   cases inval with
   | false =>
    (refine zA1 hctr (by rw [hP]; rfl) rs35_9 [] (ensure_type_of% (Cmp.of (by simp (maxSteps := 1000000) only [qK, qO, qP, qV, qp, ev, qy, qz, zD, zM, ↓reduceIte, Nat.reduceEqDiff, zt, cD, cO, jC, jD, jE, jN, hP]; rfl)) "" Cmp.mk) (by kernel_rfl) (by kernel_rfl) (by first | exact zA2 _ | kernel_rfl) (by kernel_rfl) (by rfl) (by rfl) (by first | exact zA0 _ | rfl) (by rfl) (by simp (maxSteps := 1000000) only [qK, qO, qP, qV, qp, ev, qy, qz, zD, zM, ↓reduceIte, Nat.reduceEqDiff, zT, zn, zt, jD, jE, jN, jP, jQ, jR, jS, jT, hP]) ?_; refine zA6 hctr (rs := res35) true 300 _ _ _ ?_; simp (maxSteps := 1000000) only [VG, qE, qF, qG, qH, qI, qJ, qK, qO, qP, qT, q0t, qu, qv, ev, qw, qy, qz, zA, zB, zC, zD, zE, zG, zI, zJ, TE.sv, zM, ↓reduceIte, reduceCtorEq, Nat.reduceEqDiff, Nat.reduceAdd, Nat.reduceLT, zP, zQ, zR, zS, zV, zW, zb, zc, zt, jN, jO, hP, hk, res35, kp35, mC1, mC0, zB5, zA7, It.zero, anS])
    rw [show zA8 X now ⟨op,mode,key,val,flags,exp,hasExp,cas,true,delta,init,down,viv,vive,recache,false⟩ most i true=(X,zA7 4) by simp [zA8,zB3,hif,h1,hoc]] at hC
    exact zC4 hC hres35 hn hρ h.low (vS:=.rw 1 X.items.length) rfl (.inr ⟨1,rfl,by decide,.inr ⟨i,x,hx,rfl⟩⟩) rfl
   | true =>
    by_cases hlt:cas < x.cas
    ·have hlt':decide (cas < x.cas)=true:=decide_eq_true hlt
     (refine zA1 hctr (by rw [hP]; rfl) rs35_9 [] (ensure_type_of% (Cmp.of (by simp (maxSteps := 1000000) only [qK, qO, qP, qQ, qR, qS, qV, qp, ev, qw, qy, qz, zD, zG, zM, ↓reduceIte, reduceCtorEq, Nat.reduceEqDiff, Nat.reduceAdd, zT, zh, zt, cD, cO, jC, jD, jE, jI, jN, hP, mC1, mC0, zB7, Int.natCast_nonneg, hil', hlt']; rfl)) "" Cmp.mk) (by kernel_rfl) (by kernel_rfl) (by first | exact zA2 _ | kernel_rfl) (by kernel_rfl) (by rfl) (by rfl) (by first | exact zA0 _ | rfl) (by rfl) (by simp (maxSteps := 1000000) only [qK, qO, qP, qQ, qR, qS, qV, qp, ev, qw, qy, qz, zD, zG, zM, ↓reduceIte, reduceCtorEq, Nat.reduceEqDiff, Nat.reduceAdd, Nat.reduceLT, zP, zR, zT, zh, zn, zo, zt, jD, jE, jI, jN, jP, jQ, jR, jS, jT, jV, jW, jX, jY, hP, mC1, mC0, zB7, Int.natCast_nonneg, hil', hlt']) ?_; refine zA6 hctr (rs := res35) true 300 _ _ _ ?_; simp (maxSteps := 1000000) only [VG, qH, qI, qK, qO, qT, ev, qy, zG, zI, zJ, ↓reduceIte, reduceCtorEq, Nat.reduceEqDiff, Nat.reduceAdd, Nat.reduceLT, zP, zQ, zR, zV, zW, zb, zc, zt, jN, jO, hk, res35, kp35])
     have hsub:IntKind.i64.wrap ((key.length:Int)+(val.length:Int))=(key.length:Int)+(val.length:Int):=IntWalk.i64_in _ (by omega)
     (refine zA1 hctr (by rw [hP]; rfl) rs35_12 [] (ensure_type_of% (Cmp.of (by simp (maxSteps := 1000000) only [qK, qO, qP, qV, qf, qg, q0t, qu, qv, ev, qw, qy, zC, zD, zE, zF, zG, zM, ↓reduceIte, reduceCtorEq, Nat.reduceEqDiff, Nat.reduceAdd, zP, zT, zt, cD, cO, jC, jD, jF, jG, jH, jI, jJ, jN, hP, mC1, mC0, zA3, hn0, hn1]; rfl)) "" Cmp.mk) (by kernel_rfl) (by kernel_rfl) (by first | exact zA2 _ | kernel_rfl) (by kernel_rfl) (by rfl) (by rfl) (by first | exact zA0 _ | rfl) (by rfl) (by simp (maxSteps := 1000000) only [qK, qO, qP, qV, qf, qg, q0t, qu, qv, ev, qw, qy, zC, zD, zE, zG, zM, ↓reduceIte, reduceCtorEq, Nat.reduceEqDiff, Nat.reduceAdd, Nat.reduceLT, zP, zR, zT, zm, zn, zo, zq, zt, jD, jF, jG, jH, jI, jN, jP, jQ, jR, jS, jT, jV, jW, jX, jY, hP, mC1, mC0, zA3, hn0, hn1]) ?_; refine zA6 hctr (rs := res35) true 300 _ _ _ ?_; simp (maxSteps := 1000000) only [VG, qH, qI, qJ, qK, qO, qP, qR, qS, qV, q0t, qv, ev, qy, qz, zC, zD, zE, zG, zI, zJ, zM, ↓reduceIte, reduceCtorEq, Nat.reduceEqDiff, Nat.reduceAdd, Nat.reduceLT, zP, zQ, zR, zW, zb, zc, zt, jN, jO, hP, hk, res35, kp35, hm3, hm4])
     (refine zA1 hctr (by rw [hP]; rfl) rs35_21 [] (ensure_type_of% (Cmp.of (by simp (maxSteps := 1000000) only [qK, qN, qO, qP, qQ, qR, qS, qV, qe, ev, qy, zD, zM, ↓reduceIte, reduceCtorEq, Nat.reduceEqDiff, zt, zu, cD, cO, jC, jD, jN, hP, hsub]; rfl)) "" Cmp.mk) (by kernel_rfl) (by kernel_rfl) (by first | exact zA2 _ | kernel_rfl) (by kernel_rfl) (by rfl) (by rfl) (by first | exact zA0 _ | rfl) (by rfl) (by simp (maxSteps := 1000000) only [qK, qN, qO, qP, qQ, qR, qS, qV, qe, ev, qy, zD, zM, ↓reduceIte, reduceCtorEq, Nat.reduceEqDiff, zT, zn, zt, zu, jD, jN, jP, jQ, jR, jS, jT, hP, hsub]) ?_; refine zA6 hctr (rs := res35) true 300 _ _ _ ?_; simp (maxSteps := 1000000) only [VG, ev, qy, zG, zI, zJ, ↓reduceIte, reduceCtorEq, Nat.reduceEqDiff, Nat.reduceAdd, zP, zQ, zf, zg, zt, jN, jO, hk, res35, kp35])
     refine ⟨fun hfit=>?_,fun hfit=>?_⟩
     ·have hfit':decide (most < (key.length:Int)+(val.length:Int))=true:=decide_eq_true hfit
      simp (maxSteps:=1000000) only [VG,qE,qF,qG,qH,qI,qJ,qP,q0t,qu,qv,ev,qw,qy,qz,zA,zB,zC,zD,zE,zG,zI,zJ,TE.sv,zM,↓reduceIte,reduceCtorEq,Nat.reduceEqDiff,Nat.reduceAdd,Nat.reduceLT,zP,zQ,zR,zt,hP,hk,kp35,mC1,mC0,zB5,zA7,It.zero,anS,hfit']
      rw [show zA8 X now ⟨op,mode,key,val,flags,exp,hasExp,cas,true,delta,init,down,viv,vive,recache,true⟩ most i true=(X,zA7 11) by simp [zA8,zB3,zD9,zK1,hif,h1,h3,h4,hoc,hlt]; omega] at hC
      exact zC4 hC hres35 hn hρ h.low (vS:=.rw 1 X.items.length) rfl (.inr ⟨1,rfl,by decide,.inr ⟨i,x,hx,rfl⟩⟩) rfl
     ·have hfit':decide (most < (key.length:Int)+(val.length:Int))=false:=decide_eq_false hfit
      simp (maxSteps:=1000000) only [VG,qH,qI,qK,qO,qP,ev,qw,qy,zA,zB,zD,zM,↓reduceIte,reduceCtorEq,Nat.reduceEqDiff,Nat.reduceLT,zR,zW,hP,mC1,mC0,hfit']
      obtain ⟨Y,hY⟩:∃ Y,Y=zJ4 X i true ⟨key,flags,val,zF3 now exp,0,0,true,false⟩:=⟨_,rfl⟩
      have hYi:Y.1.items[i]?=some Y.2:=by rw [hY]; exact zC5 X i _ _ hi his
      rw [show zA8 X now ⟨op,mode,key,val,flags,exp,hasExp,cas,true,delta,init,down,viv,vive,recache,true⟩ most i true=(Y.1,⟨2,Y.2,0,false,false,false⟩) by rw [hY]; simp [zA8,zB3,zD9,zK1,hif,h1,h3,h4,hoc,hlt]; omega] at hC
      refine zE1 ⟨key,flags,val,zF3 now exp,0,0,true,false⟩ hY hG (X:=X) (now:=now) (c:=⟨op,mode,key,val,flags,exp,hasExp,cas,true,delta,init,down,viv,vive,recache,true⟩) (most:=most) (i:=i) (is:=true) rfl (.inr ⟨i,x,hx,rfl⟩) hi his hl rfl (by simp) ?_
      (refine zA6 hctr (rs:=res35) true 300 _ _ _ ?_; simp (maxSteps:=1000000) only [VG,qE,qF,qG,qH,qI,qJ,qK,qP,qQ,qf,qg,q0t,qu,qv,ev,qy,qz,zA,zB,zC,zD,zE,zF,zG,zI,zJ,TE.sv,zM,↓reduceIte,reduceCtorEq,Nat.reduceEqDiff,Nat.reduceAdd,Nat.reduceLT,zP,zQ,zR,zk,zl,zt,zA4,jN,hP,hk,res35,kp35,woE,woS,zF1,itS,zA4])
      exact zC4 hC hres35 hn hρ h.low (vS:=.rw 5 Y.1.items.length) rfl (.inr ⟨5,rfl,by decide,.inr ⟨i,Y.2,hYi,rfl⟩⟩) rfl
    ·have hlt':decide (cas < x.cas)=false:=decide_eq_false hlt
     (refine zA1 hctr (by rw [hP]; rfl) rs35_9 [] (ensure_type_of% (Cmp.of (by simp (maxSteps := 1000000) only [qK, qO, qP, qQ, qR, qS, qV, qp, ev, qw, qy, qz, zD, zG, zM, ↓reduceIte, reduceCtorEq, Nat.reduceEqDiff, Nat.reduceAdd, zT, zh, zt, cD, cO, jC, jD, jE, jI, jN, hP, mC1, mC0, zB7, Int.natCast_nonneg, hil', hlt']; rfl)) "" Cmp.mk) (by kernel_rfl) (by kernel_rfl) (by first | exact zA2 _ | kernel_rfl) (by kernel_rfl) (by rfl) (by rfl) (by first | exact zA0 _ | rfl) (by rfl) (by simp (maxSteps := 1000000) only [qK, qO, qP, qQ, qR, qS, qV, qp, ev, qw, qy, qz, zD, zG, zM, ↓reduceIte, reduceCtorEq, Nat.reduceEqDiff, Nat.reduceAdd, Nat.reduceLT, zP, zR, zT, zh, zn, zo, zt, jD, jE, jI, jN, jP, jQ, jR, jS, jT, jV, jW, jX, jY, hP, mC1, mC0, zB7, Int.natCast_nonneg, hil', hlt']) ?_; refine zA6 hctr (rs := res35) true 300 _ _ _ ?_; simp (maxSteps := 1000000) only [VG, qE, qF, qG, qH, qI, qJ, qK, qO, qP, qT, q0t, qu, qv, ev, qw, qy, qz, zA, zB, zC, zD, zE, zG, zI, zJ, TE.sv, zM, ↓reduceIte, reduceCtorEq, Nat.reduceEqDiff, Nat.reduceAdd, Nat.reduceLT, zP, zQ, zR, zS, zV, zW, zb, zc, zt, jN, jO, hP, hk, res35, kp35, mC1, mC0, zB5, zA7, It.zero, anS])
     rw [show zA8 X now ⟨op,mode,key,val,flags,exp,hasExp,cas,true,delta,init,down,viv,vive,recache,true⟩ most i true=(X,zA7 4) by simp [zA8,zB3,hif,h1,hoc,hlt]] at hC
     exact zC4 hC hres35 hn hρ h.low (vS:=.rw 1 X.items.length) rfl (.inr ⟨1,rfl,by decide,.inr ⟨i,x,hx,rfl⟩⟩) rfl
theorem store_winf (base g:Nat) (v:Value) (X:St) (now:Int) (op mode:Int) (key val:List UInt8) (flags exp:Int) (hasExp:Bool) (cas:Int) (hasCas:Bool) (delta init:Int) (down viv:Bool) (vive recache:Int) (inval:Bool) (most:Int) (i:Nat) (w:World) (h:WS base w g v X now ⟨op,mode,key,val,flags,exp,hasExp,cas,hasCas,delta,init,down,viv,vive,recache,inval⟩ most i true) (hbase:base≤w.heap.size) (hi:i≤X.items.length) (his:true=true→i < X.items.length) (hl:X.items.length≤100000000)
 (hn0:1≤now) (hn1:now≤1099511627776) (hck:key.length≤100000000) (hcv:val.length≤100000000)
 (x:It) (hx:X.items[i]?=some x) (hxk:x.key.length≤100000000) (hxv:x.val.length≤100000000) (hkind:¬ mode=1∧¬ mode=3∧¬ mode=4∧decide (1 < mode)=false):Calls Tryz.prog 35 #[.pointer (some ⟨g,0,none⟩)] w (OpR base g v (zA8 X now ⟨op,mode,key,val,flags,exp,hasExp,cas,hasCas,delta,init,down,viv,vive,recache,inval⟩ most i true).1 now ⟨op,mode,key,val,flags,exp,hasExp,cas,hasCas,delta,init,down,viv,vive,recache,inval⟩ most i true (zA8 X now ⟨op,mode,key,val,flags,exp,hasExp,cas,hasCas,delta,init,down,viv,vive,recache,inval⟩ most i true).2 w):=by
 refine zN1 Tryz.func35 rfl kp35 Tryz.ntmps35 (by decide) h hbase his ?_
 intro vS tl hsh ρ hρ n hn hn' C hC hG hP hk
 have hctr:=zL7 hP
 rcases hsh with ⟨rfl,⟨h1,_⟩ | ⟨_,x',hx',rfl⟩⟩
 ·cases h1
 obtain rfl:x=x':=by rw [hx] at hx'; exact Option.some.inj hx'
 clear hx'
 have hif:itF X.items i=x:=by simp [itF,hx]
 have hil':(i:Int) < (X.items.length:Int):=by have:=his rfl; omega
 obtain ⟨h1,h3,h4,hm2⟩:=hkind
 have hm1:(mode == 1)=false:=by simpa using h1
 have hm3:(mode == 3)=false:=by simp; omega
 have hm4:(mode == 4)=false:=by simp; omega
 cases hasCas with
 | false =>
  (refine zA6 hctr (rs:=res35) true 300 _ _ _ ?_; simp (maxSteps:=1000000) only [VG,jZ,ja,jd,je,qH,qI,qJ,qK,qO,qP,qQ,qR,qS,qV,qp,q0t,qu,qv,ev,qw,qy,qz,zA,zB,zC,zD,zE,zF,zG,zI,zJ,zK,zM,↓reduceIte,reduceCtorEq,Nat.reduceEqDiff,Nat.reduceAdd,Nat.reduceLT,zP,zQ,zR,zS,zT,zV,zW,zb,zc,zh,zt,zw,zy,zz,hP,hk,res35,kp35,mC1,zC2,woE,woS,zF1,itS,Int.natCast_nonneg,hil',hm1,hm2])
  have hsub:IntKind.i64.wrap ((key.length:Int)+(val.length:Int))=(key.length:Int)+(val.length:Int):=IntWalk.i64_in _ (by omega)
  (refine zA1 hctr (by rw [hP]; rfl) rs35_12 [] (ensure_type_of% (Cmp.of (by simp (maxSteps := 1000000) only [qK, qO, qP, qV, qf, qg, q0t, qu, qv, ev, qw, qy, zC, zD, zE, zF, zG, zM, ↓reduceIte, reduceCtorEq, Nat.reduceEqDiff, Nat.reduceAdd, zP, zT, zt, cD, cO, jC, jD, jF, jG, jH, jI, jJ, jN, hP, mC1, mC0, zA3, hn0, hn1]; rfl)) "" Cmp.mk) (by kernel_rfl) (by kernel_rfl) (by first | exact zA2 _ | kernel_rfl) (by kernel_rfl) (by rfl) (by rfl) (by first | exact zA0 _ | rfl) (by rfl) (by simp (maxSteps := 1000000) only [qK, qO, qP, qV, qf, qg, q0t, qu, qv, ev, qw, qy, zC, zD, zE, zG, zM, ↓reduceIte, reduceCtorEq, Nat.reduceEqDiff, Nat.reduceAdd, Nat.reduceLT, zP, zR, zT, zm, zn, zo, zq, zt, jD, jF, jG, jH, jI, jN, jP, jQ, jR, jS, jT, jV, jW, jX, jY, hP, mC1, mC0, zA3, hn0, hn1]) ?_; refine zA6 hctr (rs := res35) true 300 _ _ _ ?_; simp (maxSteps := 1000000) only [VG, qH, qI, qJ, qK, qO, qP, qR, qS, qV, q0t, qv, ev, qy, qz, zC, zD, zE, zG, zI, zJ, zM, ↓reduceIte, reduceCtorEq, Nat.reduceEqDiff, Nat.reduceAdd, Nat.reduceLT, zP, zQ, zR, zW, zb, zc, zt, jN, jO, hP, hk, res35, kp35, hm3, hm4])
  (refine zA1 hctr (by rw [hP]; rfl) rs35_21 [] (ensure_type_of% (Cmp.of (by simp (maxSteps := 1000000) only [qK, qN, qO, qP, qQ, qR, qS, qV, qe, ev, qy, zD, zM, ↓reduceIte, reduceCtorEq, Nat.reduceEqDiff, zt, zu, cD, cO, jC, jD, jN, hP, hsub]; rfl)) "" Cmp.mk) (by kernel_rfl) (by kernel_rfl) (by first | exact zA2 _ | kernel_rfl) (by kernel_rfl) (by rfl) (by rfl) (by first | exact zA0 _ | rfl) (by rfl) (by simp (maxSteps := 1000000) only [qK, qN, qO, qP, qQ, qR, qS, qV, qe, ev, qy, zD, zM, ↓reduceIte, reduceCtorEq, Nat.reduceEqDiff, zT, zn, zt, zu, jD, jN, jP, jQ, jR, jS, jT, hP, hsub]) ?_; refine zA6 hctr (rs := res35) true 300 _ _ _ ?_; simp (maxSteps := 1000000) only [VG, ev, qy, zG, zI, zJ, ↓reduceIte, reduceCtorEq, Nat.reduceEqDiff, Nat.reduceAdd, zP, zQ, zf, zg, zt, jN, jO, hk, res35, kp35])
  refine ⟨fun hfit=>?_,fun hfit=>?_⟩
  ·have hfit':decide (most < (key.length:Int)+(val.length:Int))=true:=decide_eq_true hfit
   simp (maxSteps:=1000000) only [VG,qE,qF,qG,qH,qI,qJ,qP,q0t,qu,qv,ev,qw,qy,qz,zA,zB,zC,zD,zE,zG,zI,zJ,TE.sv,zM,↓reduceIte,reduceCtorEq,Nat.reduceEqDiff,Nat.reduceAdd,Nat.reduceLT,zP,zQ,zR,zt,hP,hk,kp35,mC1,mC0,zB5,zA7,It.zero,anS,hfit']
   rw [show zA8 X now ⟨op,mode,key,val,flags,exp,hasExp,cas,false,delta,init,down,viv,vive,recache,inval⟩ most i true=(X,zA7 11) by simp [zA8,zB3,zD9,zK1,hif,h1,h3,h4]; omega] at hC
   exact zC4 hC hres35 hn hρ h.low (vS:=.rw 1 X.items.length) rfl (.inr ⟨1,rfl,by decide,.inr ⟨i,x,hx,rfl⟩⟩) rfl
  ·have hfit':decide (most < (key.length:Int)+(val.length:Int))=false:=decide_eq_false hfit
   simp (maxSteps:=1000000) only [VG,qH,qI,qK,qO,qP,ev,qw,qy,zA,zB,zD,zM,↓reduceIte,reduceCtorEq,Nat.reduceEqDiff,Nat.reduceLT,zR,zW,hP,mC1,mC0,hfit']
   obtain ⟨Y,hY⟩:∃ Y,Y=zJ4 X i true ⟨key,flags,val,zF3 now exp,0,0,false,false⟩:=⟨_,rfl⟩
   have hYi:Y.1.items[i]?=some Y.2:=by rw [hY]; exact zC5 X i _ _ hi his
   rw [show zA8 X now ⟨op,mode,key,val,flags,exp,hasExp,cas,false,delta,init,down,viv,vive,recache,inval⟩ most i true=(Y.1,⟨2,Y.2,0,false,false,false⟩) by rw [hY]; simp [zA8,zB3,zD9,zK1,hif,h1,h3,h4]; omega] at hC
   refine zE1 ⟨key,flags,val,zF3 now exp,0,0,false,false⟩ hY hG (X:=X) (now:=now) (c:=⟨op,mode,key,val,flags,exp,hasExp,cas,false,delta,init,down,viv,vive,recache,inval⟩) (most:=most) (i:=i) (is:=true) rfl (.inr ⟨i,x,hx,rfl⟩) hi his hl rfl (by simp) ?_
   (refine zA6 hctr (rs:=res35) true 300 _ _ _ ?_; simp (maxSteps:=1000000) only [VG,qE,qF,qG,qH,qI,qJ,qK,qP,qQ,qf,qg,q0t,qu,qv,ev,qy,qz,zA,zB,zC,zD,zE,zF,zG,zI,zJ,TE.sv,zM,↓reduceIte,reduceCtorEq,Nat.reduceEqDiff,Nat.reduceAdd,Nat.reduceLT,zP,zQ,zR,zk,zl,zt,zA4,jN,hP,hk,res35,kp35,woE,woS,zF1,itS,zA4])
   exact zC4 hC hres35 hn hρ h.low (vS:=.rw 5 Y.1.items.length) rfl (.inr ⟨5,rfl,by decide,.inr ⟨i,Y.2,hYi,rfl⟩⟩) rfl
 | true =>
  by_cases hoc:x.cas=cas
  ·have hoc':decide (x.cas=cas)=true:=decide_eq_true hoc
   (refine zA6 hctr (rs:=res35) true 300 _ _ _ ?_; simp (maxSteps:=1000000) only [VG,jZ,ja,jd,je,qH,qI,qJ,qK,qO,qP,qQ,qR,qS,qT,qV,qp,q0t,qu,qv,ev,qw,qy,qz,zA,zB,zC,zD,zE,zF,zG,zI,zJ,zK,zM,↓reduceIte,reduceCtorEq,Nat.reduceEqDiff,Nat.reduceAdd,Nat.reduceLT,zP,zQ,zR,zS,zT,zV,zW,zb,zc,zh,zt,zx,zy,zz,hP,hk,res35,kp35,mC1,zC2,woE,woS,zF1,itS,Int.natCast_nonneg,hil',hm1,hm2,hoc'])
   have hsub:IntKind.i64.wrap ((key.length:Int)+(val.length:Int))=(key.length:Int)+(val.length:Int):=IntWalk.i64_in _ (by omega)
   (refine zA1 hctr (by rw [hP]; rfl) rs35_12 [] (ensure_type_of% (Cmp.of (by simp (maxSteps := 1000000) only [qK, qO, qP, qV, qf, qg, q0t, qu, qv, ev, qw, qy, zC, zD, zE, zF, zG, zM, ↓reduceIte, reduceCtorEq, Nat.reduceEqDiff, Nat.reduceAdd, zP, zT, zt, cD, cO, jC, jD, jF, jG, jH, jI, jJ, jN, hP, mC1, mC0, zA3, hn0, hn1]; rfl)) "" Cmp.mk) (by kernel_rfl) (by kernel_rfl) (by first | exact zA2 _ | kernel_rfl) (by kernel_rfl) (by rfl) (by rfl) (by first | exact zA0 _ | rfl) (by rfl) (by simp (maxSteps := 1000000) only [qK, qO, qP, qV, qf, qg, q0t, qu, qv, ev, qw, qy, zC, zD, zE, zG, zM, ↓reduceIte, reduceCtorEq, Nat.reduceEqDiff, Nat.reduceAdd, Nat.reduceLT, zP, zR, zT, zm, zn, zo, zq, zt, jD, jF, jG, jH, jI, jN, jP, jQ, jR, jS, jT, jV, jW, jX, jY, hP, mC1, mC0, zA3, hn0, hn1]) ?_; refine zA6 hctr (rs := res35) true 300 _ _ _ ?_; simp (maxSteps := 1000000) only [VG, qH, qI, qJ, qK, qO, qP, qR, qS, qV, q0t, qv, ev, qy, qz, zC, zD, zE, zG, zI, zJ, zM, ↓reduceIte, reduceCtorEq, Nat.reduceEqDiff, Nat.reduceAdd, Nat.reduceLT, zP, zQ, zR, zW, zb, zc, zt, jN, jO, hP, hk, res35, kp35, hm3, hm4])
   (refine zA1 hctr (by rw [hP]; rfl) rs35_21 [] (ensure_type_of% (Cmp.of (by simp (maxSteps := 1000000) only [qK, qN, qO, qP, qQ, qR, qS, qV, qe, ev, qy, zD, zM, ↓reduceIte, reduceCtorEq, Nat.reduceEqDiff, zt, zu, cD, cO, jC, jD, jN, hP, hsub]; rfl)) "" Cmp.mk) (by kernel_rfl) (by kernel_rfl) (by first | exact zA2 _ | kernel_rfl) (by kernel_rfl) (by rfl) (by rfl) (by first | exact zA0 _ | rfl) (by rfl) (by simp (maxSteps := 1000000) only [qK, qN, qO, qP, qQ, qR, qS, qV, qe, ev, qy, zD, zM, ↓reduceIte, reduceCtorEq, Nat.reduceEqDiff, zT, zn, zt, zu, jD, jN, jP, jQ, jR, jS, jT, hP, hsub]) ?_; refine zA6 hctr (rs := res35) true 300 _ _ _ ?_; simp (maxSteps := 1000000) only [VG, ev, qy, zG, zI, zJ, ↓reduceIte, reduceCtorEq, Nat.reduceEqDiff, Nat.reduceAdd, zP, zQ, zf, zg, zt, jN, jO, hk, res35, kp35])
   refine ⟨fun hfit=>?_,fun hfit=>?_⟩
   ·have hfit':decide (most < (key.length:Int)+(val.length:Int))=true:=decide_eq_true hfit
    simp (maxSteps:=1000000) only [VG,qE,qF,qG,qH,qI,qJ,qP,q0t,qu,qv,ev,qw,qy,qz,zA,zB,zC,zD,zE,zG,zI,zJ,TE.sv,zM,↓reduceIte,reduceCtorEq,Nat.reduceEqDiff,Nat.reduceAdd,Nat.reduceLT,zP,zQ,zR,zt,hP,hk,kp35,mC1,mC0,zB5,zA7,It.zero,anS,hfit']
    rw [show zA8 X now ⟨op,mode,key,val,flags,exp,hasExp,cas,true,delta,init,down,viv,vive,recache,inval⟩ most i true=(X,zA7 11) by simp [zA8,zB3,zD9,zK1,hif,h1,h3,h4,hoc]; omega] at hC
    exact zC4 hC hres35 hn hρ h.low (vS:=.rw 1 X.items.length) rfl (.inr ⟨1,rfl,by decide,.inr ⟨i,x,hx,rfl⟩⟩) rfl
   ·have hfit':decide (most < (key.length:Int)+(val.length:Int))=false:=decide_eq_false hfit
    simp (maxSteps:=1000000) only [VG,qH,qI,qK,qO,qP,ev,qw,qy,zA,zB,zD,zM,↓reduceIte,reduceCtorEq,Nat.reduceEqDiff,Nat.reduceLT,zR,zW,hP,mC1,mC0,hfit']
    obtain ⟨Y,hY⟩:∃ Y,Y=zJ4 X i true ⟨key,flags,val,zF3 now exp,0,0,false,false⟩:=⟨_,rfl⟩
    have hYi:Y.1.items[i]?=some Y.2:=by rw [hY]; exact zC5 X i _ _ hi his
    rw [show zA8 X now ⟨op,mode,key,val,flags,exp,hasExp,cas,true,delta,init,down,viv,vive,recache,inval⟩ most i true=(Y.1,⟨2,Y.2,0,false,false,false⟩) by rw [hY]; simp [zA8,zB3,zD9,zK1,hif,h1,h3,h4,hoc]; omega] at hC
    refine zE1 ⟨key,flags,val,zF3 now exp,0,0,false,false⟩ hY hG (X:=X) (now:=now) (c:=⟨op,mode,key,val,flags,exp,hasExp,cas,true,delta,init,down,viv,vive,recache,inval⟩) (most:=most) (i:=i) (is:=true) rfl (.inr ⟨i,x,hx,rfl⟩) hi his hl rfl (by simp) ?_
    (refine zA6 hctr (rs:=res35) true 300 _ _ _ ?_; simp (maxSteps:=1000000) only [VG,qE,qF,qG,qH,qI,qJ,qK,qP,qQ,qf,qg,q0t,qu,qv,ev,qy,qz,zA,zB,zC,zD,zE,zF,zG,zI,zJ,TE.sv,zM,↓reduceIte,reduceCtorEq,Nat.reduceEqDiff,Nat.reduceAdd,Nat.reduceLT,zP,zQ,zR,zk,zl,zt,zA4,jN,hP,hk,res35,kp35,woE,woS,zF1,itS,zA4])
    exact zC4 hC hres35 hn hρ h.low (vS:=.rw 5 Y.1.items.length) rfl (.inr ⟨5,rfl,by decide,.inr ⟨i,Y.2,hYi,rfl⟩⟩) rfl
  ·have hoc':decide (x.cas=cas)=false:=decide_eq_false hoc
   (refine zA6 hctr (rs:=res35) true 300 _ _ _ ?_; simp (maxSteps:=1000000) only [VG,jZ,ja,jd,je,qH,qI,qJ,qK,qO,qP,qQ,qR,qS,qT,qV,qp,q0t,qu,qv,ev,qw,qy,qz,zA,zB,zC,zD,zE,zF,zG,zI,zJ,zK,zM,↓reduceIte,reduceCtorEq,Nat.reduceEqDiff,Nat.reduceAdd,Nat.reduceLT,zP,zQ,zR,zS,zT,zV,zW,zb,zc,zh,zt,zx,zy,zz,hP,hk,res35,kp35,mC1,zC2,woE,woS,zF1,itS,Int.natCast_nonneg,hil',hm1,hm2,hoc'])
   cases inval with
   | false =>
    (refine zA1 hctr (by rw [hP]; rfl) rs35_9 [] (ensure_type_of% (Cmp.of (by simp (maxSteps := 1000000) only [qK, qO, qP, qV, qp, ev, qy, qz, zD, zM, ↓reduceIte, Nat.reduceEqDiff, zt, cD, cO, jC, jD, jE, jN, hP]; rfl)) "" Cmp.mk) (by kernel_rfl) (by kernel_rfl) (by first | exact zA2 _ | kernel_rfl) (by kernel_rfl) (by rfl) (by rfl) (by first | exact zA0 _ | rfl) (by rfl) (by simp (maxSteps := 1000000) only [qK, qO, qP, qV, qp, ev, qy, qz, zD, zM, ↓reduceIte, Nat.reduceEqDiff, zT, zn, zt, jD, jE, jN, jP, jQ, jR, jS, jT, hP]) ?_; refine zA6 hctr (rs := res35) true 300 _ _ _ ?_; simp (maxSteps := 1000000) only [VG, qE, qF, qG, qH, qI, qJ, qK, qO, qP, qT, q0t, qu, qv, ev, qw, qy, qz, zA, zB, zC, zD, zE, zG, zI, zJ, TE.sv, zM, ↓reduceIte, reduceCtorEq, Nat.reduceEqDiff, Nat.reduceAdd, Nat.reduceLT, zP, zQ, zR, zS, zV, zW, zb, zc, zt, jN, jO, hP, hk, res35, kp35, mC1, mC0, zB5, zA7, It.zero, anS])
    rw [show zA8 X now ⟨op,mode,key,val,flags,exp,hasExp,cas,true,delta,init,down,viv,vive,recache,false⟩ most i true=(X,zA7 4) by simp [zA8,zB3,hif,h1,hoc]] at hC
    exact zC4 hC hres35 hn hρ h.low (vS:=.rw 1 X.items.length) rfl (.inr ⟨1,rfl,by decide,.inr ⟨i,x,hx,rfl⟩⟩) rfl
   | true =>
    by_cases hlt:cas < x.cas
    ·have hlt':decide (cas < x.cas)=true:=decide_eq_true hlt
     (refine zA1 hctr (by rw [hP]; rfl) rs35_9 [] (ensure_type_of% (Cmp.of (by simp (maxSteps := 1000000) only [qK, qO, qP, qQ, qR, qS, qV, qp, ev, qw, qy, qz, zD, zG, zM, ↓reduceIte, reduceCtorEq, Nat.reduceEqDiff, Nat.reduceAdd, zT, zh, zt, cD, cO, jC, jD, jE, jI, jN, hP, mC1, mC0, zB7, Int.natCast_nonneg, hil', hlt']; rfl)) "" Cmp.mk) (by kernel_rfl) (by kernel_rfl) (by first | exact zA2 _ | kernel_rfl) (by kernel_rfl) (by rfl) (by rfl) (by first | exact zA0 _ | rfl) (by rfl) (by simp (maxSteps := 1000000) only [qK, qO, qP, qQ, qR, qS, qV, qp, ev, qw, qy, qz, zD, zG, zM, ↓reduceIte, reduceCtorEq, Nat.reduceEqDiff, Nat.reduceAdd, Nat.reduceLT, zP, zR, zT, zh, zn, zo, zt, jD, jE, jI, jN, jP, jQ, jR, jS, jT, jV, jW, jX, jY, hP, mC1, mC0, zB7, Int.natCast_nonneg, hil', hlt']) ?_; refine zA6 hctr (rs := res35) true 300 _ _ _ ?_; simp (maxSteps := 1000000) only [VG, qH, qI, qK, qO, qT, ev, qy, zG, zI, zJ, ↓reduceIte, reduceCtorEq, Nat.reduceEqDiff, Nat.reduceAdd, Nat.reduceLT, zP, zQ, zR, zV, zW, zb, zc, zt, jN, jO, hk, res35, kp35])
     have hsub:IntKind.i64.wrap ((key.length:Int)+(val.length:Int))=(key.length:Int)+(val.length:Int):=IntWalk.i64_in _ (by omega)
     (refine zA1 hctr (by rw [hP]; rfl) rs35_12 [] (ensure_type_of% (Cmp.of (by simp (maxSteps := 1000000) only [qK, qO, qP, qV, qf, qg, q0t, qu, qv, ev, qw, qy, zC, zD, zE, zF, zG, zM, ↓reduceIte, reduceCtorEq, Nat.reduceEqDiff, Nat.reduceAdd, zP, zT, zt, cD, cO, jC, jD, jF, jG, jH, jI, jJ, jN, hP, mC1, mC0, zA3, hn0, hn1]; rfl)) "" Cmp.mk) (by kernel_rfl) (by kernel_rfl) (by first | exact zA2 _ | kernel_rfl) (by kernel_rfl) (by rfl) (by rfl) (by first | exact zA0 _ | rfl) (by rfl) (by simp (maxSteps := 1000000) only [qK, qO, qP, qV, qf, qg, q0t, qu, qv, ev, qw, qy, zC, zD, zE, zG, zM, ↓reduceIte, reduceCtorEq, Nat.reduceEqDiff, Nat.reduceAdd, Nat.reduceLT, zP, zR, zT, zm, zn, zo, zq, zt, jD, jF, jG, jH, jI, jN, jP, jQ, jR, jS, jT, jV, jW, jX, jY, hP, mC1, mC0, zA3, hn0, hn1]) ?_; refine zA6 hctr (rs := res35) true 300 _ _ _ ?_; simp (maxSteps := 1000000) only [VG, qH, qI, qJ, qK, qO, qP, qR, qS, qV, q0t, qv, ev, qy, qz, zC, zD, zE, zG, zI, zJ, zM, ↓reduceIte, reduceCtorEq, Nat.reduceEqDiff, Nat.reduceAdd, Nat.reduceLT, zP, zQ, zR, zW, zb, zc, zt, jN, jO, hP, hk, res35, kp35, hm3, hm4])
     (refine zA1 hctr (by rw [hP]; rfl) rs35_21 [] (ensure_type_of% (Cmp.of (by simp (maxSteps := 1000000) only [qK, qN, qO, qP, qQ, qR, qS, qV, qe, ev, qy, zD, zM, ↓reduceIte, reduceCtorEq, Nat.reduceEqDiff, zt, zu, cD, cO, jC, jD, jN, hP, hsub]; rfl)) "" Cmp.mk) (by kernel_rfl) (by kernel_rfl) (by first | exact zA2 _ | kernel_rfl) (by kernel_rfl) (by rfl) (by rfl) (by first | exact zA0 _ | rfl) (by rfl) (by simp (maxSteps := 1000000) only [qK, qN, qO, qP, qQ, qR, qS, qV, qe, ev, qy, zD, zM, ↓reduceIte, reduceCtorEq, Nat.reduceEqDiff, zT, zn, zt, zu, jD, jN, jP, jQ, jR, jS, jT, hP, hsub]) ?_; refine zA6 hctr (rs := res35) true 300 _ _ _ ?_; simp (maxSteps := 1000000) only [VG, ev, qy, zG, zI, zJ, ↓reduceIte, reduceCtorEq, Nat.reduceEqDiff, Nat.reduceAdd, zP, zQ, zf, zg, zt, jN, jO, hk, res35, kp35])
     refine ⟨fun hfit=>?_,fun hfit=>?_⟩
     ·have hfit':decide (most < (key.length:Int)+(val.length:Int))=true:=decide_eq_true hfit
      simp (maxSteps:=1000000) only [VG,qE,qF,qG,qH,qI,qJ,qP,q0t,qu,qv,ev,qw,qy,qz,zA,zB,zC,zD,zE,zG,zI,zJ,TE.sv,zM,↓reduceIte,reduceCtorEq,Nat.reduceEqDiff,Nat.reduceAdd,Nat.reduceLT,zP,zQ,zR,zt,hP,hk,kp35,mC1,mC0,zB5,zA7,It.zero,anS,hfit']
      rw [show zA8 X now ⟨op,mode,key,val,flags,exp,hasExp,cas,true,delta,init,down,viv,vive,recache,true⟩ most i true=(X,zA7 11) by simp [zA8,zB3,zD9,zK1,hif,h1,h3,h4,hoc,hlt]; omega] at hC
      exact zC4 hC hres35 hn hρ h.low (vS:=.rw 1 X.items.length) rfl (.inr ⟨1,rfl,by decide,.inr ⟨i,x,hx,rfl⟩⟩) rfl
     ·have hfit':decide (most < (key.length:Int)+(val.length:Int))=false:=decide_eq_false hfit
      simp (maxSteps:=1000000) only [VG,qH,qI,qK,qO,qP,ev,qw,qy,zA,zB,zD,zM,↓reduceIte,reduceCtorEq,Nat.reduceEqDiff,Nat.reduceLT,zR,zW,hP,mC1,mC0,hfit']
      obtain ⟨Y,hY⟩:∃ Y,Y=zJ4 X i true ⟨key,flags,val,zF3 now exp,0,0,true,false⟩:=⟨_,rfl⟩
      have hYi:Y.1.items[i]?=some Y.2:=by rw [hY]; exact zC5 X i _ _ hi his
      rw [show zA8 X now ⟨op,mode,key,val,flags,exp,hasExp,cas,true,delta,init,down,viv,vive,recache,true⟩ most i true=(Y.1,⟨2,Y.2,0,false,false,false⟩) by rw [hY]; simp [zA8,zB3,zD9,zK1,hif,h1,h3,h4,hoc,hlt]; omega] at hC
      refine zE1 ⟨key,flags,val,zF3 now exp,0,0,true,false⟩ hY hG (X:=X) (now:=now) (c:=⟨op,mode,key,val,flags,exp,hasExp,cas,true,delta,init,down,viv,vive,recache,true⟩) (most:=most) (i:=i) (is:=true) rfl (.inr ⟨i,x,hx,rfl⟩) hi his hl rfl (by simp) ?_
      (refine zA6 hctr (rs:=res35) true 300 _ _ _ ?_; simp (maxSteps:=1000000) only [VG,qE,qF,qG,qH,qI,qJ,qK,qP,qQ,qf,qg,q0t,qu,qv,ev,qy,qz,zA,zB,zC,zD,zE,zF,zG,zI,zJ,TE.sv,zM,↓reduceIte,reduceCtorEq,Nat.reduceEqDiff,Nat.reduceAdd,Nat.reduceLT,zP,zQ,zR,zk,zl,zt,zA4,jN,hP,hk,res35,kp35,woE,woS,zF1,itS,zA4])
      exact zC4 hC hres35 hn hρ h.low (vS:=.rw 5 Y.1.items.length) rfl (.inr ⟨5,rfl,by decide,.inr ⟨i,Y.2,hYi,rfl⟩⟩) rfl
    ·have hlt':decide (cas < x.cas)=false:=decide_eq_false hlt
     (refine zA1 hctr (by rw [hP]; rfl) rs35_9 [] (ensure_type_of% (Cmp.of (by simp (maxSteps := 1000000) only [qK, qO, qP, qQ, qR, qS, qV, qp, ev, qw, qy, qz, zD, zG, zM, ↓reduceIte, reduceCtorEq, Nat.reduceEqDiff, Nat.reduceAdd, zT, zh, zt, cD, cO, jC, jD, jE, jI, jN, hP, mC1, mC0, zB7, Int.natCast_nonneg, hil', hlt']; rfl)) "" Cmp.mk) (by kernel_rfl) (by kernel_rfl) (by first | exact zA2 _ | kernel_rfl) (by kernel_rfl) (by rfl) (by rfl) (by first | exact zA0 _ | rfl) (by rfl) (by simp (maxSteps := 1000000) only [qK, qO, qP, qQ, qR, qS, qV, qp, ev, qw, qy, qz, zD, zG, zM, ↓reduceIte, reduceCtorEq, Nat.reduceEqDiff, Nat.reduceAdd, Nat.reduceLT, zP, zR, zT, zh, zn, zo, zt, jD, jE, jI, jN, jP, jQ, jR, jS, jT, jV, jW, jX, jY, hP, mC1, mC0, zB7, Int.natCast_nonneg, hil', hlt']) ?_; refine zA6 hctr (rs := res35) true 300 _ _ _ ?_; simp (maxSteps := 1000000) only [VG, qE, qF, qG, qH, qI, qJ, qK, qO, qP, qT, q0t, qu, qv, ev, qw, qy, qz, zA, zB, zC, zD, zE, zG, zI, zJ, TE.sv, zM, ↓reduceIte, reduceCtorEq, Nat.reduceEqDiff, Nat.reduceAdd, Nat.reduceLT, zP, zQ, zR, zS, zV, zW, zb, zc, zt, jN, jO, hP, hk, res35, kp35, mC1, mC0, zB5, zA7, It.zero, anS])
     rw [show zA8 X now ⟨op,mode,key,val,flags,exp,hasExp,cas,true,delta,init,down,viv,vive,recache,true⟩ most i true=(X,zA7 4) by simp [zA8,zB3,hif,h1,hoc,hlt]] at hC
     exact zC4 hC hres35 hn hρ h.low (vS:=.rw 1 X.items.length) rfl (.inr ⟨1,rfl,by decide,.inr ⟨i,x,hx,rfl⟩⟩) rfl
theorem store_op (base g:Nat) (v:Value) (X:St) (now:Int) (c:Cd) (most:Int) (i:Nat) (is:Bool) (w:World) (h:WS base w g v X now c most i is) (hbase:base≤w.heap.size) (hi:i≤X.items.length) (his:is=true→i < X.items.length) (hl:X.items.length≤100000000)
 (hn0:1≤now) (hn1:now≤1099511627776) (hck:c.key.length≤100000000) (hcv:c.val.length≤100000000) (hxb:∀ x,X.items[i]?=some x→x.key.length≤100000000∧x.val.length≤100000000) :
 Calls Tryz.prog 35 #[.pointer (some ⟨g,0,none⟩)] w (OpR base g v (zA8 X now c most i is).1 now c most i is (zA8 X now c most i is).2 w):=by
 rcases c with ⟨op,mode,key,val,flags,exp,hasExp,cas,hasCas,delta,init,down,viv,vive,recache,inval⟩
 cases is with
 | false=>exact store_no _ _ _ _ _ _ _ _ _ _ _ _ _ _ _ _ _ _ _ _ _ _ _ _ h hbase hi his hl hn0 hn1 hck hcv
 | true =>
  have hil:=his rfl
  have hx:X.items[i]?=some (X.items[i]'hil):=List.getElem?_eq_getElem hil
  obtain ⟨hxk,hxv⟩:=hxb _ hx
  by_cases h1:mode=1
  ·exact store_win1 _ _ _ _ _ _ _ _ _ _ _ _ _ _ _ _ _ _ _ _ _ _ _ _ h hbase hi his hl hn0 hn1 hck hcv _ hx hxk hxv h1
  by_cases h3:mode=3
  ·exact store_win3 _ _ _ _ _ _ _ _ _ _ _ _ _ _ _ _ _ _ _ _ _ _ _ _ h hbase hi his hl hn0 hn1 hck hcv _ hx hxk hxv h3
  by_cases h4:mode=4
  ·exact store_win4 _ _ _ _ _ _ _ _ _ _ _ _ _ _ _ _ _ _ _ _ _ _ _ _ h hbase hi his hl hn0 hn1 hck hcv _ hx hxk hxv h4
  by_cases h2:1 < mode
  ·exact store_wint _ _ _ _ _ _ _ _ _ _ _ _ _ _ _ _ _ _ _ _ _ _ _ _ h hbase hi his hl hn0 hn1 hck hcv _ hx hxk hxv ⟨h1,h3,h4,decide_eq_true h2⟩
  ·exact store_winf _ _ _ _ _ _ _ _ _ _ _ _ _ _ _ _ _ _ _ _ _ _ _ _ h hbase hi his hl hn0 hn1 hck hcv _ hx hxk hxv ⟨h1,h3,h4,decide_eq_false h2⟩
end Go.Proofs.YtfpeholdlkfmoaaGreatDoor
