/- words.Line, walked; words.Split as a call of a walk. -/
import Derived.Test.YtcbmlanpianclaaGreatDoorBS11
import Derived.Test.YtcbmlanpianclaaGreatDoorBS06
import Derived.Test.YtcbmlanpianclaaGreatDoorBS08
import Derived.Test.YtcbmlanpianclaaGreatDoorBS07
import Derived.Test.YtcbmlanpianclaaGreatDoorBS05
namespace Go.Proofs.YtcbmlanpianclaaGreatDoor
set_option linter.unusedSimpArgs false
set_option linter.unusedVariables false
set_option maxHeartbeats 8000000
open Go.RowKit
set_option maxRecDepth 100000
structure EnvTV (w:World):Prop where
 env:Env w
 max:∃ m,w.cell? ⟨0,0,none⟩=some (.int .i64 m)
theorem EnvTV.below {w w':World} (h:EnvTV w) (hb:Below w.heap.size w w'):EnvTV w':=by
 obtain ⟨m,hm⟩:=h.max
 exact ⟨h.env.below hb,m,(hb.cell (p:=⟨0,0,none⟩) (zY9 hm)).trans hm⟩
theorem ib_posV (c:UInt8) (l:List UInt8):(0≤Lib.indexByte l c) ↔ (l.takeWhile (· != c)).length < l.length:=by
 induction l with
 | nil=>simp [Lib.indexByte]
 | cons b l ih =>
  by_cases hb:b=c
  ·subst hb; simp [Lib.indexByte]
  ·have hb2:(b == c)=false:=by simpa using hb
   have hb3:(b != c)=true:=by simpa using hb
   rw [List.takeWhile_cons,if_pos hb3,List.length_cons,List.length_cons]
   simp only [Lib.indexByte,hb2]
   have h2:=cut_cases c l
   constructor
   ·intro h
    have:0≤Lib.indexByte l c:=by
     rcases h2 with ⟨h1,_⟩ | ⟨k,h1,_⟩
     ·rw [h1] at h; simp at h
     ·omega
    have:=ih.1 this; omega
   ·intro h
    have:=ih.2 (by omega)
    rcases h2 with ⟨h1,_⟩ | ⟨k,h1,_⟩
    ·omega
    ·rw [h1]; simp; omega
theorem cut_okV (c:UInt8) (l:List UInt8):(Lib.cut l [c]).2.2=decide ((l.takeWhile (· != c)).length < l.length):=by
 unfold Lib.cut
 rw [Lib.index_one]
 by_cases h:0≤Lib.indexByte l c
 ·rw [if_pos h,decide_eq_true ((ib_posV c l).1 h)]
 ·rw [if_neg h,decide_eq_false (fun h2=>h ((ib_posV c l).2 h2))]
theorem trim_crV (l:List UInt8):Lib.trimSuffix l [13]=if l.getLast?=some 13 then l.dropLast else l:=by
 have h:Lib.hasSuffix l [13]=(l.getLast? == some 13):=by
  rw [Bool.eq_iff_iff,beq_iff_eq]
  show ([13]:List UInt8).isSuffixOf l=true ↔ _
  rw [List.isSuffixOf_iff_suffix]
  constructor
  ·rintro ⟨t,rfl⟩; simp
  ·intro h
   obtain ⟨ys,rfl⟩:=List.getLast?_eq_some_iff.1 h
   exact ⟨ys,rfl⟩
 unfold Lib.trimSuffix
 rw [h]
 by_cases hl:l.getLast?=some 13
 ·rw [if_pos (by rw [hl]; rfl),if_pos hl,List.dropLast_eq_take]; rfl
 ·rw [if_neg (by simpa using hl),if_neg hl]
def rowCutV:List SV→Option (Prop × SV)
 | [.c (.s l),.c (.s [10])]=>some (l.length < 4294967281,.t [.c (.s (l.takeWhile (· != 10))),.c (.s ((l.dropWhile (· != 10)).drop 1)),.c (.b (decide ((l.takeWhile (· != 10)).length < l.length)))])
 | _=>none
def rowTrimSV:List SV→Option (Prop × SV)
 | [.c (.s l),.c (.s p)]=>some (l.length≤9223372036854775807,.c (.s (Lib.trimSuffix l p)))
 | _=>none
def tCLV:Ctr:=fun f _ xs=>match f with
 | 22=>rowCutV xs
 | 31=>rowTrimSV xs
 | _=>none
theorem tCL_okV {C:Cx} (hP:C.P=Tryz.prog) (hE:∀ w,Upd C.S C.w0 w→EnvTV w):zC1 C tCLV:=by
 intro f en xs p v h hp ρ w hup hHp hHo hinj hwf
 unfold tCLV at h
 split at h
 ·rw [hP]
  refine ⟨fun args w=>Tryz.call22 args w,?_⟩
  unfold rowCutV at h
  split at h <;> simp only [Option.some.injEq,Prod.mk.injEq,reduceCtorEq] at h
  rename_i l
  obtain ⟨rfl,rfl⟩:=h
  refine ⟨by intro x hx; simp at hx; rcases hx with rfl | rfl | rfl <;> trivial,?_⟩
  obtain ⟨m,hm⟩:=(hE w hup).max
  have:=Tryz.strings_Cut ⟨l.toArray⟩ ⟨#[10]⟩ m w (by simpa [ByteArray.size] using hp) hm
  have e1:(⟨l.toArray⟩:ByteArray).data.toList=l:=rfl
  have e2:(⟨#[10]⟩:ByteArray).data.toList=[10]:=rfl
  rw [e1,e2,(zP5 10 l).1,(zP5 10 l).2,cut_okV] at this
  refine this.mono ?_
  rintro e w' ⟨rfl,q,rfl⟩
  exact ⟨rfl,rfl,rfl,rfl,Nat.le_refl _,fun _ _=>rfl⟩
 ·rw [hP]
  refine ⟨fun args w=>Tryz.call31 args w,?_⟩
  unfold rowTrimSV at h
  split at h <;> simp only [Option.some.injEq,Prod.mk.injEq,reduceCtorEq] at h
  obtain ⟨rfl,rfl⟩:=h
  refine ⟨trivial,(Tryz.strings_TrimSuffix _ _ w (by simpa [ByteArray.size] using hp)).mono ?_⟩
  rintro e w' ⟨rfl,rfl⟩
  exact ⟨rfl,Below.refl _ _⟩
 ·cases h
theorem line_wV (l:List UInt8) (hl:l.length < 4294967281) (w:World) (hE:EnvTV w):Calls Tryz.prog 21 #[.string ⟨l.toArray⟩] w fun e w'=>e=.returned (.tuple #[.string ⟨(zB1 l).1.toArray⟩,.int .i64 ((zB1 l).2:Nat)])∧Below w.heap.size w w':=by
 refine zA1 Tryz.func21 rfl kp21 (S:=Non) (ρ:=fun _=>zD7 0) (en:=[]) [.c (.s l)] Tryz.ntmps21 (At.nil _ _ _) (by simp [SV.wf,SC.wf]) (by simp) ?_
 intro C hC hP hk
 have hctr:=tCL_okV hP (fun w' hu=>by rw [hC] at hu; exact hE.below hu.to_below)
 have htl:(l.takeWhile (· != 10)).length≤l.length:=(List.takeWhile_sublist _).length_le
 have w1:IntKind.i64.wrap (((l.takeWhile (· != 10)).length:Int)+1)=(((l.takeWhile (· != 10)).length+1:Nat):Int):=by rw [IntWalk.i64_in _ (by omega)]; rfl
 have fin:∀ (x:List UInt8) (n:Int),x=(zB1 l).1→n=((zB1 l).2:Nat)→Fin C res21 (.t [.c (.s x),.c (.i .i64 n)]) []:=fun x n h1 h2=>zH3 (v:=.t [.c (.s (zB1 l).1),.c (.i .i64 ((zB1 l).2:Nat))]) hC hres21 (by rw [h1,h2]) (by simp [SV.wf,TE.wf,SC.wf])
 by_cases h:(l.takeWhile (· != 10)).length < l.length
 ·have c1:decide ((l.takeWhile (· != 10)).length < l.length)=true:=decide_eq_true h
  (refine zA0 hctr (rs:=res21) true 200 _ _ _ ?_; simp (maxSteps:=1000000) only [VT,jg,qE,qF,qG,qH,qI,qK,qN,qO,qR,qS,qT,qe,qh,ev,qw,qy,qz,zD,zI,zJ,TE.sv,zK,zM,↓reduceIte,reduceCtorEq,Nat.reduceEqDiff,Nat.reduceLT,zP,zQ,zR,zV,zW,hP,hk,res21,kp21,tCLV,rowCutV,rowTrimSV,c1,w1])
  refine ⟨hl,by omega,fin _ _ ?_ ?_⟩
  ·unfold zB1; rw [if_pos h,trim_crV]
  ·unfold zB1; rw [if_pos h]
 ·have c1:decide ((l.takeWhile (· != 10)).length < l.length)=false:=decide_eq_false h
  (refine zA0 hctr (rs:=res21) true 200 _ _ _ ?_; simp (maxSteps:=1000000) only [VT,jf,qE,qF,qG,qH,qI,qK,qO,qT,qh,ev,qw,qy,qz,zD,zI,zJ,TE.sv,zK,↓reduceIte,reduceCtorEq,Nat.reduceEqDiff,Nat.reduceLT,zP,zQ,zR,zV,zW,hk,res21,kp21,tCLV,rowCutV,c1])
  refine ⟨hl,fin _ _ ?_ ?_⟩
  ·unfold zB1; rw [if_neg h]
  ·unfold zB1; rw [if_neg h]; rfl
end Go.Proofs.YtcbmlanpianclaaGreatDoor
/- text.Parse, walked. -/
namespace Go.Proofs.YtcbmlanpianclaaGreatDoor
set_option linter.unusedSimpArgs false
set_option linter.unusedVariables false
set_option maxHeartbeats 8000000
open Go.RowKit
set_option maxRecDepth 100000
def wdEV (ws:List (List UInt8)):EN:=rwE 9 1 ws.length (ws.map SC.s)
theorem split_hV {C:Cx} {nE N:Nat} {mk:Nat→Prop} {en en':List EN} (s:List UInt8) (hs:s.length≤100000) (hP:C.P=Tryz.prog) (hE:∀ w,Upd C.S C.w0 w→EnvTV w) (hmk:∀ q,mk q ↔ q=N) (hn0:C.n0≤N) (hN:zD en' N=some (wdEV (wordsF (s.length+1) s))) (hq:∀ q,q ≠ N→zD en' q=zD en q) :
  zJ0 C nE mk en en' 39 [.c (.s s)] (.c (.rw N (wordsF (s.length+1) s).length)):=by
 have hcw:∀ (ρ:Nat→RE) (l:List (List UInt8)),zB8 ρ (l.map SC.s)=l.map encW:=fun ρ l=>by simp [zB8,SC.den,encW,Function.comp_def]
 refine zZ2 (vals:=(wordsF (s.length+1) s).map encW) (fun args w=>by rw [hP]; exact Tryz.call39 args w) hmk hn0 hN hq (by show ¬ (9:Nat)=zC9; decide) (fun ρ=>hcw ρ _) ?_ (fun pr h=>h) ?_
 ·intro pr x hx
  simp only [wdEV,rwE,List.mem_map] at hx
  obtain ⟨y,_,rfl⟩:=hx
  trivial
 ·intro ρ pr w hw _ _
  rw [hP]
  obtain ⟨m,hm⟩:=(hE w hw.up).max
  refine (split_any s hs m w hm).mono ?_
  rintro z w' ⟨v,rfl,⟨o1,o2⟩,hb⟩
  generalize wordsF (s.length+1) s=ws at o1 o2 ⊢
  rcases o2 with ⟨rfl,h0⟩ | ⟨g,cap,cur,rfl,h1,h2,h3,h4,h5,h6⟩
  ·obtain rfl:=List.eq_nil_of_length_eq_zero h0
   refine ⟨⟨w.heap.size,[],[],0,some none⟩,⟨rfl,⟨rfl,.inr ⟨rfl,rfl,rfl⟩⟩,(fun h=>by cases h),(fun _=>rfl),(fun _=>Nat.le_refl _)⟩,fun ρ' _ hr=>?_,hb⟩
   simp only [SV.den,SC.den,hr]; rfl
  ·rw [Nat.mul_one] at h5 h6
   refine ⟨⟨g,[],cur.toList.drop ws.length,cap,none⟩,⟨rfl,⟨by simp [],.inl ⟨rfl,rfl,?_,h3,h4⟩⟩,fun _=>⟨h1,?_⟩,fun h=>absurd rfl h,fun h=>absurd rfl h⟩,fun ρ' _ hr=>?_,hb⟩
   ·simp [h5]; omega
   ·rw [h2,List.nil_append,← h6,List.take_append_drop]; rfl
   ·simp only [SV.den,SC.den,hr]; rfl
def parseC:Ctr:=fun f en xs=>match f with
 | 21=>(match xs with
  | [.c (.s l)]=>some (l.length < 4294967281,.t [.c (.s (zB1 l).1),.c (.i .i64 (((zB1 l).2:Nat):Int))])
  | _=>none)
 | _=>tCB f en xs
theorem parseC_ok {C:Cx} (hP:C.P=Tryz.prog) (hE:∀ w,Upd C.S C.w0 w→EnvTV w):zC1 C parseC:=by
 intro f en xs p v h hp ρ w hup hHp hHo hinj hwf
 unfold parseC at h
 split at h
 ·rw [hP]
  refine ⟨fun args w=>Tryz.call21 args w,?_⟩
  split at h <;> simp only [Option.some.injEq,Prod.mk.injEq,reduceCtorEq] at h
  obtain ⟨rfl,rfl⟩:=h
  exact ⟨by intro x hx; simp at hx; rcases hx with rfl | rfl <;> trivial,line_wV _ hp w (hE w hup)⟩
 ·exact tC1_ok' hP f en xs p v h hp ρ w hup hHp hHo hinj hwf
theorem wordsF_eachV:∀ (k:Nat) (l:List UInt8),∀ x∈wordsF k l,x.length≤l.length:=by
 intro k
 induction k with
 | zero=>intro l x hx; cases hx
 | succ k ih =>
  intro l x hx
  rw [zI7] at hx
  split at hx
  ·cases hx
  ·have h1:=(List.dropWhile_sublist (p:=(· == (32:UInt8))) (l:=l)).length_le
   rcases List.mem_cons.1 hx with rfl | hx
   ·exact Nat.le_trans (List.takeWhile_sublist _).length_le h1
   ·have h2:=(List.dropWhile_sublist (p:=(· != (32:UInt8))) (l:=l.dropWhile (· == 32))).length_le
    have:=ih _ x hx
    rw [List.length_drop] at this
    omega
def PPost (w:World) (x:Rq × Int) (e:Ending) (w':World):Prop:=Below w.heap.size w w'∧∃ v,e=.returned (.tuple #[v,.int .i64 x.2])∧ReqV w.heap.size w' v x.1
theorem parse_w (b:List UInt8) (hb:b.length≤9223372036854775807) (w:World) (hE0:EnvTV w):Calls Tryz.prog 26 #[.string ⟨b.toArray⟩] w (PPost w (zE6 b)):=by
 refine zA1 Tryz.func26 rfl kp26 (S:=Non) (ρ:=fun _=>zD7 0) (en:=[]) [.c (.s b)] Tryz.ntmps26 (At.nil _ _ _) (by simp [SV.wf,SC.wf]) (by simp) ?_
 intro C hC hP hk
 have hE:∀ w',Upd C.S C.w0 w'→EnvTV w':=fun w' hu=>by rw [hC] at hu; exact hE0.below hu.to_below
 have hctr:=parseC_ok hP hE
 obtain ⟨k,hk2⟩:∃ k:Int,(if (2048:Int) < (b.length:Int) then 2048 else (b.length:Int))=k:=⟨_,rfl⟩
 have hkk:k=((b.take 2048).length:Int):=by rw [← hk2,List.length_take]; split <;> omega
 have hkt:b.take k.toNat=b.take 2048:=by
  rw [hkk,Int.toNat_natCast,List.length_take,List.take_eq_take_iff]; omega
 have k0:0≤k:=by omega
 have k1:k≤(b.length:Int):=by rw [hkk,List.length_take]; omega
 have kl:(b.take 2048).length < 4294967281:=by rw [List.length_take]; omega
 obtain ⟨s,n,hsn⟩:∃ s n,zB1 (b.take 2048)=(s,n):=⟨_,_,rfl⟩
 (refine zA0 hctr (rs:=res26) true 300 _ _ _ ?_; simp (maxSteps:=1000000) only [VT,qH,qI,qK,qN,qO,qR,qS,qZ,qe,qh,ql,qn,ev,qw,qy,qz,zD,zF,zG,zI,zJ,TE.sv,zK,zM,↓reduceIte,reduceCtorEq,Nat.reduceEqDiff,Nat.reduceLT,zP,zQ,zR,zT,hP,hk,res26,kp26,parseC,hk2,hkt,k0,k1,kl,hsn,List.drop_zero,Int.toNat_zero,Int.le_refl])
 have hfin:∀ (r:Rq) (m:Int) (en:List EN),zE6 b=(r,m)→r.cmds=[]→Fin C res26 (.t [.g (rqS zB5 r),.c (.i .i64 m)]) en:=fun r m en h1 h2=>by
  refine zC3 hC hres26 fun ρ w' hw _ _=>?_
  have hup:=hw.up
  rw [hC] at hup
  exact ⟨hup.to_below,_,by rw [h1]; rfl,_,rfl,.inl ⟨by rw [h1]; exact h2,rfl⟩⟩
 by_cases hn:n=0
 ·subst hn
  have c1:(((0:Nat):Int) == 0)=true:=rfl
  by_cases hs:b.length < 2048
  ·have c2:decide ((b.length:Int) < 2048)=true:=decide_eq_true (by omega)
   simp (maxSteps:=1000000) only [VT,jf,jZ,qE,qF,qG,qH,qI,qJ,qK,qN,qO,qP,qR,qS,qe,qf,qg,qp,q0t,qu,qv,ev,qy,qz,zA,zB,zC,zD,zE,zG,zI,zJ,zM,↓reduceIte,reduceCtorEq,Value.oneCell',Nat.reduceEqDiff,Nat.reduceAdd,Nat.reduceLT,zP,zQ,zR,zV,zt,hP,hk,kp26,c1,c2]
   exact hfin Rq.zero 0 _ (by unfold zE6; simp only [hsn]; rw [if_pos trivial,if_pos hs]) rfl
  ·have c2:decide ((b.length:Int) < 2048)=false:=decide_eq_false (by omega)
   simp (maxSteps:=1000000) only [VT,jf,jg,jZ,qE,qF,qG,qH,qI,qJ,qK,qN,qO,qP,qR,qS,qV,qe,qp,q0t,qu,qv,ev,qw,qy,qz,zA,zB,zC,zD,zE,zF,zG,zI,zJ,zM,↓reduceIte,reduceCtorEq,Value.oneCell',Nat.reduceEqDiff,Nat.reduceAdd,Nat.reduceLT,zP,zQ,zR,zV,zW,zt,hP,hk,kp26,parseC,tCB,zF7,c1,c2,rqS,zB5,zD9]
   exact hfin { zD9 zL8 with close:=true } 2048 _ (by unfold zE6; simp only [hsn]; rw [if_pos trivial,if_neg hs]) rfl
 ·have c1:((n:Int) == 0)=false:=by simpa using hn
  simp (maxSteps:=1000000) only [VT,jg,aA,qH,qI,qK,qO,qR,qS,qp,ev,qy,qz,zD,zI,zJ,↓reduceIte,reduceCtorEq,Nat.reduceEqDiff,Nat.reduceLT,zP,zQ,zR,zW,hP,hk,kp26,c1]
  have hsl:s.length≤100000∧n≤(b.take 2048).length:=by
   have h1:(zB1 (b.take 2048)).1=s:=by rw [hsn]
   have h2:(zB1 (b.take 2048)).2=n:=by rw [hsn]
   have ht:=(List.takeWhile_sublist (p:=(· != (10:UInt8))) (l:=b.take 2048)).length_le
   have hl:(b.take 2048).length≤2048:=by rw [List.length_take]; omega
   unfold zB1 at h1 h2
   simp only at h1 h2
   split at h1
   ·rename_i hlt
    rw [if_pos hlt] at h2
    refine ⟨?_,by simp only at h2; omega⟩
    simp only at h1
    split at h1
    ·rw [← h1,List.length_dropLast]; omega
    ·rw [← h1]; omega
   ·rename_i hlt
    rw [if_neg hlt] at h2
    exact absurd h2.symm hn
  obtain ⟨hs1,hs2⟩:=hsl
  have hnb:(n:Int)≤(b.length:Int):=by rw [List.length_take] at hs2; omega
  have hn0:(0:Int)≤(n:Int):=by omega
  obtain ⟨ws,hws⟩:∃ ws,wordsF (s.length+1) s=ws:=⟨_,rfl⟩
  (refine zH2 hctr (by rw [hP]; rfl) rs26_8 [jB (fun N => .c (.rw N ws.length)) (fun _ => wdEV ws)] (ensure_type_of% (Cmp.of (by simp (maxSteps := 1000000) only [qA, qK, qO, qZ, qf, qg, ql, qm, q0t, qu, qv, ev, qw, qy, zC, zD, zF, zG, zM, ↓reduceIte, reduceCtorEq, Nat.reduceEqDiff, Nat.reduceAdd, zP, zT, zh, zt, cE, jA, jB, rwE, jC, jD, jF, jG, jJ, jK, jL, jM, jN, hP, parseC, tCB, wdEV, hnb, hn0, Int.le_refl, List.take_length]; rfl)) "" Cmp.mk) (by kernel_rfl) (by kernel_rfl) (by first | exact zC7 _ | kernel_rfl) (by kernel_rfl) (by rfl) (by rfl) (by first | exact zB2 _ | rfl) (by rfl) ?_ ?_; rotate_left; refine zA0 hctr (rs := res26) true 300 _ _ _ ?_; simp (maxSteps := 1000000) only [VT, qH, qI, qK, qN, qO, qP, qQ, qR, qS, qV, qe, ev, qy, qz, zD, zG, zI, zJ, zM, ↓reduceIte, reduceCtorEq, Nat.reduceEqDiff, Nat.reduceAdd, Nat.reduceLT, zP, zQ, zR, zt, jN, jO, hP, hk, res26, kp26]; rotate_left; simp (maxSteps := 1000000) only [qK, qO, qZ, qf, qg, ql, qm, q0t, qu, qv, ev, qw, qy, zC, zD, zG, zM, ↓reduceIte, reduceCtorEq, Nat.reduceEqDiff, Nat.reduceAdd, Nat.reduceSub, Nat.reduceLeDiff, zP, zR, zS, zT, zh, zn, zt, jD, jF, jG, jN, jP, jQ, jR, jS, jT, jU, hP, hnb, hn0, Int.le_refl, List.take_length])
  ·rw [← hws]
   exact split_hV s hs1 hP hE (zX0 (by simp)) (by rw [hC]; exact Nat.zero_le _) rfl (fun q _=>rfl)
  have htp:zE6 b=lineR n (b.drop n) ws:=by
   unfold zE6
   simp only [hsn]
   rw [if_neg hn,hws]
  cases ws with
  | nil =>
   have c2:(((0:Nat):Int) == 0)=true:=rfl
   simp (maxSteps:=1000000) only [VT,jf,qE,qF,qG,qH,qI,qJ,qK,qO,qP,q0t,qu,qv,ev,qw,qy,qz,zA,zB,zC,zD,zE,zG,zI,zJ,zM,↓reduceIte,reduceCtorEq,Value.oneCell',Nat.reduceEqDiff,Nat.reduceAdd,Nat.reduceLT,zP,zQ,zR,zV,za,zl,zt,hP,hk,kp26,parseC,tCB,zF7,c2,rqS,zB5,zD9]
   exact hfin (zD9 zA5) n _ htp rfl
  | cons x rest =>
   have c2:(((x :: rest).length:Int) == 0)=false:=by simp; omega
   have hlen:(x :: rest).length=rest.length+1:=rfl
   obtain ⟨m,hm⟩:∃ m,(x :: rest).length=m:=⟨_,rfl⟩
   rw [hm] at c2
   rw [hm]
   simp (maxSteps:=1000000) only [VT,jg,zW,zZ,zk,c2]
   intro ρ a w1 hr
   have hQ:C.Q=bodyPost Tryz.prog Tryz.f26 (PPost w (zE6 b)):=by rw [hC]; rfl
   have hdf:C.df=[]:=by rw [hC]; rfl
   have hm1:m=rest.length+1:=hm.symm
   obtain ⟨k0',p0,r0a,r0b,r0n⟩:=zE4 (c:=0) hr.hw.hp hr.hw.ho (by show 0 < 3; decide) rfl (by decide) (by simp)
   obtain ⟨k2',p2,r2a,r2b,r2n⟩:=zE4 (c:=2) hr.hw.hp hr.hw.ho (by show 2 < 3; decide) rfl (by decide) (by simp)
   have hnl:(ρ 1).nl=none:=Decidable.byContradiction fun hd=>by have:=(hr.hw.hp 1 _ _ _ (by show 1 < 3; decide) rfl).non hd; simp at this
   obtain ⟨_,_,hO⟩:=hr.hw.ho 1 _ _ _ (by show 1 < 3; decide) rfl
   obtain ⟨_,r1a,_,r1c,_⟩:=hO.resolve_right (fun hd=>by rw [hnl] at hd; exact absurd hd.1 (by simp))
   have hwd:=(hr.hw.hp 1 _ _ _ (by show 1 < 3; decide) rfl).heap ⟨(by show ¬ (9:Nat)=zC9; decide),hnl⟩
   rw [r1a,List.nil_append] at hwd
   obtain ⟨g0,hg0⟩:∃ g,g=(ρ 0).blk:=⟨_,rfl⟩
   obtain ⟨gw,hgw⟩:∃ g,g=(ρ 1).blk:=⟨_,rfl⟩
   obtain ⟨gl,hgl⟩:∃ g,g=(ρ 2).blk:=⟨_,rfl⟩
   obtain ⟨cp,hcp⟩:∃ c,c=(ρ 1).cap:=⟨_,rfl⟩
   have d0:=(zA4 (r:=ρ 0) (en:=[(⟨(35,0,whole),[.i .i64 0,.v (.slice none 0 0),.b false,.b false,.s [],.s [],.i .i64 0,.b false,.s [],.v (.slice none 0 0),.s []],true⟩:EN)]) (c:=0) rfl).2 ⟨(by show ¬ (35:Nat)=zC9; decide),r0n⟩
   have n01:g0 ≠ gw:=fun e=>by
    have:=hr.hw.inj 0 1 (by show 0 < 3; decide) (by show 1 < 3; decide) d0 ((zA4 rfl).2 ⟨(by show ¬ (9:Nat)=zC9; decide),hnl⟩) (by rw [← hg0,← hgw,e])
    cases this
   have n02:g0 ≠ gl:=fun e=>by
    have:=hr.hw.inj 0 2 (by show 0 < 3; decide) (by show 2 < 3; decide) d0 ((zA4 rfl).2 ⟨(by show ¬ (75:Nat)=zC9; decide),r2n⟩) (by rw [← hg0,← hgl,e])
    cases this
   have n12:gw ≠ gl:=fun e=>by
    have:=hr.hw.inj 1 2 (by show 1 < 3; decide) (by show 2 < 3; decide) ((zA4 rfl).2 ⟨(by show ¬ (9:Nat)=zC9; decide),hnl⟩) ((zA4 rfl).2 ⟨(by show ¬ (75:Nat)=zC9; decide),r2n⟩) (by rw [← hgw,← hgl,e])
    cases this
   have hup1:Below w.heap.size w w1:=by have:=hr.hw.up; rw [hC] at this; exact this.to_below
   have hnew:w.heap.size≤g0∧w.heap.size≤gl:=by
    have q0:=hr.hw.mu 0 _ _ (by show 0 < 3; decide) rfl
    have q2:=hr.hw.mu 2 _ _ (by show 2 < 3; decide) rfl
    rw [hC] at q0 q2
    exact ⟨by rw [hg0]; exact q0.resolve_left (fun h=>h),by rw [hgl]; exact q2.resolve_left (fun h=>h)⟩
   have hword:∀ (i:Nat) y,(x :: rest)[i]?=some y→w1.cell? ⟨gw,i,none⟩=some (.string ⟨y.toArray⟩):=by
    intro i y hy
    rw [hgw,Go.cell_of_row w1 _ i _ _ (0,0) hwd]
    have hi:=(List.getElem?_eq_some_iff.1 hy).1
    simp only [List.getElem?_toArray]
    rw [List.getElem?_append_left (by simpa [zB8] using hi)]
    simp only [zB8,List.getElem?_map]
    rw [show (SC.s x :: List.map SC.s rest)=(x :: rest).map SC.s from rfl,List.getElem?_map,hy]
    rfl
   have hgwl:gw < w1.heap.size:=by rw [hgw]; exact (Array.getElem?_eq_some_iff.1 hwd).1
   have hcm:m≤cp:=by rw [hcp]; exact r1c
   obtain ⟨L,hL⟩:∃ L:List (Nat × TypeId × List SC × Bool),L=[(g0,35,rqS zB5 Rq.zero,true),(gl,75,lnC [] (.v (.slice (some ⟨gw,0,none⟩) m cp)) (b.drop n) 0 false,true)]:=⟨_,rfl⟩
   have hat:At (Two g0 gl) (roL L) (enL L) w1:=by
    rw [hL]
    refine at_list ?_ ?_
    ·intro y hy
     simp only [List.mem_cons,List.not_mem_nil,or_false] at hy
     rcases hy with rfl | rfl
     ·refine ⟨by rw [hg0]; exact k0',by show ¬ (35:Nat)=zC9; decide,?_,fun _=>.inl rfl⟩
      intro y hy
      simp only [rqS,zB5,List.mem_cons,List.not_mem_nil,or_false] at hy
      rcases hy with rfl | rfl | rfl | rfl | rfl | rfl | rfl | rfl | rfl | rfl | rfl <;> trivial
     ·refine ⟨?_,by show ¬ (75:Nat)=zC9; decide,?_,fun _=>.inr rfl⟩
      ·have e1:(SC.rw 1 m).den ρ=.slice (some ⟨gw,0,none⟩) m cp:=by rw [hgw,hcp]; exact zI3 hnl m
       have:zB8 ρ [.s [],.rw 1 m,.s (b.drop n),.i .i64 0,.b false]=zB8 (roL L) (lnC [] (.v (.slice (some ⟨gw,0,none⟩) m cp)) (b.drop n) 0 false):=by
        simp only [zB8,lnC,List.map_cons,List.map_nil,e1]; rfl
       rw [this,hL] at k2'
       rw [hgl]; exact k2'
      ·intro y hy
       simp only [lnC,List.mem_cons,List.not_mem_nil,or_false] at hy
       rcases hy with rfl | rfl | rfl | rfl | rfl <;> trivial
    ·intro i j y z hi hj he
     match i,j,hi,hj with
     | 0,0,_,_=>rfl
     | 1,1,_,_=>rfl
     | 0,1,hi,hj=>simp at hi hj; subst hi; subst hj; exact absurd he n02
     | 1,0,hi,hj=>simp at hi hj; subst hi; subst hj; exact absurd he.symm n02
     | i+2,_,hi,_=>simp at hi
     | 0,j+2,_,hj=>simp at hj
     | 1,j+2,_,hj=>simp at hj
   obtain ⟨C2,hC2⟩:∃ C2:Cx,C2=⟨Tryz.prog,C.Q,Two g0 gl,w1,roL L,2,C.kp,C.df⟩:=⟨_,rfl⟩
   have hr2:Rep C2 (roL L) 80 [(7,.c (.p 1 0)),(5,.c (.i .i64 (n:Int))),(2,.c (.p 0 0))] (enL L) a w1:=by
    have q0:(roL L 0)=⟨g0,[],[],0,none⟩:=by rw [hL]; rfl
    have q1:(roL L 1)=⟨gl,[],[],0,none⟩:=by rw [hL]; rfl
    have hlen:(enL L).length=2:=by rw [hL]; rfl
    rw [hC2]
    refine ⟨⟨hat.hp,hat.ho,hat.inj,Upd.refl _ _,fun c ty cells hc he=>.inl (hat.mu c ty cells hc he),fun _ _=>rfl⟩,?_,hr.sz,hr.df,by show 2≤_; omega⟩
    intro d v hd
    simp only [qy] at hd
    split at hd
    ·rename_i e; subst e; cases hd
     refine ⟨?_,by show 1 < _; omega⟩
     rw [(hr.tm 7 (.c (.p 2 0)) rfl).1]
     show some (zE1 ρ 2 0)=some (zE1 _ 1 0)
     rw [p2,← hgl]; simp [zE1,q1]
    ·split at hd
     ·rename_i e; subst e; cases hd
      exact ⟨(hr.tm 5 (.c (.i .i64 (n:Int))) rfl).1,trivial⟩
     ·split at hd
      ·rename_i e; subst e; cases hd
       refine ⟨?_,by show 0 < _; omega⟩
       rw [(hr.tm 2 (.c (.p 0 0)) rfl).1]
       show some (zE1 ρ 0 0)=some (zE1 _ 0 0)
       rw [p0,← hg0]; simp [zE1,q0]
      ·cases hd
   rw [← zG0 (C:=C) (D:=C2) (by rw [hC2]; exact hP.symm) (by rw [hC2])]
   have hP2:C2.P=Tryz.prog:=by rw [hC2]
   have hk2':C2.kp=kp26:=by rw [hC2]; exact hk
   have hrd:C2.rd gw 0 1=some [.s x]:=rd_of (vs:=[.string ⟨x.toArray⟩]) (by
    intro w' hu j v hv
    have hj:j=0:=by have:=(List.getElem?_eq_some_iff.1 hv).1; simp at this; exact this
    subst hj
    rw [hC2] at hu
    simp only [List.getElem?_cons_zero,Option.some.injEq] at hv
    rw [← hv]
    exact (hu.cell (p:=⟨gw,0+0,none⟩) hgwl (by rintro (e | e); exact n01 e.symm; exact n12 e)).trans (hword 0 x rfl)) rfl
   refine (?_:Run C2 _ 80 _ (enL L)) (roL L) a w1 hr2
   rw [hL]
   have hP':=hP; have hk':=hk
   have hP:=hP2; have hk:=hk2'
   have hctr:=zF8 hP
   obtain ⟨oo,hoo⟩:∃ oo,(if cp=1 then 0 else 0+1)=oo:=⟨_,rfl⟩
   have q1:(0:Int)≤1:=by decide
   have q2:(1:Int)≤(m:Int):=by omega
   have q3:(m:Int)≤(cp:Int):=by omega
   have q4:(0:Int) < (m:Int):=by omega
   (refine zH2 hctr (by rw [hP]; rfl) rs26_11 [] (ensure_type_of% (Cmp.of (by simp (maxSteps := 1000000) only [qK, qO, qP, qQ, qV, qX, qZ, ql, qm, q0t, qv, ev, qy, qz, zC, zD, zE, zF, zG, zM, ↓reduceIte, Value.oneCell', Nat.reduceEqDiff, Nat.reduceAdd, zP, zT, zZ, za, zh, zt, zu, cE, jA, jC, jD, jH, jN, hP, enL, lnC, rqS, zB5, Rq.zero, hrd, Int.toNat_zero, Int.toNat_one, Nat.mul_one, Int.le_refl, hoo, q1, q2, q3, q4]; rfl)) "" Cmp.mk) (by kernel_rfl) (by kernel_rfl) (by first | exact zC7 _ | kernel_rfl) (by kernel_rfl) (by rfl) (by rfl) (by first | exact zB2 _ | rfl) (by rfl) ?_ ?_; rotate_left; refine zA0 hctr (rs := [.tmp 99999]) true 300 _ _ _ ?_; simp (maxSteps := 1000000) only [VT, qH, qI, qK, qO, ev, qw, qy, zG, zI, zJ, ↓reduceIte, reduceCtorEq, Nat.reduceEqDiff, Nat.reduceAdd, Nat.reduceLT, zP, zQ, zR, zt, jN, jO, hk, kp26, noC]; rotate_left; simp (maxSteps := 1000000) only [qK, qO, qP, qQ, qV, qX, qZ, ql, qm, q0t, qv, ev, qy, qz, zC, zD, zE, zG, zM, ↓reduceIte, Value.oneCell', Nat.reduceEqDiff, Nat.reduceAdd, Nat.reduceSub, zP, zT, zh, zn, zt, zu, jD, jH, jN, jP, jQ, jR, jS, jT, hP, hrd, Int.toNat_zero, Int.toNat_one, Nat.mul_one, Int.le_refl, hoo, q1, q2, q3, q4])
   refine zF9 rfl rfl (fun args w=>by rw [hP]; exact Tryz.call43 args w) (fun ρ3 a3 w3 hr3 hwf=>?_)
   have i0:ρ3 0=⟨g0,[],[],0,none⟩:=by rw [hr3.hw.ini 0 (by rw [hC2]; exact Nat.zero_lt_two),hC2,hL]; rfl
   have i1:ρ3 1=⟨gl,[],[],0,none⟩:=by rw [hr3.hw.ini 1 (by rw [hC2]; exact Nat.one_lt_two),hC2,hL]; rfl
   obtain ⟨b0,_⟩:=zE4 (c:=0) hr3.hw.hp hr3.hw.ho (by show 0 < 2; decide) rfl (by decide) (by simp)
   obtain ⟨b1,_⟩:=zE4 (c:=1) hr3.hw.hp hr3.hw.ho (by show 1 < 2; decide) rfl (by decide) (by simp)
   rw [i0] at b0; rw [i1] at b1
   have hup3:Upd (Two g0 gl) w1 w3:=by have:=hr3.hw.up; rw [hC2] at this; exact this
   have hbel:Below w.heap.size w w3:=⟨hup3.os.trans hup1.os,hup3.tape.trans hup1.tape,hup3.output.trans hup1.output,Nat.le_trans hup1.size hup3.size,fun k hk=>(hup3.block k (Nat.lt_of_lt_of_le hk hup1.size) (by rintro (e | e) <;> (have e:k=_:=e; have:=hnew.1; have:=hnew.2; omega))).trans (hup1.block k hk)⟩
   have hwl:(x :: rest).length≤100000:=by rw [← hws]; exact Nat.le_trans (zP7 _ _) hs1
   have hww:∀ y∈x :: rest,y.length≤100000:=fun y hy=>by rw [← hws] at hy; exact Nat.le_trans (wordsF_eachV _ _ y hy) hs1
   have hm2:m - 1=rest.length:=by omega
   have hLn:Ln w3 gl x (some ⟨gw,oo,none⟩) rest.length (cp - 1) rest (b.drop n) 0 false:=by
    refine ⟨by rw [← hm2]; exact b1,?_,Nat.le_refl _,by omega⟩
    intro k y hy
    have hk:=(List.getElem?_eq_some_iff.1 hy).1
    have ho1:oo=1:=by rw [← hoo,if_neg (by omega)]
    refine ⟨gw,oo,rfl,Nat.lt_of_lt_of_le hgwl hup3.size,n12,?_⟩
    rw [ho1]
    exact (hup3.cell (p:=⟨gw,1+k,none⟩) hgwl (by rintro (e | e); exact n01 e.symm; exact n12 e)).trans (hword (1+k) y (by rw [Nat.add_comm]; exact hy))
   have hEG:EnvG gl w3:=⟨w,hE0.env,hnew.2,hbel⟩
   have hread:=read_wV hLn (hww x (by simp)) (by simp at hwl; omega) (fun y hy=>hww y (List.mem_cons_of_mem _ hy)) (by rw [List.length_drop]; omega) hEG
   have hargs:(List.map (SV.den ρ3) [.c (.p 1 0)]).toArray=#[.pointer (some ⟨gl,0,none⟩)]:=by simp [SV.den,SC.den,zE1,i1]
   rw [hP,hargs]
   refine hread.mono ?_
   rintro e w4 ⟨hU4,hm4⟩
   obtain ⟨v,r',more',used',rfl,hrq,hus,hend,hbd⟩:∃ v r' more' used',e=.returned (.tuple #[v,.bool more'])∧ReqV w3.heap.size w4 v r'∧w4.cell? ⟨gl,3,none⟩=some (.int .i64 used')∧zE6 b=(if more'=true then (Rq.zero,0) else (r',(n:Int)+used'))∧(more'=false→0≤used'∧used'≤((b.drop n).length:Int)):=by
    rw [htp]
    cases ho:zJ2 x rest (b.drop n) with
    | fault f =>
     rw [ho] at hm4
     obtain ⟨v,h1,h2,h3⟩:=hm4
     exact ⟨v,zD9 f,false,0,h1,h2,h3,by simp [lineR,ho,endR],fun _=>⟨Int.le_refl _,by omega⟩⟩
    | got r more used =>
     rw [ho] at hm4
     obtain ⟨v,h1,h2,h3⟩:=hm4
     refine ⟨v,r,more,used,h1,h2,h3,?_,fun hmf=>?_⟩
     ·cases more <;> simp [lineR,ho,endR]
     ·subst hmf
      exact (read_pre (r:=[]) ho).2
   obtain ⟨cv,rfl,hcv⟩:=hrq
   obtain ⟨sa,sn,sc,rfl⟩:=zM5 hcv
   refine .inl ⟨_,rfl,?_⟩
   have b0':Blk w4 g0 35 (zB8 (fun _=>zD7 g0) (rqS zB5 Rq.zero)).toArray:=b0.upd hU4 (fun e=>n02 e)
   have hat3:At (One g0) (roL [(g0,35,rqS zB5 Rq.zero,true)]) [⟨(35,0,whole),rqS zB5 Rq.zero,true⟩] w4:=
    at_list (S:=One g0) (l:=[(g0,35,rqS zB5 Rq.zero,true)]) (w:=w4) (fun y hy=>by
     simp only [List.mem_cons,List.not_mem_nil,or_false] at hy
     subst hy
     refine ⟨b0',by show ¬ (35:Nat)=zC9; decide,?_,fun _=>rfl⟩
     intro y hy
     simp only [rqS,zB5,List.mem_cons,List.not_mem_nil,or_false] at hy
     rcases hy with rfl | rfl | rfl | rfl | rfl | rfl | rfl | rfl | rfl | rfl | rfl <;> trivial) (fun i j y z hi hj _=>by
     have h1:=(List.getElem?_eq_some_iff.1 hi).1
     have h2:=(List.getElem?_eq_some_iff.1 hj).1
     simp at h1 h2; omega)
   have q30:roL [(g0,35,rqS zB5 Rq.zero,true)] 0=⟨g0,[],[],0,none⟩:=rfl
   obtain ⟨C3,hC3⟩:∃ C3:Cx,C3=⟨Tryz.prog,C.Q,One g0,w4,roL [(g0,35,rqS zB5 Rq.zero,true)],1,C.kp,C.df⟩:=⟨_,rfl⟩
   have hr4:Rep C3 (roL [(g0,35,rqS zB5 Rq.zero,true)]) 80 [(68,.t [.g (rqS (.v (.slice sa sn sc)) r'),.c (.b more')]),(7,.c (.v (.pointer (some ⟨gl,0,none⟩)))),(5,.c (.i .i64 (n:Int))),(2,.c (.p 0 0))] [⟨(35,0,whole),rqS zB5 Rq.zero,true⟩] (a3.put (some 68) (Value.tuple #[rqA (Value.slice sa sn sc) r',Value.bool more'])) w4:=by
    have hr5:Rep C3 (roL [(g0,35,rqS zB5 Rq.zero,true)]) 80 [(7,.c (.v (.pointer (some ⟨gl,0,none⟩)))),(5,.c (.i .i64 (n:Int))),(2,.c (.p 0 0))] [⟨(35,0,whole),rqS zB5 Rq.zero,true⟩] a3 w4:=by
     rw [hC3]
     refine ⟨⟨hat3.hp,hat3.ho,hat3.inj,Upd.refl _ _,fun c ty cells hc he=>.inl (hat3.mu c ty cells hc he),fun _ _=>rfl⟩,?_,hr3.sz,by rw [hr3.df,hC2],Nat.le_refl _⟩
     intro d v hd
     simp only [qy] at hd
     split at hd
     ·rename_i e; subst e; cases hd
      refine ⟨?_,trivial⟩
      rw [(hr3.tm 7 (.c (.p 1 0)) rfl).1]
      simp [SV.den,SC.den,zE1,i1]
     ·split at hd
      ·rename_i e; subst e; cases hd
       exact ⟨(hr3.tm 5 (.c (.i .i64 (n:Int))) rfl).1,trivial⟩
      ·split at hd
       ·rename_i e; subst e; cases hd
        refine ⟨?_,by show 0 < 1; decide⟩
        rw [(hr3.tm 2 (.c (.p 0 0)) rfl).1]
        simp [SV.den,SC.den,zE1,i0,q30]
       ·cases hd
    exact hr5.put (d:=68) (by decide) (rq_wf2 _ _ _ _)
   rw [← zG0 (C:=C2) (D:=C3) (by rw [hC2,hC3]) (by rw [hC2,hC3])]
   have hP3:C3.P=Tryz.prog:=by rw [hC3]
   have hk3:C3.kp=kp26:=by rw [hC3]; exact hk'
   have hS3:C3.S=One g0:=by rw [hC3]
   have hw03:C3.w0=w4:=by rw [hC3]
   have hrd3:C3.rd gl 3 1=some [.i .i64 used']:=rd_of (vs:=[.int .i64 used']) (by
    intro w' hu j v hv
    have hj:j=0:=by have:=(List.getElem?_eq_some_iff.1 hv).1; simp at this; exact this
    subst hj
    rw [hS3,hw03] at hu
    simp only [List.getElem?_cons_zero,Option.some.injEq] at hv
    rw [← hv]
    have hlt:gl < w4.heap.size:=by have:=hLn.blk.lt; have:=hU4.size; omega
    exact (hu.cell (p:=⟨gl,3+0,none⟩) hlt (fun e=>n02 (show gl=g0 from e).symm)).trans hus) rfl
   refine (?_:Run C3 _ 80 _ _) _ _ w4 hr4
   clear hr4
   have hP:=hP3; have hk:=hk3
   have hctr:=zF8 hP
   have hCtx:Ctx C3 Tryz.prog Tryz.f26 (PPost w (zE6 b)):=⟨hP3,fun a w h=>by rw [hC3]; show C.Q .ret a w; rw [hQ]; exact h,by rw [hC3]; exact hdf⟩
   have hbel4:∀ w5,Upd (One g0) w4 w5→Below w.heap.size w w5:=fun w5 hu=>by
    have h1:Upd Non w w5:=by
     refine Upd.trans (Upd.trans (Upd.of_below hbel) hU4 ?_) hu ?_
     ·intro k hk e; have e:k=gl:=e; have:=hnew.2; omega
     ·intro k hk e; have e:k=g0:=e; have:=hnew.1; omega
    exact h1.to_below
   cases more' with
   | true =>
    (refine zA0 hctr (rs:=res26) true 300 _ _ _ ?_; simp (maxSteps:=1000000) only [VT,jf,qE,qF,qG,qH,qI,qJ,qK,qO,qP,qf,qg,qh,q0t,qu,qv,ev,qy,qz,zA,zB,zC,zD,zE,zF,zG,zI,zJ,TE.sv,zM,↓reduceIte,reduceCtorEq,Value.oneCell',Nat.reduceEqDiff,Nat.reduceAdd,Nat.reduceLT,zP,zQ,zR,zV,zt,hP,hk,res26,kp26,rqS,zB5,Rq.zero])
    refine zR5 (v:=.t [.g (rqS zB5 Rq.zero),.c (.i .i64 0)]) hCtx hres26 fun ρ5 w5 hw5 _ _=>?_
    have hu5:=hw5.up
    rw [hS3,hw03] at hu5
    rw [hend]
    exact ⟨hbel4 w5 hu5,_,rfl,_,rfl,.inl ⟨rfl,rfl⟩⟩
   | false =>
    obtain ⟨u0,u1⟩:=hbd rfl
    have ww:IntKind.i64.wrap ((n:Int)+used')=(n:Int)+used':=IntWalk.i64_in _ (by rw [List.length_drop] at u1; omega)
    (refine zA0 hctr (rs:=res26) true 300 _ _ _ ?_; simp (maxSteps:=1000000) only [VT,jg,qH,qI,qJ,qK,qO,qh,q0t,qu,qv,ev,qy,zC,zD,zE,zF,zG,zI,zJ,TE.sv,zM,↓reduceIte,reduceCtorEq,Value.oneCell',Nat.reduceEqDiff,Nat.reduceAdd,Nat.reduceLT,zP,zQ,zR,zW,zt,hP,hk,res26,kp26,rqS,zB5,Rq.zero])
    (refine zH2 hctr (by rw [hP]; rfl) rs26_15 [] (ensure_type_of% (Cmp.of (by simp (maxSteps := 1000000) only [qK, qO, qP, qQ, qR, qS, qV, q0t, qu, qv, ev, qy, zA, zB, zC, zD, zE, zF, zG, zM, ↓reduceIte, Value.oneCell', Nat.reduceEqDiff, Nat.reduceAdd, zP, zt, cE, jA, jC, jD, jH, jN, hP, hrd3, ww, Nat.reduceAdd]; rfl)) "" Cmp.mk) (by kernel_rfl) (by kernel_rfl) (by first | exact zC7 _ | kernel_rfl) (by kernel_rfl) (by rfl) (by rfl) (by first | exact zB2 _ | rfl) (by rfl) ?_ ?_; rotate_left; refine zA0 hctr (rs := res26) true 300 _ _ _ ?_; simp (maxSteps := 1000000) only [VT, qE, qF, qG, qP, qy, zA, zB, zD, zG, zI, zJ, zM, ↓reduceIte, reduceCtorEq, Nat.reduceEqDiff, Nat.reduceAdd, zP, zQ, zt, jN, jO, hP, hk, res26, kp26, Nat.reduceAdd]; rotate_left; simp (maxSteps := 1000000) only [qK, qO, qP, qQ, qR, qS, qV, q0t, qu, qv, ev, qy, zA, zB, zC, zD, zE, zG, zM, ↓reduceIte, Value.oneCell', Nat.reduceEqDiff, Nat.reduceAdd, Nat.reduceSub, zP, zT, zn, zt, jD, jH, jN, jP, jQ, jR, jS, jT, hP, hrd3, ww, Nat.reduceAdd])
    refine zR5 (v:=.t [.g (rqS (.v (.slice sa sn sc)) r'),.c (.i .i64 ((n:Int)+used'))]) hCtx hres26 fun ρ5 w5 hw5 _ _=>?_
    have hu5:=hw5.up
    rw [hS3,hw03] at hu5
    rw [hend]
    refine ⟨hbel4 w5 hu5,_,rfl,_,rfl,?_⟩
    rcases hcv with hcv | ⟨h0,gc,cap,rst,m1,m2,m3,m4⟩
    ·exact .inl hcv
    ·refine .inr ⟨h0,gc,cap,rst,m1,?_,?_,m4⟩
     ·have:=hbel.size; omega
     ·rw [hu5.block gc (Array.getElem?_eq_some_iff.1 m3).1 (fun e=>by have e:gc=g0:=e; have hb0:g0 < w3.heap.size:=b0.lt; omega)]
      exact m3
end Go.Proofs.YtcbmlanpianclaaGreatDoor
/- Requests of either protocol, as a walk hands them back. -/
namespace Go.Proofs.YtcbmlanpianclaaGreatDoor
set_option linter.unusedSimpArgs false
set_option linter.unusedVariables false
open Go.RowKit
set_option maxRecDepth 100000
def gqA (cv fv:Value) (r:Gq):Value:=.agg #[.int .i64 r.kind,cv,.bool r.quiet,.bool r.tokens,.string ⟨r.reply.toArray⟩,.string ⟨r.arg.toArray⟩,.int .i64 r.skip,.bool r.close,.string ⟨r.name.toArray⟩,fv,.string ⟨r.word.toArray⟩]
def gqS (cv fl:SC) (r:Gq):List SC:=[.i .i64 r.kind,cv,.b r.quiet,.b r.tokens,.s r.reply,.s r.arg,.i .i64 r.skip,.b r.close,.s r.name,fl,.s r.word]
def GqV (b:Nat) (w':World) (v:Value) (r:Gq):Prop:=
 ∃ r1 r2:RE,v=gqA (zL3 r1 r.cmds.length) (zL3 r2 r.flags.length) r∧RowOk b w' r1 52 16 r.cmds.length (ecV r.cmds)∧RowOk b w' r2 9 1 r.flags.length (r.flags.map encW)∧(r1.nl=none→r2.nl=none→r1.blk ≠ r2.blk)
theorem GqV.none {b:Nat} {w':World} {r:Gq} (h1:r.cmds=[]) (h2:r.flags=[]):GqV b w' (gqA (.slice none 0 0) (.slice none 0 0) r) r:=by
 refine ⟨nilR b,nilR b,by rw [h1,h2]; rfl,by rw [h1]; exact RowOk.nil _ _ _ _,by rw [h2]; exact RowOk.nil _ _ _ _,fun h=>by cases h⟩
theorem GqV.ofM {b:Nat} {w':World} {v:Value} {r:Mq} (h:MqV b w' v r):GqV b w' v (gqM r):=by
 obtain ⟨r1,r2,h1,h2,h3,h4⟩:=h
 exact ⟨r1,r2,h1,h2,h3,h4⟩
theorem GqV.ofT {b:Nat} {w':World} {v:Value} {r:Rq} (h:ReqV b w' v r):GqV b w' v (gqT r):=by
 obtain ⟨cv,rfl,hcv⟩:=h
 rcases hcv with ⟨h0,rfl⟩ | ⟨h0,g,cap,rest,rfl,h1,h2,h3,h4,h5⟩
 ·refine ⟨nilR b,nilR b,?_,?_,RowOk.nil _ _ _ _,fun h=>by cases h⟩
  ·show rqA _ r=gqA (zL3 (nilR b) r.cmds.length) _ _
   rw [h0]; rfl
  ·show RowOk _ _ _ _ _ r.cmds.length (ecV r.cmds)
   rw [h0]; exact RowOk.nil _ _ _ _
 ·have hl:(ecV r.cmds).length=r.cmds.length * 16:=by
   rw [← zE7 (fun _=>zG7 0),zD1]
   exact zP9 ecS_len _
  have hv:r.cmds.flatMap rcA=ecV r.cmds:=rfl
  rw [hv] at h2 h3
  refine ⟨⟨g,[],rest,cap,Option.none⟩,nilR b,rfl,⟨h1,⟨hl,.inl ⟨rfl,rfl,?_,h4,h5⟩⟩,fun _=>h2,fun h=>absurd rfl h⟩,RowOk.nil _ _ _ _,fun _ h=>by cases h⟩
  show (ecV r.cmds).length+rest.length=cap * 16
  rw [← h3,List.length_append]
def cmG (r:Gq):EN:=rwE 52 16 r.cmds.length (zC2 ecS r.cmds)
def flG (r:Gq):EN:=rwE 9 1 r.flags.length (r.flags.map SC.s)
def gqZ (r:Gq) (N:Nat):List SC:=gqS (.rw N r.cmds.length) (.rw (N+1) r.flags.length) r
theorem gqR_wf {pr:Nat→Prop} {r:Gq} {N:Nat} (h1:pr N) (h2:pr (N+1)):wfs pr (gqZ r N):=by
 intro z hz
 simp only [gqZ,gqS,List.mem_cons,List.not_mem_nil,or_false] at hz
 rcases hz with rfl | rfl | rfl | rfl | rfl | rfl | rfl | rfl | rfl | rfl | rfl
 case inr.inl=>exact h1
 case inr.inr.inr.inr.inr.inr.inr.inr.inr.inl=>exact h2
 all_goals trivial
def GPost (w:World) (x:Gq × Int) (e:Ending) (w':World):Prop:=Below w.heap.size w w'∧∃ v,e=.returned (.tuple #[v,.int .i64 x.2])∧GqV w.heap.size w' v x.1
def pgV (x:Gq × Int) (N:Nat):SV:=.t [.g (gqZ x.1 N),.c (.i .i64 x.2)]
theorem zK5 {C:Cx} {nE N:Nat} {mk:Nat→Prop} {en en':List EN} {f:FuncId} {ys:List SV} {x:Gq × Int} (hP:C.P=Tryz.prog) (hent:∀ args w,(callFunc f args).run Tryz.prog w=.ok (.enter f args) w)
  (H:∀ (ρ:Nat→RE) w,Upd C.S C.w0 w→Calls Tryz.prog f (ys.map (SV.den ρ)).toArray w (GPost w x)) (hmk:∀ q,mk q ↔ q=N∨q=N+1) (hn0:C.n0≤N) (hN:zD en' N=some (cmG x.1)) (hM:zD en' (N+1)=some (flG x.1)) (hq:∀ q,q ≠ N→q ≠ N+1→zD en' q=zD en q) :
  zJ0 C nE mk en en' f ys (pgV x N):=by
 refine zX6 (N:=N) (M:=N+1) (e1:=cmG x.1) (e2:=flG x.1) (vals1:=ecV x.1.cmds) (vals2:=x.1.flags.map encW) (fun args w=>by rw [hP]; exact hent args w) hmk (by omega) hn0 (by omega) hN hM hq (by show ¬ (52:Nat)=zC9; decide) (by show ¬ (9:Nat)=zC9; decide) (fun ρ=>zE7 ρ _) (fun ρ=>zF4 ρ _) (fun pr=>ec_wf pr _) (fun pr=>st_wf pr _) (fun pr h1 h2=>?_) ?_
 ·intro y hy
  simp only [List.mem_cons,List.not_mem_nil,or_false] at hy
  rcases hy with rfl | rfl
  ·exact gqR_wf h1 h2
  ·trivial
 ·intro ρ pr w hw _ _
  rw [hP]
  refine (H ρ w hw.up).mono ?_
  rintro z w' ⟨hbl,v,rfl,r1,r2,rfl,m1,m2,m3⟩
  refine ⟨r1,r2,m1.made (fun ρ=>zE7 ρ _),m2.made (fun ρ=>zF4 ρ _),m3,fun ρ' _ e1 e2=>?_,hbl⟩
  rw [← e1,← e2]; rfl
theorem EnvT.toV {w:World} (h:EnvT w):EnvTV w:=⟨h.env,h.max⟩
theorem tparse_g {b:List UInt8} {w:World} (hb:b.length≤9223372036854775807) (hE:EnvT w):Calls Tryz.prog 26 #[.string ⟨b.toArray⟩] w (GPost w (gqT (zE6 b).1,(zE6 b).2)):=by
 refine (parse_w b hb w hE.toV).mono ?_
 rintro z w' ⟨hbl,v,rfl,h⟩
 exact ⟨hbl,v,rfl,GqV.ofT h⟩
theorem mparse_g {b:List UInt8} {w:World} (hb:b.length≤9223372036854775807) (hE:EnvT w):Calls Tryz.prog 25 #[.string ⟨b.toArray⟩] w (GPost w (gqM (zE9 b).1,(zE9 b).2)):=by
 refine (mparse_w b hb w hE).mono ?_
 rintro z w' ⟨hbl,v,rfl,h⟩
 exact ⟨hbl,v,rfl,GqV.ofM h⟩
end Go.Proofs.YtcbmlanpianclaaGreatDoor
/- The document's mode, argument, walked. Printed by gen_edoc3.py. -/
namespace Go.Proofs.YtcbmlanpianclaaGreatDoor
set_option linter.unusedSimpArgs false
set_option linter.unusedVariables false
set_option maxHeartbeats 8000000
open Go.RowKit
set_option maxRecDepth 100000
def rowHasD:List SV→Option (Prop × SV)
 | [.c (.s l),.c (.i .u8 n)]=>some (0≤n∧n < 256∧l.length≤9223372036854775806,.c (.b (l.contains (UInt8.ofNat n.toNat))))
 | _=>none
def zC4:List SV→Option (Prop × SV)
 | [.c (.s l)]=>some (l.length≤9223372036854775807,.t [.c (.i .i64 (zD2 l).1),.c (.b (zD2 l).2)])
 | _=>none
def dA0:Ctr:=fun f en xs=>match f with
 | 104=>rowHasD xs
 | 72=>zC4 xs
 | _=>dG0 f en xs
theorem dA0_ok {C:Cx} (hP:C.P=Tryz.prog):zC1 C dA0:=by
 intro f en xs p v h hp ρ w hup hHp hHo hinj hwf
 unfold dA0 at h
 split at h
 ·rw [hP]
  refine ⟨fun args w=>Tryz.call104 args w,?_⟩
  unfold rowHasD at h
  split at h <;> simp only [Option.some.injEq,Prod.mk.injEq,reduceCtorEq] at h
  rename_i l n
  obtain ⟨rfl,rfl⟩:=h
  have hn:n=((UInt8.ofNat n.toNat).toNat:Int):=by
   rw [UInt8.toNat_ofNat',Nat.mod_eq_of_lt (by omega)]; omega
  have:=dhas_w l (UInt8.ofNat n.toNat) hp.2.2 w
  rw [← hn] at this
  exact ⟨trivial,this⟩
 ·rw [hP]
  refine ⟨fun args w=>Tryz.call72 args w,?_⟩
  unfold zC4 at h
  split at h <;> simp only [Option.some.injEq,Prod.mk.injEq,reduceCtorEq] at h
  obtain ⟨rfl,rfl⟩:=h
  exact ⟨by simp [SV.wf,TE.wf,SC.wf],dsecs_w _ hp w⟩
 ·exact zR4 hP f en xs p v h hp ρ w hup hHp hHo hinj hwf
def zM1 (c:Cd) (s:List UInt8):Cd × Bool:=match s with
 | [x]=>if c.op=3 then ({ c with down:=[68,100,45].contains x },[73,105,43,68,100,45].contains x)
  else if x=83∨x=115 then ({ c with mode:=0 },true)
  else if x=69∨x=101 then ({ c with mode:=1 },true)
  else if x=65∨x=97 then ({ c with mode:=3 },true)
  else if x=80∨x=112 then ({ c with mode:=4 },true)
  else if x=82∨x=114 then ({ c with mode:=2 },true)
  else (c,false)
 | _=>(c,false)
theorem dmode_w {w:World} {g:Nat} {c:Cd} (h:Blk w g 52 (ecA c)) (s:List UInt8) :
  Calls Tryz.prog 124 #[.pointer (some ⟨g,0,none⟩),.string ⟨s.toArray⟩] w (SetP g w (zM1 c s)):=by
 refine zA1 Tryz.func124 rfl kp124 (S:=One g) (ρ:=fun _=>zG7 g) [.c (.p 0 0),.c (.s s)] Tryz.ntmps124 (ec_at h true (One g) (fun _=>rfl)) (by simp [SV.wf,SC.wf]) (by simp) ?_
 intro C hC hP hk
 have hctr:=dA0_ok hP
 have fin:∀ c' b,(c',b)=zM1 c s→Fin C res124 (.c (.b b)) [enC c' true]:=fun c' b e=>set_fin (by rw [hC]; rfl) hres124 e
 by_cases h1:∃ x,s=[x]
 ·obtain ⟨x,rfl⟩:=h1
  have cl:(((1:Nat):Int) != 1)=false:=rfl
  have x0:(0:Int)≤(x.toNat:Int):=by omega
  have x1:(x.toNat:Int) < 256:=by have:=x.toNat_lt; omega
  have g0:(0:Int)≤0:=by decide
  have g1:(0:Int) < ((1:Nat):Int):=by decide
  have hgd:([x]:List UInt8).getD (0:Int).toNat 0=x:=rfl
  by_cases h3:c.op=3
  ·have c3:(c.op == 3)=true:=by rw [h3]; rfl
   (refine zA0 hctr (rs:=res124) true 300 _ _ _ ?_; simp (maxSteps:=1000000) only [VT,jf,jg,qE,qF,qG,qH,qI,qJ,qK,qN,qO,qP,qQ,qR,qS,qV,qY,qe,q0t,qv,ev,qw,qy,qz,zC,zD,zE,zG,zI,zJ,TE.sv,zK,zM,↓reduceIte,reduceCtorEq,Nat.reduceEqDiff,Nat.reduceAdd,Nat.reduceLT,Nat.reduceLeDiff,zP,zQ,zR,zT,zV,zW,zh,zk,zl,zt,zu,hP,hk,res124,kp124,dA0,rowHasD,enC,ecS,cl,g0,g1,hgd,x0,x1,UInt8.ofNat_toNat,Nat.reduceAdd,c3])
   repeat (refine ⟨by first | decide | omega | (simp only [List.length_append,List.length_cons,List.length_nil]; omega),?_⟩)
   exact fin { c with down:=[68,100,45].contains x } _ (by simp only [zM1,if_pos h3])
  have c3:(c.op == 3)=false:=by simpa using h3
  by_cases n0:x=83
  ·have e0:((x.toNat:Int) == 83)=true:=zK1 (k:=83) (by decide) n0
   (refine zA0 hctr (rs:=res124) true 300 _ _ _ ?_; simp (maxSteps:=1000000) only [VT,jf,jg,qE,qF,qG,qH,qI,qJ,qK,qN,qO,qP,qQ,qR,qS,qV,qY,qe,q0t,qv,ev,qy,qz,zC,zD,zE,zG,zI,zJ,TE.sv,zK,zM,↓reduceIte,reduceCtorEq,Nat.reduceEqDiff,Nat.reduceLT,zP,zQ,zR,zT,zV,zW,zk,zl,zt,zu,hP,hk,res124,kp124,enC,ecS,cl,g0,g1,hgd,c3,e0])
   repeat (refine ⟨by first | decide | omega | (simp only [List.length_append,List.length_cons,List.length_nil]; omega),?_⟩)
   exact fin { c with mode:=0 } _ (by simp only [zM1]; rw [if_neg h3,if_pos (Or.inl n0)])
  have d0:((x.toNat:Int) == 83)=false:=zK0 (k:=83) n0
  by_cases m0:x=115
  ·have e0:((x.toNat:Int) == 115)=true:=zK1 (k:=115) (by decide) m0
   (refine zA0 hctr (rs:=res124) true 300 _ _ _ ?_; simp (maxSteps:=1000000) only [VT,jf,jg,qE,qF,qG,qH,qI,qJ,qK,qN,qO,qP,qQ,qR,qS,qV,qY,qe,q0t,qv,ev,qy,qz,zC,zD,zE,zG,zI,zJ,TE.sv,zK,zM,↓reduceIte,reduceCtorEq,Nat.reduceEqDiff,Nat.reduceLT,zP,zQ,zR,zT,zV,zW,zk,zl,zt,zu,hP,hk,res124,kp124,enC,ecS,cl,g0,g1,hgd,c3,d0,e0])
   repeat (refine ⟨by first | decide | omega | (simp only [List.length_append,List.length_cons,List.length_nil]; omega),?_⟩)
   exact fin { c with mode:=0 } _ (by simp only [zM1]; rw [if_neg h3,if_pos (Or.inr m0)])
  have f0:((x.toNat:Int) == 115)=false:=zK0 (k:=115) m0
  by_cases n1:x=69
  ·have e1:((x.toNat:Int) == 69)=true:=zK1 (k:=69) (by decide) n1
   (refine zA0 hctr (rs:=res124) true 300 _ _ _ ?_; simp (maxSteps:=1000000) only [VT,jf,jg,qE,qF,qG,qH,qI,qJ,qK,qN,qO,qP,qQ,qR,qS,qV,qY,qe,q0t,qv,ev,qy,qz,zC,zD,zE,zG,zI,zJ,TE.sv,zK,zM,↓reduceIte,reduceCtorEq,Nat.reduceEqDiff,Nat.reduceLT,zP,zQ,zR,zT,zV,zW,zk,zl,zt,zu,hP,hk,res124,kp124,enC,ecS,cl,g0,g1,hgd,c3,d0,f0,e1])
   repeat (refine ⟨by first | decide | omega | (simp only [List.length_append,List.length_cons,List.length_nil]; omega),?_⟩)
   exact fin { c with mode:=1 } _ (by simp only [zM1]; rw [if_neg h3,if_neg (fun h=>h.elim n0 m0),if_pos (Or.inl n1)])
  have d1:((x.toNat:Int) == 69)=false:=zK0 (k:=69) n1
  by_cases m1:x=101
  ·have e1:((x.toNat:Int) == 101)=true:=zK1 (k:=101) (by decide) m1
   (refine zA0 hctr (rs:=res124) true 300 _ _ _ ?_; simp (maxSteps:=1000000) only [VT,jf,jg,qE,qF,qG,qH,qI,qJ,qK,qN,qO,qP,qQ,qR,qS,qV,qY,qe,q0t,qv,ev,qy,qz,zC,zD,zE,zG,zI,zJ,TE.sv,zK,zM,↓reduceIte,reduceCtorEq,Nat.reduceEqDiff,Nat.reduceLT,zP,zQ,zR,zT,zV,zW,zk,zl,zt,zu,hP,hk,res124,kp124,enC,ecS,cl,g0,g1,hgd,c3,d0,f0,d1,e1])
   repeat (refine ⟨by first | decide | omega | (simp only [List.length_append,List.length_cons,List.length_nil]; omega),?_⟩)
   exact fin { c with mode:=1 } _ (by simp only [zM1]; rw [if_neg h3,if_neg (fun h=>h.elim n0 m0),if_pos (Or.inr m1)])
  have f1:((x.toNat:Int) == 101)=false:=zK0 (k:=101) m1
  by_cases n2:x=65
  ·have e2:((x.toNat:Int) == 65)=true:=zK1 (k:=65) (by decide) n2
   (refine zA0 hctr (rs:=res124) true 300 _ _ _ ?_; simp (maxSteps:=1000000) only [VT,jf,jg,qE,qF,qG,qH,qI,qJ,qK,qN,qO,qP,qQ,qR,qS,qV,qY,qe,q0t,qv,ev,qy,qz,zC,zD,zE,zG,zI,zJ,TE.sv,zK,zM,↓reduceIte,reduceCtorEq,Nat.reduceEqDiff,Nat.reduceLT,zP,zQ,zR,zT,zV,zW,zk,zl,zt,zu,hP,hk,res124,kp124,enC,ecS,cl,g0,g1,hgd,c3,d0,f0,d1,f1,e2])
   repeat (refine ⟨by first | decide | omega | (simp only [List.length_append,List.length_cons,List.length_nil]; omega),?_⟩)
   exact fin { c with mode:=3 } _ (by simp only [zM1]; rw [if_neg h3,if_neg (fun h=>h.elim n0 m0),if_neg (fun h=>h.elim n1 m1),if_pos (Or.inl n2)])
  have d2:((x.toNat:Int) == 65)=false:=zK0 (k:=65) n2
  by_cases m2:x=97
  ·have e2:((x.toNat:Int) == 97)=true:=zK1 (k:=97) (by decide) m2
   (refine zA0 hctr (rs:=res124) true 300 _ _ _ ?_; simp (maxSteps:=1000000) only [VT,jf,jg,qE,qF,qG,qH,qI,qJ,qK,qN,qO,qP,qQ,qR,qS,qV,qY,qe,q0t,qv,ev,qy,qz,zC,zD,zE,zG,zI,zJ,TE.sv,zK,zM,↓reduceIte,reduceCtorEq,Nat.reduceEqDiff,Nat.reduceLT,zP,zQ,zR,zT,zV,zW,zk,zl,zt,zu,hP,hk,res124,kp124,enC,ecS,cl,g0,g1,hgd,c3,d0,f0,d1,f1,d2,e2])
   repeat (refine ⟨by first | decide | omega | (simp only [List.length_append,List.length_cons,List.length_nil]; omega),?_⟩)
   exact fin { c with mode:=3 } _ (by simp only [zM1]; rw [if_neg h3,if_neg (fun h=>h.elim n0 m0),if_neg (fun h=>h.elim n1 m1),if_pos (Or.inr m2)])
  have f2:((x.toNat:Int) == 97)=false:=zK0 (k:=97) m2
  by_cases n3:x=80
  ·have e3:((x.toNat:Int) == 80)=true:=zK1 (k:=80) (by decide) n3
   (refine zA0 hctr (rs:=res124) true 300 _ _ _ ?_; simp (maxSteps:=1000000) only [VT,jf,jg,qE,qF,qG,qH,qI,qJ,qK,qN,qO,qP,qQ,qR,qS,qV,qY,qe,q0t,qv,ev,qy,qz,zC,zD,zE,zG,zI,zJ,TE.sv,zK,zM,↓reduceIte,reduceCtorEq,Nat.reduceEqDiff,Nat.reduceLT,zP,zQ,zR,zT,zV,zW,zk,zl,zt,zu,hP,hk,res124,kp124,enC,ecS,cl,g0,g1,hgd,c3,d0,f0,d1,f1,d2,f2,e3])
   repeat (refine ⟨by first | decide | omega | (simp only [List.length_append,List.length_cons,List.length_nil]; omega),?_⟩)
   exact fin { c with mode:=4 } _ (by simp only [zM1]; rw [if_neg h3,if_neg (fun h=>h.elim n0 m0),if_neg (fun h=>h.elim n1 m1),if_neg (fun h=>h.elim n2 m2),if_pos (Or.inl n3)])
  have d3:((x.toNat:Int) == 80)=false:=zK0 (k:=80) n3
  by_cases m3:x=112
  ·have e3:((x.toNat:Int) == 112)=true:=zK1 (k:=112) (by decide) m3
   (refine zA0 hctr (rs:=res124) true 300 _ _ _ ?_; simp (maxSteps:=1000000) only [VT,jf,jg,qE,qF,qG,qH,qI,qJ,qK,qN,qO,qP,qQ,qR,qS,qV,qY,qe,q0t,qv,ev,qy,qz,zC,zD,zE,zG,zI,zJ,TE.sv,zK,zM,↓reduceIte,reduceCtorEq,Nat.reduceEqDiff,Nat.reduceLT,zP,zQ,zR,zT,zV,zW,zk,zl,zt,zu,hP,hk,res124,kp124,enC,ecS,cl,g0,g1,hgd,c3,d0,f0,d1,f1,d2,f2,d3,e3])
   repeat (refine ⟨by first | decide | omega | (simp only [List.length_append,List.length_cons,List.length_nil]; omega),?_⟩)
   exact fin { c with mode:=4 } _ (by simp only [zM1]; rw [if_neg h3,if_neg (fun h=>h.elim n0 m0),if_neg (fun h=>h.elim n1 m1),if_neg (fun h=>h.elim n2 m2),if_pos (Or.inr m3)])
  have f3:((x.toNat:Int) == 112)=false:=zK0 (k:=112) m3
  by_cases n4:x=82
  ·have e4:((x.toNat:Int) == 82)=true:=zK1 (k:=82) (by decide) n4
   (refine zA0 hctr (rs:=res124) true 300 _ _ _ ?_; simp (maxSteps:=1000000) only [VT,jf,jg,qE,qF,qG,qH,qI,qJ,qK,qN,qO,qP,qQ,qR,qS,qV,qY,qe,q0t,qv,ev,qy,qz,zC,zD,zE,zG,zI,zJ,TE.sv,zK,zM,↓reduceIte,reduceCtorEq,Nat.reduceEqDiff,Nat.reduceLT,zP,zQ,zR,zT,zV,zW,zk,zl,zt,zu,hP,hk,res124,kp124,enC,ecS,cl,g0,g1,hgd,c3,d0,f0,d1,f1,d2,f2,d3,f3,e4])
   repeat (refine ⟨by first | decide | omega | (simp only [List.length_append,List.length_cons,List.length_nil]; omega),?_⟩)
   exact fin { c with mode:=2 } _ (by simp only [zM1]; rw [if_neg h3,if_neg (fun h=>h.elim n0 m0),if_neg (fun h=>h.elim n1 m1),if_neg (fun h=>h.elim n2 m2),if_neg (fun h=>h.elim n3 m3),if_pos (Or.inl n4)])
  have d4:((x.toNat:Int) == 82)=false:=zK0 (k:=82) n4
  by_cases m4:x=114
  ·have e4:((x.toNat:Int) == 114)=true:=zK1 (k:=114) (by decide) m4
   (refine zA0 hctr (rs:=res124) true 300 _ _ _ ?_; simp (maxSteps:=1000000) only [VT,jf,jg,qE,qF,qG,qH,qI,qJ,qK,qN,qO,qP,qQ,qR,qS,qV,qY,qe,q0t,qv,ev,qy,qz,zC,zD,zE,zG,zI,zJ,TE.sv,zK,zM,↓reduceIte,reduceCtorEq,Nat.reduceEqDiff,Nat.reduceLT,zP,zQ,zR,zT,zV,zW,zk,zl,zt,zu,hP,hk,res124,kp124,enC,ecS,cl,g0,g1,hgd,c3,d0,f0,d1,f1,d2,f2,d3,f3,d4,e4])
   repeat (refine ⟨by first | decide | omega | (simp only [List.length_append,List.length_cons,List.length_nil]; omega),?_⟩)
   exact fin { c with mode:=2 } _ (by simp only [zM1]; rw [if_neg h3,if_neg (fun h=>h.elim n0 m0),if_neg (fun h=>h.elim n1 m1),if_neg (fun h=>h.elim n2 m2),if_neg (fun h=>h.elim n3 m3),if_pos (Or.inr m4)])
  have f4:((x.toNat:Int) == 114)=false:=zK0 (k:=114) m4
  (refine zA0 hctr (rs:=res124) true 300 _ _ _ ?_; simp (maxSteps:=1000000) only [VT,jg,qE,qF,qG,qH,qI,qK,qN,qO,qP,qQ,qR,qS,qV,qY,qe,ev,qy,qz,zD,zI,zJ,TE.sv,zK,zM,↓reduceIte,reduceCtorEq,Nat.reduceEqDiff,Nat.reduceLT,zP,zQ,zR,zT,zW,zk,zl,zt,zu,hP,hk,res124,kp124,enC,ecS,cl,g0,g1,hgd,c3,d0,f0,d1,f1,d2,f2,d3,f3,d4,f4])
  repeat (refine ⟨by first | decide | omega | (simp only [List.length_append,List.length_cons,List.length_nil]; omega),?_⟩)
  exact fin c _ (by simp only [zM1]; rw [if_neg h3,if_neg (fun h=>h.elim n0 m0),if_neg (fun h=>h.elim n1 m1),if_neg (fun h=>h.elim n2 m2),if_neg (fun h=>h.elim n3 m3),if_neg (fun h=>h.elim n4 m4)])
 ·have c0:((s.length:Int) != 1)=true:=by
   rw [bne_iff_ne]; intro e
   match s,h1,e with
   | [x],h1,_=>exact h1 ⟨x,rfl⟩
   | [],_,e=>simp at e
   | _ :: _ :: _,_,e=>simp at e; omega
  (refine zA0 hctr (rs:=res124) true 300 _ _ _ ?_; simp (maxSteps:=1000000) only [VT,jf,qE,qF,qG,qH,qI,qK,qN,qO,qR,qS,qe,ev,qy,qz,zI,zJ,TE.sv,zK,zM,↓reduceIte,reduceCtorEq,Nat.reduceEqDiff,Nat.reduceLT,zP,zQ,zR,zV,zt,hP,hk,res124,kp124,enC,ecS,c0])
  exact fin c _ (by unfold zM1; split <;> first | exact absurd ⟨_,rfl⟩ h1 | rfl)
theorem dmode_h {C:Cx} {nE:Nat} {mk:Nat→Prop} {en en':List EN} {N:Nat} {c:Cd} {s:List UInt8} (hP:C.P=Tryz.prog) (hE:EnvC C) (h0:zD en N=some (enC c true)) (hN:N < nE) (hmk:∀ q,¬ mk q) (hen:en'=zE en N (enC (zM1 c s).1 true)) :
  zJ0 C nE mk en en' 124 [.c (.p N 0),.c (.s s)] (.c (.b (zM1 c s).2)):=
 setl_h hP hE h0 hN hmk (fun args w=>Tryz.call124 args w) (fun ρ w g hb hu he=>dmode_w hb s) hen
def zY1 (c:Cd) (x:UInt8) (s:List UInt8):Cd × Bool:=
 if x=73 then ({ c with inval:=true },s == [])
 else if x=67 then ({ c with cas:=(zT8 s).1,hasCas:=true },(zT8 s).2)
 else if x=68 then ({ c with delta:=(zT8 s).1 },(zT8 s).2)
 else if x=74 then ({ c with init:=(zT8 s).1 },(zT8 s).2)
 else if x=70 then ({ c with flags:=IntKind.u32.wrap (zT8 s).1 },(zT8 s).2 && decide ((zT8 s).1 < 4294967296))
 else if x=77 then zM1 c s
 else if x=78 then ({ c with viv:=true,vive:=(zD2 s).1 },(zD2 s).2)
 else if x=79 then (c,decide ((1:Int)≤s.length) && decide ((s.length:Int)≤32))
 else if x=82 then ({ c with recache:=(zD2 s).1 },(zD2 s).2)
 else if x=84 then ({ c with hasExp:=c.op != 2,exp:=(zD2 s).1 },(zD2 s).2)
 else (c,s == [])
theorem darg_w {w:World} {g:Nat} {c:Cd} (h:Blk w g 52 (ecA c)) (x:UInt8) (s:List UInt8) (hl:s.length≤9223372036854775806) (hE:Env w) (hEg:∀ w',Upd (One g) w w'→Env w') :
  Calls Tryz.prog 105 #[.pointer (some ⟨g,0,none⟩),.int .u8 x.toNat,.string ⟨s.toArray⟩] w (SetP g w (zY1 c x s)):=by
 refine zA1 Tryz.func105 rfl kp105 (S:=One g) (ρ:=fun _=>zG7 g) [.c (.p 0 0),.c (.i .u8 x.toNat),.c (.s s)] Tryz.ntmps105 (ec_at h true (One g) (fun _=>rfl)) (by simp [SV.wf,SC.wf]) (by simp) ?_
 intro C hC hP hk
 have hEC:EnvC C:=fun w' hu=>by rw [hC] at hu; exact hEg w' hu
 have hctr:=dA0_ok hP
 have fin:∀ c' b,(c',b)=zY1 c x s→Fin C res105 (.c (.b b)) [enC c' true]:=fun c' b e=>set_fin (by rw [hC]; rfl) hres105 e
 have hl7:s.length≤9223372036854775807:=by omega
 obtain ⟨q,qb,hq⟩:∃ q qb,zD2 s=(q,qb):=⟨_,_,rfl⟩
 by_cases h0:x=73
 ·have e0:((x.toNat:Int) == 73)=true:=zK1 (k:=73) (by decide) h0
  (refine zA0 hctr (rs:=res105) true 300 _ _ _ ?_; simp (maxSteps:=1000000) only [VT,jf,qE,qF,qG,qH,qI,qJ,qK,qO,qQ,qR,qS,qV,qh,q0t,qv,ev,qw,qy,qz,zC,zD,zE,zG,zI,zJ,TE.sv,zK,zM,↓reduceIte,reduceCtorEq,Nat.reduceEqDiff,Nat.reduceAdd,Nat.reduceLT,zP,zQ,zR,zV,zt,hP,hk,res105,kp105,dA0,dG0,zA8,zC4,enC,ecS,hq,e0])
  exact ⟨hl7,hl7,fin { c with inval:=true } _ (by unfold zY1; rw [if_pos h0])⟩
 have d0:((x.toNat:Int) == 73)=false:=zK0 (k:=73) h0
 by_cases h1:x=67
 ·have e1:((x.toNat:Int) == 67)=true:=zK1 (k:=67) (by decide) h1
  (refine zA0 hctr (rs:=res105) true 300 _ _ _ ?_; simp (maxSteps:=1000000) only [VT,jf,jg,qE,qF,qG,qH,qI,qJ,qK,qO,qQ,qR,qS,qV,qh,q0t,qv,ev,qw,qy,qz,zC,zD,zE,zG,zI,zJ,TE.sv,zK,zM,↓reduceIte,reduceCtorEq,Nat.reduceEqDiff,Nat.reduceAdd,Nat.reduceLT,zP,zQ,zR,zV,zW,zt,hP,hk,res105,kp105,dA0,dG0,zA8,zC4,enC,ecS,hq,d0,e1])
  exact ⟨hl7,hl7,fin { c with cas:=((zB0 s).getD 0:Nat),hasCas:=true } _ (by unfold zY1; rw [if_neg h0,if_pos h1]; rfl)⟩
 have d1:((x.toNat:Int) == 67)=false:=zK0 (k:=67) h1
 by_cases h2:x=68
 ·have e2:((x.toNat:Int) == 68)=true:=zK1 (k:=68) (by decide) h2
  (refine zA0 hctr (rs:=res105) true 300 _ _ _ ?_; simp (maxSteps:=1000000) only [VT,jf,jg,qE,qF,qG,qH,qI,qJ,qK,qO,qQ,qR,qS,qV,qh,q0t,qv,ev,qw,qy,qz,zC,zD,zE,zG,zI,zJ,TE.sv,zK,zM,↓reduceIte,reduceCtorEq,Nat.reduceEqDiff,Nat.reduceAdd,Nat.reduceLT,zP,zQ,zR,zV,zW,zt,hP,hk,res105,kp105,dA0,dG0,zA8,zC4,enC,ecS,hq,d0,d1,e2])
  exact ⟨hl7,hl7,fin { c with delta:=((zB0 s).getD 0:Nat) } _ (by unfold zY1; rw [if_neg h0,if_neg h1,if_pos h2]; rfl)⟩
 have d2:((x.toNat:Int) == 68)=false:=zK0 (k:=68) h2
 by_cases h3:x=74
 ·have e3:((x.toNat:Int) == 74)=true:=zK1 (k:=74) (by decide) h3
  (refine zA0 hctr (rs:=res105) true 300 _ _ _ ?_; simp (maxSteps:=1000000) only [VT,jf,jg,qE,qF,qG,qH,qI,qJ,qK,qO,qQ,qR,qS,qV,qh,q0t,qv,ev,qw,qy,qz,zC,zD,zE,zG,zI,zJ,TE.sv,zK,zM,↓reduceIte,reduceCtorEq,Nat.reduceEqDiff,Nat.reduceAdd,Nat.reduceLT,zP,zQ,zR,zV,zW,zt,hP,hk,res105,kp105,dA0,dG0,zA8,zC4,enC,ecS,hq,d0,d1,d2,e3])
  exact ⟨hl7,hl7,fin { c with init:=((zB0 s).getD 0:Nat) } _ (by unfold zY1; rw [if_neg h0,if_neg h1,if_neg h2,if_pos h3]; rfl)⟩
 have d3:((x.toNat:Int) == 74)=false:=zK0 (k:=74) h3
 by_cases h4:x=70
 ·have e4:((x.toNat:Int) == 70)=true:=zK1 (k:=70) (by decide) h4
  cases hp:zB0 s with
  | none =>
   (refine zA0 hctr (rs:=res105) true 300 _ _ _ ?_; simp (maxSteps:=1000000) only [VT,jf,jg,aA,qE,qF,qG,qH,qI,qJ,qK,qO,qQ,qR,qS,qU,qV,qh,qp,q0t,qv,ev,qw,qy,qz,zC,zD,zE,zG,zI,zJ,TE.sv,zK,zM,↓reduceIte,reduceCtorEq,Nat.reduceEqDiff,Nat.reduceAdd,Nat.reduceLT,zP,zQ,zR,zV,zW,zt,hP,hk,res105,kp105,dA0,dG0,zA8,zC4,enC,ecS,hq,d0,d1,d2,d3,e4,hp,Option.getD_none,Option.isSome_none])
   exact ⟨hl7,hl7,fin { c with flags:=IntKind.u32.wrap ((0:Nat):Int) } _ (by unfold zY1; rw [if_neg h0,if_neg h1,if_neg h2,if_neg h3,if_pos h4]; simp [zT8,hp])⟩
  | some v =>
   (refine zA0 hctr (rs:=res105) true 300 _ _ _ ?_; simp (maxSteps:=1000000) only [VT,jf,jg,jZ,qE,qF,qG,qH,qI,qJ,qK,qO,qQ,qR,qS,qU,qV,qh,qp,q0t,qv,ev,qw,qy,qz,zC,zD,zE,zG,zI,zJ,TE.sv,zK,zM,↓reduceIte,reduceCtorEq,Nat.reduceEqDiff,Nat.reduceAdd,Nat.reduceLT,zP,zQ,zR,zV,zW,zt,hP,hk,res105,kp105,dA0,dG0,zA8,zC4,enC,ecS,hq,d0,d1,d2,d3,e4,hp,Option.getD_some,Option.isSome_some])
   exact ⟨hl7,hl7,fin { c with flags:=IntKind.u32.wrap (v:Int) } _ (by unfold zY1; rw [if_neg h0,if_neg h1,if_neg h2,if_neg h3,if_pos h4]; simp [zT8,hp])⟩
 have d4:((x.toNat:Int) == 70)=false:=zK0 (k:=70) h4
 by_cases h5:x=77
 ·have e5:((x.toNat:Int) == 77)=true:=zK1 (k:=77) (by decide) h5
  (refine zA0 hctr (rs:=res105) true 300 _ _ _ ?_; simp (maxSteps:=1000000) only [VT,jf,jg,qH,qI,qK,qO,qR,qS,qh,ev,qw,qy,qz,zD,zI,zJ,TE.sv,zK,↓reduceIte,reduceCtorEq,Nat.reduceEqDiff,Nat.reduceAdd,Nat.reduceLT,zP,zQ,zR,zV,zW,zt,hk,res105,kp105,dA0,dG0,zA8,zC4,enC,ecS,hq,d0,d1,d2,d3,d4,e5])
  refine ⟨hl7,hl7,?_⟩
  refine zA6 rfl (.c (.b (zM1 c s).2)) _ (dmode_h (C:=C) hP hEC (N:=0) (c:=c) (s:=s) rfl (by simp [zG]) (fun q hq=>by simp only [zG,zE] at hq; omega) rfl) (by simp [zG,zE]) (by simp) ?_
  (refine zA0 hctr (rs:=res105) true 300 _ _ _ ?_; simp (maxSteps:=1000000) only [VT,qE,qF,qG,qH,qI,qK,qO,ev,qy,zE,zI,zJ,TE.sv,↓reduceIte,reduceCtorEq,Nat.reduceEqDiff,Nat.reduceLT,zP,zQ,zR,jN,hk,res105,kp105,enC,ecS,zE])
  exact fin (zM1 c s).1 _ (by unfold zY1; rw [if_neg h0,if_neg h1,if_neg h2,if_neg h3,if_neg h4,if_pos h5])
 have d5:((x.toNat:Int) == 77)=false:=zK0 (k:=77) h5
 by_cases h6:x=78
 ·have e6:((x.toNat:Int) == 78)=true:=zK1 (k:=78) (by decide) h6
  (refine zA0 hctr (rs:=res105) true 300 _ _ _ ?_; simp (maxSteps:=1000000) only [VT,jf,jg,qE,qF,qG,qH,qI,qJ,qK,qO,qQ,qR,qS,qV,qh,q0t,qv,ev,qw,qy,qz,zC,zD,zE,zG,zI,zJ,TE.sv,zK,zM,↓reduceIte,reduceCtorEq,Nat.reduceEqDiff,Nat.reduceAdd,Nat.reduceLT,zP,zQ,zR,zV,zW,zt,hP,hk,res105,kp105,dA0,dG0,zA8,zC4,enC,ecS,hq,d0,d1,d2,d3,d4,d5,e6])
  exact ⟨hl7,hl7,fin { c with viv:=true,vive:=q } _ (by unfold zY1; rw [if_neg h0,if_neg h1,if_neg h2,if_neg h3,if_neg h4,if_neg h5,if_pos h6]; rw [hq])⟩
 have d6:((x.toNat:Int) == 78)=false:=zK0 (k:=78) h6
 by_cases h7:x=79
 ·have e7:((x.toNat:Int) == 79)=true:=zK1 (k:=79) (by decide) h7
  cases hz:decide ((1:Int)≤(s.length:Int)) with
  | true =>
   (refine zA0 hctr (rs:=res105) true 300 _ _ _ ?_; simp (maxSteps:=1000000) only [VT,jf,jg,jZ,qE,qF,qG,qH,qI,qK,qN,qO,qR,qS,qe,qh,qp,ev,qw,qy,qz,zD,zI,zJ,TE.sv,zK,zM,↓reduceIte,reduceCtorEq,Nat.reduceEqDiff,Nat.reduceAdd,Nat.reduceLT,zP,zQ,zR,zV,zW,zt,hP,hk,res105,kp105,dA0,dG0,zA8,zC4,enC,ecS,hq,d0,d1,d2,d3,d4,d5,d6,e7,hz])
   exact ⟨hl7,hl7,fin c _ (by unfold zY1; rw [if_neg h0,if_neg h1,if_neg h2,if_neg h3,if_neg h4,if_neg h5,if_neg h6,if_pos h7]; rw [hz]; simp)⟩
  | false =>
   (refine zA0 hctr (rs:=res105) true 300 _ _ _ ?_; simp (maxSteps:=1000000) only [VT,jf,jg,aA,qE,qF,qG,qH,qI,qK,qN,qO,qR,qS,qe,qh,qp,ev,qw,qy,qz,zD,zI,zJ,TE.sv,zK,zM,↓reduceIte,reduceCtorEq,Nat.reduceEqDiff,Nat.reduceAdd,Nat.reduceLT,zP,zQ,zR,zV,zW,zt,hP,hk,res105,kp105,dA0,dG0,zA8,zC4,enC,ecS,hq,d0,d1,d2,d3,d4,d5,d6,e7,hz])
   exact ⟨hl7,hl7,fin c _ (by unfold zY1; rw [if_neg h0,if_neg h1,if_neg h2,if_neg h3,if_neg h4,if_neg h5,if_neg h6,if_pos h7]; rw [hz]; simp)⟩
 have d7:((x.toNat:Int) == 79)=false:=zK0 (k:=79) h7
 by_cases h8:x=82
 ·have e8:((x.toNat:Int) == 82)=true:=zK1 (k:=82) (by decide) h8
  (refine zA0 hctr (rs:=res105) true 300 _ _ _ ?_; simp (maxSteps:=1000000) only [VT,jf,jg,qE,qF,qG,qH,qI,qJ,qK,qO,qQ,qR,qS,qV,qh,q0t,qv,ev,qw,qy,qz,zC,zD,zE,zG,zI,zJ,TE.sv,zK,zM,↓reduceIte,reduceCtorEq,Nat.reduceEqDiff,Nat.reduceAdd,Nat.reduceLT,zP,zQ,zR,zV,zW,zt,hP,hk,res105,kp105,dA0,dG0,zA8,zC4,enC,ecS,hq,d0,d1,d2,d3,d4,d5,d6,d7,e8])
  exact ⟨hl7,hl7,fin { c with recache:=q } _ (by unfold zY1; rw [if_neg h0,if_neg h1,if_neg h2,if_neg h3,if_neg h4,if_neg h5,if_neg h6,if_neg h7,if_pos h8]; rw [hq])⟩
 have d8:((x.toNat:Int) == 82)=false:=zK0 (k:=82) h8
 by_cases h9:x=84
 ·have e9:((x.toNat:Int) == 84)=true:=zK1 (k:=84) (by decide) h9
  (refine zA0 hctr (rs:=res105) true 300 _ _ _ ?_; simp (maxSteps:=1000000) only [VT,jf,jg,qE,qF,qG,qH,qI,qJ,qK,qO,qP,qQ,qR,qS,qV,qh,q0t,qv,ev,qw,qy,qz,zC,zD,zE,zG,zI,zJ,TE.sv,zK,zM,↓reduceIte,reduceCtorEq,Nat.reduceEqDiff,Nat.reduceAdd,Nat.reduceLT,zP,zQ,zR,zV,zW,zt,zu,hP,hk,res105,kp105,dA0,dG0,zA8,zC4,enC,ecS,hq,d0,d1,d2,d3,d4,d5,d6,d7,d8,e9])
  exact ⟨hl7,hl7,fin { c with hasExp:=c.op != 2,exp:=q } _ (by unfold zY1; rw [if_neg h0,if_neg h1,if_neg h2,if_neg h3,if_neg h4,if_neg h5,if_neg h6,if_neg h7,if_neg h8,if_pos h9]; rw [hq])⟩
 have d9:((x.toNat:Int) == 84)=false:=zK0 (k:=84) h9
 (refine zA0 hctr (rs:=res105) true 300 _ _ _ ?_; simp (maxSteps:=1000000) only [VT,jg,qE,qF,qG,qH,qI,qK,qO,qR,qS,qh,ev,qw,qy,qz,zD,zI,zJ,TE.sv,zK,↓reduceIte,reduceCtorEq,Nat.reduceEqDiff,Nat.reduceAdd,Nat.reduceLT,zP,zQ,zR,zW,zt,hk,res105,kp105,dA0,dG0,zA8,zC4,enC,ecS,hq,d0,d1,d2,d3,d4,d5,d6,d7,d8,d9])
 exact ⟨hl7,hl7,fin c _ (by unfold zY1; rw [if_neg h0,if_neg h1,if_neg h2,if_neg h3,if_neg h4,if_neg h5,if_neg h6,if_neg h7,if_neg h8,if_neg h9])⟩
end Go.Proofs.YtcbmlanpianclaaGreatDoor
/- The document's flags, walked. Printed by gen_edoc4.py. -/
namespace Go.Proofs.YtcbmlanpianclaaGreatDoor
set_option linter.unusedSimpArgs false
set_option linter.unusedVariables false
set_option maxHeartbeats 8000000
open Go.RowKit
set_option maxRecDepth 100000
theorem darg_h {C:Cx} {nE:Nat} {mk:Nat→Prop} {en en':List EN} {N:Nat} {c:Cd} {x:UInt8} {s:List UInt8} (hP:C.P=Tryz.prog) (hE:EnvC C) (hl:s.length≤9223372036854775806) (h0:zD en N=some (enC c true)) (hN:N < nE) (hmk:∀ q,¬ mk q) (hen:en'=zE en N (enC (zY1 c x s).1 true)) :
  zJ0 C nE mk en en' 105 [.c (.p N 0),.c (.i .u8 x.toNat),.c (.s s)] (.c (.b (zY1 c x s).2)):=
 setl_h hP hE h0 hN hmk (fun args w=>Tryz.call105 args w) (fun ρ w g hb hu he=>darg_w hb x s hl he hu) hen
def allD (allowed:List UInt8):List (List UInt8)→Cd→List UInt8→Cd × List UInt8
 | [],c,_=>(c,[])
 | [] :: _,c,_=>(c,zX7)
 | (x :: s) :: l,c,seen =>
  if allowed.contains x=false then (c,zX7)
  else if seen.contains x then (c,f_twice)
  else if (zY1 c x s).2 then allD allowed l (zY1 c x s).1 (seen++[x]) else ((zY1 c x s).1,f_token)
def zY6:List SV→Option (Prop × SV)
 | [.c (.s l)]=>some (True,.c (.s (zF0 l).2))
 | _=>none
def dB0:Ctr:=fun f en xs=>match f with
 | 103=>zY6 xs
 | _=>dA0 f en xs
theorem dB0_ok {C:Cx} (hP:C.P=Tryz.prog):zC1 C dB0:=by
 intro f en xs p v h hp ρ w hup hHp hHo hinj hwf
 unfold dB0 at h
 split at h
 ·rw [hP]
  refine ⟨fun args w=>Tryz.call103 args w,?_⟩
  unfold zY6 at h
  split at h <;> simp only [Option.some.injEq,Prod.mk.injEq,reduceCtorEq] at h
  obtain ⟨rfl,rfl⟩:=h
  exact ⟨trivial,dallowed_w _ w⟩
 ·exact dA0_ok hP f en xs p v h hp ρ w hup hHp hHo hinj hwf
def AllQ (g:Nat) (w:World) (r:Cd × List UInt8) (e:Ending) (w':World):Prop:=e=.returned (.string ⟨r.2.toArray⟩)∧Upd (One g) w w'∧Blk w' g 52 (ecA r.1)
def hd0 (l:List UInt8):UInt8:=l.headD 0
def slFl (a:Option Addr) (n cap:Nat) (al:List UInt8) (j:Nat):List (Nat × SV):=[(8,.c (.i .i64 (j:Int))),(7,.c (.s al)),(2,.c (.p 0 0)),(1,.c (.v (.slice a n cap)))]
def slFl2 (a:Option Addr) (n cap:Nat) (al:List UInt8) (j:Nat) (b:UInt8) (k:Nat):List (Nat × SV):=[(11,.c (.i .i64 (k:Int))),(9,.c (.i .u8 (b.toNat:Int))),(8,.c (.i .i64 (j:Int))),(7,.c (.s al)),(2,.c (.p 0 0)),(1,.c (.v (.slice a n cap)))]
theorem dflags_w {w:World} {g:Nat} {c:Cd} (h:Blk w g 52 (ecA c)) (name:List UInt8) {a:Option Addr} {n cap:Nat} {ws:List (List UInt8)} (hn:n=ws.length) (hraw:RawS w g a ws) (hl:∀ x∈ws,x ≠ []∧x.length≤1000000000) (hlen:n≤1000000000) (hE:Env w) (hEg:∀ w',Upd (One g) w w'→Env w') :
  Calls Tryz.prog 68 #[.string ⟨name.toArray⟩,.slice a n cap,.pointer (some ⟨g,0,none⟩)] w (AllQ g w (allD (zF0 name).2 ws c [])):=by
 refine zA1 Tryz.func68 rfl kp68 (S:=One g) (ρ:=fun _=>zG7 g) [.c (.s name),.c (.v (.slice a n cap)),.c (.p 0 0)] Tryz.ntmps68 (ec_at h true (One g) (fun _=>rfl)) (by simp [SV.wf,SC.wf]) (by simp) ?_
 intro C hC hP hk
 have hEC:EnvC C:=fun w' hu=>by rw [hC] at hu; exact hEg w' hu
 have hctr:=dB0_ok hP
 obtain ⟨al,hal⟩:∃ al,(zF0 name).2=al:=⟨_,rfl⟩
 have hall8:al.length≤9223372036854775806:=by
  rw [← hal]; unfold zF0; repeat' split
  all_goals simp
 have fin:∀ c2 l en,(allD al ws c []).2=l→(allD al ws c []).1=c2→en=[enC c2 true]→Fin C res68 (.c (.s l)) en:=fun c2 l en hv hc he=>by
  subst hv; subst hc; subst he
  refine zC3 hC hres68 fun ρ w' hw _ _=>?_
  have hb:=ec_blk hw rfl (by rw [hC]; exact Nat.zero_lt_one) (by rw [hC]; rfl)
  have hup:=hw.up
  rw [hC] at hup
  rw [hal]
  exact ⟨rfl,hup,hb⟩
 (refine zA0 hctr (rs:=res68) true 300 _ _ _ ?_; simp (maxSteps:=1000000) only [VT,qH,qI,qK,qO,ev,qw,qy,qz,zI,zJ,zK,↓reduceIte,reduceCtorEq,Nat.reduceEqDiff,Nat.reduceAdd,Nat.reduceLT,zP,zQ,zR,zt,hk,kp68,dB0,zY6,enC,ecS,hal])
 refine zD6 (ι:={ y:Nat × Cd // y.1≤n∧allD al (ws.drop y.1) y.2 ((ws.take y.1).map hd0)=allD al ws c [] }) (fun y=>slFl a n cap al y.1.1) (fun y=>[enC y.1.2 true]) (fun y=>n+1 - y.1.1) ⟨(0,c),Nat.zero_le _,rfl⟩ (zB3 ⟨rfl,rfl,rfl,rfl,trivial⟩) rfl ?_
 rintro ⟨⟨j,c1⟩,hj,hall⟩ D dP dS dw dn dr dk ddf dPan dRet hX hJ
 have hP0:=hP; have hk0:=hk; have hctr0:=hctr
 have hP:D.P=Tryz.prog:=by rw [dP]; exact hP0
 have hk:D.kp=kp68:=by rw [dk]; exact hk0
 have hED:EnvC D:=by unfold EnvC; rw [dS,dw]; exact hEC
 have hctr:zC1 D dB0:=dB0_ok hP
 simp only at hj hall
 have dFin:∀ c2 l en,(allD al ws c []).2=l→(allD al ws c []).1=c2→en=[enC c2 true]→Fin D res68 (.c (.s l)) en:=fun c2 l en hv hc he ρ a w' hw hn hwf hd hr=>dRet _ _ (fin c2 l en hv hc he ρ a w' (hw.toC dS.symm dw.symm dr.symm dn.symm) (by rw [← dn]; exact hn) hwf (hd.trans ddf) (fun fn h=>by rw [← dP]; exact hr fn h))
 show Run D _ _ (slFl a n cap al j) [enC c1 true]
 by_cases hjn:j < n
 ·obtain ⟨x,hx⟩:∃ x,ws[j]?=some x:=⟨_,List.getElem?_eq_getElem (by omega)⟩
  obtain ⟨hx0,hxl⟩:=hl x (List.mem_of_getElem? hx)
  obtain ⟨b,t,rfl⟩:∃ b t,x=b :: t:=by cases x with | nil=>exact absurd rfl hx0 | cons b t=>exact ⟨b,t,rfl⟩
  obtain ⟨b0,o,rfl,hr⟩:=hraw.rd (D:=D) (by rw [dS,hC]; exact fun k hk=>hk) (by rw [dw,hC]; rfl) hx
  have p3:IntKind.i64.wrap ((j:Int)+1)=((j+1:Nat):Int):=by rw [IntWalk.i64_in _ (by omega)]; rfl
  have q1:decide ((j:Int) < ((n:Nat):Int))=true:=decide_eq_true (by omega)
  have p0:(0:Int)≤(j:Int):=by omega
  have p1:(j:Int) < ((n:Nat):Int):=by omega
  have hdr:ws.drop j=(b :: t) :: ws.drop (j+1):=by
   rw [List.drop_eq_getElem_cons (by omega)]; congr 1
   exact (List.getElem?_eq_some_iff.1 hx).2
  have htk:(ws.take (j+1)).map hd0=(ws.take j).map hd0++[b]:=by rw [List.take_add_one,hx]; simp [hd0]
  rw [hdr,allD] at hall
  have g0:(0:Int)≤0:=by decide
  have g1:(0:Int) < ((t.length+1:Nat):Int):=by omega
  have g2:List.length (b :: t:List UInt8)=t.length+1:=rfl
  have hgd:(b :: t:List UInt8).getD 0 0=b:=rfl
  have hsd:List.drop 1 (List.take (t.length+1) (b :: t))=t:=by simp
  have b1:(0:Int)≤(b.toNat:Int):=by omega
  have b2:(b.toNat:Int) < 256:=by have:=b.toNat_lt; omega
  cases ha:al.contains b with
  | false =>
   rw [if_pos ha] at hall
   (refine zA0 hctr (rs:=res68) true 300 _ _ _ ?_; simp (maxSteps:=1000000) only [VT,jf,qE,qF,qG,qH,qI,qK,qN,qO,qP,qR,qS,qT,qX,qY,qe,ev,qw,qy,qz,zI,zJ,TE.sv,zM,↓reduceIte,reduceCtorEq,Nat.reduceEqDiff,Nat.reduceLT,zP,zQ,zR,zT,zV,zW,zh,zo,hP,hk,res68,kp68,dB0,dA0,rowHasD,enC,ecS,slFl,hr,p0,p1,g0,g1,g2,hgd,b1,b2,hall8,Int.toNat_zero,Nat.mul_one,UInt8.ofNat_toNat,ha])
   exact dFin c1 _ _ (by rw [← hall]; rfl) (by rw [← hall]) rfl
  | true =>
   rw [if_neg (by rw [ha]; simp)] at hall
   (refine zA0 hctr (rs:=res68) true 300 _ _ _ ?_; simp (maxSteps:=1000000) only [VT,jf,jg,qH,qI,qK,qN,qO,qP,qR,qS,qT,qX,qY,qe,ev,qw,qy,qz,zI,zJ,zM,↓reduceIte,reduceCtorEq,Nat.reduceEqDiff,Nat.reduceLT,zP,zQ,zR,zT,zV,zW,zh,zo,hP,hk,res68,kp68,dB0,dA0,rowHasD,enC,ecS,slFl,hr,p0,p1,g0,g1,g2,hgd,b1,b2,hall8,Int.toNat_zero,Nat.mul_one,UInt8.ofNat_toNat,ha])
   refine zD6 (ι:={ k:Nat // k≤j∧∀ y∈(ws.take k).map hd0,y ≠ b }) (fun k=>slFl2 (some ⟨b0,o,none⟩) n cap al j b k.1) (fun _=>[enC c1 true]) (fun k=>j+1 - k.1) ⟨0,Nat.zero_le _,by simp⟩ (zB3 ⟨rfl,rfl,rfl,rfl,rfl,rfl,trivial⟩) rfl ?_
   rintro ⟨k,hk1,hne⟩ D2 dP2 dS2 dw2 dn2 dr2 dk2 ddf2 dPan2 dRet2 hX2 hJ2
   have hP1:=hP; have hk2:=hk; have hctr1:=hctr
   have hP:D2.P=Tryz.prog:=by rw [dP2]; exact hP1
   have hk:D2.kp=kp68:=by rw [dk2]; exact hk2
   have hctr:zC1 D2 dB0:=dB0_ok hP
   have d2Fin:∀ c2 l en,(allD al ws c []).2=l→(allD al ws c []).1=c2→en=[enC c2 true]→Fin D2 res68 (.c (.s l)) en:=fun c2 l en hv hc he ρ a w' hw hn hwf hd hr=>dRet2 _ _ (dFin c2 l en hv hc he ρ a w' (hw.toC dS2.symm dw2.symm dr2.symm dn2.symm) (by rw [← dn2]; exact hn) hwf (hd.trans ddf2) (fun fn h=>by rw [← dP2]; exact hr fn h))
   show Run D2 _ _ (slFl2 (some ⟨b0,o,none⟩) n cap al j b k) [enC c1 true]
   by_cases hkj:k < j
   ·obtain ⟨y,hy⟩:∃ y,ws[k]?=some y:=⟨_,List.getElem?_eq_getElem (by omega)⟩
    obtain ⟨hy0,_⟩:=hl y (List.mem_of_getElem? hy)
    obtain ⟨b',t',rfl⟩:∃ b t,y=b :: t:=by cases y with | nil=>exact absurd rfl hy0 | cons b t=>exact ⟨b,t,rfl⟩
    obtain ⟨b1',o',hbo,hr2⟩:=hraw.rd (D:=D2) (by rw [dS2,dS,hC]; exact fun k hk=>hk) (by rw [dw2,dw,hC]; rfl) hy
    simp only [Option.some.injEq,Addr.mk.injEq,and_true] at hbo
    obtain ⟨rfl,rfl⟩:=hbo
    have q2:decide ((k:Int) < (j:Int))=true:=decide_eq_true (by omega)
    have s0:(0:Int)≤(k:Int):=by omega
    have s1:(k:Int) < ((n:Nat):Int):=by omega
    have s3:IntKind.i64.wrap ((k:Int)+1)=((k+1:Nat):Int):=by rw [IntWalk.i64_in _ (by omega)]; rfl
    have r1:(0:Int) < ((t'.length+1:Nat):Int):=by omega
    have r2:List.length (b' :: t':List UInt8)=t'.length+1:=rfl
    have rgd:(b' :: t':List UInt8).getD 0 0=b':=rfl
    have htk2:(ws.take (k+1)).map hd0=(ws.take k).map hd0++[b']:=by rw [List.take_add_one,hy]; simp [hd0]
    by_cases hbb:b'=b
    ·have e0:((b'.toNat:Int) == (b.toNat:Int))=true:=by rw [hbb]; simp
     have hmem:((ws.take j).map hd0).contains b=true:=by
      rw [List.contains_iff_mem,List.mem_map]
      refine ⟨b' :: t',?_,hbb⟩
      refine List.mem_of_getElem? (i:=k) ?_
      rw [List.getElem?_take_of_lt hkj]; exact hy
     rw [if_pos hmem] at hall
     (refine zA0 hctr (rs:=res68) true 300 _ _ _ ?_; simp (maxSteps:=1000000) only [VT,jf,qE,qF,qG,qH,qI,qK,qO,qP,qR,qS,qX,qY,ev,qy,qz,zI,zJ,TE.sv,zM,↓reduceIte,reduceCtorEq,Nat.reduceEqDiff,Nat.reduceLT,zP,zQ,zR,zT,zV,zh,hP,hk,res68,kp68,enC,ecS,slFl2,g0,Int.toNat_zero,Nat.mul_one,q2,s0,s1,hr2,r1,r2,rgd,e0])
     exact d2Fin c1 _ _ (by rw [← hall]; rfl) (by rw [← hall]) rfl
    ·have e0:((b'.toNat:Int) == (b.toNat:Int))=false:=by
      rw [beq_eq_false_iff_ne]; intro h; exact hbb (UInt8.toNat_inj.1 (by omega))
     (refine zA0 hctr (rs:=res68) true 300 _ _ _ ?_; simp (maxSteps:=1000000) only [VT,jf,jg,qH,qI,qK,qO,qP,qR,qS,qX,qY,ev,qy,qz,zI,zJ,zM,↓reduceIte,reduceCtorEq,Nat.reduceEqDiff,Nat.reduceLT,zP,zQ,zR,zT,zV,zW,zh,hP,hk,res68,kp68,enC,ecS,slFl2,g0,Int.toNat_zero,Nat.mul_one,q2,s0,s1,s3,hr2,r1,r2,rgd,e0])
     refine hJ2 ⟨k+1,by omega,fun z hz=>?_⟩ _ (by show j+1 - (k+1) < j+1 - k; omega) (zB3 ⟨rfl,rfl,rfl,rfl,rfl,rfl,trivial⟩)
     rw [htk2] at hz
     rcases List.mem_append.1 hz with hz | hz
     ·exact hne z hz
     ·rw [List.mem_singleton.1 hz]; exact hbb
   ·have q2:decide ((k:Int) < (j:Int))=false:=decide_eq_false (by omega)
    have hkj':k=j:=by omega
    subst hkj'
    (refine zA0 hctr (rs:=res68) true 300 _ _ _ ?_; simp (maxSteps:=1000000) only [VT,jg,qH,qI,qK,qO,qR,qS,ev,qy,zH,zI,zJ,↓reduceIte,reduceCtorEq,Nat.reduceEqDiff,Nat.reduceLT,zP,zQ,zR,zW,hk,res68,kp68,enC,ecS,slFl2,q2])
    refine hX2 rfl rfl ?_
    have hP:=hP1; have hk:=hk2; have hctr:=hctr1
    have hs:((ws.take k).map hd0).contains b=false:=by
     rw [Bool.eq_false_iff]; intro hc
     exact hne b (List.contains_iff_mem.1 hc) rfl
    rw [if_neg (by rw [hs]; simp)] at hall
    (refine zA0 hctr (rs:=res68) true 300 _ _ _ ?_; simp (maxSteps:=1000000) only [VT,qH,qI,qK,qO,qP,qX,qZ,ql,qm,ev,qw,qy,qz,zM,↓reduceIte,Nat.reduceEqDiff,Nat.reduceLT,zR,zT,zh,hP,dB0,dA0,dG0,hsd,hr,p0,p1,g2,Int.toNat_one,Nat.mul_one])
    refine ⟨by omega,?_⟩
    refine zA6 rfl (.c (.b (zY1 c1 b t).2)) _ (darg_h (C:=D) hP hED (N:=0) (c:=c1) (x:=b) (s:=t) (by simp only [List.length_cons] at hxl; omega) rfl (by simp [zG]) (fun q hq=>by simp only [zG,zE] at hq; omega) rfl) (by simp [zG,zE]) (by simp) ?_
    cases hb:(zY1 c1 b t).2 with
    | false =>
     rw [if_neg (by rw [hb]; simp)] at hall
     (refine zA0 hctr (rs:=res68) true 300 _ _ _ ?_; simp (maxSteps:=1000000) only [VT,jf,qE,qF,qG,qH,qI,qK,qO,qT,ev,qy,qz,zE,zI,zJ,TE.sv,↓reduceIte,reduceCtorEq,Nat.reduceEqDiff,Nat.reduceLT,zP,zQ,zR,zV,zW,jN,hk,res68,kp68,enC,ecS,zE])
     exact dFin (zY1 c1 b t).1 _ _ (by rw [← hall]; rfl) (by rw [← hall]) rfl
    | true =>
     rw [if_pos hb] at hall
     (refine zA0 hctr (rs:=res68) true 300 _ _ _ ?_; simp (maxSteps:=1000000) only [VT,jg,qH,qI,qK,qO,qR,qS,qT,ev,qy,qz,zE,zI,zJ,↓reduceIte,reduceCtorEq,Nat.reduceEqDiff,Nat.reduceLT,zP,zQ,zR,zV,zW,jN,hk,res68,kp68,enC,ecS,p3,zE])
     exact hJ ⟨(k+1,(zY1 c1 b t).1),by simp only; omega,by simp only; rw [htk]; exact hall⟩ _ (by show n+1 - (k+1) < n+1 - k; omega) (zB3 ⟨rfl,rfl,rfl,rfl,trivial⟩)
 ·have q1:decide ((j:Int) < ((n:Nat):Int))=false:=decide_eq_false (by omega)
  (refine zA0 hctr (rs:=res68) true 300 _ _ _ ?_; simp (maxSteps:=1000000) only [VT,jg,qH,qI,qK,qN,qO,qR,qS,qe,ev,qy,zH,zI,zJ,zM,↓reduceIte,reduceCtorEq,Nat.reduceEqDiff,Nat.reduceLT,zP,zQ,zR,zW,hP,hk,res68,kp68,enC,ecS,slFl,q1])
  refine hX rfl rfl ?_
  have hP:=hP0; have hk:=hk0; have hctr:=hctr0
  (refine zA0 hctr (rs:=res68) true 300 _ _ _ ?_; simp (maxSteps:=1000000) only [VT,qE,qF,qG,qH,qI,qK,qO,ev,qy,qz,zI,zJ,TE.sv,↓reduceIte,reduceCtorEq,Nat.reduceEqDiff,Nat.reduceLT,zP,zR,hk,res68,kp68])
  rw [List.drop_of_length_le (by omega),allD] at hall
  exact fin c1 _ _ (by rw [← hall]) (by rw [← hall]) rfl
end Go.Proofs.YtcbmlanpianclaaGreatDoor
/- What the document says of letters (ambryref03) is what b64 does. No program in sight. -/
namespace Go.Proofs.YtcbmlanpianclaaGreatDoor
set_option linter.unusedSimpArgs false
set_option linter.unusedVariables false
open Go.Lib
def zV7:List UInt8→List UInt8
 | x :: y :: z :: l=>zM7 (x.toNat / 4) :: zM7 (x.toNat % 4 * 16+y.toNat / 16) :: zM7 (y.toNat % 16 * 4+z.toNat / 64) :: zM7 (z.toNat % 64) :: zV7 l
 | [x,y]=>[zM7 (x.toNat / 4),zM7 (x.toNat % 4 * 16+y.toNat / 16),zM7 (y.toNat % 16 * 4),61]
 | [x]=>[zM7 (x.toNat / 4),zM7 (x.toNat % 4 * 16),61,61]
 | []=>[]
theorem encR_is':∀ s,zV7 s=zR3 s++List.replicate ((4 - (zR3 s).length % 4) % 4) 61
 | []=>rfl
 | [x]=>by simp [zV7,zR3]
 | [x,y]=>by simp [zV7,zR3]
 | x :: y :: z :: l=>by
  have h:=encR_is' l
  have e:(4 - (zR3 (x :: y :: z :: l)).length % 4) % 4=(4 - (zR3 l).length % 4) % 4:=by simp only [zR3,List.length_cons]; omega
  rw [e,zV7,zR3,h]; rfl
theorem encR_is (s:List UInt8):zV7 s=encB s:=by rw [encR_is',encB_is]
def decG (last:Bool):Nat→Nat→Nat→List UInt8→Option (Nat × Nat)
 | _,n,p,[]=>some (n,p)
 | k,n,p,c :: cs =>
  if c=61∧last=true∧2≤k then decG last (k+1) (n * 64) (p+1) cs
  else if indexByte b64L c < 0∨0 < p then none
  else decG last (k+1) (n * 64+(indexByte b64L c).toNat) p cs
def three (n:Nat) (p:Nat):List UInt8:=[UInt8.ofNat (n / 65536),UInt8.ofNat (n / 256),UInt8.ofNat n].take (3 - p)
def decR:List UInt8→List UInt8→Option (List UInt8)
 | c :: d :: e :: f :: l,out=>match decG (decide (l=[])) 0 0 0 [c,d,e,f] with
  | some (n,p)=>decR l (out++three n p)
  | none=>none
 | _,out=>some out
def zQ8 (s:List UInt8):Option (List UInt8):=
 if s.length % 4 ≠ 0 then none
 else match decR s [] with
  | some t=>if zV7 t=s then some t else none
  | none=>none
theorem zN1 (last:Bool) (k n v:Nat) (hv:v < 64) (cs:List UInt8):decG last k n 0 (zM7 v :: cs)=decG last (k+1) (n * 64+v) 0 cs:=by
 have h1:=(let_ok v hv).1
 rw [decG,if_neg (fun h=>h1 h.1),zZ1 v hv,if_neg (by omega),Int.toNat_natCast]
theorem decG_pad (k n p:Nat) (hk:2≤k) (cs:List UInt8):decG true k n p (61 :: cs)=decG true (k+1) (n * 64) (p+1) cs:=by
 rw [decG,if_pos ⟨rfl,rfl,hk⟩]
theorem ofN {n:Nat} {x:UInt8} (h:n % 256=x.toNat):UInt8.ofNat n=x:=by
 apply UInt8.toNat_inj.1; rw [UInt8.toNat_ofNat']; exact h
theorem decR_is:∀ (s:List UInt8) (out:List UInt8),decR (zV7 s) out=some (out++s)
 | [],out=>by simp [zV7,decR]
 | [x],out=>by
  have hx:=lt8 x
  rw [zV7,decR]
  simp only [decide_true]
  rw [zN1 _ _ _ _ (by omega),zN1 _ _ _ _ (by omega),decG_pad _ _ _ (by omega),decG_pad _ _ _ (by omega),decG]
  have e1:UInt8.ofNat (((((0 * 64+x.toNat / 4) * 64+x.toNat % 4 * 16) * 64) * 64) / 65536)=x:=ofN (by omega)
  simp only [three,e1,decR]
  rfl
 | [x,y],out=>by
  have hx:=lt8 x
  have hy:=lt8 y
  rw [zV7,decR]
  simp only [decide_true]
  rw [zN1 _ _ _ _ (by omega),zN1 _ _ _ _ (by omega),zN1 _ _ _ _ (by omega),decG_pad _ _ _ (by omega),decG]
  have e1:UInt8.ofNat (((((0 * 64+x.toNat / 4) * 64+(x.toNat % 4 * 16+y.toNat / 16)) * 64+y.toNat % 16 * 4) * 64) / 65536)=x:=ofN (by omega)
  have e2:UInt8.ofNat (((((0 * 64+x.toNat / 4) * 64+(x.toNat % 4 * 16+y.toNat / 16)) * 64+y.toNat % 16 * 4) * 64) / 256)=y:=ofN (by omega)
  simp only [three,e1,e2,decR]
  rfl
 | x :: y :: z :: l,out=>by
  have hx:=lt8 x
  have hy:=lt8 y
  have hz:=lt8 z
  rw [zV7,decR]
  rw [zN1 _ _ _ _ (by omega),zN1 _ _ _ _ (by omega),zN1 _ _ _ _ (by omega),zN1 _ _ _ _ (by omega),decG]
  have e1:UInt8.ofNat (((((0 * 64+x.toNat / 4) * 64+(x.toNat % 4 * 16+y.toNat / 16)) * 64+(y.toNat % 16 * 4+z.toNat / 64)) * 64+z.toNat % 64) / 65536)=x:=ofN (by omega)
  have e2:UInt8.ofNat (((((0 * 64+x.toNat / 4) * 64+(x.toNat % 4 * 16+y.toNat / 16)) * 64+(y.toNat % 16 * 4+z.toNat / 64)) * 64+z.toNat % 64) / 256)=y:=ofN (by omega)
  have e3:UInt8.ofNat ((((0 * 64+x.toNat / 4) * 64+(x.toNat % 4 * 16+y.toNat / 16)) * 64+(y.toNat % 16 * 4+z.toNat / 64)) * 64+z.toNat % 64)=z:=ofN (by omega)
  simp only [three,e1,e2,e3]
  rw [decR_is l]
  simp
theorem refDec_is (s:List UInt8):zQ8 s=zU3 s:=by
 have h1:∀ t,zQ8 s=some t→zU3 s=some t:=by
  intro t h
  unfold zQ8 at h
  split at h
  ·cases h
  split at h
  ·split at h
   ·rename_i he
    simp only [Option.some.injEq] at h
    subst h
    rw [encR_is] at he
    exact (decB_iff _ _).2 he.symm
   ·cases h
  ·cases h
 have h2:∀ t,zU3 s=some t→zQ8 s=some t:=by
  intro t h
  have hs:=dec_back h
  subst hs
  unfold zQ8
  rw [if_neg (by rw [encB_len]; omega),← encR_is,decR_is]
  simp
 cases hd:zU3 s with
 | some t=>exact h2 t hd
 | none=>cases hr:zQ8 s with
  | none=>rfl
  | some t=>rw [h1 t hr] at hd; cases hd
end Go.Proofs.YtcbmlanpianclaaGreatDoor
