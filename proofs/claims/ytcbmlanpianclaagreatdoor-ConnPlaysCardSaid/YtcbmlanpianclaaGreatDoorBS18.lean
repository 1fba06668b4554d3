/- A connection's next request (conn.Next), walked. Printed by gen_cx.py. -/
import Derived.Test.YtcbmlanpianclaaGreatDoorBS17
import Derived.Test.YtcbmlanpianclaaGreatDoorBS12
import Derived.Test.YtcbmlanpianclaaGreatDoorBS14
import Derived.Test.YtcbmlanpianclaaGreatDoorBS00
import Derived.Test.YtcbmlanpianclaaGreatDoorBS04
namespace Go.Proofs.YtcbmlanpianclaaGreatDoor
set_option linter.unusedSimpArgs false
set_option linter.unusedVariables false
set_option maxHeartbeats 8000000
open Go.RowKit
set_option maxRecDepth 100000
def NextP (g:Nat) (w:World) (x:Cn × Gq × Bool) (e:Ending) (w':World):Prop:=Upd (One g) w w'∧Blk w' g 45 (cnA x.1)∧∃ v,e=.returned (.tuple #[v,.bool x.2.2])∧GqV w.heap.size w' v x.2.1
theorem zW4 {C:Cx} {ρ:Nat→RE} {en:List EN} {w':World} {N e z n b:Nat} {cells:List SC} (hw:Hw C ρ (· < en.length) en w') (lN:N < en.length) (hN:zD en N=some (rwE e z n cells)) (he:e ≠ zC9) (hb:(ρ N).nl=none→b≤(ρ N).blk) :
  ∃ r1:RE,RowOk b w' r1 e z n (zB8 ρ cells)∧zL3 (ρ N) n=zL3 r1 n∧(r1.nl=none→r1.blk=(ρ N).blk∧(ρ N).nl=none):=by
 have ho:=(hw.ho N _ _ _ lN hN).2
 cases hnl:(ρ N).nl with
 | none =>
  refine ⟨ρ N,⟨hb hnl,?_,fun _=>(hw.hp N _ _ _ lN hN).heap ⟨he,hnl⟩,fun h=>absurd hnl h⟩,rfl,fun _=>⟨rfl,rfl⟩⟩
  rw [zD1]; exact ho
 | some p =>
  have hc:=(hw.hp N _ _ _ lN hN).non (by rw [hnl]; exact fun h=>nomatch h)
  subst hc
  rcases ho.2 with h | ⟨h1,h2,h3⟩
  ·rw [hnl] at h; cases h.1
  ·subst h2
   refine ⟨nilR b,RowOk.nil _ _ _ _,?_,fun h=>by cases h⟩
   rw [zF1 h1]; rfl
def nxC:Ctr:=fun _ _ _=>none
theorem next_w {c:Cn} (hok:CnOk c) {w:World} {g:Nat} (h:Blk w g 45 (cnA c)) (hEg:∀ w',Upd (One g) w w'→EnvT w'):Calls Tryz.prog 8 #[.pointer (some ⟨g,0,none⟩)] w (NextP g w (zH0 c)):=by
 have hgs:g < w.heap.size:=h.lt
 refine zA1 Tryz.func8 rfl kp8 (S:=One g) (ρ:=fun _=>zG7 g) [.c (.p 0 0)] Tryz.ntmps8 (cn_at h true (One g) (fun _=>rfl)) (by simp [SV.wf,SC.wf]) (by simp) ?_
 intro C hC hP hk
 have hctr:zC1 C nxC:=by intro f en xs p v h; cases h
 have hn0:C.n0=1:=by rw [hC]; rfl
 have hE:∀ w',Upd C.S C.w0 w'→EnvT w':=fun w' hu=>by rw [hC] at hu; exact hEg w' hu
 have hw0:C.w0=w:=by rw [hC]; rfl
 have hS:C.S=One g:=by rw [hC]; rfl
 have hρ:C.ρ0 0=zG7 g:=by rw [hC]; rfl
 have fin0:∀ en,zH0 c=(c,Gq.zero,false)→zD en 0=some (cnE c true)→Fin C res8 (.t [.g (gqS noS noS Gq.zero),.c (.b false)]) en:=fun en he h0=>by
  refine zC3 (v:=.t [.g (gqS noS noS Gq.zero),.c (.b false)]) hC hres8 fun ρ w' hw _ _=>?_
  have hb:=cn_blk hw h0 (by rw [hn0]; exact Nat.zero_lt_one) hρ
  have hup:=hw.up
  rw [hC] at hup
  rw [he]
  exact ⟨hup,hb,_,rfl,GqV.none rfl rfl⟩
 have fin1:∀ (c':Cn) (r:Gq) V en,zH0 c=(c',r,true)→V=.t [.g (gqZ r 2),.c (.b true)]→zD en 0=some (cnE c' true)→zD en 2=some (cmG r)→zD en 3=some (flG r)→Fin C res8 V en:=fun c' r V en he hV h0 h1 h2=>by
  subst hV
  refine zC3 (v:=.t [.g (gqZ r 2),.c (.b true)]) hC hres8 fun ρ w' hw _ _=>?_
  have hb:=cn_blk hw h0 (by rw [hn0]; exact Nat.zero_lt_one) hρ
  have hup:=hw.up
  rw [hC] at hup
  have l0:0 < en.length:=by rw [zA3] at h0; exact (List.getElem?_eq_some_iff.1 h0).1
  have l2:2 < en.length:=by rw [zA3] at h1; exact (List.getElem?_eq_some_iff.1 h1).1
  have l3:3 < en.length:=by rw [zA3] at h2; exact (List.getElem?_eq_some_iff.1 h2).1
  have e0:ρ 0=zG7 g:=by have:=hw.ini 0 (by rw [hn0]; exact Nat.zero_lt_one); rw [hρ] at this; exact this
  have new:∀ (N:Nat) (t:TypeId) (iv:RE→Prop) (cells:List SC),N < en.length→0 ≠ N→t ≠ zC9→zD en N=some ⟨(t,0,iv),cells,true⟩→((ρ N).nl=none→w.heap.size≤(ρ N).blk):=fun N t iv cells lN hne ht hN hnl=>by
   rcases hw.mu N _ _ lN hN with hs | hs
   ·rw [hS] at hs
    have:(ρ 0).blk=(ρ N).blk:=by rw [e0]; exact hs.symm
    exact absurd (hw.inj 0 N l0 lN ((zA4 h0).2 ⟨by show ¬ ((45:Nat)=zC9); decide,by rw [e0]; rfl⟩) ((zA4 hN).2 ⟨ht,hnl⟩) this) hne
   ·rw [hw0] at hs; exact hs
  rw [he]
  have q1:=zW4 hw l2 h1 (by show ¬ ((52:Nat)=zC9); decide) (new 2 _ _ _ l2 (by decide) (by show ¬ ((52:Nat)=zC9); decide) h1)
  have q2:=zW4 hw l3 h2 (by show ¬ ((9:Nat)=zC9); decide) (new 3 _ _ _ l3 (by decide) (by show ¬ ((9:Nat)=zC9); decide) h2)
  rw [zE7] at q1
  rw [zF4] at q2
  obtain ⟨a1,a2,a3⟩:=q1
  obtain ⟨b1,b2,b3⟩:=q2
  refine ⟨hup,hb,_,rfl,a1,b1,?_,a2,b2,fun h3 h4 hq=>?_⟩
  ·show gqA (zL3 (ρ 2) r.cmds.length) (zL3 (ρ 3) r.flags.length) r=_
   rw [a3.1,b3.1]
  ·have h3':=a3.2 h3
   have h4':=b3.2 h4
   rw [h3'.1,h4'.1] at hq
   have:=hw.inj 2 3 l2 l3 ((zA4 h1).2 ⟨by show ¬ ((52:Nat)=zC9); decide,h3'.2⟩) ((zA4 h2).2 ⟨by show ¬ ((9:Nat)=zC9); decide,h4'.2⟩) hq
   cases this
 cases he:c.ends with
 | true =>
  (refine zA0 hctr (rs:=res8) true 300 _ _ _ ?_; simp (maxSteps:=1000000) only [VT,jf,aA,qE,qF,qG,qH,qI,qJ,qK,qO,qP,qQ,qV,qf,qg,qp,q0t,qu,qv,ev,qy,qz,zA,zB,zC,zD,zE,zF,zG,zI,zJ,zK,zM,↓reduceIte,reduceCtorEq,Value.oneCell',Nat.reduceEqDiff,Nat.reduceAdd,Nat.reduceLT,zP,zQ,zR,zV,zt,hP,hk,res8,kp8,cnE,cnS,he])
  exact fin0 _ (by unfold zH0; rw [if_pos (.inl he)]) (by simp [zD,cnE,cnS,he])
 | false =>
  by_cases ho:100000≤c.out.length
  ·have c1:decide ((100000:Int)≤(c.out.length:Int))=true:=decide_eq_true (by omega)
   (refine zA0 hctr (rs:=res8) true 300 _ _ _ ?_; simp (maxSteps:=1000000) only [VT,jf,jg,jZ,qE,qF,qG,qH,qI,qJ,qK,qN,qO,qP,qQ,qR,qS,qV,qe,qf,qg,qp,q0t,qu,qv,ev,qy,qz,zA,zB,zC,zD,zE,zF,zG,zI,zJ,zK,zM,↓reduceIte,reduceCtorEq,Value.oneCell',Nat.reduceEqDiff,Nat.reduceAdd,Nat.reduceLT,zP,zQ,zR,zV,zW,zt,hP,hk,res8,kp8,cnE,cnS,he,c1])
   exact fin0 _ (by unfold zH0; rw [if_pos (.inr ho)]) (by simp [zD,cnE,cnS,he])
  ·have c1:decide ((100000:Int)≤(c.out.length:Int))=false:=decide_eq_false (by omega)
   have hno:¬ (c.ends=true∨100000≤c.out.length):=by rw [he]; simpa using ho
   obtain ⟨r,n0,hx⟩:∃ r n0,zG4 c.inp=(r,n0):=⟨_,_,rfl⟩
   have hnx:zH0 c=if r.kind=0 then (c,Gq.zero,false) else (if r.close then zK8 (zP2 c r n0.toNat) else zP2 c r n0.toNat,r,true):=by
    unfold zH0; rw [if_neg hno]; simp only [hx]
   (refine zA0 hctr (rs:=res8) true 300 _ _ _ ?_; simp (maxSteps:=1000000) only [VT,jg,jZ,qH,qI,qK,qN,qO,qP,qQ,qR,qS,qV,qe,qp,ev,qw,qy,qz,zD,zF,zG,zI,zJ,zK,zM,↓reduceIte,reduceCtorEq,Nat.reduceEqDiff,Nat.reduceLT,zP,zQ,zR,zW,zt,zu,hP,hk,res8,kp8,nxC,cnE,cnS,he,c1])
   refine zA6 rfl (pgV (r,n0) 2) [cnE c true,⟨(35,0,whole),mqS noS noS Mq.zero,true⟩,cmG r,flG r] (zK5 (C:=C) (N:=2) (x:=(r,n0)) (ys:=[.c (.s c.inp)]) hP (fun args w=>Tryz.call18 args w) (fun ρ w hu=>by rw [← hx]; exact cparse_w c.inp (by have:=hok.inp; omega) w (hE w hu)) (fun q=>by simp only [zG]; omega) (by rw [hn0]; decide) rfl rfl (fun q h1 h2=>by
    match q with
    | 0=>simp [zD,cnE,cnS,he]
    | 1=>rfl
    | 2=>exact absurd rfl h1
    | 3=>exact absurd rfl h2
    | _+4=>rfl)) (by simp [zG]) (by simp) ?_
   cases hk0:(r.kind == 0) with
   | true =>
    (refine zA0 hctr (rs:=res8) true 300 _ _ _ ?_; simp (maxSteps:=1000000) only [VT,jf,qE,qF,qG,qH,qI,qJ,qK,qO,qP,qR,qS,qV,qf,qg,qh,q0t,qu,qv,ev,qy,qz,zA,zB,zC,zD,zE,zF,zG,zI,zJ,TE.sv,zM,↓reduceIte,reduceCtorEq,Value.oneCell',Nat.reduceEqDiff,Nat.reduceAdd,Nat.reduceLT,zP,zQ,zR,zV,zt,zu,rwE,jN,hP,hk,res8,kp8,cnE,cnS,pgV,gqZ,gqS,mqS,noS,Mq.zero,cmG,flG,rwE,hk0])
    exact fin0 _ (by rw [hnx,if_pos (by simpa using hk0)]) rfl
   | false =>
    have hkk:r.kind ≠ 0:=by simpa using hk0
    rw [if_neg hkk] at hnx
    have hl:=cparse_len (b:=c.inp) (by rw [hx]; exact hkk)
    have hs:=skipC c.inp
    rw [hx] at hl hs
    obtain ⟨n,rfl⟩:∃ n:Nat,n0=(n:Int):=⟨n0.toNat,by have:=hl.1; simp only at this; omega⟩
    obtain ⟨hl1,hl2⟩:=hl
    obtain ⟨hs1,hs2⟩:=hs
    simp only at hl1 hl2 hs1 hs2
    rw [Int.toNat_natCast] at hnx
    have hin:=hok.inp
    obtain ⟨p,hp⟩:∃ p,min r.skip.toNat (c.inp.length - n)=p:=⟨_,rfl⟩
    have hpass:zP2 c r n={ c with inp:=c.inp.drop (n+p),skip:=r.skip - (p:Int) }:=by unfold zP2; rw [hp]
    rw [hpass] at hnx
    have d1:IntKind.i64.wrap ((c.inp.length:Int) - (n:Int))=(c.inp.length:Int) - (n:Int):=IntWalk.i64_in _ (by omega)
    have d2:(if (c.inp.length:Int) - (n:Int) < r.skip then (c.inp.length:Int) - (n:Int) else r.skip)=(p:Int):=by split <;> omega
    have d3:IntKind.i64.wrap ((n:Int)+(p:Int))=((n+p:Nat):Int):=by rw [IntWalk.i64_in _ (by omega)]; rfl
    have d4:(0:Int)≤((n+p:Nat):Int):=by omega
    have d5:((n+p:Nat):Int)≤(c.inp.length:Int):=by omega
    have d6:IntKind.i64.wrap (r.skip - (p:Int))=r.skip - (p:Int):=IntWalk.i64_in _ (by omega)
    (refine zA0 hctr (rs:=res8) true 300 _ _ _ ?_; simp (maxSteps:=1000000) only [VT,jg,qH,qI,qJ,qK,qO,qP,qR,qS,qV,qh,q0t,qu,qv,ev,qy,qz,zC,zD,zE,zF,zG,zI,zJ,TE.sv,zM,↓reduceIte,reduceCtorEq,Nat.reduceEqDiff,Nat.reduceAdd,Nat.reduceLT,zP,zQ,zR,zW,zt,zu,rwE,jN,hP,hk,res8,kp8,cnE,cnS,pgV,gqZ,gqS,mqS,noS,Mq.zero,cmG,flG,rwE,hk0])
    (refine zE5 hctr (by rw [hP]; rfl) rs8_6 [] (ensure_type_of% (Cmp.of (by simp (maxSteps := 1000000) only [qK, qN, qO, qP, qQ, qR, qS, qV, qe, qn, ev, qy, zD, zM, ↓reduceIte, reduceCtorEq, Nat.reduceEqDiff, zt, zu, cD, cO, jC, jD, jN, hP, d1, d2]; rfl)) "" Cmp.mk) (by kernel_rfl) (by kernel_rfl) (by first | exact zC7 _ | kernel_rfl) (by kernel_rfl) (by rfl) (by rfl) (by first | exact zB2 _ | rfl) (by rfl) (by simp (maxSteps := 1000000) only [qK, qN, qO, qP, qQ, qR, qS, qV, qe, qn, ev, qy, zD, zM, ↓reduceIte, reduceCtorEq, Nat.reduceEqDiff, zT, zn, zt, zu, jD, jN, jP, jQ, jR, jS, jT, hP, d1, d2]) ?_; refine zA0 hctr (rs := res8) true 300 _ _ _ ?_; simp (maxSteps := 1000000) only [VT, zG, zI, zJ, ↓reduceIte, reduceCtorEq, Nat.reduceEqDiff, Nat.reduceAdd, zP, zQ, zt, jN, jO, hk, kp8])
    cases hcl:r.close with
    | false =>
     rw [hcl,if_neg (by simp)] at hnx
     (refine zE5 hctr (by rw [hP]; rfl) rs8_7 [] (ensure_type_of% (Cmp.of (by simp (maxSteps := 1000000) only [qK, qO, qP, qQ, qR, qS, qV, qZ, ql, qm, q0t, qv, ev, qy, zC, zD, zE, zF, zG, zM, ↓reduceIte, reduceCtorEq, Nat.reduceEqDiff, Nat.reduceAdd, zP, zT, zh, zt, zu, cD, cO, jC, jD, jH, jN, hP, Int.le_refl, d3, d4, d5, d6, List.take_length]; rfl)) "" Cmp.mk) (by kernel_rfl) (by kernel_rfl) (by first | exact zC7 _ | kernel_rfl) (by kernel_rfl) (by rfl) (by rfl) (by first | exact zB2 _ | rfl) (by rfl) (by simp (maxSteps := 1000000) only [qK, qO, qP, qQ, qR, qS, qV, qZ, ql, qm, q0t, qv, ev, qy, zC, zD, zE, zG, zM, ↓reduceIte, reduceCtorEq, Nat.reduceEqDiff, Nat.reduceAdd, Nat.reduceSub, zP, zT, zh, zn, zt, zu, jD, jH, jN, jP, jQ, jR, jS, jT, hP, Int.le_refl, d3, d4, d5, d6, List.take_length]) ?_; refine zA0 hctr (rs := res8) true 300 _ _ _ ?_; simp (maxSteps := 1000000) only [VT, jg, qE, qF, qG, qH, qI, qJ, qK, qO, qP, qV, q0t, qu, qv, ev, qy, qz, zA, zB, zC, zD, zE, zG, zI, zJ, zM, ↓reduceIte, reduceCtorEq, Nat.reduceEqDiff, Nat.reduceAdd, Nat.reduceLT, zP, zQ, zR, zW, zt, jN, jO, hP, hk, res8, kp8])
     exact fin1 _ r _ _ hnx (by simp only [gqZ,gqS,hcl]) rfl rfl rfl
    | true =>
     rw [hcl,if_pos rfl] at hnx
     (refine zE5 hctr (by rw [hP]; rfl) rs8_7 [] (ensure_type_of% (Cmp.of (by simp (maxSteps := 1000000) only [qK, qO, qP, qQ, qR, qS, qV, qZ, ql, qm, q0t, qv, ev, qy, zC, zD, zE, zF, zG, zM, ↓reduceIte, reduceCtorEq, Nat.reduceEqDiff, Nat.reduceAdd, zP, zT, zh, zt, zu, cD, cO, jC, jD, jH, jN, hP, Int.le_refl, d3, d4, d5, d6, List.take_length]; rfl)) "" Cmp.mk) (by kernel_rfl) (by kernel_rfl) (by first | exact zC7 _ | kernel_rfl) (by kernel_rfl) (by rfl) (by rfl) (by first | exact zB2 _ | rfl) (by rfl) (by simp (maxSteps := 1000000) only [qK, qO, qP, qQ, qR, qS, qV, qZ, ql, qm, q0t, qv, ev, qy, zC, zD, zE, zG, zM, ↓reduceIte, reduceCtorEq, Nat.reduceEqDiff, Nat.reduceAdd, Nat.reduceSub, zP, zT, zh, zn, zt, zu, jD, jH, jN, jP, jQ, jR, jS, jT, hP, Int.le_refl, d3, d4, d5, d6, List.take_length]) ?_; refine zA0 hctr (rs := res8) true 300 _ _ _ ?_; simp (maxSteps := 1000000) only [VT, jf, qH, qI, qK, qO, qP, qV, ev, qw, qy, zD, zG, zI, zJ, zM, ↓reduceIte, reduceCtorEq, Nat.reduceEqDiff, Nat.reduceAdd, Nat.reduceLT, zP, zQ, zR, zV, zt, jN, jO, hP, hk, res8, kp8, nxC])
     refine zU7 (N:=0) (c:={ c with inp:=c.inp.drop (n+p),skip:=r.skip - (p:Int) }) (zK8 { c with inp:=c.inp.drop (n+p),skip:=r.skip - (p:Int) }) (ys:=[]) (.t []) rfl hP rfl (by simp [zG]) (fun args w=>Tryz.call14 args w) (fun pr x hx=>by cases hx) (fun ρ w g h=>hang_w h) rfl (by simp) ?_
     (refine zA0 hctr (rs:=res8) true 300 _ _ _ ?_; simp (maxSteps:=1000000) only [VT,qE,qF,qG,qH,qI,qJ,qK,qO,qP,q0t,qu,qv,ev,qy,qz,zA,zB,zC,zD,zE,zG,zI,zJ,zM,↓reduceIte,reduceCtorEq,Nat.reduceEqDiff,Nat.reduceAdd,Nat.reduceLT,zP,zQ,zR,zt,jN,hP,hk,res8,kp8,cnE,cnS,zK8])
     exact fin1 _ r _ _ hnx (by simp only [gqZ,gqS,hcl]) rfl rfl rfl
end Go.Proofs.YtcbmlanpianclaaGreatDoor
/- The document's Next, walked. Printed by gen_dt10.py. -/
namespace Go.Proofs.YtcbmlanpianclaaGreatDoor
set_option linter.unusedSimpArgs false
set_option linter.unusedVariables false
set_option maxHeartbeats 8000000
open Go.RowKit
set_option maxRecDepth 100000
def WNextP (g:Nat) (w:World) (x:Cn × Gq × Bool) (e:Ending) (w':World):Prop:=Upd (One g) w w'∧Blk w' g 28 (wnA x.1)∧∃ v,e=.returned (.tuple #[v,.bool x.2.2])∧GqV w.heap.size w' v x.2.1
theorem wnext_w {c:Cn} (hok:CnOk c) {w:World} {g:Nat} (h:Blk w g 28 (wnA c)) (hEg:∀ w',Upd (One g) w w'→EnvT w'):Calls Tryz.prog 9 #[.pointer (some ⟨g,0,none⟩)] w (WNextP g w (zH0 c)):=by
 have hgs:g < w.heap.size:=h.lt
 refine zA1 Tryz.func9 rfl kp9 (S:=One g) (ρ:=fun _=>zG7 g) [.c (.p 0 0)] Tryz.ntmps9 (wn_at h true (One g) (fun _=>rfl)) (by simp [SV.wf,SC.wf]) (by simp) ?_
 intro C hC hP hk
 have hctr:zC1 C nxC:=by intro f en xs p v h; cases h
 have hn0:C.n0=1:=by rw [hC]; rfl
 have hE:∀ w',Upd C.S C.w0 w'→EnvT w':=fun w' hu=>by rw [hC] at hu; exact hEg w' hu
 have hw0:C.w0=w:=by rw [hC]; rfl
 have hS:C.S=One g:=by rw [hC]; rfl
 have hρ:C.ρ0 0=zG7 g:=by rw [hC]; rfl
 have fin0:∀ en,zH0 c=(c,Gq.zero,false)→zD en 0=some (wnE c true)→Fin C res9 (.t [.g (gqS noS noS Gq.zero),.c (.b false)]) en:=fun en he h0=>by
  refine zC3 (v:=.t [.g (gqS noS noS Gq.zero),.c (.b false)]) hC hres9 fun ρ w' hw _ _=>?_
  have hb:=wn_blk hw h0 (by rw [hn0]; exact Nat.zero_lt_one) hρ
  have hup:=hw.up
  rw [hC] at hup
  rw [he]
  exact ⟨hup,hb,_,rfl,GqV.none rfl rfl⟩
 have fin1:∀ (c':Cn) (r:Gq) V en,zH0 c=(c',r,true)→V=.t [.g (gqZ r 2),.c (.b true)]→zD en 0=some (wnE c' true)→zD en 2=some (cmG r)→zD en 3=some (flG r)→Fin C res9 V en:=fun c' r V en he hV h0 h1 h2=>by
  subst hV
  refine zC3 (v:=.t [.g (gqZ r 2),.c (.b true)]) hC hres9 fun ρ w' hw _ _=>?_
  have hb:=wn_blk hw h0 (by rw [hn0]; exact Nat.zero_lt_one) hρ
  have hup:=hw.up
  rw [hC] at hup
  have l0:0 < en.length:=by rw [zA3] at h0; exact (List.getElem?_eq_some_iff.1 h0).1
  have l2:2 < en.length:=by rw [zA3] at h1; exact (List.getElem?_eq_some_iff.1 h1).1
  have l3:3 < en.length:=by rw [zA3] at h2; exact (List.getElem?_eq_some_iff.1 h2).1
  have e0:ρ 0=zG7 g:=by have:=hw.ini 0 (by rw [hn0]; exact Nat.zero_lt_one); rw [hρ] at this; exact this
  have new:∀ (N:Nat) (t:TypeId) (iv:RE→Prop) (cells:List SC),N < en.length→0 ≠ N→t ≠ zC9→zD en N=some ⟨(t,0,iv),cells,true⟩→((ρ N).nl=none→w.heap.size≤(ρ N).blk):=fun N t iv cells lN hne ht hN hnl=>by
   rcases hw.mu N _ _ lN hN with hs | hs
   ·rw [hS] at hs
    have:(ρ 0).blk=(ρ N).blk:=by rw [e0]; exact hs.symm
    exact absurd (hw.inj 0 N l0 lN ((zA4 h0).2 ⟨by show ¬ ((28:Nat)=zC9); decide,by rw [e0]; rfl⟩) ((zA4 hN).2 ⟨ht,hnl⟩) this) hne
   ·rw [hw0] at hs; exact hs
  rw [he]
  have q1:=zW4 hw l2 h1 (by show ¬ ((52:Nat)=zC9); decide) (new 2 _ _ _ l2 (by decide) (by show ¬ ((52:Nat)=zC9); decide) h1)
  have q2:=zW4 hw l3 h2 (by show ¬ ((9:Nat)=zC9); decide) (new 3 _ _ _ l3 (by decide) (by show ¬ ((9:Nat)=zC9); decide) h2)
  rw [zE7] at q1
  rw [zF4] at q2
  obtain ⟨a1,a2,a3⟩:=q1
  obtain ⟨b1,b2,b3⟩:=q2
  refine ⟨hup,hb,_,rfl,a1,b1,?_,a2,b2,fun h3 h4 hq=>?_⟩
  ·show gqA (zL3 (ρ 2) r.cmds.length) (zL3 (ρ 3) r.flags.length) r=_
   rw [a3.1,b3.1]
  ·have h3':=a3.2 h3
   have h4':=b3.2 h4
   rw [h3'.1,h4'.1] at hq
   have:=hw.inj 2 3 l2 l3 ((zA4 h1).2 ⟨by show ¬ ((52:Nat)=zC9); decide,h3'.2⟩) ((zA4 h2).2 ⟨by show ¬ ((9:Nat)=zC9); decide,h4'.2⟩) hq
   cases this
 cases he:c.ends with
 | true =>
  (refine zA0 hctr (rs:=res9) true 300 _ _ _ ?_; simp (maxSteps:=1000000) only [VT,jf,aA,qE,qF,qG,qH,qI,qJ,qK,qO,qP,qQ,qV,qf,qg,qp,q0t,qu,qv,ev,qy,qz,zA,zB,zC,zD,zE,zF,zG,zI,zJ,zK,zM,↓reduceIte,reduceCtorEq,Value.oneCell',Nat.reduceEqDiff,Nat.reduceAdd,Nat.reduceLT,zP,zQ,zR,zV,zt,hP,hk,res9,kp9,wnE,wnS,he])
  exact fin0 _ (by unfold zH0; rw [if_pos (.inl he)]) (by simp [zD,wnE,wnS,he])
 | false =>
  by_cases ho:100000≤c.out.length
  ·have c1:decide ((100000:Int)≤(c.out.length:Int))=true:=decide_eq_true (by omega)
   (refine zA0 hctr (rs:=res9) true 300 _ _ _ ?_; simp (maxSteps:=1000000) only [VT,jf,jg,jZ,qE,qF,qG,qH,qI,qJ,qK,qN,qO,qP,qQ,qR,qS,qV,qe,qf,qg,qp,q0t,qu,qv,ev,qy,qz,zA,zB,zC,zD,zE,zF,zG,zI,zJ,zK,zM,↓reduceIte,reduceCtorEq,Value.oneCell',Nat.reduceEqDiff,Nat.reduceAdd,Nat.reduceLT,zP,zQ,zR,zV,zW,zt,hP,hk,res9,kp9,wnE,wnS,he,c1])
   exact fin0 _ (by unfold zH0; rw [if_pos (.inr ho)]) (by simp [zD,wnE,wnS,he])
  ·have c1:decide ((100000:Int)≤(c.out.length:Int))=false:=decide_eq_false (by omega)
   have hno:¬ (c.ends=true∨100000≤c.out.length):=by rw [he]; simpa using ho
   obtain ⟨r,n0,hx⟩:∃ r n0,zG4 c.inp=(r,n0):=⟨_,_,rfl⟩
   have hnx:zH0 c=if r.kind=0 then (c,Gq.zero,false) else (if r.close then zK8 (zP2 c r n0.toNat) else zP2 c r n0.toNat,r,true):=by
    unfold zH0; rw [if_neg hno]; simp only [hx]
   (refine zA0 hctr (rs:=res9) true 300 _ _ _ ?_; simp (maxSteps:=1000000) only [VT,jg,jZ,qH,qI,qK,qN,qO,qP,qQ,qR,qS,qV,qe,qp,ev,qw,qy,qz,zD,zF,zG,zI,zJ,zK,zM,↓reduceIte,reduceCtorEq,Nat.reduceEqDiff,Nat.reduceLT,zP,zQ,zR,zW,zt,zu,hP,hk,res9,kp9,nxC,wnE,wnS,he,c1])
   refine zA6 rfl (pgV (r,n0) 2) [wnE c true,⟨(35,0,whole),mqS noS noS Mq.zero,true⟩,cmG r,flG r] (zK5 (C:=C) (N:=2) (x:=(r,n0)) (ys:=[.c (.s c.inp)]) hP (fun args w=>Tryz.call19 args w) (fun ρ w hu=>by rw [← hx]; exact dcparse_w c.inp (by have:=hok.inp; omega) w (hE w hu).env) (fun q=>by simp only [zG]; omega) (by rw [hn0]; decide) rfl rfl (fun q h1 h2=>by
    match q with
    | 0=>simp [zD,wnE,wnS,he]
    | 1=>rfl
    | 2=>exact absurd rfl h1
    | 3=>exact absurd rfl h2
    | _+4=>rfl)) (by simp [zG]) (by simp) ?_
   cases hk0:(r.kind == 0) with
   | true =>
    (refine zA0 hctr (rs:=res9) true 300 _ _ _ ?_; simp (maxSteps:=1000000) only [VT,jf,qE,qF,qG,qH,qI,qJ,qK,qO,qP,qR,qS,qV,qf,qg,qh,q0t,qu,qv,ev,qy,qz,zA,zB,zC,zD,zE,zF,zG,zI,zJ,TE.sv,zM,↓reduceIte,reduceCtorEq,Value.oneCell',Nat.reduceEqDiff,Nat.reduceAdd,Nat.reduceLT,zP,zQ,zR,zV,zt,zu,rwE,jN,hP,hk,res9,kp9,wnE,wnS,pgV,gqZ,gqS,mqS,noS,Mq.zero,cmG,flG,rwE,hk0])
    exact fin0 _ (by rw [hnx,if_pos (by simpa using hk0)]) rfl
   | false =>
    have hkk:r.kind ≠ 0:=by simpa using hk0
    rw [if_neg hkk] at hnx
    have hl:=cparse_len (b:=c.inp) (by rw [hx]; exact hkk)
    have hs:=skipC c.inp
    rw [hx] at hl hs
    obtain ⟨n,rfl⟩:∃ n:Nat,n0=(n:Int):=⟨n0.toNat,by have:=hl.1; simp only at this; omega⟩
    obtain ⟨hl1,hl2⟩:=hl
    obtain ⟨hs1,hs2⟩:=hs
    simp only at hl1 hl2 hs1 hs2
    rw [Int.toNat_natCast] at hnx
    have hin:=hok.inp
    obtain ⟨p,hp⟩:∃ p,min r.skip.toNat (c.inp.length - n)=p:=⟨_,rfl⟩
    have hpass:zP2 c r n={ c with inp:=c.inp.drop (n+p),skip:=r.skip - (p:Int) }:=by unfold zP2; rw [hp]
    rw [hpass] at hnx
    obtain ⟨t,ht⟩:∃ t,c.inp.drop n=t:=⟨_,rfl⟩
    have htl:t.length=c.inp.length - n:=by rw [← ht]; exact List.length_drop
    have htd:t.drop p=c.inp.drop (n+p):=by rw [← ht,List.drop_drop]
    obtain ⟨u,hu⟩:∃ u,c.inp.drop (n+p)=u:=⟨_,rfl⟩
    rw [hu] at htd hnx
    have d0:(0:Int)≤(n:Int):=by omega
    have d1:(n:Int)≤(c.inp.length:Int):=by omega
    have d2:(if (t.length:Int) < r.skip then (t.length:Int) else r.skip)=(p:Int):=by split <;> omega
    have d4:(0:Int)≤(p:Int):=by omega
    have d5:(p:Int)≤(t.length:Int):=by omega
    have d6:IntKind.i64.wrap (r.skip - (p:Int))=r.skip - (p:Int):=IntWalk.i64_in _ (by omega)
    (refine zA0 hctr (rs:=res9) true 300 _ _ _ ?_; simp (maxSteps:=1000000) only [VT,jg,qH,qI,qJ,qK,qO,qP,qQ,qR,qS,qV,qZ,qh,ql,qm,q0t,qu,qv,ev,qy,qz,zC,zD,zE,zF,zG,zI,zJ,TE.sv,zM,↓reduceIte,reduceCtorEq,Nat.reduceEqDiff,Nat.reduceAdd,Nat.reduceLT,zP,zQ,zR,zT,zW,zh,zt,zu,rwE,jN,hP,hk,res9,kp9,wnE,wnS,Int.le_refl,pgV,gqZ,gqS,mqS,noS,Mq.zero,cmG,flG,rwE,hk0,d0,d1,ht,List.take_length])
    cases hcl:r.close with
    | false =>
     rw [hcl,if_neg (by simp)] at hnx
     (refine zE5 hctr (by rw [hP]; rfl) rs9_7 [] (ensure_type_of% (Cmp.of (by simp (maxSteps := 1000000) only [qK, qN, qO, qP, qQ, qV, qe, qn, ev, qy, zD, zM, ↓reduceIte, reduceCtorEq, Nat.reduceEqDiff, zt, zu, cD, cO, jC, jD, jN, hP, d2]; rfl)) "" Cmp.mk) (by kernel_rfl) (by kernel_rfl) (by first | exact zC7 _ | kernel_rfl) (by kernel_rfl) (by rfl) (by rfl) (by first | exact zB2 _ | rfl) (by rfl) (by simp (maxSteps := 1000000) only [qK, qN, qO, qP, qQ, qV, qe, qn, ev, qy, zD, zM, ↓reduceIte, reduceCtorEq, Nat.reduceEqDiff, zT, zn, zt, zu, jD, jN, jP, jQ, jR, jS, jT, hP, d2]) ?_; refine zA0 hctr (rs := res9) true 300 _ _ _ ?_; simp (maxSteps := 1000000) only [VT, jg, qE, qF, qG, qH, qI, qJ, qK, qO, qP, qQ, qR, qS, qV, qZ, ql, qm, q0t, qu, qv, ev, qy, qz, zA, zB, zC, zD, zE, zG, zI, zJ, zM, ↓reduceIte, reduceCtorEq, Nat.reduceEqDiff, Nat.reduceAdd, Nat.reduceLT, zP, zQ, zR, zT, zW, zh, zt, zu, jN, jO, hP, hk, res9, kp9, Int.le_refl, d4, d5, d6, htd, List.take_length])
     exact fin1 _ r _ _ hnx (by simp only [gqZ,gqS,hcl]) rfl rfl rfl
    | true =>
     rw [hcl,if_pos rfl] at hnx
     (refine zE5 hctr (by rw [hP]; rfl) rs9_7 [] (ensure_type_of% (Cmp.of (by simp (maxSteps := 1000000) only [qK, qN, qO, qP, qQ, qV, qe, qn, ev, qy, zD, zM, ↓reduceIte, reduceCtorEq, Nat.reduceEqDiff, zt, zu, cD, cO, jC, jD, jN, hP, d2]; rfl)) "" Cmp.mk) (by kernel_rfl) (by kernel_rfl) (by first | exact zC7 _ | kernel_rfl) (by kernel_rfl) (by rfl) (by rfl) (by first | exact zB2 _ | rfl) (by rfl) (by simp (maxSteps := 1000000) only [qK, qN, qO, qP, qQ, qV, qe, qn, ev, qy, zD, zM, ↓reduceIte, reduceCtorEq, Nat.reduceEqDiff, zT, zn, zt, zu, jD, jN, jP, jQ, jR, jS, jT, hP, d2]) ?_; refine zA0 hctr (rs := res9) true 300 _ _ _ ?_; simp (maxSteps := 1000000) only [VT, jf, qH, qI, qJ, qK, qO, qP, qQ, qR, qS, qV, qZ, ql, qm, q0t, qv, ev, qw, qy, zC, zD, zE, zG, zI, zJ, zM, ↓reduceIte, reduceCtorEq, Nat.reduceEqDiff, Nat.reduceAdd, Nat.reduceLT, zP, zQ, zR, zT, zV, zh, zt, zu, jN, jO, hP, hk, res9, kp9, nxC, Int.le_refl, d4, d5, d6, htd, List.take_length])
     refine Run_wn (N:=0) (c:={ c with inp:=u,skip:=r.skip - (p:Int) }) (zK8 { c with inp:=u,skip:=r.skip - (p:Int) }) (ys:=[]) (.t []) rfl hP rfl (by simp [zG]) (fun args w=>Tryz.call15 args w) (fun pr x hx=>by cases hx) (fun ρ w g h=>whang_w h) rfl (by simp) ?_
     (refine zA0 hctr (rs:=res9) true 300 _ _ _ ?_; simp (maxSteps:=1000000) only [VT,qE,qF,qG,qH,qI,qJ,qK,qO,qP,q0t,qu,qv,ev,qy,qz,zA,zB,zC,zD,zE,zG,zI,zJ,zM,↓reduceIte,reduceCtorEq,Nat.reduceEqDiff,Nat.reduceAdd,Nat.reduceLT,zP,zQ,zR,zt,jN,hP,hk,res9,kp9,wnE,wnS,zK8])
     exact fin1 _ r _ _ hnx (by simp only [gqZ,gqS,hcl]) rfl rfl rfl
theorem wnext_h {C:Cx} {nE G N:Nat} {mk:Nat→Prop} {en en':List EN} {c:Cn} {x:Cn × Gq × Bool} (hok:CnOk c) (hx:zH0 c=x) (hP:C.P=Tryz.prog) (hE:∀ w,Upd C.S C.w0 w→EnvT w) (hG:zD en G=some (wnE c true)) (hGn:G < nE) (hmk:∀ q,mk q ↔ q=N∨q=N+1) (hn0:C.n0≤N)
  (hN:zD en' N=some (cmG x.2.1)) (hM:zD en' (N+1)=some (flG x.2.1)) (hq:∀ q,q ≠ N→q ≠ N+1→zD en' q=zD (zE en G (wnE x.1 true)) q) :
  zJ0 C nE mk en en' 9 [.c (.p G 0)] (.t [.g (gqZ x.2.1 N),.c (.b x.2.2)]):=by
 refine freshT2_h (N:=N) (M:=N+1) (G:=G) (ty:=(28,0,whole)) (cells:=wnS c) (cells':=wnS x.1) (e1:=cmG x.2.1) (e2:=flG x.2.1) (vals1:=ecV x.2.1.cmds) (vals2:=x.2.1.flags.map encW) (fun args w=>by rw [hP]; exact Tryz.call9 args w) hmk (by omega) hn0 (by omega) hN hM hG hGn (by show ¬ (28:Nat)=zC9; decide) (by simp [wnS]) (fun pr=>wn_wf pr _) hq (by show ¬ (52:Nat)=zC9; decide) (by show ¬ (9:Nat)=zC9; decide) (fun ρ=>zE7 ρ _) (fun ρ=>zF4 ρ _) (fun pr=>ec_wf pr _) (fun pr=>st_wf pr _) (fun pr h1 h2=>?_) ?_
 ·intro y hy
  simp only [List.mem_cons,List.not_mem_nil,or_false] at hy
  rcases hy with rfl | rfl
  ·exact gqR_wf h1 h2
  ·trivial
 ·intro ρ pr w hw hpr _
  have hGp:=hpr G hGn
  obtain ⟨k1,k2,k3,k4,k5⟩:=zO4 hw.hp hw.ho hGp hG (by decide) (by simp [wnS])
  have hmu:=hw.mu G _ _ hGp hG
  have hup:∀ w',Upd (One (ρ G).blk) w w'→EnvT w':=fun w' hu=>hE w' (hw.up.trans hu fun q hq (hs:q=(ρ G).blk)=>by
   rcases hmu with h | h
   ·rw [hs]; exact h
   ·omega)
  rw [hP]
  have hargs:(List.map (SV.den ρ) [.c (.p G 0)]).toArray=#[.pointer (some ⟨(ρ G).blk,0,none⟩)]:=by
   simp only [List.map_cons,List.map_nil,SV.den,SC.den,k2]
  rw [hargs]
  refine (wnext_w hok k1 hup).mono ?_
  rintro z w' ⟨hU,hb,v,rfl,r1,r2,rfl,m1,m2,m3⟩
  rw [hx] at *
  refine ⟨r1,r2,m1.made (fun ρ=>zE7 ρ _),m2.made (fun ρ=>zF4 ρ _),m3,fun ρ' _ e1 e2=>?_,hU,?_⟩
  ·rw [← e1,← e2]; rfl
  ·rw [k3,k4]; simpa [Blk,dens_wn] using hb
theorem Run_wnext {C:Cx} {nt:Nat} {sl:List (Nat × SV)} {en:List EN} {k:List KI} {dst:Option Nat} {ty:TypeId} {pos:String} {af:Array Edge} {all r:List Oper} {args:Array Operand} {tys:Array TypeId} {G:Nat} {c:Cn} {x:Cn × Gq × Bool} (hok:CnOk c) (hx:zH0 c=x) (hP:C.P=Tryz.prog) (hE:∀ w,Upd C.S C.w0 w→EnvT w) (hG:zD en G=some (wnE c true)) (hGn:G < zG en) (hn0:C.n0≤zG en)
  (hxs:qw sl args.toList=some [.c (.p G 0)]) (hd:∀ d,dst=some d→d < nt) (hK:Run C (.ops all r :: k) nt (jN dst (.t [.g (gqZ x.2.1 (zG en)),.c (.b x.2.2)]) sl) (zF (zF (zE en G (wnE x.1 true)) (cmG x.2.1)) (flG x.2.1))) :
  Run C (.ops all (⟨dst,.call ⟨.value (.func 9),args,tys⟩,ty,pos,af,none⟩ :: r) :: k) nt sl en:=by
 have hl0:zG (zE en G (wnE x.1 true))=zG en:=len_set
 have hl1:zG (zF (zE en G (wnE x.1 true)) (cmG x.2.1))=zG en+1:=by rw [zX2,hl0]
 have hl:zG (zF (zF (zE en G (wnE x.1 true)) (cmG x.2.1)) (flG x.2.1))=zG en+1+1:=by rw [zX2,hl1]
 refine zA6 hxs _ _ (wnext_h (N:=zG en) hok hx hP hE hG hGn (fun q=>by rw [hl]; omega) hn0 ?_ ?_ (fun q h1 h2=>?_)) (by rw [hl]; omega) hd hK
 ·rw [zH7 (by rw [hl1]; omega)]
  have:=zQ4 (en:=zE en G (wnE x.1 true)) (e:=cmG x.2.1)
  rwa [hl0] at this
 ·have:=zQ4 (en:=zF (zE en G (wnE x.1 true)) (cmG x.2.1)) (e:=flG x.2.1)
  rwa [hl1] at this
 ·rw [zH7 (by rw [hl1]; exact h2),zH7 (by rw [hl0]; exact h1)]
end Go.Proofs.YtcbmlanpianclaaGreatDoor
/- conn.New, conn.Next as calls of a walk; shown of the laws on connections. Printed by gen_cy.py. -/
namespace Go.Proofs.YtcbmlanpianclaaGreatDoor
set_option linter.unusedSimpArgs false
set_option linter.unusedVariables false
set_option maxHeartbeats 8000000
open Go.RowKit
set_option maxRecDepth 100000
def NewP (w:World) (e:Ending) (w':World):Prop:=∃ b,w.heap.size≤b∧e=.returned (.pointer (some ⟨b,0,none⟩))∧Blk w' b 45 (cnA Cn.zero)∧Below w.heap.size w w'
theorem new_w (w:World):Calls Tryz.prog 5 #[] w (NewP w):=by
 refine zA1 Tryz.func5 rfl kp5 (S:=Non) (ρ:=fun _=>zG7 0) (en:=[]) [] Tryz.ntmps5 (At.nil _ _ _) (by simp) (by simp) ?_
 intro C hC hP hk
 have hctr:zC1 C (fun _ _ _=>none):=by intro f en xs p v h; cases h
 (refine zA0 hctr (rs:=res5) true 300 _ _ _ ?_; simp (maxSteps:=1000000) only [VT,qE,qF,qG,qH,qI,qK,qO,qf,qg,q0t,qu,qv,ev,qy,qz,zF,zG,zI,zJ,TE.sv,zK,zM,↓reduceIte,reduceCtorEq,Nat.reduceEqDiff,Nat.reduceLT,zP,zQ,zR,hP,hk,res5,kp5])
 refine zC3 (v:=.c (.p 0 0)) hC hres5 fun ρ w' hw _ _=>?_
 have hup:=hw.up
 rw [hC] at hup
 obtain ⟨k1,k2,k3,k4,k5⟩:=zO4 (c:=0) hw.hp hw.ho (by show 0 < 1; decide) rfl (by show ¬ ((45:Nat)=zC9); decide) (by simp)
 have hmu:=(hw.mu 0 _ _ (by show 0 < 1; decide) rfl).resolve_left (by rw [hC]; exact fun h=>h)
 rw [hC] at hmu
 exact ⟨(ρ 0).blk,hmu,by show Ending.returned (zE1 ρ 0 0)=_; rw [k2],k1,hup.to_below⟩
theorem new_h {C:Cx} {nE N:Nat} {mk:Nat→Prop} {en en':List EN} (hP:C.P=Tryz.prog) (hmk:∀ q,mk q ↔ q=N) (hn0:C.n0≤N) (hN:zD en' N=some (cnE Cn.zero true)) (hq:∀ q,q ≠ N→zD en' q=zD en q) :
  zJ0 C nE mk en en' 5 [] (.c (.p N 0)):=by
 refine zZ2 (vals:=(cnA Cn.zero).toList) (fun args w=>by rw [hP]; exact Tryz.call5 args w) hmk hn0 hN hq (by show ¬ ((45:Nat)=zC9); decide) (fun ρ=>dens_cn ρ _) (fun pr=>cn_wf pr _) (fun pr h=>h) ?_
 intro ρ pr w hw _ _
 rw [hP]
 refine (new_w w).mono ?_
 rintro z w' ⟨b,hb,rfl,hblk,hbl⟩
 refine ⟨⟨b,[],[],0,none⟩,⟨rfl,⟨rfl,rfl⟩,fun _=>⟨hb,?_⟩,fun h=>absurd rfl h,fun h=>absurd rfl h⟩,fun ρ' _ hr=>?_,hbl⟩
 ·have:w'.heap[b]?=some (.cells (cnA Cn.zero) 45 (0,0)):=hblk
  simpa [cnE] using this
 ·show _=Ending.returned (zE1 ρ' N 0)
  simp only [zE1,hr,List.length_nil,Nat.zero_add]
theorem Run_new {C:Cx} {nt:Nat} {sl:List (Nat × SV)} {en:List EN} {k:List KI} {dst:Option Nat} {ty:TypeId} {pos:String} {af:Array Edge} {all r:List Oper} {args:Array Operand} {tys:Array TypeId} (hP:C.P=Tryz.prog) (hn0:C.n0≤zG en)
  (hxs:qw sl args.toList=some []) (hd:∀ d,dst=some d→d < nt) (hK:Run C (.ops all r :: k) nt (jN dst (.c (.p (zG en) 0)) sl) (zF en (cnE Cn.zero true))) :
  Run C (.ops all (⟨dst,.call ⟨.value (.func 5),args,tys⟩,ty,pos,af,none⟩ :: r) :: k) nt sl en:=by
 have hl:zG (zF en (cnE Cn.zero true))=zG en+1:=zX2
 exact zA6 hxs _ _ (new_h (N:=zG en) hP (fun q=>by rw [hl]; omega) hn0 zQ4 (fun q h=>zH7 h)) (by rw [hl]; omega) hd hK
theorem next_h {C:Cx} {nE G N:Nat} {mk:Nat→Prop} {en en':List EN} {c:Cn} {x:Cn × Gq × Bool} (hok:CnOk c) (hx:zH0 c=x) (hP:C.P=Tryz.prog) (hE:∀ w,Upd C.S C.w0 w→EnvT w) (hG:zD en G=some (cnE c true)) (hGn:G < nE) (hmk:∀ q,mk q ↔ q=N∨q=N+1) (hn0:C.n0≤N)
  (hN:zD en' N=some (cmG x.2.1)) (hM:zD en' (N+1)=some (flG x.2.1)) (hq:∀ q,q ≠ N→q ≠ N+1→zD en' q=zD (zE en G (cnE x.1 true)) q) :
  zJ0 C nE mk en en' 8 [.c (.p G 0)] (.t [.g (gqZ x.2.1 N),.c (.b x.2.2)]):=by
 refine freshT2_h (N:=N) (M:=N+1) (G:=G) (ty:=(45,0,whole)) (cells:=cnS c) (cells':=cnS x.1) (e1:=cmG x.2.1) (e2:=flG x.2.1) (vals1:=ecV x.2.1.cmds) (vals2:=x.2.1.flags.map encW) (fun args w=>by rw [hP]; exact Tryz.call8 args w) hmk (by omega) hn0 (by omega) hN hM hG hGn (by show ¬ (45:Nat)=zC9; decide) (by simp [cnS]) (fun pr=>cn_wf pr _) hq (by show ¬ (52:Nat)=zC9; decide) (by show ¬ (9:Nat)=zC9; decide) (fun ρ=>zE7 ρ _) (fun ρ=>zF4 ρ _) (fun pr=>ec_wf pr _) (fun pr=>st_wf pr _) (fun pr h1 h2=>?_) ?_
 ·intro y hy
  simp only [List.mem_cons,List.not_mem_nil,or_false] at hy
  rcases hy with rfl | rfl
  ·exact gqR_wf h1 h2
  ·trivial
 ·intro ρ pr w hw hpr _
  have hGp:=hpr G hGn
  obtain ⟨k1,k2,k3,k4,k5⟩:=zO4 hw.hp hw.ho hGp hG (by decide) (by simp [cnS])
  have hmu:=hw.mu G _ _ hGp hG
  have hup:∀ w',Upd (One (ρ G).blk) w w'→EnvT w':=fun w' hu=>hE w' (hw.up.trans hu fun q hq (hs:q=(ρ G).blk)=>by
   rcases hmu with h | h
   ·rw [hs]; exact h
   ·omega)
  rw [hP]
  have hargs:(List.map (SV.den ρ) [.c (.p G 0)]).toArray=#[.pointer (some ⟨(ρ G).blk,0,none⟩)]:=by
   simp only [List.map_cons,List.map_nil,SV.den,SC.den,k2]
  rw [hargs]
  refine (next_w hok k1 hup).mono ?_
  rintro z w' ⟨hU,hb,v,rfl,r1,r2,rfl,m1,m2,m3⟩
  rw [hx] at *
  refine ⟨r1,r2,m1.made (fun ρ=>zE7 ρ _),m2.made (fun ρ=>zF4 ρ _),m3,fun ρ' _ e1 e2=>?_,hU,?_⟩
  ·rw [← e1,← e2]; rfl
  ·rw [k3,k4]; simpa [Blk,dens_cn] using hb
theorem Run_next {C:Cx} {nt:Nat} {sl:List (Nat × SV)} {en:List EN} {k:List KI} {dst:Option Nat} {ty:TypeId} {pos:String} {af:Array Edge} {all r:List Oper} {args:Array Operand} {tys:Array TypeId} {G:Nat} {c:Cn} {x:Cn × Gq × Bool} (hok:CnOk c) (hx:zH0 c=x) (hP:C.P=Tryz.prog) (hE:∀ w,Upd C.S C.w0 w→EnvT w) (hG:zD en G=some (cnE c true)) (hGn:G < zG en) (hn0:C.n0≤zG en)
  (hxs:qw sl args.toList=some [.c (.p G 0)]) (hd:∀ d,dst=some d→d < nt) (hK:Run C (.ops all r :: k) nt (jN dst (.t [.g (gqZ x.2.1 (zG en)),.c (.b x.2.2)]) sl) (zF (zF (zE en G (cnE x.1 true)) (cmG x.2.1)) (flG x.2.1))) :
  Run C (.ops all (⟨dst,.call ⟨.value (.func 8),args,tys⟩,ty,pos,af,none⟩ :: r) :: k) nt sl en:=by
 have hl0:zG (zE en G (cnE x.1 true))=zG en:=len_set
 have hl1:zG (zF (zE en G (cnE x.1 true)) (cmG x.2.1))=zG en+1:=by rw [zX2,hl0]
 have hl:zG (zF (zF (zE en G (cnE x.1 true)) (cmG x.2.1)) (flG x.2.1))=zG en+1+1:=by rw [zX2,hl1]
 refine zA6 hxs _ _ (next_h (N:=zG en) hok hx hP hE hG hGn (fun q=>by rw [hl]; omega) hn0 ?_ ?_ (fun q h1 h2=>?_)) (by rw [hl]; omega) hd hK
 ·rw [zH7 (by rw [hl1]; omega)]
  have:=zQ4 (en:=zE en G (cnE x.1 true)) (e:=cmG x.2.1)
  rwa [hl0] at this
 ·have:=zQ4 (en:=zF (zE en G (cnE x.1 true)) (cmG x.2.1)) (e:=flG x.2.1)
  rwa [hl1] at this
 ·rw [zH7 (by rw [hl1]; exact h2),zH7 (by rw [hl0]; exact h1)]
def cA:Cn:=⟨[103,101,116,32,97],[],0,false⟩
def cB:Cn:=⟨[103,101,116,32,97,10,109,110,10],[],0,false⟩
def cC1:Cn:=⟨[109,110,10],[],0,false⟩
def gA:Gq:=gqT (zE6 [103,101,116,32,97,10]).1
def gB:Gq:=gqM (zE9 [109,110,10]).1
theorem sn1:zH5 Cn.zero [103,101,116,32,97]=(cA,5):=by kernel_rfl
theorem sn2:zH0 cA=(cA,Gq.zero,false):=by kernel_rfl
theorem sn3:zH5 cA [10,109,110,10]=(cB,4):=by kernel_rfl
theorem sn4:zH0 cB=(cC1,gA,true):=by kernel_rfl
theorem sn5:zH0 cC1=(Cn.zero,gB,true):=by kernel_rfl
theorem sn6:cnPut Cn.zero [97,98,99]=⟨[],[97,98,99],0,false⟩:=rfl
theorem sn7:zG1 ⟨[],[97,98,99],0,false⟩ 2=(⟨[],[99],0,false⟩,[97,98]):=by kernel_rfl
theorem sn8:zG1 ⟨[],[99],0,false⟩ 9=(Cn.zero,[99]):=by kernel_rfl
theorem sn9:gA.kind=1∧gB.kind=7:=by decide +kernel
theorem shownC_w (w:World) (hE0:EnvT w):Calls Tryz.prog 4 #[] w fun e w'=>e=.returned (.bool true)∧Below w.heap.size w w':=by
 refine zA1 Tryz.func4 rfl kp4 (S:=Non) (ρ:=fun _=>zG7 0) (en:=[]) [] Tryz.ntmps4 (At.nil _ _ _) (by simp) (by simp) ?_
 intro C hC hP hk
 have hE:∀ w',Upd C.S C.w0 w'→EnvT w':=fun w' hu=>by rw [hC] at hu; exact hE0.below hu.to_below
 have hctr:zC1 C (fun _ _ _=>none):=by intro f en xs p v h; cases h
 have hn0:C.n0=0:=by rw [hC]; rfl
 have g7:=sn9.1
 have g8:=sn9.2
 have okA:CnOk cA:=⟨by decide,by decide,by decide,by decide⟩
 have okB:CnOk cB:=⟨by decide,by decide,by decide,by decide⟩
 have okC:CnOk cC1:=⟨by decide,by decide,by decide,by decide⟩
 (refine zA0 hctr (rs:=res4) true 300 _ _ _ ?_; simp (maxSteps:=1000000) only [VT,qH,qI,qK,qO,ev,qw,qz,zI,zJ,zK,↓reduceIte,Nat.reduceLT,zP,zR,hk,kp4])
 refine Run_new hP (by rw [hn0]; exact Nat.zero_le _) rfl (by simp) ?_
 (refine zA0 hctr (rs:=res4) true 300 _ _ _ ?_; simp (maxSteps:=1000000) only [VT,jg,jZ,qH,qI,qK,qO,qR,qp,ev,qw,qy,qz,zD,zF,zG,zI,zJ,↓reduceIte,reduceCtorEq,Nat.reduceEqDiff,Nat.reduceLT,zP,zQ,zR,zW,jN,hP,hk,res4,kp4])
 refine ⟨⟨_,Tryz.underlying24⟩,?_⟩
 refine zU7 (N:=0) (c:=Cn.zero) cA (ys:=[.c (.s [103,101,116,32,97])]) (.c (.i .i64 5)) rfl hP rfl (by simp [zG]) (fun args w=>Tryz.call6 args w) (fun pr=>by simp [SV.wf,SC.wf]) (fun ρ w g h=>by have:=feed_w CnOk.zero [103,101,116,32,97] (by simp) h; rw [sn1] at this; exact this) rfl (by simp) ?_
 (refine zA0 hctr (rs:=res4) true 300 _ _ _ ?_; simp (maxSteps:=1000000) only [VT,jg,jZ,qH,qI,qK,qO,qR,qS,qp,ev,qw,qy,qz,zD,zE,zI,zJ,↓reduceIte,reduceCtorEq,Nat.reduceEqDiff,Nat.reduceLT,zP,zQ,zR,zW,jN,hP,hk,res4,kp4,bne_self_eq_false])
 refine Run_next (G:=0) okA sn2 hP hE rfl (by simp [zG]) (by rw [hn0]; exact Nat.zero_le _) rfl (by simp) ?_
 (refine zA0 hctr (rs:=res4) true 300 _ _ _ ?_; simp (maxSteps:=1000000) only [VT,qH,qI,qJ,qK,qO,qh,q0t,qu,qv,ev,qw,qy,qz,zC,zD,zE,zF,zG,zI,zJ,TE.sv,zM,↓reduceIte,reduceCtorEq,Nat.reduceEqDiff,Nat.reduceAdd,Nat.reduceLT,zP,zQ,zR,zl,zt,jN,hP,hk,kp4,gqZ,gqS,Gq.zero])
 refine zU7 (N:=0) (c:=cA) cB (ys:=[.c (.s [10,109,110,10])]) (.c (.i .i64 4)) rfl hP rfl (by simp [zG]) (fun args w=>Tryz.call6 args w) (fun pr=>by simp [SV.wf,SC.wf]) (fun ρ w g h=>by have:=feed_w okA [10,109,110,10] (by simp) h; rw [sn3] at this; exact this) rfl (by simp) ?_
 (refine zA0 hctr (rs:=res4) true 300 _ _ _ ?_; simp (maxSteps:=1000000) only [VT,qH,qI,qK,qO,ev,qw,qy,zE,zI,zJ,↓reduceIte,reduceCtorEq,Nat.reduceEqDiff,Nat.reduceLT,zP,zQ,zR,jN,hk,kp4])
 refine Run_next (G:=0) okB sn4 hP hE rfl (by simp [zG]) (by rw [hn0]; exact Nat.zero_le _) rfl (by simp) ?_
 (refine zA0 hctr (rs:=res4) true 300 _ _ _ ?_; simp (maxSteps:=1000000) only [VT,qH,qI,qJ,qK,qO,qh,q0t,qu,qv,ev,qw,qy,zC,zD,zE,zF,zG,zI,zJ,TE.sv,zM,↓reduceIte,reduceCtorEq,Nat.reduceEqDiff,Nat.reduceAdd,Nat.reduceLT,zP,zQ,zR,zt,jN,hP,hk,kp4,gqZ,gqS])
 refine Run_next (G:=0) okC sn5 hP hE rfl (by simp [zG]) (by rw [hn0]; exact Nat.zero_le _) rfl (by simp) ?_
 (refine zA0 hctr (rs:=res4) true 300 _ _ _ ?_; simp (maxSteps:=1000000) only [VT,qH,qI,qJ,qK,qO,qh,q0t,qu,qv,ev,qw,qy,qz,zC,zD,zE,zF,zG,zI,zJ,TE.sv,zM,↓reduceIte,reduceCtorEq,Nat.reduceEqDiff,Nat.reduceAdd,Nat.reduceLT,zP,zQ,zR,zt,jN,hP,hk,kp4,gqZ,gqS])
 refine zU7 (N:=0) (c:=Cn.zero) ⟨[],[97,98,99],0,false⟩ (ys:=[.c (.s [97,98,99])]) (.t []) rfl hP rfl (by simp [zG]) (fun args w=>Tryz.call11 args w) (fun pr=>by simp [SV.wf]) (fun ρ w g h=>by have:=put_w (c:=Cn.zero) [97,98,99] (by decide) h; rw [sn6] at this; exact this) rfl (by simp) ?_
 (refine zA0 hctr (rs:=res4) true 400 _ _ _ ?_; simp (maxSteps:=1000000) only [VT,jf,jZ,qE,qF,qG,qH,qI,qK,qO,qP,qR,qS,qT,qV,qp,ev,qw,qy,qz,zD,zE,zI,zJ,TE.sv,zM,↓reduceIte,reduceCtorEq,Nat.reduceEqDiff,Nat.reduceLT,zP,zQ,zR,zV,zW,zu,jN,hP,hk,res4,kp4,beq_self_eq_true,g7,g8])
 refine zU7 (N:=0) (c:=⟨[],[97,98,99],0,false⟩) ⟨[],[99],0,false⟩ (ys:=[.c (.i .i64 2)]) (.c (.s [97,98])) rfl hP rfl (by simp [zG]) (fun args w=>Tryz.call12 args w) (fun pr=>by simp [SV.wf,SC.wf]) (fun ρ w g h=>by have:=write_w (c:=⟨[],[97,98,99],0,false⟩) 2 (by decide) h; rw [sn7] at this; exact this) rfl (by simp) ?_
 (refine zA0 hctr (rs:=res4) true 400 _ _ _ ?_; simp (maxSteps:=1000000) only [VT,jf,jZ,qE,qF,qG,qH,qI,qK,qO,qR,qS,qp,ev,qw,qy,qz,zD,zE,zI,zJ,TE.sv,↓reduceIte,reduceCtorEq,Nat.reduceEqDiff,Nat.reduceLT,zP,zQ,zR,zV,jN,hP,hk,res4,kp4,beq_self_eq_true])
 refine zU7 (N:=0) (c:=⟨[],[99],0,false⟩) Cn.zero (ys:=[.c (.i .i64 9)]) (.c (.s [99])) rfl hP rfl (by simp [zG]) (fun args w=>Tryz.call12 args w) (fun pr=>by simp [SV.wf,SC.wf]) (fun ρ w g h=>by have:=write_w (c:=⟨[],[99],0,false⟩) 9 (by decide) h; rw [sn8] at this; exact this) rfl (by simp) ?_
 (refine zA0 hctr (rs:=res4) true 400 _ _ _ ?_; simp (maxSteps:=1000000) only [VT,jf,jZ,qE,qF,qG,qH,qI,qK,qO,qR,qS,qp,ev,qw,qy,qz,zD,zE,zI,zJ,TE.sv,↓reduceIte,reduceCtorEq,Nat.reduceEqDiff,Nat.reduceLT,zP,zQ,zR,zV,jN,hP,hk,res4,kp4,beq_self_eq_true])
 refine zU7 (N:=0) (c:=Cn.zero) Cn.zero (ys:=[]) (.c (.b false)) rfl hP rfl (by simp [zG]) (fun args w=>Tryz.call17 args w) (fun pr=>by simp [SV.wf,SC.wf]) (fun ρ w g h=>ends_w h) rfl (by simp) ?_
 (refine zA0 hctr (rs:=res4) true 400 _ _ _ ?_; simp (maxSteps:=1000000) only [VT,jf,jZ,qE,qF,qG,qH,qI,qK,qO,qT,qp,ev,qy,qz,zD,zE,zI,zJ,TE.sv,↓reduceIte,reduceCtorEq,Nat.reduceEqDiff,Nat.reduceLT,zP,zQ,zR,zV,zW,jN,hP,hk,res4,kp4])
 exact zH3 (v:=.c (.b true)) hC hres4 rfl trivial
end Go.Proofs.YtcbmlanpianclaaGreatDoor
/- What the laws on connections share. Printed by gen_cends.py. -/
namespace Go.Proofs.YtcbmlanpianclaaGreatDoor
set_option linter.unusedSimpArgs false
set_option linter.unusedVariables false
open Go.RowKit
set_option maxRecDepth 100000
def clC:Ctr:=fun f _ xs=>match f with
 | 4=>(match xs with
  | []=>some (True,.c (.b true))
  | _=>none)
 | _=>none
theorem clC_ok {C:Cx} (hP:C.P=Tryz.prog) (hE:∀ w,Upd C.S C.w0 w→EnvT w):zC1 C clC:=by
 intro f en xs p v h hp ρ w hup hHp hHo hinj hwf
 unfold clC at h
 split at h
 ·rw [hP]
  refine ⟨fun args w=>Tryz.call4 args w,?_⟩
  split at h <;> simp only [Option.some.injEq,Prod.mk.injEq,reduceCtorEq] at h
  obtain ⟨_,rfl⟩:=h
  exact ⟨trivial,shownC_w w (hE w hup)⟩
 ·cases h
theorem feed_out (c:Cn) (b:List UInt8):(zH5 c b).1.out=c.out:=by unfold zH5; split <;> rfl
theorem ptr_und:∃ e,Tryz.prog.underlying 24=some (.pointer e):=⟨_,Tryz.underlying24⟩
end Go.Proofs.YtcbmlanpianclaaGreatDoor
/- ambryref20.Same of two equal requests of either protocol, both handed back as rows. Printed by gen_csam2.py. -/
namespace Go.Proofs.YtcbmlanpianclaaGreatDoor
set_option linter.unusedSimpArgs false
set_option linter.unusedVariables false
set_option maxHeartbeats 8000000
open Go.RowKit
set_option maxRecDepth 100000
theorem gsame_w {w:World} {a a' fa fa':Option Addr} {m c c' n fc fc':Nat} {r:Gq} (hr:RawC w a r.cmds) (hr':RawC w a' r.cmds) (hm:r.cmds.length=m) (h1:m≤c) (h2:m≤c') (hl:m≤9223372036854775807) (hf:RawT w fa r.flags) (hf':RawT w fa' r.flags) (hn:r.flags.length=n) (hnl:n≤9223372036854775807) :
  Calls Tryz.prog 10 #[gqA (.slice a m c) (.slice fa n fc) r,gqA (.slice a' m c') (.slice fa' n fc') r] w fun e w'=>e=.returned (.bool true)∧Below w.heap.size w w':=by
 refine zA1 Tryz.func10 rfl kp10 (S:=Non) (ρ:=fun _=>zG7 0) (en:=[]) [.g (gqS (.v (.slice a m c)) (.v (.slice fa n fc)) r),.g (gqS (.v (.slice a' m c')) (.v (.slice fa' n fc')) r)] Tryz.ntmps10 (At.nil _ _ _) (by intro x hx; simp only [List.mem_cons,List.not_mem_nil,or_false] at hx; rcases hx with rfl | rfl <;> (intro z hz; simp only [gqS,List.mem_cons,List.not_mem_nil,or_false] at hz; rcases hz with rfl | rfl | rfl | rfl | rfl | rfl | rfl | rfl | rfl | rfl | rfl <;> trivial)) (by simp) ?_
 intro C hC hP hk
 have hctr:=saC_ok (fc:=fc) (fc':=fc') hP (fun w' hu=>by rw [hC] at hu; exact ⟨hf.upd hu,hf'.upd hu⟩) hn hnl
 (refine zA0 hctr (rs:=res10) true 300 _ _ _ ?_; simp (maxSteps:=1000000) only [VT,jg,jZ,qH,qI,qK,qN,qO,qP,qR,qS,qT,qV,qe,qp,q0t,qu,qv,ev,qw,qy,qz,zD,zF,zG,zI,zJ,zK,zM,↓reduceIte,reduceCtorEq,Value.oneCell',Nat.reduceEqDiff,Nat.reduceLT,zP,zQ,zR,zT,zV,zW,zt,zu,hP,hk,res10,kp10,saC,rowSame2,gqS,bne_self_eq_false,List.append_eq,List.cons_append,List.nil_append,beq_self_eq_true])
 refine ⟨Tryz.underlying4,Tryz.underlying4,Tryz.underlying4,?_⟩
 refine zD6 (ι:={ j:Nat // j≤m }) (fun j=>[(6,.c (.i .i64 (j.1:Int))),(2,.c (.p 0 0)),(3,.c (.p 1 0))])
  (fun _=>[⟨(35,0,whole),gqS (.v (.slice a m c)) (.v (.slice fa n fc)) r,true⟩,⟨(35,0,whole),gqS (.v (.slice a' m c')) (.v (.slice fa' n fc')) r,true⟩]) (fun j=>m+1 - j.1) ⟨0,Nat.zero_le _⟩ (zB3 ⟨rfl,rfl,rfl,trivial⟩) rfl ?_
 rintro ⟨j,hj⟩ D dP dS dw dn dr dk ddf dPan dRet hX hJ
 have hP0:=hP; have hk0:=hk; have hctr0:=hctr
 have hP:D.P=Tryz.prog:=by rw [dP]; exact hP0
 have hk:D.kp=kp10:=by rw [dk]; exact hk0
 have hctr:zC1 D (saC fa fa' n fc fc'):=saC_ok hP (fun w' hu=>by rw [dS,dw,hC] at hu; exact ⟨hf.upd hu,hf'.upd hu⟩) hn hnl
 have hS':D.S=Non:=by rw [dS,hC]; rfl
 have hw':D.w0=w:=by rw [dw,hC]; rfl
 by_cases hjn:j < m
 ·obtain ⟨x,hx⟩:∃ x,r.cmds[j]?=some x:=⟨_,List.getElem?_eq_getElem (by omega)⟩
  obtain ⟨b,o,rfl,hb,hc1⟩:=hr j x hx
  obtain ⟨b',o',rfl,hb',hc2⟩:=hr' j x hx
  have r1:D.rd b (o+j * 16) 16=some (ecS x):=rd_arg hS' hw' hb hc1 rfl
  have r2:D.rd b' (o'+j * 16) 16=some (ecS x):=rd_arg hS' hw' hb' hc2 rfl
  simp only [ecS] at r1 r2
  have c1:decide ((j:Int) < ((m:Nat):Int))=true:=decide_eq_true (by omega)
  have p3:IntKind.i64.wrap ((j:Int)+1)=((j+1:Nat):Int):=by rw [IntWalk.i64_in _ (by omega)]; rfl
  have p0:(0:Int)≤(j:Int):=by omega
  have p1:(j:Int) < ((m:Nat):Int):=by omega
  (refine zA0 hctr (rs:=res10) true 300 _ _ _ ?_; simp (maxSteps:=1000000) only [VT,jf,qH,qI,qK,qN,qO,qP,qR,qS,qV,qe,ev,qy,zD,zI,zJ,zM,↓reduceIte,reduceCtorEq,Nat.reduceEqDiff,Nat.reduceLT,zP,zQ,zR,zV,zo,zt,hP,hk,res10,kp10,gqS,p1])
  (refine zE5 hctr (by rw [hP]; rfl) rs10_7 [] (ensure_type_of% (Cmp.of (by simp (maxSteps := 1000000) only [qK, qL, qM, qO, qP, qR, qV, qX, ev, qy, zD, zM, ↓reduceIte, Nat.reduceEqDiff, zT, zV, zh, zt, zx, cD, cO, jC, jD, jN, hP, p0, p1, r1, r2, steq_cm, beq_self_eq_true]; rfl)) "" Cmp.mk) (by kernel_rfl) (by kernel_rfl) (by first | exact zC7 _ | kernel_rfl) (by kernel_rfl) (by rfl) (by rfl) (by first | exact zB2 _ | rfl) (by rfl) (by simp (maxSteps := 1000000) only [qK, qL, qM, qO, qP, qR, qV, qX, ev, qy, zD, zM, ↓reduceIte, Nat.reduceEqDiff, zT, zV, zh, zn, zt, zx, jD, jN, jP, jQ, jR, jS, jT, hP, p0, p1, r1, r2, steq_cm, beq_self_eq_true]) ?_; refine zA0 hctr (rs := res10) true 300 _ _ _ ?_; simp (maxSteps := 1000000) only [VT, jg, qH, qI, qK, qO, qR, qS, ev, qy, qz, zG, zI, zJ, ↓reduceIte, reduceCtorEq, Nat.reduceEqDiff, Nat.reduceAdd, Nat.reduceLT, zP, zQ, zR, zW, zt, jN, jO, hk, res10, kp10, p3])
  exact hJ ⟨j+1,by omega⟩ _ (by show m+1 - (j+1) < m+1 - j; omega) (zB3 ⟨rfl,rfl,rfl,trivial⟩)
 ·have c1:decide ((j:Int) < ((m:Nat):Int))=false:=decide_eq_false (by omega)
  (refine zA0 hctr (rs:=res10) true 300 _ _ _ ?_; simp (maxSteps:=1000000) only [VT,jg,qH,qI,qK,qN,qO,qP,qR,qS,qV,qe,ev,qy,zD,zH,zI,zJ,zM,↓reduceIte,reduceCtorEq,Nat.reduceEqDiff,Nat.reduceLT,zP,zQ,zR,zW,zt,hP,hk,res10,kp10,gqS,c1])
  refine hX rfl rfl ?_
  have hP:=hP0; have hk:=hk0; have hctr:=hctr0
  (refine zA0 hctr (rs:=res10) true 300 _ _ _ ?_; simp (maxSteps:=1000000) only [VT,qE,qF,qG,qH,qI,qK,qO,ev,qy,qz,zI,zJ,TE.sv,↓reduceIte,reduceCtorEq,Nat.reduceEqDiff,Nat.reduceLT,zP,zR,hk,res10,kp10])
  exact zH3 (v:=.c (.b true)) hC hres10 rfl trivial
def rowSameG (r:Gq) (en:List EN):List SV→Option (Prop × SV)
 | [.g xs,.g ys]=>some (∃ N N',xs=gqZ r N∧ys=gqZ r N'∧zD en N=some (cmG r)∧zD en (N+1)=some (flG r)∧zD en N'=some (cmG r)∧zD en (N'+1)=some (flG r),.c (.b true))
 | _=>none
theorem rowSameG_ok {r:Gq} {ρ:Nat→RE} {en:List EN} {w:World} {xs:List SV} {p:Prop} {v:SV} (h:rowSameG r en xs=some (p,v)) (hp:p) (hHp:Hp ρ (· < en.length) en w) (hHo:Ho ρ (· < en.length) en) :
  v.wf (· < en.length)∧Calls Tryz.prog 10 (xs.map (SV.den ρ)).toArray w fun e w'=>e=.returned (v.den ρ)∧Below w.heap.size w w':=by
 unfold rowSameG at h
 split at h <;> simp only [Option.some.injEq,Prod.mk.injEq,reduceCtorEq] at h
 obtain ⟨rfl,rfl⟩:=h
 obtain ⟨N,N',rfl,rfl,h1,h2,h1',h2'⟩:=hp
 obtain ⟨a,c,e1,c1,R1,h3⟩:=rawC_of hHp hHo h1
 obtain ⟨a',c',e2,c2,R2,_⟩:=rawC_of hHp hHo h1'
 obtain ⟨fa,fc,g1,F1,h4⟩:=rawT_of hHp hHo h2
 obtain ⟨fa',fc',g2,F2,_⟩:=rawT_of hHp hHo h2'
 refine ⟨trivial,?_⟩
 have:=gsame_w (fc:=fc) (fc':=fc') R1 R2 rfl c1 c2 h3 F1 F2 rfl h4
 rw [← e1,← e2,← g1,← g2] at this
 exact this
end Go.Proofs.YtcbmlanpianclaaGreatDoor
/- Arguments that are slices of plain structs (numbers, texts, truths), opened: where each cell lies, and of what kind it is. -/
namespace Go.Proofs.YtcbmlanpianclaaGreatDoor
set_option linter.unusedSimpArgs false
set_option linter.unusedVariables false
open Go.ChangeShapes Go.WideShapes Go.ChangeAt Go.RowKit Go.Deep
inductive KD where
 | i (k:IntKind)
 | s
 | b
def kdOf (P:Program) (t:TypeId):Option KD:=match P.underlying t with
 | some (.int k)=>some (.i k)
 | some .string=>some .s
 | some .bool=>some .b
 | _=>none
def KD.ok:KD→Value→Prop
 | .i k,v=>∃ n,v=.int k n∧(Lit.int k n).wf=true
 | .s,v=>∃ l:List UInt8,v=.string ⟨l.toArray⟩∧l.length≤maxLen
 | .b,v=>∃ x,v=.bool x
def intV:Value→Int | .int _ n=>n | _=>0
def strV:Value→List UInt8 | .string s=>s.data.toList | _=>[]
section
variable {H:Type} {enc:TypeId × Value→H} {P:Program} {w:World}
theorem kd_cell {t:TypeId} {kd:KD} {v:Value} {held:Bool} {m:Nat} {y:DataW H × List MemPlace} (hk:kdOf P t=some kd) (h:DataW.trod enc P w 0 (fun _=>true) held m t [v]=some y):kd.ok v:=by
 unfold kdOf at hk
 split at hk <;> simp only [Option.some.injEq,reduceCtorEq] at hk <;> subst hk
 ·rename_i k hu
  obtain ⟨n,hn,_,hw⟩:=DataW.trod_int hu h
  simp only [List.cons.injEq,and_true] at hn
  exact ⟨n,hn,hw⟩
 ·rename_i hu
  obtain ⟨s,hs,_,hl⟩:=DataW.trod_string hu h
  simp only [List.cons.injEq,and_true] at hs
  obtain ⟨⟨l⟩⟩:=s
  exact ⟨l,hs,hl⟩
 ·rename_i hu
  obtain ⟨x,hx,_⟩:=DataW.trod_bool hu h
  simp only [List.cons.injEq,and_true] at hx
  exact ⟨x,hx⟩
def kinds (P:Program) (e:TypeId):Option (List (Option KD)):=match P.underlying e with
 | some (.struct fs)=>if oneCellFields P fs && P.cellsOf e == fs.size then some (fs.toList.map fun f=>kdOf P f.type) else none
 | _=>none
theorem open_rows {base:Nat} {t e:TypeId} {ks:List KD} {v:Value} {d:DataW H} {ps:List MemPlace} (ht:P.underlying t=some (.slice e)) (hks:kinds P e=some (ks.map some)) (hpos:0 < ks.length) (hv:Value.okWide P w .any base t v) (h:DataW.Trod enc P w 0 (fun _=>true) true t v d ps) :
  ∃ (A:Option Addr) (n c:Nat),v=.slice A n c∧n≤maxLen∧∀ k,k < n→∃ b o,A=some ⟨b,o,none⟩∧b < w.heap.size∧∀ j kd,ks[j]?=some kd→∃ u,w.cell? ⟨b,o+k * ks.length+j,none⟩=some u∧kd.ok u:=by
 obtain ⟨a0,len,cap,rfl⟩:=okWide_slice ht hv
 obtain ⟨fuel,hf⟩:=h
 unfold kinds at hks
 split at hks <;> try cases hks
 rename_i fs hu
 split at hks <;> simp only [Option.some.injEq,reduceCtorEq] at hks
 rename_i hone
 simp only [Bool.and_eq_true,beq_iff_eq] at hone
 obtain ⟨A,n,c,jB,hn,hel⟩:=open_structs ht hu hone.1 hone.2 hf
 have e0:Value.slice a0 len cap=.slice A n c:=by simpa [Value.cells] using jB
 have hsz:fs.size=ks.length:=by have:=congrArg List.length hks; simpa using this
 have hat:∀ (j:Nat) (kd:KD),ks[j]?=some kd→∃ f,fs[j]?=some f∧kdOf P f.type=some kd:=fun j kd hj=>by
  have h1:(fs.toList.map fun f=>kdOf P f.type)[j]?=(ks.map some)[j]?:=by rw [hks]
  rw [List.getElem?_map,List.getElem?_map,hj] at h1
  simp only [Option.map_some,Option.map_eq_some_iff] at h1
  obtain ⟨f,hf1,hf2⟩:=h1
  exact ⟨f,by simpa using hf1,hf2⟩
 refine ⟨A,n,c,e0,hn,fun k hk=>?_⟩
 obtain ⟨k0,hk0⟩:∃ k0,ks[0]?=some k0:=⟨ks[0]'hpos,List.getElem?_eq_getElem _⟩
 obtain ⟨f0,hf0,_⟩:=hat 0 k0 hk0
 obtain ⟨a,ha,hj⟩:=hel 0 (by omega)
 obtain ⟨v0,_,_,hc0,_⟩:=hj 0 f0 hf0
 rw [Nat.zero_mul,Nat.zero_add] at hc0
 obtain ⟨b,o,rfl,hb⟩:=plain_addr hc0
 refine ⟨b,o,ha,hb,fun j kd hjk=>?_⟩
 obtain ⟨f,hf1,hf2⟩:=hat j kd hjk
 obtain ⟨a',ha',hj'⟩:=hel k hk
 rw [ha] at ha'; cases ha'
 obtain ⟨u,y,m,hc,hr⟩:=hj' j f hf1
 rw [hsz,Go.WideShapes.add_plain,← Nat.add_assoc] at hc
 exact ⟨u,hc,kd_cell hf2 hr⟩
end
end Go.Proofs.YtcbmlanpianclaaGreatDoor
/- An argument that is a slice of steps (ambrylaw22.Op), opened. -/
namespace Go.Proofs.YtcbmlanpianclaaGreatDoor
set_option linter.unusedSimpArgs false
set_option linter.unusedVariables false
open Go.ChangeShapes Go.WideShapes Go.ChangeAt Go.RowKit Go.Deep
def opKs:List KD:=[.i .i64,.i .i64,.s]
structure POp where
 k:Int
 n:Int
 s:List UInt8
def popA (x:POp):List Value:=[.int .i64 x.k,.int .i64 x.n,.string ⟨x.s.toArray⟩]
def popS (x:POp):List SC:=[.i .i64 x.k,.i .i64 x.n,.s x.s]
structure PopOk (x:POp):Prop where
 n0:-9223372036854775808≤x.n
 n1:x.n≤9223372036854775807
 s:x.s.length≤maxLen
def OpsAt (W:World) (A:Option Addr) (n:Nat) (f:Nat→POp):Prop:=∀ k,k < n→∃ b o,A=some ⟨b,o,none⟩∧b < W.heap.size∧(∀ (j:Nat) v,(popA (f k))[j]?=some v→W.cell? ⟨b,o+k * 3+j,none⟩=some v)∧PopOk (f k)
theorem OpsAt.rd {W:World} {A:Option Addr} {n:Nat} {f:Nat→POp} (h:OpsAt W A n f) {D:Cx} (hS:D.S=Non) (hw:D.w0=W) {k:Nat} (hk:k < n):∃ b o,A=some ⟨b,o,none⟩∧D.rd b (o+k * 3) 3=some (popS (f k))∧PopOk (f k):=by
 obtain ⟨b,o,ha,hb,hc,hok⟩:=h k hk
 exact ⟨b,o,ha,rd_arg (vs:=popA (f k)) hS hw hb hc rfl,hok⟩
set_option maxRecDepth 100000 in
theorem open_opl {H:Type} {enc:TypeId × Value→H} {W:World} {base:Nat} {v:Value} {d:DataW H} {ps:List MemPlace} (hv:Value.okWide Tryz.prog W .any base 22 v) (h:DataW.Trod enc Tryz.prog W 0 (fun _=>true) true 22 v d ps) :
  ∃ (A:Option Addr) (n c:Nat) (f:Nat→POp),v=.slice A n c∧n≤maxLen∧OpsAt W A n f:=by
 obtain ⟨A,n,c,rfl,hn,hel⟩:=open_rows (ks:=opKs) Tryz.underlying22 (by kernel_rfl) (by decide) hv h
 obtain ⟨g,hg⟩:∃ g:Nat→Nat→Value,g=fun k j=>match A with | some a=>(W.cell? ⟨a.block,a.off+k * 3+j,none⟩).getD undef | none=>undef:=⟨_,rfl⟩
 refine ⟨A,n,c,fun k=>⟨intV (g k 0),intV (g k 1),strV (g k 2)⟩,rfl,hn,fun k hk=>?_⟩
 obtain ⟨b,o,rfl,hb,hj⟩:=hel k hk
 have hlen:opKs.length=3:=rfl
 rw [hlen] at hj
 obtain ⟨q0,c0,n0,rfl,_⟩:=hj 0 _ rfl
 obtain ⟨q1,c1,n1,rfl,w1⟩:=hj 1 _ rfl
 obtain ⟨q2,c2,l2,rfl,k2⟩:=hj 2 _ rfl
 have e:(⟨intV (g k 0),intV (g k 1),strV (g k 2)⟩:POp)=⟨n0,n1,l2⟩:=by
  rw [hg]; simp only [c0,c1,c2,Option.getD_some,intV,strV]
 refine ⟨b,o,rfl,hb,?_,?_⟩
 ·simp only [e]
  intro j v hv
  match j with
  | 0=>rw [c0]; exact hv
  | 1=>rw [c1]; exact hv
  | 2=>rw [c2]; exact hv
  | j+3=>simp [popA] at hv
 ·simp only [e]
  have:=bounds_i64 w1
  exact ⟨by show -9223372036854775808≤n1; omega,by show n1≤9223372036854775807; omega,k2⟩
end Go.Proofs.YtcbmlanpianclaaGreatDoor
/- A walk may forget entries that nothing refers to. No program in sight. -/
namespace Go.Proofs.YtcbmlanpianclaaGreatDoor
set_option linter.unusedSimpArgs false
set_option linter.unusedVariables false
open Go.RowKit
section
variable {C:Cx} {nt:Nat} {sl:List (Nat × SV)} {en:List EN} {k:List KI}
theorem getS_mem:∀ {sl:List (Nat × SV)} {d:Nat} {v:SV},qy sl d=some v→(d,v)∈sl
 | [],d,v,h=>by simp [qy] at h
 | (e,u) :: s,d,v,h=>by
  simp only [qy] at h
  split at h
  ·rename_i e'; subst e'; simp only [Option.some.injEq] at h; subst h; simp
  ·exact List.mem_cons_of_mem _ (getS_mem h)
theorem nth_pre {l tl:List EN} {c:Nat} (h:c < l.length):zD (l++tl) c=zD l c:=by
 rw [zA3,zA3,List.getElem?_append_left h]
theorem zL0 {sl':List (Nat × SV)} (en' tl:List EN) (hen:en=en'++tl) (hn:C.n0≤en'.length) (hc:∀ e∈en',wfs (· < en'.length) e.cells) (hs:sub sl' sl) (hw:∀ x∈sl',x.2.wf (· < en'.length)) (h:Run C k nt sl' en'):Run C k nt sl en:=by
 intro ρ a w hr
 subst hen
 have hlt:∀ {c},c < en'.length→c < (en'++tl).length:=fun h=>by rw [List.length_append]; omega
 have hdd:∀ {c},c < en'.length→zD (en'++tl) c=zD en' c:=fun h=>nth_pre h
 refine h ρ a w ⟨⟨?_,?_,?_,hr.hw.up,?_,hr.hw.ini⟩,?_,hr.sz,hr.df,hn⟩
 ·intro c t cells mu hc' he
  have:=hr.hw.hp c t cells mu (hlt hc') (by rw [hdd hc']; exact he)
  refine ⟨this.heap,?_,this.dead,this.non⟩
  have hm:(⟨t,cells,mu⟩:EN)∈en':=by rw [zA3] at he; exact List.mem_of_getElem? he
  exact hc _ hm
 ·intro c t cells mu hc' he
  exact hr.hw.ho c t cells mu (hlt hc') (by rw [hdd hc']; exact he)
 ·intro c d hc' hd' h1 h2 h3
  exact hr.hw.inj c d (hlt hc') (hlt hd') (by rw [hdd hc']; exact h1) (by rw [hdd hd']; exact h2) h3
 ·intro c t cells hc' he
  exact hr.hw.mu c t cells (hlt hc') (by rw [hdd hc']; exact he)
 ·intro d v hd
  refine ⟨(hr.tm d v (hs d v hd)).1,?_⟩
  exact hw (d,v) (getS_mem hd)
end
end Go.Proofs.YtcbmlanpianclaaGreatDoor
/- ConnPlays, walked. Printed by gen_dplays.py. -/
namespace Go.Proofs.YtcbmlanpianclaaGreatDoor
set_option linter.unusedSimpArgs false
set_option linter.unusedVariables false
set_option maxHeartbeats 8000000
open Go.RowKit
set_option maxRecDepth 100000
def clS (r:Gq):Ctr:=fun f en xs=>match f with
 | 10=>rowSameG r en xs
 | _=>clC f en xs
theorem clS_ok {C:Cx} {r:Gq} (hP:C.P=Tryz.prog) (hE:∀ w,Upd C.S C.w0 w→EnvT w):zC1 C (clS r):=by
 intro f en xs p v h hp ρ w hup hHp hHo hinj hwf
 unfold clS at h
 split at h
 ·rw [hP]
  exact ⟨fun args w=>Tryz.call10 args w,rowSameG_ok h hp hHp hHo⟩
 ·exact clC_ok hP hE f en xs p v h hp ρ w hup hHp hHo hinj hwf
def opE (k n:Int) (s:List UInt8):EN:=⟨(30,0,whole),[.i .i64 k,.i .i64 n,.s s],true⟩
def slP (a:Option Addr) (n c:Nat) (i:Nat):List (Nat × SV):=[(6,.c (.i .i64 (i:Int))),(5,.c (.p 1 0)),(4,.c (.p 0 0)),(0,.c (.v (.slice a n c)))]
structure PlI (c:Cn):Prop where
 ok:CnOk c
 out:c.out.length≤480000
theorem cut80000 (l:List UInt8):∃ b,b.length≤80000∧((80000 < l.length∧l.take 80000=b)∨(¬ 80000 < l.length∧l=b)):=by
 by_cases h:80000 < l.length
 ·exact ⟨l.take 80000,by rw [List.length_take]; omega,.inl ⟨h,rfl⟩⟩
 ·exact ⟨l,by omega,.inr ⟨h,rfl⟩⟩
theorem next_out (c:Cn):(zH0 c).1.out=c.out:=by
 unfold zH0
 split
 ·rfl
 ·split
  ·rfl
  ·split <;> rfl
theorem PlI.next {c:Cn} (h:PlI c):PlI (zH0 c).1:=⟨h.ok.next,by rw [next_out]; exact h.out⟩
theorem PlI.feed {c:Cn} (h:PlI c) (s:List UInt8):PlI (zH5 c s).1:=⟨h.ok.feed s,by rw [feed_out]; exact h.out⟩
theorem PlI.write {c:Cn} (h:PlI c) (n:Int):PlI (zG1 c n).1:=⟨h.ok.write n,by have:=h.out; simp only [zG1,List.length_drop]; omega⟩
theorem PlI.put {c:Cn} (h:PlI c) {s:List UInt8} (hs:s.length≤80000) (ho:c.out.length < 400000):PlI (cnPut c s):=⟨h.ok.put (by omega),by simp only [cnPut,List.length_append]; omega⟩
theorem PlI.hang {c:Cn} (h:PlI c):PlI (zK8 c):=⟨h.ok.hang,h.out⟩
theorem plays_walk {w:World} {a:Option Addr} {n c0:Nat} {f:Nat→POp} (hops:OpsAt w a n f) (hnm:n≤9223372036854775807) (hE0:EnvT w) :
  Calls Tryz.prog 3 #[.slice a n c0] w fun e w'=>e=.returned (.bool true)∧Below w.heap.size w w':=by
 refine zA1 Tryz.func3 rfl kp3 (S:=Non) (ρ:=fun _=>zG7 0) (en:=[]) [.c (.v (.slice a n c0))] Tryz.ntmps3 (At.nil _ _ _) (by simp [SV.wf,SC.wf]) (by simp) ?_
 intro C hC hP hk
 have hE:∀ w',Upd C.S C.w0 w'→EnvT w':=fun w' hu=>by rw [hC] at hu; exact hE0.below hu.to_below
 have hctr:zC1 C (clS Gq.zero):=clS_ok hP hE
 have hn0:C.n0=0:=by rw [hC]; rfl
 have hS:C.S=Non:=by rw [hC]; rfl
 have hw:C.w0=w:=by rw [hC]; rfl
 have fin:∀ en,Fin C res3 (.c (.b true)) en:=fun en=>zH3 (v:=.c (.b true)) hC hres3 rfl trivial
 (refine zA0 hctr (rs:=res3) true 300 _ _ _ ?_; simp (maxSteps:=1000000) only [VT,qH,qI,qK,qO,ev,qw,qy,qz,zI,zJ,zK,↓reduceIte,reduceCtorEq,Nat.reduceEqDiff,Nat.reduceLT,zP,zQ,zR,hk,kp3,clS,clC])
 refine Run_new hP (by rw [hn0]; exact Nat.zero_le _) rfl (by simp) ?_
 (refine zA0 hctr (rs:=res3) true 300 _ _ _ ?_; simp (maxSteps:=1000000) only [VT,jg,jZ,qH,qI,qK,qO,qR,qT,qf,qg,qp,q0t,qu,qv,ev,qy,qz,zD,zF,zG,zI,zJ,zM,↓reduceIte,reduceCtorEq,Nat.reduceEqDiff,Nat.reduceLT,zP,zQ,zR,zV,zW,zt,jN,hP,hk,res3,kp3,cnE,cnS])
 refine ⟨ptr_und,?_⟩
 refine zD6 (ι:={ y:Nat × Cn // y.1≤150∧y.1≤n∧PlI y.2 }) (fun y=>slP a n c0 y.1.1) (fun y=>[cnE y.1.2 true,wnE y.1.2 true]) (fun y=>150 - y.1.1) ⟨(0,Cn.zero),Nat.zero_le _,Nat.zero_le _,CnOk.zero,Nat.zero_le _⟩ (zB3 ⟨rfl,rfl,rfl,rfl,trivial⟩) rfl ?_
 rintro ⟨⟨i,c⟩,hi,hin,hI⟩ D dP dS dw dn dr dk ddf dPan dRet hX hJ
 have hP0:=hP; have hk0:=hk; have hctr0:=hctr; have hE1:=hE
 have hi:i≤150:=hi
 have hin:i≤n:=hin
 have hI:PlI c:=hI
 have hP:D.P=Tryz.prog:=by rw [dP]; exact hP0
 have hk:D.kp=kp3:=by rw [dk]; exact hk0
 have hE:∀ w',Upd D.S D.w0 w'→EnvT w':=fun w' hu=>hE1 w' (by rw [dS,dw] at hu; exact hu)
 have hctr:zC1 D (clS Gq.zero):=clS_ok hP hE
 have hDS:D.S=Non:=by rw [dS]; exact hS
 have hDw:D.w0=w:=by rw [dw]; exact hw
 have hn0:D.n0=0:=by rw [dn]; exact hn0
 show Run D _ _ (slP a n c0 i) [cnE c true,wnE c true]
 have i21:((2:Int) == 1)=false:=rfl
 have i31:((3:Int) == 1)=false:=rfl
 have i32:((3:Int) == 2)=false:=rfl
 have i41:((4:Int) == 1)=false:=rfl
 have i42:((4:Int) == 2)=false:=rfl
 have i43:((4:Int) == 3)=false:=rfl
 have i51:((5:Int) == 1)=false:=rfl
 have i52:((5:Int) == 2)=false:=rfl
 have i53:((5:Int) == 3)=false:=rfl
 have i54:((5:Int) == 4)=false:=rfl
 by_cases hlt:i < n
 rotate_left
 ·have e1:decide ((i:Int) < (n:Int))=false:=decide_eq_false (by omega)
  (refine zA0 hctr (rs:=res3) true 300 _ _ _ ?_; simp (maxSteps:=1000000) only [VT,jg,aA,qH,qI,qK,qN,qO,qR,qS,qe,qp,ev,qy,qz,zD,zH,zI,zJ,zM,↓reduceIte,reduceCtorEq,Nat.reduceEqDiff,Nat.reduceLT,zP,zQ,zR,zW,hP,hk,res3,kp3,slP,cnE,cnS,wnE,wnS,e1])
  refine hX rfl rfl ?_
  have hP:=hP0; have hk:=hk0; have hctr:=hctr0
  (refine zA0 hctr (rs:=res3) true 300 _ _ _ ?_; simp (maxSteps:=1000000) only [VT,qE,qF,qG,qH,qI,qK,qO,ev,qy,qz,zI,zJ,TE.sv,↓reduceIte,reduceCtorEq,Nat.reduceEqDiff,Nat.reduceLT,zP,zR,hk,res3,kp3])
  exact fin _
 have g1:decide ((i:Int) < (n:Int))=true:=decide_eq_true (by omega)
 by_cases hl2:i < 150
 rotate_left
 ·have e2:decide ((i:Int) < 150)=false:=decide_eq_false (by omega)
  (refine zA0 hctr (rs:=res3) true 300 _ _ _ ?_; simp (maxSteps:=1000000) only [VT,jf,jg,jZ,qH,qI,qK,qN,qO,qR,qS,qe,qp,ev,qy,qz,zD,zH,zI,zJ,zM,↓reduceIte,reduceCtorEq,Nat.reduceEqDiff,Nat.reduceLT,zP,zQ,zR,zV,zW,hP,hk,res3,kp3,slP,cnE,cnS,wnE,wnS,g1,e2])
  refine hX rfl rfl ?_
  have hP:=hP0; have hk:=hk0; have hctr:=hctr0
  (refine zA0 hctr (rs:=res3) true 300 _ _ _ ?_; simp (maxSteps:=1000000) only [VT,qE,qF,qG,qH,qI,qK,qO,ev,qy,qz,zI,zJ,TE.sv,↓reduceIte,reduceCtorEq,Nat.reduceEqDiff,Nat.reduceLT,zP,zR,hk,res3,kp3])
  exact fin _
 have g2:decide ((i:Int) < 150)=true:=decide_eq_true (by omega)
 obtain ⟨b,oo,rfl,hrd,hok⟩:=hops.rd hDS hDw hlt
 obtain ⟨⟨k,m,s0⟩,ho⟩:∃ o,f i=o:=⟨_,rfl⟩
 rw [ho] at hrd hok
 obtain ⟨m0,m1,sl0⟩:=hok
 simp only at m0 m1 sl0
 unfold maxLen at sl0
 have p0:(0:Int)≤(i:Int):=by omega
 have p1:(i:Int) < (n:Int):=by omega
 have p3:IntKind.i64.wrap ((i:Int)+1)=((i+1:Nat):Int):=by rw [IntWalk.i64_in _ (by omega)]; rfl
 obtain ⟨s,hs,hss⟩:=cut80000 s0
 (refine zA0 hctr (rs:=res3) true 26 _ _ _ ?_; simp (maxSteps:=1000000) only [VT,jf,jZ,qH,qI,qJ,qK,qN,qO,qP,qR,qS,qX,qe,qp,q0t,qu,qv,ev,qy,qz,zC,zD,zE,zF,zG,zI,zJ,zM,↓reduceIte,reduceCtorEq,Nat.reduceEqDiff,Nat.reduceAdd,Nat.reduceLT,zP,zQ,zR,zT,zV,zh,zo,zt,hP,hk,res3,kp3,slP,popS,cnE,cnS,wnE,wnS,g2,p0,p1,hrd])
 refine zL1 (κ:=Unit) (fun _=>(7,.c (.p 2 0)) :: slP (some ⟨b,oo,none⟩) n c0 i) (fun _=>[cnE c true,wnE c true,opE k m s]) (fun _=>?_) fun use=>?_
 rotate_left
 ·rcases hss with ⟨h1,h2⟩ | ⟨h1,h2⟩
  ·have q1:decide ((80000:Int) < (s0.length:Int))=true:=decide_eq_true (by omega)
   have q2:(80000:Int)≤(s0.length:Int):=by omega
   have q3:(0:Int)≤80000:=by decide
   (refine zA0 hctr (rs:=res3) true 15 _ _ _ ?_; simp (maxSteps:=1000000) only [VT,jf,qH,qI,qJ,qK,qN,qP,qR,qS,qV,qZ,qe,ql,q0t,qv,ev,qy,qz,zC,zD,zE,zG,zI,zJ,zM,↓reduceIte,reduceCtorEq,Nat.reduceEqDiff,Nat.reduceLT,zP,zQ,zR,zT,zV,zt,hP,hk,res3,kp3,Int.toNat_zero,Int.le_refl,List.drop_zero,Int.reduceToNat,q1,q2,q3,h2])
   exact use () _ (zB3 ⟨rfl,rfl,rfl,rfl,rfl,trivial⟩)
  ·subst h2
   have q1:decide ((80000:Int) < (s0.length:Int))=false:=decide_eq_false (by omega)
   (refine zA0 hctr (rs:=res3) true 9 _ _ _ ?_; simp (maxSteps:=1000000) only [VT,jg,qH,qI,qK,qN,qP,qR,qS,qV,qe,ev,qy,qz,zD,zI,zJ,zM,↓reduceIte,reduceCtorEq,Nat.reduceEqDiff,Nat.reduceLT,zP,zQ,zR,zW,zt,hP,hk,res3,kp3,q1])
   exact use () _ (zB3 ⟨rfl,rfl,rfl,rfl,rfl,trivial⟩)
 show Run D _ 155 ((7,.c (.p 2 0)) :: slP (some ⟨b,oo,none⟩) n c0 i) [cnE c true,wnE c true,opE k m s]
 (refine zA0 hctr (rs:=res3) true 5 _ _ _ ?_; simp (maxSteps:=1000000) only [VT,qH,qI,qK,qO,ev,qz,zI,zJ,↓reduceIte,reduceCtorEq,Nat.reduceEqDiff,Nat.reduceLT,zP,zR,hk,kp3,slP,opE,cnE,cnS,wnE,wnS])
 have wfs2:∀ x∈(8,SV.c (.b true)) :: slP (some ⟨b,oo,none⟩) n c0 i,x.2.wf (· < 2):=by
  intro x hx
  simp only [slP,List.mem_cons,List.not_mem_nil,or_false] at hx
  rcases hx with rfl | rfl | rfl | rfl | rfl
  ·trivial
  ·trivial
  ·show 1 < 2; decide
  ·show 0 < 2; decide
  ·trivial
 have wfe:∀ {d e:Cn},∀ x∈[cnE d true,wnE e true],wfs (· < 2) x.cells:=fun x hx=>by
  simp only [List.mem_cons,List.not_mem_nil,or_false] at hx
  rcases hx with rfl | rfl
  ·exact cn_wf _ _
  ·exact wn_wf _ _
 refine zL1 (κ:={ d:Cn // PlI d }) (fun _=>(8,.c (.b true)) :: slP (some ⟨b,oo,none⟩) n c0 i) (fun d=>[cnE d.1 true,wnE d.1 true]) (fun d=>?_) fun use=>?_
 rotate_left
 ·by_cases k1:k=1
  ·subst k1
   obtain ⟨d,hd⟩:∃ d,d=zH5 c s:=⟨_,rfl⟩
   (refine zA0 hctr (rs:=res3) true 300 _ _ _ ?_; simp (maxSteps:=1000000) only [VT,jf,qH,qI,qK,qO,qP,qR,qS,qV,ev,qy,qz,zD,zI,zJ,zM,↓reduceIte,reduceCtorEq,Nat.reduceEqDiff,Nat.reduceLT,zP,zQ,zR,zV,zu,hP,hk,res3,kp3,beq_self_eq_true])
   (refine zH2 hctr (by rw [hP]; rfl) rs3_15 [fun en => (.c (.i .i64 d.2), zE en 0 (cnE d.1 true)), fun en => (.c (.i .i64 d.2), zE en 1 (wnE d.1 true))] (ensure_type_of% (Cmp.of (by simp (maxSteps := 1000000) only [qA, qK, qO, qP, qR, qS, qV, ev, qw, qy, zD, zE, zF, zG, zM, ↓reduceIte, Nat.reduceEqDiff, Nat.reduceAdd, zt, cE, jA, jC, jD, jK, jL, jM, jN, hP, clS, clC, cnE, cnS, wnE, wnS, beq_self_eq_true]; rfl)) "" Cmp.mk) (by kernel_rfl) (by kernel_rfl) (by first | exact zC7 _ | kernel_rfl) (by kernel_rfl) (by rfl) (by rfl) (by first | exact zB2 _ | rfl) (by rfl) ?_ ?_; rotate_left; refine zA0 hctr (rs := res3) true 1 _ _ _ ?_; simp (maxSteps := 1000000) only [VT, zG, zI, zJ, ↓reduceIte, reduceCtorEq, Nat.reduceEqDiff, Nat.reduceAdd, zP, zQ, zt, jN, jO, hk, kp3]; rotate_left; simp (maxSteps := 1000000) only [qK, qO, qP, qR, qS, qV, ev, qw, qy, zD, zG, zM, ↓reduceIte, Nat.reduceEqDiff, Nat.reduceAdd, Nat.reduceSub, zR, zS, zT, zn, zt, jD, jN, jP, jQ, jR, jS, jT, jU, hP, beq_self_eq_true])
   ·exact ⟨cn_h (c:=c) (c':=d.1) (N:=0) hP rfl (by decide) (mkC_no (by simp)) (fun args w=>Tryz.call6 args w) (fun pr=>trivial) (fun ρ w g h=>by have:=feed_w hI.ok s (by omega) h; rw [← hd] at this; exact this) rfl,wn_h (c:=c) (c':=d.1) (N:=1) hP rfl (by decide) (mkC_no (by simp)) (fun args w=>Tryz.call7 args w) (fun pr=>trivial) (fun ρ w g h=>by have:=wfeed_w hI.ok s (by omega) h; rw [← hd] at this; exact this) rfl⟩
   refine zL0 (sl':=(8,.c (.b true)) :: slP (some ⟨b,oo,none⟩) n c0 i) [cnE d.1 true,wnE d.1 true] [opE 1 m s] rfl (by rw [hn0]; exact Nat.zero_le _) wfe (zB3 ⟨rfl,rfl,rfl,rfl,rfl,trivial⟩) wfs2 (use ⟨d.1,by rw [hd]; exact hI.feed s⟩ _ (fun d v h=>h))
  by_cases k2:k=2
  ·subst k2
   obtain ⟨x,hx⟩:∃ x,x=zH0 c:=⟨_,rfl⟩
   (refine zA0 hctr (rs:=res3) true 300 _ _ _ ?_; simp (maxSteps:=1000000) only [VT,jf,jg,qH,qI,qK,qO,qP,qR,qS,qV,ev,qw,qy,qz,zD,zI,zJ,zM,↓reduceIte,reduceCtorEq,Nat.reduceEqDiff,Nat.reduceLT,zP,zQ,zR,zV,zW,zu,hP,hk,res3,kp3,clS,clC,beq_self_eq_true,i21])
   refine Run_next (G:=0) hI.ok hx.symm hP hE rfl (by simp [zG]) (by rw [hn0]; exact Nat.zero_le _) rfl (by simp) ?_
   (refine zA0 hctr (rs:=res3) true 300 _ _ _ ?_; simp (maxSteps:=1000000) only [VT,qH,qI,qJ,qK,qO,qh,q0t,qu,qv,ev,qw,qy,zC,zD,zE,zF,zG,zI,zJ,TE.sv,zM,↓reduceIte,reduceCtorEq,Nat.reduceEqDiff,Nat.reduceAdd,Nat.reduceLT,zP,zQ,zR,zt,jN,hP,hk,kp3,clS,clC,cnE,cnS,gqZ,gqS])
   refine Run_wnext (G:=1) hI.ok hx.symm hP hE rfl (by simp [zG]) (by rw [hn0]; exact Nat.zero_le _) rfl (by simp) ?_
   have hctr:zC1 D (clS x.2.1):=clS_ok hP hE
   (refine zA0 hctr (rs:=res3) true 24 _ _ _ ?_; simp (maxSteps:=1000000) only [VT,jf,jZ,qH,qI,qJ,qK,qO,qP,qR,qh,qp,q0t,qu,qv,ev,qw,qy,qz,zA,zB,zC,zD,zE,zF,zG,zI,zJ,TE.sv,zM,↓reduceIte,reduceCtorEq,Nat.reduceEqDiff,Nat.reduceAdd,Nat.reduceLT,zP,zQ,zR,zV,zt,jN,hP,hk,res3,kp3,clS,wnE,wnS,beq_self_eq_true,gqZ,gqS,rowSameG])
   refine ⟨?_,Tryz.underlying4,?_⟩
   ·exact ⟨3,6,rfl,rfl,rfl,rfl,rfl,rfl⟩
   refine zL0 (sl':=(8,.c (.b true)) :: slP (some ⟨b,oo,none⟩) n c0 i) [cnE x.1 true,wnE x.1 true] [opE 2 m s,cmG x.2.1,flG x.2.1,⟨(35,0,whole),gqZ x.2.1 3,true⟩,cmG x.2.1,flG x.2.1,⟨(35,0,whole),gqZ x.2.1 6,true⟩] rfl (by rw [hn0]; exact Nat.zero_le _) wfe (zB3 ⟨rfl,rfl,rfl,rfl,rfl,trivial⟩) wfs2 (use ⟨x.1,by rw [hx]; exact hI.next⟩ _ (fun d v h=>h))
  by_cases k3:k=3
  ·subst k3
   by_cases ho4:c.out.length < 400000
   ·have q1:decide ((c.out.length:Int) < 400000)=true:=decide_eq_true (by omega)
    (refine zA0 hctr (rs:=res3) true 300 _ _ _ ?_; simp (maxSteps:=1000000) only [VT,jf,jg,qH,qI,qK,qN,qO,qP,qQ,qR,qS,qV,qe,ev,qw,qy,qz,zD,zI,zJ,zM,↓reduceIte,reduceCtorEq,Nat.reduceEqDiff,Nat.reduceLT,zP,zQ,zR,zV,zW,zt,zu,hP,hk,res3,kp3,clS,clC,beq_self_eq_true,i31,i32,q1])
    refine zU7 (N:=0) (c:=c) (cnPut c s) (ys:=[.c (.s s)]) (.t []) rfl hP rfl (by simp [zG]) (fun args w=>Tryz.call11 args w) (fun pr=>by simp [SV.wf,SC.wf,TE.wf]) (fun ρ w g h=>put_w s (by have:=hI.out; omega) h) rfl (by simp) ?_
    (refine zA0 hctr (rs:=res3) true 300 _ _ _ ?_; simp (maxSteps:=1000000) only [VT,zE,zI,zJ,↓reduceIte,reduceCtorEq,Nat.reduceEqDiff,zP,zQ,jN,hk,kp3,cnE,cnS])
    (refine zH2 hctr (by rw [hP]; rfl) rs3_24 [] (ensure_type_of% (Cmp.of (by simp (maxSteps := 1000000) only [qK, qO, qP, qQ, qR, qS, qV, q0t, qv, ev, qy, zC, zD, zE, zF, zG, zM, ↓reduceIte, Nat.reduceEqDiff, zP, zt, cE, jA, jC, jD, jH, jN, hP]; rfl)) "" Cmp.mk) (by kernel_rfl) (by kernel_rfl) (by first | exact zC7 _ | kernel_rfl) (by kernel_rfl) (by rfl) (by rfl) (by first | exact zB2 _ | rfl) (by rfl) ?_ ?_; rotate_left; refine zA0 hctr (rs := res3) true 1 _ _ _ ?_; simp (maxSteps := 1000000) only [VT, zG, zI, zJ, ↓reduceIte, reduceCtorEq, Nat.reduceEqDiff, Nat.reduceAdd, zP, zQ, zt, jN, jO, hk, kp3]; rotate_left; simp (maxSteps := 1000000) only [qK, qO, qP, qQ, qR, qS, qV, q0t, qv, ev, qy, zC, zD, zE, zG, zM, ↓reduceIte, Nat.reduceEqDiff, zP, zR, zS, zT, zn, zt, jD, jH, jN, jP, jQ, jR, jS, jT, hP])
    ·have:=hI.out; omega
    refine zL0 (sl':=(8,.c (.b true)) :: slP (some ⟨b,oo,none⟩) n c0 i) [cnE (cnPut c s) true,wnE (cnPut c s) true] [opE 3 m s] rfl (by rw [hn0]; exact Nat.zero_le _) wfe (zB3 ⟨rfl,rfl,rfl,rfl,rfl,trivial⟩) wfs2 (use ⟨(cnPut c s),hI.put hs ho4⟩ _ (fun d v h=>h))
   ·have q1:decide ((c.out.length:Int) < 400000)=false:=decide_eq_false (by omega)
    (refine zA0 hctr (rs:=res3) true 36 _ _ _ ?_; simp (maxSteps:=1000000) only [VT,jf,jg,qH,qI,qK,qN,qO,qP,qQ,qR,qS,qV,qe,ev,qy,qz,zD,zI,zJ,zM,↓reduceIte,reduceCtorEq,Nat.reduceEqDiff,Nat.reduceLT,zP,zQ,zR,zV,zW,zt,zu,hP,hk,res3,kp3,beq_self_eq_true,i31,i32,q1])
    refine zL0 (sl':=(8,.c (.b true)) :: slP (some ⟨b,oo,none⟩) n c0 i) [cnE c true,wnE c true] [opE 3 m s] rfl (by rw [hn0]; exact Nat.zero_le _) wfe (zB3 ⟨rfl,rfl,rfl,rfl,rfl,trivial⟩) wfs2 (use ⟨c,hI⟩ _ (fun d v h=>h))
  by_cases k4:k=4
  ·subst k4
   obtain ⟨d,hd⟩:∃ d,d=zG1 c m:=⟨_,rfl⟩
   have hol:c.out.length≤1000000000000:=by have:=hI.out; omega
   (refine zA0 hctr (rs:=res3) true 300 _ _ _ ?_; simp (maxSteps:=1000000) only [VT,jf,jg,qH,qI,qK,qO,qP,qR,qS,qV,ev,qy,qz,zD,zI,zJ,zM,↓reduceIte,reduceCtorEq,Nat.reduceEqDiff,Nat.reduceLT,zP,zQ,zR,zV,zW,zu,hP,hk,res3,kp3,beq_self_eq_true,i41,i42,i43])
   (refine zH2 hctr (by rw [hP]; rfl) rs3_26 [fun en => (.c (.s d.2), zE en 0 (cnE d.1 true)), fun en => (.c (.s d.2), zE en 1 (wnE d.1 true))] (ensure_type_of% (Cmp.of (by simp (maxSteps := 1000000) only [qA, qK, qO, qP, qR, qS, qV, ev, qw, qy, zD, zE, zF, zG, zM, ↓reduceIte, Nat.reduceEqDiff, Nat.reduceAdd, zt, cE, jA, jC, jD, jK, jL, jM, jN, hP, clS, clC, cnE, cnS, wnE, wnS, beq_self_eq_true]; rfl)) "" Cmp.mk) (by kernel_rfl) (by kernel_rfl) (by first | exact zC7 _ | kernel_rfl) (by kernel_rfl) (by rfl) (by rfl) (by first | exact zB2 _ | rfl) (by rfl) ?_ ?_; rotate_left; refine zA0 hctr (rs := res3) true 1 _ _ _ ?_; simp (maxSteps := 1000000) only [VT, zG, zI, zJ, ↓reduceIte, reduceCtorEq, Nat.reduceEqDiff, Nat.reduceAdd, zP, zQ, zt, jN, jO, hk, kp3]; rotate_left; simp (maxSteps := 1000000) only [qK, qO, qP, qR, qS, qV, ev, qw, qy, zD, zG, zM, ↓reduceIte, Nat.reduceEqDiff, Nat.reduceAdd, Nat.reduceSub, zR, zS, zT, zn, zt, jD, jN, jP, jQ, jR, jS, jT, jU, hP, beq_self_eq_true])
   ·exact ⟨cn_h (c:=c) (c':=d.1) (N:=0) hP rfl (by decide) (mkC_no (by simp)) (fun args w=>Tryz.call12 args w) (fun pr=>trivial) (fun ρ w g h=>by have:=write_w m hol h; rw [← hd] at this; exact this) rfl,wn_h (c:=c) (c':=d.1) (N:=1) hP rfl (by decide) (mkC_no (by simp)) (fun args w=>Tryz.call13 args w) (fun pr=>trivial) (fun ρ w g h=>by have:=wwrite_w m hol h; rw [← hd] at this; exact this) rfl⟩
   refine zL0 (sl':=(8,.c (.b true)) :: slP (some ⟨b,oo,none⟩) n c0 i) [cnE d.1 true,wnE d.1 true] [opE 4 m s] rfl (by rw [hn0]; exact Nat.zero_le _) wfe (zB3 ⟨rfl,rfl,rfl,rfl,rfl,trivial⟩) wfs2 (use ⟨d.1,by rw [hd]; exact hI.write m⟩ _ (fun d v h=>h))
  have e1:(k == 1)=false:=by simpa using k1
  have e2:(k == 2)=false:=by simpa using k2
  have e3:(k == 3)=false:=by simpa using k3
  have e4:(k == 4)=false:=by simpa using k4
  by_cases k5:k=5
  ·subst k5
   (refine zA0 hctr (rs:=res3) true 300 _ _ _ ?_; simp (maxSteps:=1000000) only [VT,jf,jg,qH,qI,qK,qO,qP,qR,qS,qV,ev,qw,qy,qz,zD,zI,zJ,zM,↓reduceIte,reduceCtorEq,Nat.reduceEqDiff,Nat.reduceLT,zP,zQ,zR,zV,zW,zu,hP,hk,res3,kp3,clS,clC,beq_self_eq_true,i51,i52,i53,i54])
   refine zU7 (N:=0) (c:=c) (zK8 c) (ys:=[]) (.t []) rfl hP rfl (by simp [zG]) (fun args w=>Tryz.call14 args w) (fun pr=>by simp [SV.wf,SC.wf,TE.wf]) (fun ρ w g h=>hang_w h) rfl (by simp) ?_
   (refine zA0 hctr (rs:=res3) true 300 _ _ _ ?_; simp (maxSteps:=1000000) only [VT,qH,qI,qK,qO,ev,qw,qy,zE,zI,zJ,↓reduceIte,reduceCtorEq,Nat.reduceEqDiff,Nat.reduceLT,zP,zQ,zR,jN,hk,kp3,clS,clC,cnE,cnS])
   refine Run_wn (N:=1) (c:=c) (zK8 c) (ys:=[]) (.t []) rfl hP rfl (by simp [zG]) (fun args w=>Tryz.call15 args w) (fun pr=>by simp [SV.wf,SC.wf,TE.wf]) (fun ρ w g h=>whang_w h) rfl (by simp) ?_
   (refine zA0 hctr (rs:=res3) true 2 _ _ _ ?_; simp (maxSteps:=1000000) only [VT,zE,zI,zJ,↓reduceIte,reduceCtorEq,Nat.reduceEqDiff,zP,zQ,jN,hk,kp3,wnE,wnS])
   refine zL0 (sl':=(8,.c (.b true)) :: slP (some ⟨b,oo,none⟩) n c0 i) [cnE (zK8 c) true,wnE (zK8 c) true] [opE 5 m s] rfl (by rw [hn0]; exact Nat.zero_le _) wfe (zB3 ⟨rfl,rfl,rfl,rfl,rfl,trivial⟩) wfs2 (use ⟨(zK8 c),hI.hang⟩ _ (fun d v h=>h))
  have e5:(k == 5)=false:=by simpa using k5
  (refine zA0 hctr (rs:=res3) true 38 _ _ _ ?_; simp (maxSteps:=1000000) only [VT,jg,qH,qI,qK,qO,qP,qR,qS,qV,ev,qy,qz,zD,zI,zJ,zM,↓reduceIte,reduceCtorEq,Nat.reduceEqDiff,Nat.reduceLT,zP,zQ,zR,zW,zu,hP,hk,res3,kp3,e1,e2,e3,e4,e5])
  refine zL0 (sl':=(8,.c (.b true)) :: slP (some ⟨b,oo,none⟩) n c0 i) [cnE c true,wnE c true] [opE k m s] rfl (by rw [hn0]; exact Nat.zero_le _) wfe (zB3 ⟨rfl,rfl,rfl,rfl,rfl,trivial⟩) wfs2 (use ⟨c,hI⟩ _ (fun d v h=>h))
 obtain ⟨d,hd⟩:=d
 show Run D _ 155 ((8,.c (.b true)) :: slP (some ⟨b,oo,none⟩) n c0 i) [cnE d true,wnE d true]
 (refine zA0 hctr (rs:=res3) true 300 _ _ _ ?_; simp (maxSteps:=1000000) only [VT,qH,qI,qK,qO,ev,qw,qy,↓reduceIte,Nat.reduceEqDiff,Nat.reduceLT,zR,clS,clC,slP,cnE,cnS,wnE,wnS])
 refine zU7 (N:=0) (c:=d) d (ys:=[]) (.t [.c (.i .i64 d.inp.length),.c (.i .i64 d.out.length)]) rfl hP rfl (by simp [zG]) (fun args w=>Tryz.call16 args w) (fun pr=>by simp [SV.wf,SC.wf,TE.wf]) (fun ρ w g h=>sizes_w h) rfl (by simp) ?_
 (refine zA0 hctr (rs:=res3) true 300 _ _ _ ?_; simp (maxSteps:=1000000) only [VT,qH,qI,qK,qO,qh,ev,qy,zD,zE,zI,zJ,TE.sv,↓reduceIte,reduceCtorEq,Nat.reduceEqDiff,Nat.reduceLT,zP,zQ,zR,jN,hk,kp3,cnE,cnS])
 (refine zH2 hctr (by rw [hP]; rfl) rs3_31 [fun en => (.c (.b d.ends), en)] (ensure_type_of% (Cmp.of (by simp (maxSteps := 1000000) only [qA, qK, qN, qO, qP, qQ, qR, qS, qT, qV, qe, qp, ev, qw, qy, qz, zD, zF, zG, zM, ↓reduceIte, Nat.reduceEqDiff, Nat.reduceAdd, zV, zt, zu, cE, jA, jC, jD, jE, jK, jL, jM, jN, hP, clS, clC, beq_self_eq_true, bne_self_eq_false]; rfl)) "" Cmp.mk) (by kernel_rfl) (by kernel_rfl) (by first | exact zC7 _ | kernel_rfl) (by kernel_rfl) (by rfl) (by rfl) (by first | exact zB2 _ | rfl) (by rfl) ?_ ?_; rotate_left; refine zA0 hctr (rs := res3) true 300 _ _ _ ?_; simp (maxSteps := 1000000) only [VT, jg, qH, qI, qK, qO, qR, qS, ev, qy, qz, zG, zI, zJ, ↓reduceIte, reduceCtorEq, Nat.reduceEqDiff, Nat.reduceAdd, Nat.reduceLT, zP, zQ, zR, zW, zt, jN, jO, hk, res3, kp3, p3]; rotate_left; simp (maxSteps := 1000000) only [qK, qN, qO, qP, qQ, qR, qS, qT, qV, qe, qp, ev, qw, qy, qz, zD, zG, zM, ↓reduceIte, Nat.reduceEqDiff, Nat.reduceAdd, Nat.reduceSub, zR, zS, zT, zV, zn, zt, zu, jD, jE, jN, jP, jQ, jR, jS, jT, jU, hP, beq_self_eq_true, bne_self_eq_false])
 ·exact ⟨cn_h (c:=d) (c':=d) (N:=0) hP rfl (by decide) (mkC_no (by simp)) (fun args w=>Tryz.call17 args w) (fun pr=>trivial) (fun ρ w g h=>ends_w h) rfl,Tryz.underlying4⟩
 exact hJ ⟨(i+1,d),hl2,hlt,hd⟩ _ (by show 150 - (i+1) < 150 - i; omega) (zB3 ⟨rfl,rfl,rfl,rfl,trivial⟩)
end Go.Proofs.YtcbmlanpianclaaGreatDoor
