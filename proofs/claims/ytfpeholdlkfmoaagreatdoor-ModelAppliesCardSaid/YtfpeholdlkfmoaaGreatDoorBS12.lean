/- The document's Put, walked. Printed by gen_refw2.py. -/
import Derived.Test.YtfpeholdlkfmoaaGreatDoorBS11
import Derived.Test.YtfpeholdlkfmoaaGreatDoorBS09
namespace Go.Proofs.YtfpeholdlkfmoaaGreatDoor
set_option linter.unusedSimpArgs false
set_option linter.unusedVariables false
set_option maxHeartbeats 8000000
open Go.RowKit
set_option maxRecDepth 100000
theorem zK0 (x:It):(itS x).length=8:=rfl
theorem zI2 (pr:Nat→Prop) (x:It):wfs pr (itS x):=by
 intro z hz
 simp only [itS,List.mem_cons,List.not_mem_nil,or_false] at hz
 rcases hz with rfl | rfl | rfl | rfl | rfl | rfl | rfl | rfl <;> trivial
theorem zD7 (pr:Nat→Prop) (l:List It):wfs pr (zB2 itS l):=by
 intro z hz
 obtain ⟨x,_,hx⟩:=List.mem_flatMap.1 hz
 exact zI2 pr x z hx
theorem zJ4 (l:List It):qu (zB2 itS l)=true:=by
 induction l with
 | nil=>rfl
 | cons x l ih=>exact ih
theorem zD3 (ρ:Nat→RE) (l:List It):zC4 ρ (zB2 itS l)=zC8 l:=by
 induction l with
 | nil=>rfl
 | cons x l ih =>
  show zC4 ρ (itS x++zB2 itS l)=x.cells++zC8 l
  rw [← ih]
  simp only [zC4,List.map_append]
  rfl
theorem zK7:(Tryz.prog.info? 33).map (fun i=>(i.zero,i.size,i.bytes))=some (some (.agg #[.string ⟨#[]⟩,.int .u32 0,.string ⟨#[]⟩,.int .i64 0,.int .u64 0,.int .i64 0,.bool false,.bool false]),8,72):=by kernel_rfl
theorem zH6 {D:Cx} {w:World} {g o:Nat} {xs:List It} (hS:D.S=Non) (hw:D.w0=w) (ha:RawI w (some ⟨g,o,none⟩) xs) (j m:Nat) (hj:j+m≤xs.length) (hm:0 < m):D.rd g (o+j * 8) (m * 8)=some (zB2 itS ((xs.drop j).take m)):=by
 have hl:((xs.drop j).take m).length=m:=by rw [List.length_take,List.length_drop]; omega
 obtain ⟨g',o',e,hg,_⟩:=ha j _ (List.getElem?_eq_getElem (by omega))
 cases e
 have hfl:(zC8 ((xs.drop j).take m)).length=m * 8:=by rw [zB1,hl]
 have:=rd_arg (C:=D) (vs:=zC8 ((xs.drop j).take m)) (o:=o+j * 8) hS hw hg (fun k v hv=>?_) hfl
 ·rw [this]
  congr 1
  generalize (xs.drop j).take m=ys
  induction ys with
  | nil=>rfl
  | cons x l ih =>
   show (x.cells++zC8 l).map qz=itS x++zB2 itS l
   rw [List.map_append,ih]
   rfl
 ·have hk:k < m * 8:=by have:=(List.getElem?_eq_some_iff.1 hv).1; omega
  obtain ⟨x,hx⟩:∃ x,xs[j+k / 8]?=some x:=⟨_,List.getElem?_eq_getElem (by omega)⟩
  obtain ⟨g2,o2,e2,_,hc⟩:=ha _ x hx
  cases e2
  have hy:((xs.drop j).take m)[k / 8]?=some x:=by rw [List.getElem?_take,if_pos (by omega),List.getElem?_drop]; exact hx
  have hv2:x.cells[k % 8]?=some v:=by
   have h1:=zL4 hy
   rw [← h1] at hv
   rw [List.append_assoc,List.getElem?_append_right (by rw [zB1,List.length_take]; omega)] at hv
   rw [List.getElem?_append_left (by rw [zB1,List.length_take,It.cells_len]; omega)] at hv
   rw [← hv]; congr 1
   rw [zB1,List.length_take]; omega
  have:=hc (k % 8) v hv2
  rw [← this]; congr 2; omega
theorem zG7 {nE j i q:Nat} {crs:List Cr} (h:∀ k,crs[k]?=some (Cr.h j) ↔ k=i):mkC nE crs j q ↔ q=nE+i:=by
 unfold mkC
 constructor
 ·rintro ⟨h1,h2⟩
  have:=(h _).1 h2
  omega
 ·rintro rfl
  exact ⟨Nat.le_add_right _ _,by rw [Nat.add_sub_cancel_left]; exact (h i).2 rfl⟩
def zJ3 (a:Option Addr) (n c:Nat) (X:St):List SV→Option (Prop × SV)
 | [.g [.v (.slice a' n' c'),.i .u64 cs,.i .i64 fl],.c (.s k)]=>some (a'=a∧n'=n∧c'=c,.t [.c (.i .i64 (atF X.items k)),.c (.b (isF X.items k))])
 | _=>none
def rpC (a:Option Addr) (n c:Nat) (X:St):Ctr:=fun f _ xs=>match f with
 | 22=>zJ3 a n c X xs
 | _=>none
theorem zS4 {C:Cx} {w:World} {a:Option Addr} {n c:Nat} {X:St} (hP:C.P=Tryz.prog) (hS:C.S=Non) (hw:C.w0=w) (ha:RawI w a X.items) (hs:Sorted X.items) (hn:n=X.items.length) (hl:n≤100000000):zE8 C (rpC a n c X):=by
 intro f en xs p v h hp ρ w' hup hHp hHo hinj hwf
 unfold rpC at h
 split at h
 ·rw [hP]
  refine ⟨fun args w=>Tryz.call22 args w,?_⟩
  unfold zJ3 at h
  split at h <;> simp only [Option.some.injEq,Prod.mk.injEq,reduceCtorEq] at h
  rename_i a' n' c' cs fl k
  obtain ⟨rfl,rfl⟩:=h
  obtain ⟨rfl,rfl,rfl⟩:=hp
  subst hn
  refine ⟨by simp [SV.wf,TE.wf,SC.wf],?_⟩
  refine ref_find X.items cs fl a' c' k w' (fun j x hx=>?_) hs hl
  obtain ⟨g,o,e,hg,hc⟩:=ha j x hx
  have hu:Upd Non w w':=by rw [← hS,← hw]; exact hup
  refine ⟨g,o,e,Nat.lt_of_lt_of_le hg hu.size,fun i v hv=>?_⟩
  rw [← hc i v hv]
  unfold World.cell?
  rw [hu.to_below.block g hg]
 ·cases h
def StP (w:World) (L:List It) (cs fl:Int) (e:Ending) (w':World):Prop:=(∃ r,RowOk w.heap.size w' r 33 8 L.length (zC8 L)∧e=.returned (.agg #[zJ7 r L.length,.int .u64 cs,.int .i64 fl]))∧Below w.heap.size w w'
theorem rputZN_w {w:World} {g oo n c:Nat} {X:St} (hg:g < w.heap.size) (ha:RawI w (some ⟨g,oo,none⟩) X.items) (hs:Sorted X.items) (hn:n=X.items.length) (hnc:n≤c) (hcm:c≤maxLen) (hl:n≤100000000) (x:It) (hi0:atF X.items x.key=0) (his:isF X.items x.key=false) :
  Calls Tryz.prog 28 #[.agg #[.slice (some ⟨g,oo,none⟩) n c,.int .u64 X.cas,.int .i64 X.flush],.agg (itA x)] w (StP w (zH7 X x).items X.cas X.flush):=by
 obtain ⟨i,hi⟩:∃ i,atF X.items x.key=i:=⟨_,rfl⟩
 rw [hi] at hi0
 have hin:i≤n:=by rw [← hi,hn]; exact zK2 _ _
 unfold maxLen at hcm
 refine zA9 Tryz.func28 rfl kp28 (S:=Non) (ρ:=fun _=>⟨0,[],[],0,none⟩) (en:=[]) [.g [.v (.slice (some ⟨g,oo,none⟩) n c),.i .u64 X.cas,.i .i64 X.flush],.g (itS x)] Tryz.ntmps28 (At.nil _ _ _) (by intro y hy; simp only [List.mem_cons,List.not_mem_nil,or_false] at hy; rcases hy with rfl | rfl; exact (by simp [SV.wf,wfs,SC.wf]); exact zI2 _ x) (by simp) ?_
 intro C hC hP hk
 have hS:C.S=Non:=by rw [hC]; rfl
 have hw:C.w0=w:=by rw [hC]; rfl
 have hn0:C.n0=0:=by rw [hC]; rfl
 have hctr:zE8 C (rpC (some ⟨g,oo,none⟩) n c X):=zS4 hP hS hw ha hs hn hl
 have b1:(0:Int)≤(i:Int):=by omega
 have b2:(i:Int)≤(n:Int):=by omega
 have b3:(n:Int)≤(c:Int):=by omega
 have b4:(i:Int)≤(c:Int):=by omega
 have b5:IntKind.i64.wrap ((i:Int)+1)=((i+1:Nat):Int):=by rw [IntWalk.i64_in _ (by omega)]; rfl
 have b6:(0:Int)≤((i+1:Nat):Int):=by omega
 obtain ⟨m,hm⟩:∃ m,n - (i)=m:=⟨_,rfl⟩
 obtain ⟨mc,hmc⟩:∃ mc,c - (i)=mc:=⟨_,rfl⟩
 obtain ⟨mo,hmo⟩:∃ mo,(if c=i then oo else oo+(i) * 8)=mo:=⟨_,rfl⟩
 (refine zA4 hctr (rs:=res28) true 300 _ _ _ ?_; simp (maxSteps:=1000000) only [VT,jg,qH,qI,qK,qO,qP,qV,qZ,qh,ql,qm,q0t,qu,qv,ev,qw,qy,zA,zB,zD,zF,zG,zI,zJ,TE.sv,zK,zM,↓reduceIte,reduceCtorEq,Value.oneCell',Nat.reduceEqDiff,Nat.reduceAdd,Nat.reduceLT,zP,zQ,zR,zT,zW,zh,zt,zu,hP,hk,res28,kp28,rpC,zJ3,itS,Nat.reduceAdd,hi,his,b1,b2,b3,hm,hmc,hmo])
 have hdl:(X.items.drop (i)).length=m:=by rw [List.length_drop,← hn]; exact hm
 have hsrc:∀ en,zX7 C en (.v (.slice (some ⟨g,mo,none⟩) m mc)) m (zB2 itS (X.items.drop (i))):=fun en=>by
  by_cases h0:m=0
  ·have:X.items.drop (i)=[]:=List.eq_nil_of_length_eq_zero (by rw [hdl]; exact h0)
   rw [this]
   exact fun ρ pr w hw hwf=>⟨_,_,rfl,fun j u h=>by simp [zC4,zB2] at h⟩
  ·have:=zH6 hS hw ha (i) m (by omega) (by omega)
   rw [List.take_of_length_le (by omega)] at this
   rw [← hmo,if_neg (by omega)]
   exact zM0 this
 obtain ⟨i0,hi',hz0,hz1,hz2⟩:=info_parts zK7
 have hiC:C.P.info? 33=some i0:=by rw [hP]; exact hi'
 have hund:C.P.underlying 22=some (.slice 33):=by rw [hP]; exact Tryz.underlying22
 have hnd:¬ (33:Nat)=zG0:=by decide
 have w1:jW 8 (zB2 itS (X.items.drop (i)))=true:=zG1 (zD7 _ _)
 have w2:∀ k,jW k (zB2 itS (X.items.take i))=true:=fun k=>zG1 (zD7 _ _)
 (refine zB9 hctr (by rw [hP]; rfl) rs28_5 [fun en => (.c (.sl 3 0 0 0), en), hap none 33 8 1 (itS x), hap (some 5) 33 8 (1 + m) (itS x ++ zB2 itS (X.items.drop (i)))] (ensure_type_of% (Cmp.of (by simp (maxSteps := 1000000) only [qA, qB, qC, qD, qK, qO, qP, qV, qZ, qg, ql, q0t, qv, ev, qy, zA, zB, zC, zD, zE, zF, zG, zM, ↓reduceIte, Nat.reduceEqDiff, Nat.reduceAdd, Nat.reduceLT, Nat.reduceLeDiff, zP, zT, zh, zk, zl, zn, zt, zu, cE, jA, hap, zH8, zA5, rwE, jC, jD, jF, jG, jH, jJ, jK, jL, jM, jN, hP, itS, Int.toNat_zero, Nat.zero_mul, Int.le_refl, Nat.reduceAdd, Nat.reduceMul, ite_self, b1, b4, hap, zH8, zA5, rwE]; rfl)) "" Cmp.mk) (by kernel_rfl) (by kernel_rfl) (by first | exact zA1 _ | kernel_rfl) (by kernel_rfl) (by rfl) (by rfl) (by first | exact zA0 _ | rfl) (by rfl) ?_ ?_; rotate_left; refine zA4 hctr (rs := res28) true 300 _ _ _ ?_; simp (maxSteps := 1000000) only [VT, qE, qF, qG, qH, qI, qJ, qK, qP, q0t, qu, qv, ev, qy, zA, zB, zC, zD, zE, zG, zI, zJ, TE.sv, zM, ↓reduceIte, reduceCtorEq, Nat.reduceEqDiff, Nat.reduceAdd, Nat.reduceLT, zP, zQ, zR, zt, jN, jO, hP, hk, res28, kp28, Nat.reduceAdd]; rotate_left; simp (maxSteps := 1000000) only [qA, qB, qC, qD, qK, qO, qP, qV, qZ, qg, ql, q0t, qv, ev, qw, qy, zA, zB, zC, zD, zE, zG, zM, ↓reduceIte, Nat.reduceEqDiff, Nat.reduceAdd, Nat.reduceLT, Nat.reduceSub, Nat.reduceLeDiff, zP, zR, zS, zT, zh, zk, zl, zm, zn, zq, zt, zu, jD, jF, jG, jH, jN, jP, jQ, jR, jS, jT, jU, hP, Int.toNat_zero, Nat.zero_mul, Int.le_refl, Nat.reduceAdd, Nat.reduceMul, ite_self, b1, b4])
 ·refine ⟨zG8 hund hiC (zV6 (by simp)) (fun ρ _ _ _ _=>⟨_,_,_,rfl,Nat.le_refl _⟩) (fun ρ=>⟨_,_,by rw [hi0]; rfl⟩),?_,?_⟩
  ·exact zC7 (N:=5) (n:=0) (m:=1) (z:=8) (bts:=72) (cells:=[]) (news:=itS x) (o:=none) hund hiC hz0 hz1 hz2 rfl (by decide) hnd (.zero rfl rfl (by decide)) (zU3 (c:=4) (o:=0) (L:=8) rfl rfl) rfl rfl (fun pr=>zI2 pr x) (by omega) (by omega) (by rw [hn0]; exact Nat.zero_le _) (fun q=>zG7 (nE:=3) (i:=2) (fun k=>by match k with | 0=>simp | 1=>simp | 2=>simp | 3=>simp | _+4=>simp)) rfl (fun q hq=>by match q with | 0=>rfl | 1=>rfl | 2=>rfl | 3=>rfl | 4=>rfl | 5=>exact absurd rfl hq | 6=>rfl | _+7=>rfl)
  ·exact zC7 (N:=6) (n:=1) (m:=m) (z:=8) (bts:=72) (cells:=itS x) (news:=zB2 itS (X.items.drop (i))) (o:=some 5) hund hiC hz0 hz1 hz2 rfl (by decide) hnd (.some rfl) (hsrc _) (by rw [zF9 zK0,hdl]) (zJ4 _) (fun pr=>zD7 pr _) (by omega) (by omega) (by rw [hn0]; exact Nat.zero_le _) (fun q=>zG7 (nE:=3) (i:=3) (fun k=>by match k with | 0=>simp | 1=>simp | 2=>simp | 3=>simp | _+4=>simp)) rfl (fun q hq=>by match q with | 0=>rfl | 1=>rfl | 2=>rfl | 3=>rfl | 4=>rfl | 5=>rfl | 6=>exact absurd rfl hq | _+7=>rfl)
 have hL:(zH7 X x).items=x :: X.items.drop (i):=by simp [zH7,hi,hi0,his]
 have hLl:(x :: X.items.drop (i)).length=1+m:=by simp only [List.length_cons,hdl]; omega
 refine zH5 (v:=.g [.rw 6 (1+m),.i .u64 X.cas,.i .i64 X.flush]) hC hres28 fun ρ w' hw' _ _=>?_
 have hup:=hw'.up
 rw [hC] at hup
 have k1:=RowOk.of (N:=6) (n:=1+m) (z:=8) (e:=33) (cells:=itS x++zB2 itS (X.items.drop (i))) hw' hS rfl (by decide)
 have hce:itS x++zB2 itS (X.items.drop (i))=zB2 itS (x :: X.items.drop (i)):=by simp [zB2]
 rw [hw,hce,zD3] at k1
 rw [hL]
 refine ⟨⟨ρ 6,by rw [hLl]; exact k1,?_⟩,hup.to_below⟩
 rw [hLl]; rfl
theorem rputZI_w {w:World} {g oo n c:Nat} {X:St} (hg:g < w.heap.size) (ha:RawI w (some ⟨g,oo,none⟩) X.items) (hs:Sorted X.items) (hn:n=X.items.length) (hnc:n≤c) (hcm:c≤maxLen) (hl:n≤100000000) (x:It) (hi0:atF X.items x.key=0) (his:isF X.items x.key=true) :
  Calls Tryz.prog 28 #[.agg #[.slice (some ⟨g,oo,none⟩) n c,.int .u64 X.cas,.int .i64 X.flush],.agg (itA x)] w (StP w (zH7 X x).items X.cas X.flush):=by
 obtain ⟨i,hi⟩:∃ i,atF X.items x.key=i:=⟨_,rfl⟩
 rw [hi] at hi0
 have hin:i≤n:=by rw [← hi,hn]; exact zK2 _ _
 have hilt:i < n:=by rw [← hi,hn]; exact zE6 his
 unfold maxLen at hcm
 refine zA9 Tryz.func28 rfl kp28 (S:=Non) (ρ:=fun _=>⟨0,[],[],0,none⟩) (en:=[]) [.g [.v (.slice (some ⟨g,oo,none⟩) n c),.i .u64 X.cas,.i .i64 X.flush],.g (itS x)] Tryz.ntmps28 (At.nil _ _ _) (by intro y hy; simp only [List.mem_cons,List.not_mem_nil,or_false] at hy; rcases hy with rfl | rfl; exact (by simp [SV.wf,wfs,SC.wf]); exact zI2 _ x) (by simp) ?_
 intro C hC hP hk
 have hS:C.S=Non:=by rw [hC]; rfl
 have hw:C.w0=w:=by rw [hC]; rfl
 have hn0:C.n0=0:=by rw [hC]; rfl
 have hctr:zE8 C (rpC (some ⟨g,oo,none⟩) n c X):=zS4 hP hS hw ha hs hn hl
 have b1:(0:Int)≤(i:Int):=by omega
 have b2:(i:Int)≤(n:Int):=by omega
 have b3:(n:Int)≤(c:Int):=by omega
 have b4:(i:Int)≤(c:Int):=by omega
 have b5:IntKind.i64.wrap ((i:Int)+1)=((i+1:Nat):Int):=by rw [IntWalk.i64_in _ (by omega)]; rfl
 have b6:(0:Int)≤((i+1:Nat):Int):=by omega
 have b7:((i+1:Nat):Int)≤(n:Int):=by omega
 obtain ⟨m,hm⟩:∃ m,n - (i+1)=m:=⟨_,rfl⟩
 obtain ⟨mc,hmc⟩:∃ mc,c - (i+1)=mc:=⟨_,rfl⟩
 obtain ⟨mo,hmo⟩:∃ mo,(if c=i+1 then oo else oo+(i+1) * 8)=mo:=⟨_,rfl⟩
 (refine zA4 hctr (rs:=res28) true 300 _ _ _ ?_; simp (maxSteps:=1000000) only [VT,jf,qH,qI,qK,qO,qP,qR,qS,qV,qZ,qh,ql,qm,q0t,qu,qv,ev,qw,qy,qz,zA,zB,zD,zF,zG,zI,zJ,TE.sv,zK,zM,↓reduceIte,reduceCtorEq,Value.oneCell',Nat.reduceEqDiff,Nat.reduceAdd,Nat.reduceLT,zP,zQ,zR,zT,zV,zh,zt,zu,hP,hk,res28,kp28,rpC,zJ3,itS,Nat.reduceAdd,hi,his,b1,b2,b3,b5,b6,hm,hmc,hmo,b7])
 have hdl:(X.items.drop (i+1)).length=m:=by rw [List.length_drop,← hn]; exact hm
 have hsrc:∀ en,zX7 C en (.v (.slice (some ⟨g,mo,none⟩) m mc)) m (zB2 itS (X.items.drop (i+1))):=fun en=>by
  by_cases h0:m=0
  ·have:X.items.drop (i+1)=[]:=List.eq_nil_of_length_eq_zero (by rw [hdl]; exact h0)
   rw [this]
   exact fun ρ pr w hw hwf=>⟨_,_,rfl,fun j u h=>by simp [zC4,zB2] at h⟩
  ·have:=zH6 hS hw ha (i+1) m (by omega) (by omega)
   rw [List.take_of_length_le (by omega)] at this
   rw [← hmo,if_neg (by omega)]
   exact zM0 this
 obtain ⟨i0,hi',hz0,hz1,hz2⟩:=info_parts zK7
 have hiC:C.P.info? 33=some i0:=by rw [hP]; exact hi'
 have hund:C.P.underlying 22=some (.slice 33):=by rw [hP]; exact Tryz.underlying22
 have hnd:¬ (33:Nat)=zG0:=by decide
 have w1:jW 8 (zB2 itS (X.items.drop (i+1)))=true:=zG1 (zD7 _ _)
 have w2:∀ k,jW k (zB2 itS (X.items.take i))=true:=fun k=>zG1 (zD7 _ _)
 (refine zB9 hctr (by rw [hP]; rfl) rs28_5 [fun en => (.c (.sl 3 0 0 0), en), hap none 33 8 1 (itS x), hap (some 5) 33 8 (1 + m) (itS x ++ zB2 itS (X.items.drop (i + 1)))] (ensure_type_of% (Cmp.of (by simp (maxSteps := 1000000) only [qA, qB, qC, qD, qK, qO, qP, qV, qZ, qg, ql, q0t, qv, ev, qy, zA, zB, zC, zD, zE, zF, zG, zM, ↓reduceIte, Nat.reduceEqDiff, Nat.reduceAdd, Nat.reduceLT, Nat.reduceLeDiff, zP, zT, zh, zk, zl, zn, zt, zu, cE, jA, hap, zH8, zA5, rwE, jC, jD, jF, jG, jH, jJ, jK, jL, jM, jN, hP, itS, Int.toNat_zero, Nat.zero_mul, Int.le_refl, Nat.reduceAdd, Nat.reduceMul, ite_self, b1, b4, hap, zH8, zA5, rwE]; rfl)) "" Cmp.mk) (by kernel_rfl) (by kernel_rfl) (by first | exact zA1 _ | kernel_rfl) (by kernel_rfl) (by rfl) (by rfl) (by first | exact zA0 _ | rfl) (by rfl) ?_ ?_; rotate_left; refine zA4 hctr (rs := res28) true 300 _ _ _ ?_; simp (maxSteps := 1000000) only [VT, qE, qF, qG, qH, qI, qJ, qK, qP, q0t, qu, qv, ev, qy, zA, zB, zC, zD, zE, zG, zI, zJ, TE.sv, zM, ↓reduceIte, reduceCtorEq, Nat.reduceEqDiff, Nat.reduceAdd, Nat.reduceLT, zP, zQ, zR, zt, jN, jO, hP, hk, res28, kp28, Nat.reduceAdd]; rotate_left; simp (maxSteps := 1000000) only [qA, qB, qC, qD, qK, qO, qP, qV, qZ, qg, ql, q0t, qv, ev, qw, qy, zA, zB, zC, zD, zE, zG, zM, ↓reduceIte, Nat.reduceEqDiff, Nat.reduceAdd, Nat.reduceLT, Nat.reduceSub, Nat.reduceLeDiff, zP, zR, zS, zT, zh, zk, zl, zm, zn, zq, zt, zu, jD, jF, jG, jH, jN, jP, jQ, jR, jS, jT, jU, hP, Int.toNat_zero, Nat.zero_mul, Int.le_refl, Nat.reduceAdd, Nat.reduceMul, ite_self, b1, b4])
 ·refine ⟨zG8 hund hiC (zV6 (by simp)) (fun ρ _ _ _ _=>⟨_,_,_,rfl,Nat.le_refl _⟩) (fun ρ=>⟨_,_,by rw [hi0]; rfl⟩),?_,?_⟩
  ·exact zC7 (N:=5) (n:=0) (m:=1) (z:=8) (bts:=72) (cells:=[]) (news:=itS x) (o:=none) hund hiC hz0 hz1 hz2 rfl (by decide) hnd (.zero rfl rfl (by decide)) (zU3 (c:=4) (o:=0) (L:=8) rfl rfl) rfl rfl (fun pr=>zI2 pr x) (by omega) (by omega) (by rw [hn0]; exact Nat.zero_le _) (fun q=>zG7 (nE:=3) (i:=2) (fun k=>by match k with | 0=>simp | 1=>simp | 2=>simp | 3=>simp | _+4=>simp)) rfl (fun q hq=>by match q with | 0=>rfl | 1=>rfl | 2=>rfl | 3=>rfl | 4=>rfl | 5=>exact absurd rfl hq | 6=>rfl | _+7=>rfl)
  ·exact zC7 (N:=6) (n:=1) (m:=m) (z:=8) (bts:=72) (cells:=itS x) (news:=zB2 itS (X.items.drop (i+1))) (o:=some 5) hund hiC hz0 hz1 hz2 rfl (by decide) hnd (.some rfl) (hsrc _) (by rw [zF9 zK0,hdl]) (zJ4 _) (fun pr=>zD7 pr _) (by omega) (by omega) (by rw [hn0]; exact Nat.zero_le _) (fun q=>zG7 (nE:=3) (i:=3) (fun k=>by match k with | 0=>simp | 1=>simp | 2=>simp | 3=>simp | _+4=>simp)) rfl (fun q hq=>by match q with | 0=>rfl | 1=>rfl | 2=>rfl | 3=>rfl | 4=>rfl | 5=>rfl | 6=>exact absurd rfl hq | _+7=>rfl)
 have hL:(zH7 X x).items=x :: X.items.drop (i+1):=by simp [zH7,hi,hi0,his]
 have hLl:(x :: X.items.drop (i+1)).length=1+m:=by simp only [List.length_cons,hdl]; omega
 refine zH5 (v:=.g [.rw 6 (1+m),.i .u64 X.cas,.i .i64 X.flush]) hC hres28 fun ρ w' hw' _ _=>?_
 have hup:=hw'.up
 rw [hC] at hup
 have k1:=RowOk.of (N:=6) (n:=1+m) (z:=8) (e:=33) (cells:=itS x++zB2 itS (X.items.drop (i+1))) hw' hS rfl (by decide)
 have hce:itS x++zB2 itS (X.items.drop (i+1))=zB2 itS (x :: X.items.drop (i+1)):=by simp [zB2]
 rw [hw,hce,zD3] at k1
 rw [hL]
 refine ⟨⟨ρ 6,by rw [hLl]; exact k1,?_⟩,hup.to_below⟩
 rw [hLl]; rfl
theorem rputPN_w {w:World} {g oo n c:Nat} {X:St} (hg:g < w.heap.size) (ha:RawI w (some ⟨g,oo,none⟩) X.items) (hs:Sorted X.items) (hn:n=X.items.length) (hnc:n≤c) (hcm:c≤maxLen) (hl:n≤100000000) (x:It) (hi0:0 < atF X.items x.key) (his:isF X.items x.key=false) :
  Calls Tryz.prog 28 #[.agg #[.slice (some ⟨g,oo,none⟩) n c,.int .u64 X.cas,.int .i64 X.flush],.agg (itA x)] w (StP w (zH7 X x).items X.cas X.flush):=by
 obtain ⟨i,hi⟩:∃ i,atF X.items x.key=i:=⟨_,rfl⟩
 rw [hi] at hi0
 have hin:i≤n:=by rw [← hi,hn]; exact zK2 _ _
 unfold maxLen at hcm
 refine zA9 Tryz.func28 rfl kp28 (S:=Non) (ρ:=fun _=>⟨0,[],[],0,none⟩) (en:=[]) [.g [.v (.slice (some ⟨g,oo,none⟩) n c),.i .u64 X.cas,.i .i64 X.flush],.g (itS x)] Tryz.ntmps28 (At.nil _ _ _) (by intro y hy; simp only [List.mem_cons,List.not_mem_nil,or_false] at hy; rcases hy with rfl | rfl; exact (by simp [SV.wf,wfs,SC.wf]); exact zI2 _ x) (by simp) ?_
 intro C hC hP hk
 have hS:C.S=Non:=by rw [hC]; rfl
 have hw:C.w0=w:=by rw [hC]; rfl
 have hn0:C.n0=0:=by rw [hC]; rfl
 have hctr:zE8 C (rpC (some ⟨g,oo,none⟩) n c X):=zS4 hP hS hw ha hs hn hl
 have b1:(0:Int)≤(i:Int):=by omega
 have b2:(i:Int)≤(n:Int):=by omega
 have b3:(n:Int)≤(c:Int):=by omega
 have b4:(i:Int)≤(c:Int):=by omega
 have b5:IntKind.i64.wrap ((i:Int)+1)=((i+1:Nat):Int):=by rw [IntWalk.i64_in _ (by omega)]; rfl
 have b6:(0:Int)≤((i+1:Nat):Int):=by omega
 obtain ⟨m,hm⟩:∃ m,n - (i)=m:=⟨_,rfl⟩
 obtain ⟨mc,hmc⟩:∃ mc,c - (i)=mc:=⟨_,rfl⟩
 obtain ⟨mo,hmo⟩:∃ mo,(if c=i then oo else oo+(i) * 8)=mo:=⟨_,rfl⟩
 (refine zA4 hctr (rs:=res28) true 300 _ _ _ ?_; simp (maxSteps:=1000000) only [VT,jg,qH,qI,qK,qO,qP,qV,qZ,qh,ql,qm,q0t,qu,qv,ev,qw,qy,zA,zB,zD,zF,zG,zI,zJ,TE.sv,zK,zM,↓reduceIte,reduceCtorEq,Value.oneCell',Nat.reduceEqDiff,Nat.reduceAdd,Nat.reduceLT,zP,zQ,zR,zT,zW,zh,zt,zu,hP,hk,res28,kp28,rpC,zJ3,itS,Nat.reduceAdd,hi,his,b1,b2,b3,hm,hmc,hmo])
 have hdl:(X.items.drop (i)).length=m:=by rw [List.length_drop,← hn]; exact hm
 have hsrc:∀ en,zX7 C en (.v (.slice (some ⟨g,mo,none⟩) m mc)) m (zB2 itS (X.items.drop (i))):=fun en=>by
  by_cases h0:m=0
  ·have:X.items.drop (i)=[]:=List.eq_nil_of_length_eq_zero (by rw [hdl]; exact h0)
   rw [this]
   exact fun ρ pr w hw hwf=>⟨_,_,rfl,fun j u h=>by simp [zC4,zB2] at h⟩
  ·have:=zH6 hS hw ha (i) m (by omega) (by omega)
   rw [List.take_of_length_le (by omega)] at this
   rw [← hmo,if_neg (by omega)]
   exact zM0 this
 obtain ⟨i0,hi',hz0,hz1,hz2⟩:=info_parts zK7
 have hiC:C.P.info? 33=some i0:=by rw [hP]; exact hi'
 have hund:C.P.underlying 22=some (.slice 33):=by rw [hP]; exact Tryz.underlying22
 have hnd:¬ (33:Nat)=zG0:=by decide
 have w1:jW 8 (zB2 itS (X.items.drop (i)))=true:=zG1 (zD7 _ _)
 have w2:∀ k,jW k (zB2 itS (X.items.take i))=true:=fun k=>zG1 (zD7 _ _)
 (refine zB9 hctr (by rw [hP]; rfl) rs28_5 [hap none 33 8 i (zB2 itS (X.items.take i)), hap (some 4) 33 8 (i + 1) (zB2 itS (X.items.take i) ++ itS x), hap (some 6) 33 8 (i + 1 + m) (zB2 itS (X.items.take i) ++ itS x ++ zB2 itS (X.items.drop (i)))] (ensure_type_of% (Cmp.of (by simp (maxSteps := 1000000) only [qA, qB, qC, qD, qK, qO, qP, qV, qZ, qg, ql, q0t, qv, ev, qy, zA, zB, zC, zD, zE, zF, zG, zM, ↓reduceIte, Nat.reduceEqDiff, Nat.reduceAdd, Nat.reduceLT, Nat.reduceLeDiff, zP, zT, zh, zk, zl, zn, zt, zu, cE, jA, hap, zH8, zA5, rwE, jC, jD, jF, jG, jH, jJ, jK, jL, jM, jN, hP, itS, Int.toNat_zero, Nat.zero_mul, Int.le_refl, Nat.reduceAdd, Nat.reduceMul, ite_self, b1, b4, hap, zH8, zA5, rwE]; rfl)) "" Cmp.mk) (by kernel_rfl) (by kernel_rfl) (by first | exact zA1 _ | kernel_rfl) (by kernel_rfl) (by rfl) (by rfl) (by first | exact zA0 _ | rfl) (by rfl) ?_ ?_; rotate_left; refine zA4 hctr (rs := res28) true 300 _ _ _ ?_; simp (maxSteps := 1000000) only [VT, qE, qF, qG, qH, qI, qJ, qK, qP, q0t, qu, qv, ev, qy, zA, zB, zC, zD, zE, zG, zI, zJ, TE.sv, zM, ↓reduceIte, reduceCtorEq, Nat.reduceEqDiff, Nat.reduceAdd, Nat.reduceLT, zP, zQ, zR, zt, jN, jO, hP, hk, res28, kp28, Nat.reduceAdd]; rotate_left; simp (maxSteps := 1000000) only [qA, qB, qC, qD, qK, qO, qP, qV, qZ, qg, ql, q0t, qv, ev, qw, qy, zA, zB, zC, zD, zE, zG, zM, ↓reduceIte, Nat.reduceEqDiff, Nat.reduceAdd, Nat.reduceLT, Nat.reduceSub, Nat.reduceLeDiff, zP, zR, zS, zT, zh, zk, zl, zm, zn, zq, zt, zu, jD, jF, jG, jH, jN, jP, jQ, jR, jS, jT, jU, hP, Int.toNat_zero, Nat.zero_mul, Int.le_refl, Nat.reduceAdd, Nat.reduceMul, ite_self, b1, b4])
 ·have hr1:C.rd g oo (i * 8)=some (zB2 itS (X.items.take i)):=by have:=zH6 hS hw ha 0 i (by omega) hi0; rw [Nat.zero_mul,Nat.add_zero,List.drop_zero] at this; exact this
  refine ⟨?_,?_,?_⟩
  ·rw [show (SV.c (SC.rw 4 i))=SV.c (SC.rw 4 (0+i)) by rw [Nat.zero_add]]
   exact zC7 (N:=4) (n:=0) (m:=i) (z:=8) (bts:=72) (cells:=[]) (news:=zB2 itS (X.items.take i)) (o:=none) hund hiC hz0 hz1 hz2 rfl (by decide) hnd (.zero rfl rfl hi0) (zM0 hr1) (by rw [zF9 zK0,List.length_take]; omega) (zJ4 _) (fun pr=>zD7 pr _) (by omega) (by omega) (by rw [hn0]; exact Nat.zero_le _) (fun q=>zG7 (nE:=3) (i:=1) (fun k=>by match k with | 0=>simp | 1=>simp | 2=>simp | 3=>simp | 4=>simp | _+5=>simp)) (by rw [Nat.zero_add]; rfl) (fun q hq=>by match q with | 0=>rfl | 1=>rfl | 2=>rfl | 3=>rfl | 4=>exact absurd rfl hq | 5=>rfl | 6=>rfl | 7=>rfl | _+8=>rfl)
  ·exact zC7 (N:=6) (n:=i) (m:=1) (z:=8) (bts:=72) (cells:=zB2 itS (X.items.take i)) (news:=itS x) (o:=some 4) hund hiC hz0 hz1 hz2 rfl (by decide) hnd (.some rfl) (zU3 (c:=5) (o:=0) (L:=8) rfl rfl) rfl rfl (fun pr=>zI2 pr x) (by omega) (by omega) (by rw [hn0]; exact Nat.zero_le _) (fun q=>zG7 (nE:=3) (i:=3) (fun k=>by match k with | 0=>simp | 1=>simp | 2=>simp | 3=>simp | 4=>simp | _+5=>simp)) rfl (fun q hq=>by match q with | 0=>rfl | 1=>rfl | 2=>rfl | 3=>rfl | 4=>rfl | 5=>rfl | 6=>exact absurd rfl hq | 7=>rfl | _+8=>rfl)
  ·exact zC7 (N:=7) (n:=i+1) (m:=m) (z:=8) (bts:=72) (cells:=zB2 itS (X.items.take i)++itS x) (news:=zB2 itS (X.items.drop (i))) (o:=some 6) hund hiC hz0 hz1 hz2 rfl (by decide) hnd (.some rfl) (hsrc _) (by rw [zF9 zK0,hdl]) (zJ4 _) (fun pr=>zD7 pr _) (by omega) (by omega) (by rw [hn0]; exact Nat.zero_le _) (fun q=>zG7 (nE:=3) (i:=4) (fun k=>by match k with | 0=>simp | 1=>simp | 2=>simp | 3=>simp | 4=>simp | _+5=>simp)) rfl (fun q hq=>by match q with | 0=>rfl | 1=>rfl | 2=>rfl | 3=>rfl | 4=>rfl | 5=>rfl | 6=>rfl | 7=>exact absurd rfl hq | _+8=>rfl)
 have hL:(zH7 X x).items=X.items.take i++x :: X.items.drop (i):=by simp [zH7,hi,his]
 have hLl:(X.items.take i++x :: X.items.drop (i)).length=i+1+m:=by simp only [List.length_append,List.length_cons,List.length_take,hdl]; omega
 refine zH5 (v:=.g [.rw 7 (i+1+m),.i .u64 X.cas,.i .i64 X.flush]) hC hres28 fun ρ w' hw' _ _=>?_
 have hup:=hw'.up
 rw [hC] at hup
 have k1:=RowOk.of (N:=7) (n:=i+1+m) (z:=8) (e:=33) (cells:=zB2 itS (X.items.take i)++itS x++zB2 itS (X.items.drop (i))) hw' hS rfl (by decide)
 have hce:zB2 itS (X.items.take i)++itS x++zB2 itS (X.items.drop (i))=zB2 itS (X.items.take i++x :: X.items.drop (i)):=by simp [zB2,List.flatMap_append,List.append_assoc]
 rw [hw,hce,zD3] at k1
 rw [hL]
 refine ⟨⟨ρ 7,by rw [hLl]; exact k1,?_⟩,hup.to_below⟩
 rw [hLl]; rfl
theorem rputPI_w {w:World} {g oo n c:Nat} {X:St} (hg:g < w.heap.size) (ha:RawI w (some ⟨g,oo,none⟩) X.items) (hs:Sorted X.items) (hn:n=X.items.length) (hnc:n≤c) (hcm:c≤maxLen) (hl:n≤100000000) (x:It) (hi0:0 < atF X.items x.key) (his:isF X.items x.key=true) :
  Calls Tryz.prog 28 #[.agg #[.slice (some ⟨g,oo,none⟩) n c,.int .u64 X.cas,.int .i64 X.flush],.agg (itA x)] w (StP w (zH7 X x).items X.cas X.flush):=by
 obtain ⟨i,hi⟩:∃ i,atF X.items x.key=i:=⟨_,rfl⟩
 rw [hi] at hi0
 have hin:i≤n:=by rw [← hi,hn]; exact zK2 _ _
 have hilt:i < n:=by rw [← hi,hn]; exact zE6 his
 unfold maxLen at hcm
 refine zA9 Tryz.func28 rfl kp28 (S:=Non) (ρ:=fun _=>⟨0,[],[],0,none⟩) (en:=[]) [.g [.v (.slice (some ⟨g,oo,none⟩) n c),.i .u64 X.cas,.i .i64 X.flush],.g (itS x)] Tryz.ntmps28 (At.nil _ _ _) (by intro y hy; simp only [List.mem_cons,List.not_mem_nil,or_false] at hy; rcases hy with rfl | rfl; exact (by simp [SV.wf,wfs,SC.wf]); exact zI2 _ x) (by simp) ?_
 intro C hC hP hk
 have hS:C.S=Non:=by rw [hC]; rfl
 have hw:C.w0=w:=by rw [hC]; rfl
 have hn0:C.n0=0:=by rw [hC]; rfl
 have hctr:zE8 C (rpC (some ⟨g,oo,none⟩) n c X):=zS4 hP hS hw ha hs hn hl
 have b1:(0:Int)≤(i:Int):=by omega
 have b2:(i:Int)≤(n:Int):=by omega
 have b3:(n:Int)≤(c:Int):=by omega
 have b4:(i:Int)≤(c:Int):=by omega
 have b5:IntKind.i64.wrap ((i:Int)+1)=((i+1:Nat):Int):=by rw [IntWalk.i64_in _ (by omega)]; rfl
 have b6:(0:Int)≤((i+1:Nat):Int):=by omega
 have b7:((i+1:Nat):Int)≤(n:Int):=by omega
 obtain ⟨m,hm⟩:∃ m,n - (i+1)=m:=⟨_,rfl⟩
 obtain ⟨mc,hmc⟩:∃ mc,c - (i+1)=mc:=⟨_,rfl⟩
 obtain ⟨mo,hmo⟩:∃ mo,(if c=i+1 then oo else oo+(i+1) * 8)=mo:=⟨_,rfl⟩
 (refine zA4 hctr (rs:=res28) true 300 _ _ _ ?_; simp (maxSteps:=1000000) only [VT,jf,qH,qI,qK,qO,qP,qR,qS,qV,qZ,qh,ql,qm,q0t,qu,qv,ev,qw,qy,qz,zA,zB,zD,zF,zG,zI,zJ,TE.sv,zK,zM,↓reduceIte,reduceCtorEq,Value.oneCell',Nat.reduceEqDiff,Nat.reduceAdd,Nat.reduceLT,zP,zQ,zR,zT,zV,zh,zt,zu,hP,hk,res28,kp28,rpC,zJ3,itS,Nat.reduceAdd,hi,his,b1,b2,b3,b5,b6,hm,hmc,hmo,b7])
 have hdl:(X.items.drop (i+1)).length=m:=by rw [List.length_drop,← hn]; exact hm
 have hsrc:∀ en,zX7 C en (.v (.slice (some ⟨g,mo,none⟩) m mc)) m (zB2 itS (X.items.drop (i+1))):=fun en=>by
  by_cases h0:m=0
  ·have:X.items.drop (i+1)=[]:=List.eq_nil_of_length_eq_zero (by rw [hdl]; exact h0)
   rw [this]
   exact fun ρ pr w hw hwf=>⟨_,_,rfl,fun j u h=>by simp [zC4,zB2] at h⟩
  ·have:=zH6 hS hw ha (i+1) m (by omega) (by omega)
   rw [List.take_of_length_le (by omega)] at this
   rw [← hmo,if_neg (by omega)]
   exact zM0 this
 obtain ⟨i0,hi',hz0,hz1,hz2⟩:=info_parts zK7
 have hiC:C.P.info? 33=some i0:=by rw [hP]; exact hi'
 have hund:C.P.underlying 22=some (.slice 33):=by rw [hP]; exact Tryz.underlying22
 have hnd:¬ (33:Nat)=zG0:=by decide
 have w1:jW 8 (zB2 itS (X.items.drop (i+1)))=true:=zG1 (zD7 _ _)
 have w2:∀ k,jW k (zB2 itS (X.items.take i))=true:=fun k=>zG1 (zD7 _ _)
 (refine zB9 hctr (by rw [hP]; rfl) rs28_5 [hap none 33 8 i (zB2 itS (X.items.take i)), hap (some 4) 33 8 (i + 1) (zB2 itS (X.items.take i) ++ itS x), hap (some 6) 33 8 (i + 1 + m) (zB2 itS (X.items.take i) ++ itS x ++ zB2 itS (X.items.drop (i + 1)))] (ensure_type_of% (Cmp.of (by simp (maxSteps := 1000000) only [qA, qB, qC, qD, qK, qO, qP, qV, qZ, qg, ql, q0t, qv, ev, qy, zA, zB, zC, zD, zE, zF, zG, zM, ↓reduceIte, Nat.reduceEqDiff, Nat.reduceAdd, Nat.reduceLT, Nat.reduceLeDiff, zP, zT, zh, zk, zl, zn, zt, zu, cE, jA, hap, zH8, zA5, rwE, jC, jD, jF, jG, jH, jJ, jK, jL, jM, jN, hP, itS, Int.toNat_zero, Nat.zero_mul, Int.le_refl, Nat.reduceAdd, Nat.reduceMul, ite_self, b1, b4, hap, zH8, zA5, rwE]; rfl)) "" Cmp.mk) (by kernel_rfl) (by kernel_rfl) (by first | exact zA1 _ | kernel_rfl) (by kernel_rfl) (by rfl) (by rfl) (by first | exact zA0 _ | rfl) (by rfl) ?_ ?_; rotate_left; refine zA4 hctr (rs := res28) true 300 _ _ _ ?_; simp (maxSteps := 1000000) only [VT, qE, qF, qG, qH, qI, qJ, qK, qP, q0t, qu, qv, ev, qy, zA, zB, zC, zD, zE, zG, zI, zJ, TE.sv, zM, ↓reduceIte, reduceCtorEq, Nat.reduceEqDiff, Nat.reduceAdd, Nat.reduceLT, zP, zQ, zR, zt, jN, jO, hP, hk, res28, kp28, Nat.reduceAdd]; rotate_left; simp (maxSteps := 1000000) only [qA, qB, qC, qD, qK, qO, qP, qV, qZ, qg, ql, q0t, qv, ev, qw, qy, zA, zB, zC, zD, zE, zG, zM, ↓reduceIte, Nat.reduceEqDiff, Nat.reduceAdd, Nat.reduceLT, Nat.reduceSub, Nat.reduceLeDiff, zP, zR, zS, zT, zh, zk, zl, zm, zn, zq, zt, zu, jD, jF, jG, jH, jN, jP, jQ, jR, jS, jT, jU, hP, Int.toNat_zero, Nat.zero_mul, Int.le_refl, Nat.reduceAdd, Nat.reduceMul, ite_self, b1, b4])
 ·have hr1:C.rd g oo (i * 8)=some (zB2 itS (X.items.take i)):=by have:=zH6 hS hw ha 0 i (by omega) hi0; rw [Nat.zero_mul,Nat.add_zero,List.drop_zero] at this; exact this
  refine ⟨?_,?_,?_⟩
  ·rw [show (SV.c (SC.rw 4 i))=SV.c (SC.rw 4 (0+i)) by rw [Nat.zero_add]]
   exact zC7 (N:=4) (n:=0) (m:=i) (z:=8) (bts:=72) (cells:=[]) (news:=zB2 itS (X.items.take i)) (o:=none) hund hiC hz0 hz1 hz2 rfl (by decide) hnd (.zero rfl rfl hi0) (zM0 hr1) (by rw [zF9 zK0,List.length_take]; omega) (zJ4 _) (fun pr=>zD7 pr _) (by omega) (by omega) (by rw [hn0]; exact Nat.zero_le _) (fun q=>zG7 (nE:=3) (i:=1) (fun k=>by match k with | 0=>simp | 1=>simp | 2=>simp | 3=>simp | 4=>simp | _+5=>simp)) (by rw [Nat.zero_add]; rfl) (fun q hq=>by match q with | 0=>rfl | 1=>rfl | 2=>rfl | 3=>rfl | 4=>exact absurd rfl hq | 5=>rfl | 6=>rfl | 7=>rfl | _+8=>rfl)
  ·exact zC7 (N:=6) (n:=i) (m:=1) (z:=8) (bts:=72) (cells:=zB2 itS (X.items.take i)) (news:=itS x) (o:=some 4) hund hiC hz0 hz1 hz2 rfl (by decide) hnd (.some rfl) (zU3 (c:=5) (o:=0) (L:=8) rfl rfl) rfl rfl (fun pr=>zI2 pr x) (by omega) (by omega) (by rw [hn0]; exact Nat.zero_le _) (fun q=>zG7 (nE:=3) (i:=3) (fun k=>by match k with | 0=>simp | 1=>simp | 2=>simp | 3=>simp | 4=>simp | _+5=>simp)) rfl (fun q hq=>by match q with | 0=>rfl | 1=>rfl | 2=>rfl | 3=>rfl | 4=>rfl | 5=>rfl | 6=>exact absurd rfl hq | 7=>rfl | _+8=>rfl)
  ·exact zC7 (N:=7) (n:=i+1) (m:=m) (z:=8) (bts:=72) (cells:=zB2 itS (X.items.take i)++itS x) (news:=zB2 itS (X.items.drop (i+1))) (o:=some 6) hund hiC hz0 hz1 hz2 rfl (by decide) hnd (.some rfl) (hsrc _) (by rw [zF9 zK0,hdl]) (zJ4 _) (fun pr=>zD7 pr _) (by omega) (by omega) (by rw [hn0]; exact Nat.zero_le _) (fun q=>zG7 (nE:=3) (i:=4) (fun k=>by match k with | 0=>simp | 1=>simp | 2=>simp | 3=>simp | 4=>simp | _+5=>simp)) rfl (fun q hq=>by match q with | 0=>rfl | 1=>rfl | 2=>rfl | 3=>rfl | 4=>rfl | 5=>rfl | 6=>rfl | 7=>exact absurd rfl hq | _+8=>rfl)
 have hL:(zH7 X x).items=X.items.take i++x :: X.items.drop (i+1):=by simp [zH7,hi,his]
 have hLl:(X.items.take i++x :: X.items.drop (i+1)).length=i+1+m:=by simp only [List.length_append,List.length_cons,List.length_take,hdl]; omega
 refine zH5 (v:=.g [.rw 7 (i+1+m),.i .u64 X.cas,.i .i64 X.flush]) hC hres28 fun ρ w' hw' _ _=>?_
 have hup:=hw'.up
 rw [hC] at hup
 have k1:=RowOk.of (N:=7) (n:=i+1+m) (z:=8) (e:=33) (cells:=zB2 itS (X.items.take i)++itS x++zB2 itS (X.items.drop (i+1))) hw' hS rfl (by decide)
 have hce:zB2 itS (X.items.take i)++itS x++zB2 itS (X.items.drop (i+1))=zB2 itS (X.items.take i++x :: X.items.drop (i+1)):=by simp [zB2,List.flatMap_append,List.append_assoc]
 rw [hw,hce,zD3] at k1
 rw [hL]
 refine ⟨⟨ρ 7,by rw [hLl]; exact k1,?_⟩,hup.to_below⟩
 rw [hLl]; rfl
theorem rputO_w {w:World} {X:St} (hX:X.items=[]) (x:It) :
  Calls Tryz.prog 28 #[.agg #[.slice none 0 0,.int .u64 X.cas,.int .i64 X.flush],.agg (itA x)] w (StP w (zH7 X x).items X.cas X.flush):=by
 refine zA9 Tryz.func28 rfl kp28 (S:=Non) (ρ:=fun _=>⟨0,[],[],0,none⟩) (en:=[]) [.g [.v (.slice none 0 0),.i .u64 X.cas,.i .i64 X.flush],.g (itS x)] Tryz.ntmps28 (At.nil _ _ _) (by intro y hy; simp only [List.mem_cons,List.not_mem_nil,or_false] at hy; rcases hy with rfl | rfl; exact (by simp [SV.wf,wfs,SC.wf]); exact zI2 _ x) (by simp) ?_
 intro C hC hP hk
 have hS:C.S=Non:=by rw [hC]; rfl
 have hw:C.w0=w:=by rw [hC]; rfl
 have hn0:C.n0=0:=by rw [hC]; rfl
 have ha:RawI w none X.items:=fun k y hy=>by rw [hX] at hy; simp at hy
 have hctr:zE8 C (rpC none 0 0 X):=zS4 hP hS hw ha (by rw [hX]; exact Sorted.nil) (by rw [hX]; rfl) (by decide)
 have hi:atF X.items x.key=0:=by rw [hX]; rfl
 have his:isF X.items x.key=false:=by rw [hX]; rfl
 have hz:((0:Nat):Int)=0:=rfl
 (refine zA4 hctr (rs:=res28) true 300 _ _ _ ?_; simp (maxSteps:=1000000) only [VT,jg,qH,qI,qK,qO,qP,qV,qZ,qh,ql,qm,q0t,qu,qv,ev,qw,qy,zA,zB,zD,zF,zG,zI,zJ,TE.sv,zK,zM,↓reduceIte,reduceCtorEq,Value.oneCell',Nat.reduceEqDiff,Nat.reduceAdd,Nat.reduceLT,zP,zQ,zR,zT,zW,zm,zt,zu,hP,hk,res28,kp28,rpC,zJ3,itS,Int.toNat_zero,Int.le_refl,Nat.reduceAdd,hi,his,hz])
 obtain ⟨i0,hi',hz0,hz1,hz2⟩:=info_parts zK7
 have hiC:C.P.info? 33=some i0:=by rw [hP]; exact hi'
 have hund:C.P.underlying 22=some (.slice 33):=by rw [hP]; exact Tryz.underlying22
 have hnd:¬ (33:Nat)=zG0:=by decide
 (refine zB9 hctr (by rw [hP]; rfl) rs28_5 [fun en => (.c (.sl 3 0 0 0), en), hap none 33 8 1 (itS x), fun en => (.c (.rw 5 1), en)] (ensure_type_of% (Cmp.of (by simp (maxSteps := 1000000) only [qA, qB, qC, qD, qK, qO, qP, qV, qZ, qg, ql, q0t, qv, ev, qy, zA, zB, zC, zD, zE, zF, zG, zM, ↓reduceIte, Nat.reduceEqDiff, Nat.reduceAdd, Nat.reduceLT, Nat.reduceLeDiff, zP, zT, zk, zl, zm, zt, zu, cE, jA, hap, zH8, rwE, jC, jD, jF, jG, jH, jJ, jK, jL, jM, jN, hP, itS, Int.toNat_zero, Int.le_refl, Nat.reduceAdd, Nat.reduceMul, hz, hap, zH8, rwE]; rfl)) "" Cmp.mk) (by kernel_rfl) (by kernel_rfl) (by first | exact zA1 _ | kernel_rfl) (by kernel_rfl) (by rfl) (by rfl) (by first | exact zA0 _ | rfl) (by rfl) ?_ ?_; rotate_left; refine zA4 hctr (rs := res28) true 300 _ _ _ ?_; simp (maxSteps := 1000000) only [VT, qE, qF, qG, qH, qI, qJ, qK, qP, q0t, qu, qv, ev, qy, zA, zB, zC, zD, zE, zG, zI, zJ, TE.sv, zM, ↓reduceIte, reduceCtorEq, Nat.reduceEqDiff, Nat.reduceAdd, Nat.reduceLT, zP, zQ, zR, zt, jN, jO, hP, hk, res28, kp28, Nat.reduceAdd]; rotate_left; simp (maxSteps := 1000000) only [qA, qB, qC, qD, qK, qO, qP, qV, qZ, qg, ql, q0t, qv, ev, qw, qy, zA, zB, zC, zD, zE, zG, zM, ↓reduceIte, Nat.reduceEqDiff, Nat.reduceAdd, Nat.reduceLT, Nat.reduceSub, Nat.reduceLeDiff, zP, zR, zS, zT, zk, zl, zm, zn, zq, zt, zu, jD, jF, jG, jH, jN, jP, jQ, jR, jS, jT, jU, hP, Int.toNat_zero, Int.le_refl, Nat.reduceAdd, Nat.reduceMul, hz])
 ·refine ⟨zG8 hund hiC (zV6 (by simp)) (fun ρ _ _ _ _=>⟨_,_,_,rfl,Nat.le_refl _⟩) (fun ρ=>⟨_,_,rfl⟩),?_,zG8 hund hiC (zV6 (by simp)) (fun ρ pr w hw h=>row_le (e:=33) (z:=8) (cells:=itS x) rfl hw h) (fun ρ=>⟨_,_,rfl⟩)⟩
  exact zC7 (N:=5) (n:=0) (m:=1) (z:=8) (bts:=72) (cells:=[]) (news:=itS x) (o:=none) hund hiC hz0 hz1 hz2 rfl (by decide) hnd (.zero rfl rfl (by decide)) (zU3 (c:=4) (o:=0) (L:=8) rfl rfl) rfl rfl (fun pr=>zI2 pr x) (by omega) (by omega) (by rw [hn0]; exact Nat.zero_le _) (fun q=>zG7 (nE:=3) (i:=2) (fun k=>by match k with | 0=>simp | 1=>simp | 2=>simp | _+3=>simp)) rfl (fun q hq=>by match q with | 0=>rfl | 1=>rfl | 2=>rfl | 3=>rfl | 4=>rfl | 5=>exact absurd rfl hq | _+6=>rfl)
 have hL:(zH7 X x).items=[x]:=by simp [zH7,hX,isF,atF]
 refine zH5 (v:=.g [.rw 5 1,.i .u64 X.cas,.i .i64 X.flush]) hC hres28 fun ρ w' hw' _ _=>?_
 have hup:=hw'.up
 rw [hC] at hup
 have k1:=RowOk.of (N:=5) (n:=1) (z:=8) (e:=33) (cells:=itS x) hw' hS rfl (by decide)
 have hce:itS x=zB2 itS [x]:=by simp [zB2]
 rw [hw,hce,zD3] at k1
 rw [hL]
 exact ⟨⟨ρ 5,k1,rfl⟩,hup.to_below⟩
theorem rput_w {w:World} {a:Option Addr} {n c:Nat} {X:St} (h0:(∃ g o,a=some ⟨g,o,none⟩∧g < w.heap.size)∨(a=none∧n=0∧c=0)) (ha:RawI w a X.items) (hs:Sorted X.items) (hn:n=X.items.length) (hnc:n≤c) (hcm:c≤maxLen) (hl:n≤100000000) (x:It) :
  Calls Tryz.prog 28 #[.agg #[.slice a n c,.int .u64 X.cas,.int .i64 X.flush],.agg (itA x)] w (StP w (zH7 X x).items X.cas X.flush):=by
 rcases h0 with ⟨g,o,rfl,hg⟩ | ⟨rfl,rfl,rfl⟩
 ·by_cases hi0:atF X.items x.key=0
  ·cases his:isF X.items x.key with
   | true=>exact rputZI_w hg ha hs hn hnc hcm hl x hi0 his
   | false=>exact rputZN_w hg ha hs hn hnc hcm hl x hi0 his
  ·cases his:isF X.items x.key with
   | true=>exact rputPI_w hg ha hs hn hnc hcm hl x (Nat.pos_of_ne_zero hi0) his
   | false=>exact rputPN_w hg ha hs hn hnc hcm hl x (Nat.pos_of_ne_zero hi0) his
 ·exact rputO_w (List.eq_nil_of_length_eq_zero hn.symm) x
end Go.Proofs.YtfpeholdlkfmoaaGreatDoor
/- A loop whose exit has one shape, so that what follows is walked once. No program in sight. -/
namespace Go.Proofs.YtfpeholdlkfmoaaGreatDoor
set_option linter.unusedSimpArgs false
set_option linter.unusedVariables false
open Go.RowKit
section
variable {C:Cx} {nt:Nat} {sl:List (Nat × SV)} {en:List EN}
theorem zN0 {κ:Type} {c:Code} {k:List KI} (slJ:κ→List (Nat × SV)) (enJ:κ→List EN) (tail:∀ y,Run C k nt (slJ y) (enJ y)) (use:(∀ y s,sub (slJ y) s→Run C k nt s (enJ y))→Run C (.code c :: k) nt sl en):Run C (.code c :: k) nt sl en:=
 use fun y _ h=>zR1 h (tail y)
end
end Go.Proofs.YtfpeholdlkfmoaaGreatDoor
/- The document's Live, walked. Printed by gen_refw3.py. -/
namespace Go.Proofs.YtfpeholdlkfmoaaGreatDoor
set_option linter.unusedSimpArgs false
set_option linter.unusedVariables false
set_option maxHeartbeats 8000000
open Go.RowKit
set_option maxRecDepth 100000
def rlC:Ctr:=fun f _ xs=>match f with
 | 44=>zR7 xs
 | _=>none
theorem rlC_ok {C:Cx} (hP:C.P=Tryz.prog):zE8 C rlC:=by
 intro f en xs p v h hp ρ w' hup hHp hHo hinj hwf
 unfold rlC at h
 split at h
 ·rw [hP]
  refine ⟨fun args w=>Tryz.call44 args w,?_⟩
  unfold zR7 at h
  split at h <;> simp only [Option.some.injEq,Prod.mk.injEq,reduceCtorEq] at h
  rename_i k fl vl e cs la st wo now
  obtain ⟨rfl,rfl⟩:=h
  exact ⟨trivial,ref_gone ⟨k,fl,vl,e,cs,la,st,wo⟩ now w'⟩
 ·cases h
def zJ9 (now:Int) (l:List It):List It:=l.filter fun x=>!zE9 now x
def lvS (i:Nat) (now:Int):List (Nat × SV):=[(6,.c (.i .i64 (i:Int))),(5,.c (.p 2 0)),(4,.c (.p 1 0)),(2,.c (.p 0 0)),(1,.c (.i .i64 now))]
def lvE (a:Option Addr) (n c:Nat) (cs fl:Int) (L:List It):List EN:=[⟨(25,0,whole),[.v (.slice a n c),.i .u64 cs,.i .i64 fl],true⟩,⟨(25,0,whole),[.v (.slice none 0 0),.i .u64 0,.i .i64 0],true⟩,⟨(25,0,whole),[.rw 3 L.length,.i .u64 cs,.i .i64 fl],true⟩,rwE 33 8 L.length (zB2 itS L)]
theorem zD6 {pr:Nat→Prop} {v:SC} {cs fl:Int} (h:v.wf pr):wfs pr [v,.i .u64 cs,.i .i64 fl]:=by
 intro y hy
 simp only [List.mem_cons,List.not_mem_nil,or_false] at hy
 rcases hy with rfl | rfl | rfl
 ·exact h
 ·trivial
 ·trivial
theorem rlive_w {w:World} {a:Option Addr} {n c:Nat} {X:St} (ha:RawI w a X.items) (hn:n=X.items.length) (hl:n≤100000000) (now:Int) :
  Calls Tryz.prog 19 #[.agg #[.slice a n c,.int .u64 X.cas,.int .i64 X.flush],.int .i64 now] w (StP w (zE4 X now).items (zE4 X now).cas (zE4 X now).flush):=by
 refine zA9 Tryz.func19 rfl kp19 (S:=Non) (ρ:=fun _=>⟨0,[],[],0,none⟩) (en:=[]) [.g [.v (.slice a n c),.i .u64 X.cas,.i .i64 X.flush],.c (.i .i64 now)] Tryz.ntmps19 (At.nil _ _ _) (by intro y hy; simp only [List.mem_cons,List.not_mem_nil,or_false] at hy; rcases hy with rfl | rfl; exact zD6 trivial; trivial) (by simp) ?_
 intro C hC hP hk
 have hS:C.S=Non:=by rw [hC]; rfl
 have hw:C.w0=w:=by rw [hC]; rfl
 have hn0:C.n0=0:=by rw [hC]; rfl
 have hctr:zE8 C rlC:=rlC_ok hP
 by_cases hf:X.flush ≠ 0∧X.flush≤now
 ·have f1:(X.flush != 0)=true:=by rw [bne_iff_ne]; exact hf.1
  have f2:decide (X.flush≤now)=true:=decide_eq_true hf.2
  have hlv:zE4 X now=⟨[],X.cas,0⟩:=by unfold zE4; rw [if_pos hf]
  (refine zA4 hctr (rs:=res19) true 300 _ _ _ ?_; simp (maxSteps:=1000000) only [VT,jf,jZ,qE,qF,qG,qH,qI,qJ,qK,qO,qP,qR,qS,qV,qf,qg,qp,q0t,qu,qv,ev,qy,qz,zA,zB,zC,zD,zE,zF,zG,zI,zJ,TE.sv,zK,zM,↓reduceIte,reduceCtorEq,Value.oneCell',Nat.reduceEqDiff,Nat.reduceAdd,Nat.reduceLT,zP,zQ,zR,zV,zt,hP,hk,res19,kp19,Nat.reduceAdd,f1,f2])
  refine zH5 (v:=.g [.v (.slice none 0 0),.i .u64 X.cas,.i .i64 0]) hC hres19 fun ρ w' hw' _ _=>?_
  have hup:=hw'.up
  rw [hC] at hup
  rw [hlv]
  exact ⟨⟨⟨w.heap.size,[],[],0,some none⟩,⟨Nat.le_refl _,⟨by simp [zC8],.inr ⟨rfl,rfl,rfl⟩⟩,(fun h=>by cases h),fun _=>rfl⟩,rfl⟩,hup.to_below⟩
 have hlv:zE4 X now=⟨zJ9 now X.items,X.cas,X.flush⟩:=by unfold zE4; rw [if_neg hf]; rfl
 have fs:(X.flush != 0)=false∨((X.flush != 0)=true∧decide (X.flush≤now)=false):=by
  by_cases h0:X.flush=0
  ·left; simp [h0]
  ·right; exact ⟨by simpa using h0,decide_eq_false (fun h=>hf ⟨h0,h⟩)⟩
 obtain ⟨fb,hfb⟩:∃ fb,(X.flush != 0)=fb:=⟨_,rfl⟩
 have hfb2:fb=true→decide (X.flush≤now)=false:=fun h=>by
  rcases fs with h1 | ⟨_,h2⟩
  ·rw [hfb,h] at h1; cases h1
  ·exact h2
 cases fb
 ·(refine zA4 hctr (rs:=res19) true 300 _ _ _ ?_; simp (maxSteps:=1000000) only [VT,jg,jd,qH,qI,qJ,qK,qO,qP,qR,qS,qV,qf,qg,qp,q0t,qu,qv,ev,qy,qz,zC,zD,zE,zF,zG,zI,zJ,zK,zM,↓reduceIte,reduceCtorEq,Value.oneCell',Nat.reduceEqDiff,Nat.reduceAdd,Nat.reduceLT,zP,zQ,zR,zW,zt,hP,hk,res19,kp19,Nat.reduceAdd,hfb])
  refine zX2 true (en':=[⟨(25,0,whole),[.v (.slice a n c),.i .u64 X.cas,.i .i64 X.flush],true⟩,⟨(25,0,whole),[.v (.slice none 0 0),.i .u64 0,.i .i64 0],true⟩,⟨(25,0,whole),[.rw 3 0,.i .u64 X.cas,.i .i64 X.flush],true⟩]) (sl':=lvS 0 now) (33,0,rowP 8 0 0) rfl (fun _=>⟨rfl,.inr ⟨rfl,rfl,rfl⟩⟩) (fun _=>by show ¬ ((33:Nat)=zG0); decide) ?_ ?_ ?_
  ·refine ⟨⟨rfl,rfl,fun _ _=>rfl,zD6 trivial⟩,⟨rfl,rfl,fun _ _=>rfl,zD6 trivial⟩,⟨rfl,rfl,fun ρ h=>?_,zD6 (by show 3 < 3+1; decide)⟩,trivial⟩
   have h:(ρ 3).nl=some none:=h
   simp only [zC4,List.map_cons,List.map_nil,SC.den,zI4 h]
  ·refine ⟨⟨⟨_,rfl,fun _ _=>rfl⟩,trivial⟩,⟨⟨_,rfl,fun _ _=>rfl⟩,?_⟩,⟨⟨_,rfl,fun _ _=>rfl⟩,?_⟩,⟨⟨_,rfl,fun _ _=>rfl⟩,?_⟩,⟨⟨_,rfl,fun _ _=>rfl⟩,trivial⟩,trivial⟩
   ·show 2 < 3+1; decide
   ·show 1 < 3+1; decide
   ·show 0 < 3+1; decide
  refine zL1 (ι:={ i:Nat // i≤n }) (fun i=>lvS i.1 now) (fun i=>lvE a n c X.cas X.flush (zJ9 now (X.items.take i.1))) (fun i=>n - i.1) ⟨0,Nat.zero_le _⟩ (zC6 ⟨rfl,rfl,rfl,rfl,rfl,trivial⟩) rfl ?_
  rintro ⟨i,hi⟩ D dP dS dw dn dr dk ddf dPan dRet hX hJ
  have hP0:=hP; have hk0:=hk; have hctr0:=hctr
  have hi:i≤n:=hi
  have hP:D.P=Tryz.prog:=by rw [dP]; exact hP0
  have hk:D.kp=kp19:=by rw [dk]; exact hk0
  have hctr:zE8 D rlC:=rlC_ok hP
  have hDS:D.S=Non:=by rw [dS]; exact hS
  have hDw:D.w0=w:=by rw [dw]; exact hw
  have hn0':D.n0=0:=by rw [dn]; exact hn0
  obtain ⟨L,hL⟩:∃ L,zJ9 now (X.items.take i)=L:=⟨_,rfl⟩
  have hLl:L.length≤i:=by rw [← hL]; exact Nat.le_trans (List.length_filter_le _ _) (by rw [List.length_take]; omega)
  show Run D _ _ (lvS i now) (lvE a n c X.cas X.flush (zJ9 now (X.items.take i)))
  rw [hL]
  by_cases hin:i < n
  ·have q1:decide ((i:Int) < (n:Int))=true:=decide_eq_true (by omega)
   have p0:(0:Int)≤(i:Int):=by omega
   have p1:(i:Int) < (n:Int):=by omega
   have p3:IntKind.i64.wrap ((i:Int)+1)=((i+1:Nat):Int):=by rw [IntWalk.i64_in _ (by omega)]; rfl
   obtain ⟨x,hx⟩:∃ x,X.items[i]?=some x:=⟨_,List.getElem?_eq_getElem (by omega)⟩
   obtain ⟨g,oo,rfl,hg,hc⟩:=ha i x hx
   have rx:D.rd g (oo+i * 8) 8=some (itS x):=(zU8 hDS hDw hg hc).1
   have htk:X.items.take (i+1)=X.items.take i++[x]:=by rw [List.take_add_one,hx]; rfl
   obtain ⟨gb,hgb⟩:∃ gb,(!decide (x.exp=0) && decide (x.exp≤now))=gb:=⟨_,rfl⟩
   cases gb with
   | true =>
    have hnx:zJ9 now (X.items.take (i+1))=L:=by
     rw [htk,zJ9,List.filter_append,← hL,zJ9]
     have:zE9 now x=true:=hgb
     simp [this]
    (refine zA4 hctr (rs:=res19) true 300 _ _ _ ?_; simp (maxSteps:=1000000) only [VT,jf,jg,qH,qI,qK,qN,qO,qP,qR,qS,qT,qV,qX,qe,ev,qw,qy,qz,zD,zI,zJ,zM,↓reduceIte,reduceCtorEq,Nat.reduceEqDiff,Nat.reduceLT,zP,zQ,zR,zT,zV,zW,zh,zo,zu,rwE,hP,hk,res19,kp19,rlC,zR7,itS,lvS,lvE,p0,p1,rx,hgb,p3])
    have hJ':=hJ ⟨i+1,hin⟩ (lvS (i+1) now) (by show n - (i+1) < n - i; omega) (fun d v h=>h)
    have hJ':Run D [] _ (lvS (i+1) now) (lvE (some ⟨g,oo,none⟩) n c X.cas X.flush (zJ9 now (X.items.take (i+1)))):=hJ'
    rw [hnx] at hJ'
    exact zR1 (s:=lvS (i+1) now) (zC6 ⟨rfl,rfl,rfl,rfl,rfl,trivial⟩) hJ'
   | false =>
    have hnx:zJ9 now (X.items.take (i+1))=L++[x]:=by
     rw [htk,zJ9,List.filter_append,← hL,zJ9]
     have:zE9 now x=false:=hgb
     simp [this]
    (refine zA4 hctr (rs:=res19) true 300 _ _ _ ?_; simp (maxSteps:=1000000) only [VT,jf,qH,qI,qK,qN,qO,qP,qR,qS,qT,qV,qX,qe,ev,qw,qy,zD,zI,zJ,zM,↓reduceIte,reduceCtorEq,Nat.reduceEqDiff,Nat.reduceLT,zP,zQ,zR,zT,zV,zW,zh,zo,zu,rwE,hP,hk,res19,kp19,rlC,zR7,itS,lvS,lvE,p0,p1,rx,hgb])
    obtain ⟨i0,hi',hz0,hz1,hz2⟩:=info_parts zK7
    have z1:∀ k,jW k (zB2 itS L)=true:=fun k=>zG1 (zD7 _ _)
    have z2:∀ k,jW k (zB2 itS L++[.s x.key,.i .u32 x.flags,.s x.val,.i .i64 x.exp,.i .u64 x.cas,.i .i64 x.last,.b x.stale,.b x.won])=true:=fun k=>zG1 (fun y hy=>by
     rcases List.mem_append.1 hy with h | h
     ·exact zD7 _ _ y h
     ·exact zI2 _ x y h)
    (refine zB9 hctr (by rw [hP]; rfl) rs19_10 [hap (some 3) 33 8 (L.length + 1) (zB2 itS L ++ itS x)] (ensure_type_of% (Cmp.of (by simp (maxSteps := 1000000) only [qA, qB, qC, qD, qK, qO, qP, qV, qX, qg, q0t, qv, ev, qy, zC, zD, zE, zF, zG, zM, ↓reduceIte, Nat.reduceEqDiff, Nat.reduceAdd, Nat.reduceLT, Nat.reduceLeDiff, zP, zT, zh, zk, zl, zt, zu, cE, jA, hap, zH8, zA5, rwE, jC, jD, jF, jG, jH, jJ, jK, jL, jM, jN, hP, itS, Nat.reduceAdd, Nat.reduceMul, p0, p1, rx, hap, zH8, zA5, rwE]; rfl)) "" Cmp.mk) (by kernel_rfl) (by kernel_rfl) (by first | exact zA1 _ | kernel_rfl) (by kernel_rfl) (by rfl) (by rfl) (by first | exact zA0 _ | rfl) (by rfl) ?_ ?_; rotate_left; refine zA4 hctr (rs := res19) true 300 _ _ _ ?_; simp (maxSteps := 1000000) only [VT, qH, qI, qK, qO, qR, qS, ev, qy, qz, zG, zI, zJ, ↓reduceIte, reduceCtorEq, Nat.reduceEqDiff, Nat.reduceAdd, Nat.reduceLT, zP, zQ, zR, zt, jN, jO, hk, kp19, Nat.reduceAdd, p3]; rotate_left; simp (maxSteps := 1000000) only [qA, qB, qC, qD, qK, qO, qP, qV, qX, qg, q0t, qv, ev, qw, qy, zC, zD, zE, zG, zM, ↓reduceIte, Nat.reduceEqDiff, Nat.reduceAdd, Nat.reduceLT, Nat.reduceSub, Nat.reduceLeDiff, zP, zR, zS, zT, zh, zk, zl, zm, zn, zq, zt, zu, jD, jF, jG, jH, jN, jP, jQ, jR, jS, jT, jU, hP, itS, Nat.reduceAdd, Nat.reduceMul, p0, p1, rx])
    ·exact zC7 (N:=5) (n:=L.length) (m:=1) (z:=8) (bts:=72) (cells:=zB2 itS L) (news:=itS x) (o:=some 3) (by rw [hP]; exact Tryz.underlying22) (by rw [hP]; exact hi') hz0 hz1 hz2 rfl (by decide) (by decide) (.some rfl) (zU3 (c:=4) (o:=0) (L:=8) rfl rfl) rfl rfl (fun pr=>zI2 pr x) (by omega) (by omega) (by rw [hn0']; exact Nat.zero_le _) (fun q=>zG7 (nE:=4) (i:=1) (fun k=>by match k with | 0=>simp | 1=>simp | _+2=>simp)) rfl (fun q hq=>by match q with | 0=>rfl | 1=>rfl | 2=>rfl | 3=>rfl | 4=>rfl | 5=>exact absurd rfl hq | _+6=>rfl)
    have hJ':=hJ ⟨i+1,hin⟩ (lvS (i+1) now) (by show n - (i+1) < n - i; omega) (fun d v h=>h)
    have hJ':Run D [] _ (lvS (i+1) now) (lvE (some ⟨g,oo,none⟩) n c X.cas X.flush (zJ9 now (X.items.take (i+1)))):=hJ'
    rw [hnx] at hJ'
    have hll:(L++[x]).length=L.length+1:=by simp
    refine zR1 (s:=lvS (i+1) now) (zC6 ⟨rfl,rfl,rfl,rfl,rfl,trivial⟩) ?_
    refine Run_keepN (f:=fun q=>if q=3 then 5 else q) (enK:=lvE (some ⟨g,oo,none⟩) n c X.cas X.flush (L++[x])) (slK:=lvS (i+1) now) ⟨fun q hq=>absurd hq (by rw [hn0']; exact Nat.not_lt_zero _),by rw [hn0']; exact Nat.zero_le _⟩ (fun p q hp hq h=>?_) ?_ ?_ hJ'
    ·have hp:p < 4:=hp
     have hq:q < 4:=hq
     split at h <;> split at h <;> omega
    ·rw [lvE,hll]
     refine ⟨⟨_,rfl,fun ρ=>rfl,zD6 trivial⟩,⟨_,rfl,fun ρ=>rfl,zD6 trivial⟩,⟨_,rfl,fun ρ=>rfl,zD6 (by show 3 < 4; decide)⟩,⟨_,by rw [zW1,flatG_one]; rfl,fun ρ=>(zD3 _ _).trans (zD3 _ _).symm,zD7 _ _⟩,trivial⟩
    ·refine ⟨⟨?_,_,rfl,fun ρ=>rfl⟩,⟨?_,_,rfl,fun ρ=>rfl⟩,⟨?_,_,rfl,fun ρ=>rfl⟩,⟨?_,_,rfl,fun ρ=>rfl⟩,⟨?_,_,rfl,fun ρ=>rfl⟩,trivial⟩
     all_goals simp [SV.wf,SC.wf,lvE]
  ·have q1:decide ((i:Int) < (n:Int))=false:=decide_eq_false (by omega)
   (refine zA4 hctr (rs:=res19) true 300 _ _ _ ?_; simp (maxSteps:=1000000) only [VT,jg,qH,qI,qK,qN,qO,qP,qR,qS,qV,qe,ev,qy,zD,zH,zI,zJ,zM,↓reduceIte,reduceCtorEq,Nat.reduceEqDiff,Nat.reduceLT,zP,zQ,zR,zW,zu,rwE,hP,hk,res19,kp19,lvS,lvE,q1])
   refine hX rfl rfl ?_
   have hP:=hP0; have hk:=hk0; have hctr:=hctr0
   (refine zA4 hctr (rs:=res19) true 300 _ _ _ ?_; simp (maxSteps:=1000000) only [VT,qE,qF,qG,qH,qI,qJ,qK,qP,q0t,qu,qv,ev,qy,zA,zB,zC,zD,zE,zG,zI,zJ,TE.sv,zM,↓reduceIte,reduceCtorEq,Nat.reduceEqDiff,Nat.reduceAdd,Nat.reduceLT,zP,zQ,zR,zt,hP,hk,res19,kp19,Nat.reduceAdd])
   have hall:L=zJ9 now X.items:=by rw [← hL,show i=X.items.length by omega,List.take_length]
   refine zH5 (v:=.g [.rw 3 L.length,.i .u64 X.cas,.i .i64 X.flush]) hC hres19 fun ρ w' hw' _ _=>?_
   have hup:=hw'.up
   rw [hC] at hup
   have k1:=RowOk.of (N:=3) (n:=L.length) (z:=8) (e:=33) (cells:=zB2 itS L) hw' hS rfl (by decide)
   rw [hw,zD3] at k1
   rw [hlv,← hall]
   exact ⟨⟨ρ 3,k1,rfl⟩,hup.to_below⟩
 ·have hfb3:=hfb2 rfl
  (refine zA4 hctr (rs:=res19) true 300 _ _ _ ?_; simp (maxSteps:=1000000) only [VT,jf,jg,jZ,qH,qI,qJ,qK,qO,qP,qR,qS,qV,qf,qg,qp,q0t,qu,qv,ev,qy,qz,zC,zD,zE,zF,zG,zI,zJ,zK,zM,↓reduceIte,reduceCtorEq,Value.oneCell',Nat.reduceEqDiff,Nat.reduceAdd,Nat.reduceLT,zP,zQ,zR,zV,zW,zt,hP,hk,res19,kp19,Nat.reduceAdd,hfb,hfb3])
  refine zX2 true (en':=[⟨(25,0,whole),[.v (.slice a n c),.i .u64 X.cas,.i .i64 X.flush],true⟩,⟨(25,0,whole),[.v (.slice none 0 0),.i .u64 0,.i .i64 0],true⟩,⟨(25,0,whole),[.rw 3 0,.i .u64 X.cas,.i .i64 X.flush],true⟩]) (sl':=lvS 0 now) (33,0,rowP 8 0 0) rfl (fun _=>⟨rfl,.inr ⟨rfl,rfl,rfl⟩⟩) (fun _=>by show ¬ ((33:Nat)=zG0); decide) ?_ ?_ ?_
  ·refine ⟨⟨rfl,rfl,fun _ _=>rfl,zD6 trivial⟩,⟨rfl,rfl,fun _ _=>rfl,zD6 trivial⟩,⟨rfl,rfl,fun ρ h=>?_,zD6 (by show 3 < 3+1; decide)⟩,trivial⟩
   have h:(ρ 3).nl=some none:=h
   simp only [zC4,List.map_cons,List.map_nil,SC.den,zI4 h]
  ·refine ⟨⟨⟨_,rfl,fun _ _=>rfl⟩,trivial⟩,⟨⟨_,rfl,fun _ _=>rfl⟩,?_⟩,⟨⟨_,rfl,fun _ _=>rfl⟩,?_⟩,⟨⟨_,rfl,fun _ _=>rfl⟩,?_⟩,⟨⟨_,rfl,fun _ _=>rfl⟩,trivial⟩,trivial⟩
   ·show 2 < 3+1; decide
   ·show 1 < 3+1; decide
   ·show 0 < 3+1; decide
  refine zL1 (ι:={ i:Nat // i≤n }) (fun i=>lvS i.1 now) (fun i=>lvE a n c X.cas X.flush (zJ9 now (X.items.take i.1))) (fun i=>n - i.1) ⟨0,Nat.zero_le _⟩ (zC6 ⟨rfl,rfl,rfl,rfl,rfl,trivial⟩) rfl ?_
  rintro ⟨i,hi⟩ D dP dS dw dn dr dk ddf dPan dRet hX hJ
  have hP0:=hP; have hk0:=hk; have hctr0:=hctr
  have hi:i≤n:=hi
  have hP:D.P=Tryz.prog:=by rw [dP]; exact hP0
  have hk:D.kp=kp19:=by rw [dk]; exact hk0
  have hctr:zE8 D rlC:=rlC_ok hP
  have hDS:D.S=Non:=by rw [dS]; exact hS
  have hDw:D.w0=w:=by rw [dw]; exact hw
  have hn0':D.n0=0:=by rw [dn]; exact hn0
  obtain ⟨L,hL⟩:∃ L,zJ9 now (X.items.take i)=L:=⟨_,rfl⟩
  have hLl:L.length≤i:=by rw [← hL]; exact Nat.le_trans (List.length_filter_le _ _) (by rw [List.length_take]; omega)
  show Run D _ _ (lvS i now) (lvE a n c X.cas X.flush (zJ9 now (X.items.take i)))
  rw [hL]
  by_cases hin:i < n
  ·have q1:decide ((i:Int) < (n:Int))=true:=decide_eq_true (by omega)
   have p0:(0:Int)≤(i:Int):=by omega
   have p1:(i:Int) < (n:Int):=by omega
   have p3:IntKind.i64.wrap ((i:Int)+1)=((i+1:Nat):Int):=by rw [IntWalk.i64_in _ (by omega)]; rfl
   obtain ⟨x,hx⟩:∃ x,X.items[i]?=some x:=⟨_,List.getElem?_eq_getElem (by omega)⟩
   obtain ⟨g,oo,rfl,hg,hc⟩:=ha i x hx
   have rx:D.rd g (oo+i * 8) 8=some (itS x):=(zU8 hDS hDw hg hc).1
   have htk:X.items.take (i+1)=X.items.take i++[x]:=by rw [List.take_add_one,hx]; rfl
   obtain ⟨gb,hgb⟩:∃ gb,(!decide (x.exp=0) && decide (x.exp≤now))=gb:=⟨_,rfl⟩
   cases gb with
   | true =>
    have hnx:zJ9 now (X.items.take (i+1))=L:=by
     rw [htk,zJ9,List.filter_append,← hL,zJ9]
     have:zE9 now x=true:=hgb
     simp [this]
    (refine zA4 hctr (rs:=res19) true 300 _ _ _ ?_; simp (maxSteps:=1000000) only [VT,jf,jg,qH,qI,qK,qN,qO,qP,qR,qS,qT,qV,qX,qe,ev,qw,qy,qz,zD,zI,zJ,zM,↓reduceIte,reduceCtorEq,Nat.reduceEqDiff,Nat.reduceLT,zP,zQ,zR,zT,zV,zW,zh,zo,zu,rwE,hP,hk,res19,kp19,rlC,zR7,itS,lvS,lvE,p0,p1,rx,hgb,p3])
    have hJ':=hJ ⟨i+1,hin⟩ (lvS (i+1) now) (by show n - (i+1) < n - i; omega) (fun d v h=>h)
    have hJ':Run D [] _ (lvS (i+1) now) (lvE (some ⟨g,oo,none⟩) n c X.cas X.flush (zJ9 now (X.items.take (i+1)))):=hJ'
    rw [hnx] at hJ'
    exact zR1 (s:=lvS (i+1) now) (zC6 ⟨rfl,rfl,rfl,rfl,rfl,trivial⟩) hJ'
   | false =>
    have hnx:zJ9 now (X.items.take (i+1))=L++[x]:=by
     rw [htk,zJ9,List.filter_append,← hL,zJ9]
     have:zE9 now x=false:=hgb
     simp [this]
    (refine zA4 hctr (rs:=res19) true 300 _ _ _ ?_; simp (maxSteps:=1000000) only [VT,jf,qH,qI,qK,qN,qO,qP,qR,qS,qT,qV,qX,qe,ev,qw,qy,zD,zI,zJ,zM,↓reduceIte,reduceCtorEq,Nat.reduceEqDiff,Nat.reduceLT,zP,zQ,zR,zT,zV,zW,zh,zo,zu,rwE,hP,hk,res19,kp19,rlC,zR7,itS,lvS,lvE,p0,p1,rx,hgb])
    obtain ⟨i0,hi',hz0,hz1,hz2⟩:=info_parts zK7
    have z1:∀ k,jW k (zB2 itS L)=true:=fun k=>zG1 (zD7 _ _)
    have z2:∀ k,jW k (zB2 itS L++[.s x.key,.i .u32 x.flags,.s x.val,.i .i64 x.exp,.i .u64 x.cas,.i .i64 x.last,.b x.stale,.b x.won])=true:=fun k=>zG1 (fun y hy=>by
     rcases List.mem_append.1 hy with h | h
     ·exact zD7 _ _ y h
     ·exact zI2 _ x y h)
    (refine zB9 hctr (by rw [hP]; rfl) rs19_10 [hap (some 3) 33 8 (L.length + 1) (zB2 itS L ++ itS x)] (ensure_type_of% (Cmp.of (by simp (maxSteps := 1000000) only [qA, qB, qC, qD, qK, qO, qP, qV, qX, qg, q0t, qv, ev, qy, zC, zD, zE, zF, zG, zM, ↓reduceIte, Nat.reduceEqDiff, Nat.reduceAdd, Nat.reduceLT, Nat.reduceLeDiff, zP, zT, zh, zk, zl, zt, zu, cE, jA, hap, zH8, zA5, rwE, jC, jD, jF, jG, jH, jJ, jK, jL, jM, jN, hP, itS, Nat.reduceAdd, Nat.reduceMul, p0, p1, rx, hap, zH8, zA5, rwE]; rfl)) "" Cmp.mk) (by kernel_rfl) (by kernel_rfl) (by first | exact zA1 _ | kernel_rfl) (by kernel_rfl) (by rfl) (by rfl) (by first | exact zA0 _ | rfl) (by rfl) ?_ ?_; rotate_left; refine zA4 hctr (rs := res19) true 300 _ _ _ ?_; simp (maxSteps := 1000000) only [VT, qH, qI, qK, qO, qR, qS, ev, qy, qz, zG, zI, zJ, ↓reduceIte, reduceCtorEq, Nat.reduceEqDiff, Nat.reduceAdd, Nat.reduceLT, zP, zQ, zR, zt, jN, jO, hk, kp19, Nat.reduceAdd, p3]; rotate_left; simp (maxSteps := 1000000) only [qA, qB, qC, qD, qK, qO, qP, qV, qX, qg, q0t, qv, ev, qw, qy, zC, zD, zE, zG, zM, ↓reduceIte, Nat.reduceEqDiff, Nat.reduceAdd, Nat.reduceLT, Nat.reduceSub, Nat.reduceLeDiff, zP, zR, zS, zT, zh, zk, zl, zm, zn, zq, zt, zu, jD, jF, jG, jH, jN, jP, jQ, jR, jS, jT, jU, hP, itS, Nat.reduceAdd, Nat.reduceMul, p0, p1, rx])
    ·exact zC7 (N:=5) (n:=L.length) (m:=1) (z:=8) (bts:=72) (cells:=zB2 itS L) (news:=itS x) (o:=some 3) (by rw [hP]; exact Tryz.underlying22) (by rw [hP]; exact hi') hz0 hz1 hz2 rfl (by decide) (by decide) (.some rfl) (zU3 (c:=4) (o:=0) (L:=8) rfl rfl) rfl rfl (fun pr=>zI2 pr x) (by omega) (by omega) (by rw [hn0']; exact Nat.zero_le _) (fun q=>zG7 (nE:=4) (i:=1) (fun k=>by match k with | 0=>simp | 1=>simp | _+2=>simp)) rfl (fun q hq=>by match q with | 0=>rfl | 1=>rfl | 2=>rfl | 3=>rfl | 4=>rfl | 5=>exact absurd rfl hq | _+6=>rfl)
    have hJ':=hJ ⟨i+1,hin⟩ (lvS (i+1) now) (by show n - (i+1) < n - i; omega) (fun d v h=>h)
    have hJ':Run D [] _ (lvS (i+1) now) (lvE (some ⟨g,oo,none⟩) n c X.cas X.flush (zJ9 now (X.items.take (i+1)))):=hJ'
    rw [hnx] at hJ'
    have hll:(L++[x]).length=L.length+1:=by simp
    refine zR1 (s:=lvS (i+1) now) (zC6 ⟨rfl,rfl,rfl,rfl,rfl,trivial⟩) ?_
    refine Run_keepN (f:=fun q=>if q=3 then 5 else q) (enK:=lvE (some ⟨g,oo,none⟩) n c X.cas X.flush (L++[x])) (slK:=lvS (i+1) now) ⟨fun q hq=>absurd hq (by rw [hn0']; exact Nat.not_lt_zero _),by rw [hn0']; exact Nat.zero_le _⟩ (fun p q hp hq h=>?_) ?_ ?_ hJ'
    ·have hp:p < 4:=hp
     have hq:q < 4:=hq
     split at h <;> split at h <;> omega
    ·rw [lvE,hll]
     refine ⟨⟨_,rfl,fun ρ=>rfl,zD6 trivial⟩,⟨_,rfl,fun ρ=>rfl,zD6 trivial⟩,⟨_,rfl,fun ρ=>rfl,zD6 (by show 3 < 4; decide)⟩,⟨_,by rw [zW1,flatG_one]; rfl,fun ρ=>(zD3 _ _).trans (zD3 _ _).symm,zD7 _ _⟩,trivial⟩
    ·refine ⟨⟨?_,_,rfl,fun ρ=>rfl⟩,⟨?_,_,rfl,fun ρ=>rfl⟩,⟨?_,_,rfl,fun ρ=>rfl⟩,⟨?_,_,rfl,fun ρ=>rfl⟩,⟨?_,_,rfl,fun ρ=>rfl⟩,trivial⟩
     all_goals simp [SV.wf,SC.wf,lvE]
  ·have q1:decide ((i:Int) < (n:Int))=false:=decide_eq_false (by omega)
   (refine zA4 hctr (rs:=res19) true 300 _ _ _ ?_; simp (maxSteps:=1000000) only [VT,jg,qH,qI,qK,qN,qO,qP,qR,qS,qV,qe,ev,qy,zD,zH,zI,zJ,zM,↓reduceIte,reduceCtorEq,Nat.reduceEqDiff,Nat.reduceLT,zP,zQ,zR,zW,zu,rwE,hP,hk,res19,kp19,lvS,lvE,q1])
   refine hX rfl rfl ?_
   have hP:=hP0; have hk:=hk0; have hctr:=hctr0
   (refine zA4 hctr (rs:=res19) true 300 _ _ _ ?_; simp (maxSteps:=1000000) only [VT,qE,qF,qG,qH,qI,qJ,qK,qP,q0t,qu,qv,ev,qy,zA,zB,zC,zD,zE,zG,zI,zJ,TE.sv,zM,↓reduceIte,reduceCtorEq,Nat.reduceEqDiff,Nat.reduceAdd,Nat.reduceLT,zP,zQ,zR,zt,hP,hk,res19,kp19,Nat.reduceAdd])
   have hall:L=zJ9 now X.items:=by rw [← hL,show i=X.items.length by omega,List.take_length]
   refine zH5 (v:=.g [.rw 3 L.length,.i .u64 X.cas,.i .i64 X.flush]) hC hres19 fun ρ w' hw' _ _=>?_
   have hup:=hw'.up
   rw [hC] at hup
   have k1:=RowOk.of (N:=3) (n:=L.length) (z:=8) (e:=33) (cells:=zB2 itS L) hw' hS rfl (by decide)
   rw [hw,zD3] at k1
   rw [hlv,← hall]
   exact ⟨⟨ρ 3,k1,rfl⟩,hup.to_below⟩
end Go.Proofs.YtfpeholdlkfmoaaGreatDoor
/- The document's Put as a call of a walk; its get, walked. Printed by gen_refw4.py. -/
namespace Go.Proofs.YtfpeholdlkfmoaaGreatDoor
set_option linter.unusedSimpArgs false
set_option linter.unusedVariables false
set_option maxHeartbeats 8000000
open Go.RowKit
set_option maxRecDepth 100000
def rwI (L:List It):EN:=rwE 33 8 L.length (zB2 itS L)
structure StR (w:World) (a:Option Addr) (n c:Nat) (X:St):Prop where
 h0:(∃ g o,a=some ⟨g,o,none⟩∧g < w.heap.size)∨(a=none∧n=0∧c=0)
 ha:RawI w a X.items
 hs:Sorted X.items
 hn:n=X.items.length
 hnc:n≤c
 hcm:c≤maxLen
 hl:n≤100000000
theorem StR.upd {w w':World} {a:Option Addr} {n c:Nat} {X:St} (h:StR w a n c X) (hu:Upd Non w w'):StR w' a n c X:=by
 refine ⟨?_,fun j x hx=>?_,h.hs,h.hn,h.hnc,h.hcm,h.hl⟩
 ·rcases h.h0 with ⟨g,o,e,hg⟩ | h
  ·exact .inl ⟨g,o,e,Nat.lt_of_lt_of_le hg hu.size⟩
  ·exact .inr h
 ·obtain ⟨g,o,e,hg,hc⟩:=h.ha j x hx
  refine ⟨g,o,e,Nat.lt_of_lt_of_le hg hu.size,fun i v hv=>?_⟩
  rw [← hc i v hv]
  unfold World.cell?
  rw [hu.to_below.block g hg]
theorem zQ1 {C:Cx} {nE N:Nat} {mk:Nat→Prop} {en en':List EN} {w:World} {a:Option Addr} {n c:Nat} {X:St} (hP:C.P=Tryz.prog) (hS:C.S=Non) (hw:C.w0=w) (hX:StR w a n c X) (x:It) (cs fl:Int) {L:List It} (hL:(zH7 X x).items=L)
  (hmk:∀ q,mk q ↔ q=N) (hn0:C.n0≤N) (hN:zD en' N=some (rwI L)) (hq:∀ q,q ≠ N→zD en' q=zD en q) :
  zL3 C nE mk en en' 28 [.g [.v (.slice a n c),.i .u64 cs,.i .i64 fl],.g (itS x)] (.g [.rw N L.length,.i .u64 cs,.i .i64 fl]):=by
 refine zO2 (vals:=zC8 L) (fun args w=>by rw [hP]; exact Tryz.call28 args w) hmk hn0 hN hq (by show ¬ (33:Nat)=zG0; decide) (fun ρ=>zD3 ρ _) (fun pr=>zD7 pr _) (fun pr h=>zD6 h) ?_
 intro ρ pr w' hw' _ _
 rw [hP]
 have hu:Upd Non w w':=by have:=hw'.up; rw [hS,hw] at this; exact this
 have hX':=hX.upd hu
 have hp:=rput_w (X:=⟨X.items,cs,fl⟩) hX'.h0 hX'.ha hX'.hs hX'.hn hX'.hnc hX'.hcm hX'.hl x
 have hL':(zH7 ⟨X.items,cs,fl⟩ x).items=L:=hL
 rw [hL'] at hp
 refine hp.mono ?_
 rintro z w'' ⟨⟨r,hr,rfl⟩,hb⟩
 refine ⟨r,hr.made (fun ρ=>zD3 ρ _),fun ρ' _ h=>?_,hb⟩
 rw [← h]; rfl
def zG3:List SV→Option (Prop × SV)
 | [.c (.i .i64 now),.c (.i .i64 e)]=>some (1≤now∧now≤1099511627776,.c (.i .i64 (zJ1 now e)))
 | _=>none
def rgC:Ctr:=fun f _ xs=>match f with
 | 26=>zG3 xs
 | _=>none
theorem rgC_ok {C:Cx} (hP:C.P=Tryz.prog):zE8 C rgC:=by
 intro f en xs p v h hp ρ w' hup hHp hHo hinj hwf
 unfold rgC at h
 split at h
 ·rw [hP]
  refine ⟨fun args w=>Tryz.call26 args w,?_⟩
  unfold zG3 at h
  split at h <;> simp only [Option.some.injEq,Prod.mk.injEq,reduceCtorEq] at h
  obtain ⟨rfl,rfl⟩:=h
  exact ⟨trivial,ref_moment _ _ hp.1 hp.2 w'⟩
 ·cases h
def OpP (w:World) (a:Option Addr) (n c:Nat) (X:St) (same:Bool) (Y:St × An) (e:Ending) (w':World):Prop:=
 Below w.heap.size w w'∧∃ v,e=.returned (.tuple #[.agg #[v,.int .u64 Y.1.cas,.int .i64 Y.1.flush],.agg (anA Y.2)])∧((same=true∧v=.slice a n c∧Y.1.items=X.items)∨(same=false∧∃ r,RowOk w.heap.size w' r 33 8 Y.1.items.length (zC8 Y.1.items)∧v=zJ7 r Y.1.items.length))
theorem zZ1 (pr:Nat→Prop) (y:An):wfs pr (anS y):=by
 intro z hz
 simp only [anS,List.mem_cons,List.not_mem_nil,or_false] at hz
 rcases hz with rfl | rfl | rfl | rfl | rfl | rfl | rfl | rfl | rfl | rfl | rfl | rfl | rfl <;> trivial
theorem rget_w {w:World} {a:Option Addr} {n c:Nat} {X:St} (hX:StR w a n c X) (now:Int) (hn1:1≤now) (hn2:now≤1099511627776) (cd:Cd) (x:It) (is:Bool) (hx0:0≤x.exp) (hx1:x.exp≤9223372036854775807) :
  Calls Tryz.prog 23 #[.agg #[.slice a n c,.int .u64 X.cas,.int .i64 X.flush],.int .i64 now,.agg (cdA cd),.agg (itA x),.bool is] w (OpP w a n c X (!is && !cd.viv) (rGet X now cd x is)):=by
 refine zA9 Tryz.func23 rfl kp23 (S:=Non) (ρ:=fun _=>⟨0,[],[],0,none⟩) (en:=[]) [.g [.v (.slice a n c),.i .u64 X.cas,.i .i64 X.flush],.c (.i .i64 now),.g (cdS cd),.g (itS x),.c (.b is)] Tryz.ntmps23 (At.nil _ _ _) (by intro y hy; simp only [List.mem_cons,List.not_mem_nil,or_false] at hy; rcases hy with rfl | rfl | rfl | rfl | rfl; exact zD6 trivial; trivial; exact (by intro z hz; simp only [cdS,List.mem_cons,List.not_mem_nil,or_false] at hz; rcases hz with rfl | rfl | rfl | rfl | rfl | rfl | rfl | rfl | rfl | rfl | rfl | rfl | rfl | rfl | rfl | rfl <;> trivial); exact zI2 _ _; trivial) (by simp) ?_
 intro C hC hP hk
 have hS:C.S=Non:=by rw [hC]; rfl
 have hw:C.w0=w:=by rw [hC]; rfl
 have hn0:C.n0=0:=by rw [hC]; rfl
 have hctr:zE8 C rgC:=rgC_ok hP
 have hnow:=And.intro hn1 hn2
 have fin:∀ (Y':St × An) (en:List EN),rGet X now cd x is=Y'→((!is && !cd.viv))=true→Y'.1=X→Fin C res23 (.t [.g [.v (.slice a n c),.i .u64 X.cas,.i .i64 X.flush],.g (anS Y'.2)]) en:=fun Y' en h1 h2 h3=>by
  refine zH5 (v:=.t [.g [.v (.slice a n c),.i .u64 X.cas,.i .i64 X.flush],.g (anS Y'.2)]) hC hres23 fun ρ w' hw' _ _=>?_
  have hup:=hw'.up
  rw [hC] at hup
  rw [h1]
  refine ⟨hup.to_below,_,?_,.inl ⟨by first | exact h2 | (rw [h1] at h2; exact h2),rfl,by rw [h3]⟩⟩
  rw [h3]; rfl
 have finN:∀ (Y':St × An) (N:Nat) (en:List EN),rGet X now cd x is=Y'→((!is && !cd.viv))=false→zD en N=some (rwI Y'.1.items)→Fin C res23 (.t [.g [.rw N Y'.1.items.length,.i .u64 Y'.1.cas,.i .i64 Y'.1.flush],.g (anS Y'.2)]) en:=fun Y' N en h1 h2 h3=>by
  refine zH5 (v:=.t [.g [.rw N Y'.1.items.length,.i .u64 Y'.1.cas,.i .i64 Y'.1.flush],.g (anS Y'.2)]) hC hres23 fun ρ w' hw' _ _=>?_
  have hup:=hw'.up
  rw [hC] at hup
  rw [h1]
  have k1:=RowOk.of (N:=N) (n:=Y'.1.items.length) (z:=8) (e:=33) (cells:=zB2 itS Y'.1.items) hw' hS h3 (by decide)
  rw [hw,zD3] at k1
  exact ⟨hup.to_below,_,rfl,.inr ⟨by first | exact h2 | (rw [h1] at h2; exact h2),ρ N,k1,rfl⟩⟩
 cases his:is with
 | false =>
  subst his
  cases hv:cd.viv with
  | false =>
   (refine zA4 hctr (rs:=res23) true 300 _ _ _ ?_; simp (maxSteps:=1000000) only [VT,jf,jZ,qE,qF,qG,qH,qI,qJ,qK,qO,qP,qT,qV,qf,qg,qp,q0t,qu,qv,ev,qy,qz,zA,zB,zC,zD,zE,zF,zG,zI,zJ,zK,zM,↓reduceIte,reduceCtorEq,Value.oneCell',Nat.reduceEqDiff,Nat.reduceAdd,Nat.reduceLT,zP,zQ,zR,zV,zW,zt,hP,hk,res23,kp23,cdS,itS,Nat.reduceAdd,hv])
   exact fin (X,zA6 5) _ (by simp [rGet,hv]) (by simp [hv]) rfl
  | true =>
   obtain ⟨L,hL⟩:∃ L,(zH7 X (zX5 now cd X)).items=L:=⟨_,rfl⟩
   (refine zA4 hctr (rs:=res23) true 300 _ _ _ ?_; simp (maxSteps:=1000000) only [VT,jf,jg,jZ,qH,qI,qJ,qK,qO,qP,qR,qS,qT,qV,qp,q0t,qu,qv,ev,qy,qz,zC,zD,zE,zF,zG,zI,zJ,zK,zM,↓reduceIte,reduceCtorEq,Value.oneCell',Nat.reduceEqDiff,Nat.reduceAdd,Nat.reduceLT,zP,zQ,zR,zV,zW,zt,hP,hk,res23,kp23,cdS,itS,Nat.reduceAdd,hv])
   (refine zA2 hctr (by rw [hP]; rfl) rs23_5 [] (ensure_type_of% (Cmp.of (by simp (maxSteps := 1000000) only [qK, qO, qP, qV, qf, qg, q0t, qu, qv, ev, qw, qy, qz, zC, zD, zE, zF, zG, zM, ↓reduceIte, reduceCtorEq, Nat.reduceEqDiff, Nat.reduceAdd, zP, zT, zt, cD, cO, jC, jD, jH, jN, hP, rgC, zG3, hnow, Nat.reduceAdd]; rfl)) "" Cmp.mk) (by kernel_rfl) (by kernel_rfl) (by first | exact zA1 _ | kernel_rfl) (by kernel_rfl) (by rfl) (by rfl) (by first | exact zA0 _ | rfl) (by rfl) (by simp (maxSteps := 1000000) only [qK, qO, qP, qV, qf, qg, q0t, qu, qv, ev, qw, qy, qz, zC, zD, zE, zG, zM, ↓reduceIte, reduceCtorEq, Nat.reduceEqDiff, Nat.reduceAdd, zP, zS, zT, zn, zt, jD, jH, jI, jN, jP, jQ, jR, jS, jT, jV, jW, jX, jY, hP, rgC, zG3, hnow, Nat.reduceAdd]) ?_; refine zA4 hctr (rs := res23) true 300 _ _ _ ?_; simp (maxSteps := 1000000) only [VT, zG, zI, zJ, ↓reduceIte, reduceCtorEq, Nat.reduceEqDiff, Nat.reduceAdd, zP, zQ, zt, jN, jO, hk, kp23, Nat.reduceAdd])
   (refine zB9 hctr (by rw [hP]; rfl) rs23_6 [jB (fun N => .g [.rw N L.length, .i .u64 (nx X), .i .i64 X.flush]) (fun _ => rwI L)] (ensure_type_of% (Cmp.of (by simp (maxSteps := 1000000) only [qA, qK, qP, qf, qg, q0t, qu, qv, ev, qw, qy, qz, zA, zB, zC, zD, zE, zF, zG, zM, ↓reduceIte, Nat.reduceEqDiff, Nat.reduceAdd, zP, zk, zl, zt, cE, jA, jB, jC, jD, jH, jK, jL, jM, jN, hP, rgC, nx, Nat.reduceAdd]; rfl)) "" Cmp.mk) (by kernel_rfl) (by kernel_rfl) (by first | exact zA1 _ | kernel_rfl) (by kernel_rfl) (by rfl) (by rfl) (by first | exact zA0 _ | rfl) (by rfl) ?_ ?_; rotate_left; refine zA4 hctr (rs := res23) true 300 _ _ _ ?_; simp (maxSteps := 1000000) only [VT, qE, qF, qG, qP, qy, zA, zB, zD, zG, zI, zJ, zM, ↓reduceIte, reduceCtorEq, Nat.reduceEqDiff, Nat.reduceAdd, zP, zQ, zt, jN, jO, hP, hk, res23, kp23, Nat.reduceAdd]; rotate_left; simp (maxSteps := 1000000) only [qK, qP, qf, qg, q0t, qu, qv, ev, qw, qy, qz, zA, zB, zC, zD, zE, zG, zM, ↓reduceIte, Nat.reduceEqDiff, Nat.reduceAdd, zP, zR, zS, zT, zk, zl, zn, zt, jD, jH, jN, jP, jQ, jR, jS, jT, jU, hP, Nat.reduceAdd])
   ·exact zQ1 (x:=zX5 now cd X) hP hS hw hX (nx X) X.flush hL (zI7 (by simp)) (by rw [hn0]; exact Nat.zero_le _) rfl (fun q _=>rfl)
   have hY:rGet X now cd x false=(zH7 { X with cas:=nx X } (zX5 now cd X),⟨1,zX5 now cd X,0,true,false,false⟩):=by simp [rGet,hv]
   have hY1:(zH7 { X with cas:=nx X } (zX5 now cd X)).items=L:=hL
   have:=fun en=>finN (zH7 { X with cas:=nx X } (zX5 now cd X),⟨1,zX5 now cd X,0,true,false,false⟩) 5 en hY (by simp [hv])
   rw [hY1] at this
   exact this _ rfl
 | true =>
  subst his
  (refine zA4 hctr (rs:=res23) true 40 _ _ _ ?_; simp (maxSteps:=1000000) only [VT,jg,jd,qH,qI,qJ,qK,qO,qP,qT,qV,qf,qg,qp,q0t,qu,qv,ev,qy,qz,zC,zD,zE,zF,zG,zI,zJ,zK,zM,↓reduceIte,reduceCtorEq,Value.oneCell',Nat.reduceEqDiff,Nat.reduceAdd,Nat.reduceLT,zP,zQ,zR,zV,zW,zt,hP,hk,res23,kp23,cdS,itS,Nat.reduceAdd])
  refine zN0 (κ:={ y:Bool × Bool // y.1=zS1 now cd x∧y.2=(x.won || zS1 now cd x) }) (fun _=>[(12,.c (.p 5 0)),(11,.c (.p 4 0)),(10,.c (.p 3 0)),(8,.c (.p 2 0)),(7,.c (.p 1 0)),(5,.c (.p 0 0)),(1,.c (.i .i64 now))]) (fun y=>[⟨(25,0,whole),[.v (.slice a n c),.i .u64 X.cas,.i .i64 X.flush],true⟩,⟨(28,0,whole),cdS cd,true⟩,⟨(33,0,whole),[.s x.key,.i .u32 x.flags,.s x.val,.i .i64 x.exp,.i .u64 x.cas,.i .i64 x.last,.b x.stale,.b y.1.2],true⟩,⟨(25,0,whole),[.v (.slice none 0 0),.i .u64 0,.i .i64 0],true⟩,⟨(35,0,whole),[.i .i64 0,.s [],.i .u32 0,.s [],.i .i64 0,.i .u64 0,.i .i64 0,.b false,.b false,.i .u64 0,.b false,.b false,.b false],true⟩,⟨(35,0,whole),[.i .i64 1,.s [],.i .u32 0,.s [],.i .i64 0,.i .u64 0,.i .i64 0,.b false,.b false,.i .u64 0,.b y.1.1,.b x.stale,.b x.won],true⟩]) (fun y=>?_) fun use=>?_
  rotate_left
  ·have ww:IntKind.i64.wrap (x.exp - now)=x.exp - now:=IntWalk.i64_in _ (by omega)
   cases hwo:x.won with
   | true =>
    (refine zA4 hctr (rs:=res23) true 31 _ _ _ ?_; simp (maxSteps:=1000000) only [VT,jg,jd,qH,qI,qK,qO,qP,qT,qV,qp,ev,qy,qz,zD,zI,zJ,zM,↓reduceIte,reduceCtorEq,Nat.reduceEqDiff,Nat.reduceLT,zP,zQ,zR,zV,zW,zt,hP,hk,res23,kp23])
    have h7:=fun s h=>use ⟨(false,true),by simp [zS1,zN6,hwo],by simp [zS1,zN6,hwo]⟩ s h
    simp only [cdS,hwo] at h7
    exact h7 _ (zC6 ⟨rfl,rfl,rfl,rfl,rfl,rfl,rfl,trivial⟩)
   | false =>
    cases hst:x.stale with
    | true =>
     (refine zA4 hctr (rs:=res23) true 39 _ _ _ ?_; simp (maxSteps:=1000000) only [VT,jf,jZ,jd,qH,qI,qJ,qK,qO,qP,qT,qV,qp,q0t,qv,ev,qy,qz,zC,zD,zE,zG,zI,zJ,zM,↓reduceIte,reduceCtorEq,Nat.reduceEqDiff,Nat.reduceLT,zP,zQ,zR,zV,zW,zt,hP,hk,res23,kp23])
     have h7:=fun s h=>use ⟨(true,true),by simp [zS1,zN6,hwo,hst],by simp [zS1,zN6,hwo,hst]⟩ s h
     simp only [cdS,hwo,hst] at h7
     exact h7 _ (zC6 ⟨rfl,rfl,rfl,rfl,rfl,rfl,rfl,trivial⟩)
    | false =>
     by_cases hr:0≤cd.recache
     rotate_left
     ·have r1:decide (0≤cd.recache)=false:=decide_eq_false hr
      (refine zA4 hctr (rs:=res23) true 31 _ _ _ ?_; simp (maxSteps:=1000000) only [VT,jf,jg,jZ,jd,qH,qI,qK,qO,qP,qR,qS,qT,qV,qp,ev,qy,qz,zD,zI,zJ,zM,↓reduceIte,reduceCtorEq,Nat.reduceEqDiff,Nat.reduceLT,zP,zQ,zR,zV,zW,zt,hP,hk,res23,kp23,r1])
      have h7:=fun s h=>use ⟨(false,false),by simp [zS1,zN6,hwo,hst,r1],by simp [zS1,zN6,hwo,hst,r1]⟩ s h
      simp only [cdS,hwo,hst] at h7
      exact h7 _ (zC6 ⟨rfl,rfl,rfl,rfl,rfl,rfl,rfl,trivial⟩)
     have r1:decide (0≤cd.recache)=true:=decide_eq_true hr
     by_cases he:x.exp=0
     ·have e1:(x.exp != 0)=false:=by simp [he]
      (refine zA4 hctr (rs:=res23) true 31 _ _ _ ?_; simp (maxSteps:=1000000) only [VT,jf,jg,jZ,jd,qH,qI,qK,qO,qP,qR,qS,qT,qV,qp,ev,qy,qz,zD,zI,zJ,zM,↓reduceIte,reduceCtorEq,Nat.reduceEqDiff,Nat.reduceLT,zP,zQ,zR,zV,zW,zt,hP,hk,res23,kp23,r1,e1])
      have h7:=fun s h=>use ⟨(false,false),by simp [zS1,zN6,hwo,hst,r1,he],by simp [zS1,zN6,hwo,hst,r1,he]⟩ s h
      simp only [cdS,hwo,hst] at h7
      exact h7 _ (zC6 ⟨rfl,rfl,rfl,rfl,rfl,rfl,rfl,trivial⟩)
     have e1:(x.exp != 0)=true:=by simpa using he
     by_cases hl:x.exp - now < cd.recache
     ·have l1:decide (x.exp - now < cd.recache)=true:=decide_eq_true hl
      (refine zA4 hctr (rs:=res23) true 39 _ _ _ ?_; simp (maxSteps:=1000000) only [VT,jf,jg,jZ,qH,qI,qJ,qK,qO,qP,qR,qS,qT,qV,qp,q0t,qv,ev,qy,qz,zC,zD,zE,zG,zI,zJ,zM,↓reduceIte,reduceCtorEq,Nat.reduceEqDiff,Nat.reduceLT,zP,zQ,zR,zV,zW,zt,hP,hk,res23,kp23,r1,e1,l1,ww])
      have h7:=fun s h=>use ⟨(true,true),by simp [zS1,zN6,hwo,hst,r1,he,l1],by simp [zS1,zN6,hwo,hst,r1,he,l1]⟩ s h
      simp only [cdS,hwo,hst] at h7
      exact h7 _ (zC6 ⟨rfl,rfl,rfl,rfl,rfl,rfl,rfl,trivial⟩)
     ·have l1:decide (x.exp - now < cd.recache)=false:=decide_eq_false hl
      (refine zA4 hctr (rs:=res23) true 31 _ _ _ ?_; simp (maxSteps:=1000000) only [VT,jf,jg,jZ,qH,qI,qK,qO,qP,qR,qS,qT,qV,qp,ev,qy,qz,zD,zI,zJ,zM,↓reduceIte,reduceCtorEq,Nat.reduceEqDiff,Nat.reduceLT,zP,zQ,zR,zV,zW,zt,hP,hk,res23,kp23,r1,e1,l1,ww])
      have h7:=fun s h=>use ⟨(false,false),by simp [zS1,zN6,hwo,hst,r1,he,l1],by simp [zS1,zN6,hwo,hst,r1,he,l1]⟩ s h
      simp only [cdS,hwo,hst] at h7
      exact h7 _ (zC6 ⟨rfl,rfl,rfl,rfl,rfl,rfl,rfl,trivial⟩)
  obtain ⟨⟨wb,wn⟩,hwb,hwn⟩:=y
  simp only at hwb hwn
  cases hh:cd.hasExp with
  | false =>
   obtain ⟨L,hL⟩:∃ L,(zH7 X (⟨x.key,x.flags,x.val,x.exp,x.cas,now,x.stale,wn⟩:It)).items=L:=⟨_,rfl⟩
   (refine zA4 hctr (rs:=res23) true 300 _ _ _ ?_; simp (maxSteps:=1000000) only [VT,jg,qH,qI,qJ,qK,qO,qP,qV,q0t,qu,qv,ev,qy,zA,zB,zC,zD,zE,zG,zI,zJ,zM,↓reduceIte,reduceCtorEq,Nat.reduceEqDiff,Nat.reduceAdd,Nat.reduceLT,zP,zQ,zR,zW,zt,hP,hk,res23,kp23,cdS,Nat.reduceAdd,hh])
   (refine zB9 hctr (by rw [hP]; rfl) rs23_15 [jB (fun N => .g [.rw N L.length, .i .u64 (X.cas), .i .i64 X.flush]) (fun _ => rwI L)] (ensure_type_of% (Cmp.of (by simp (maxSteps := 1000000) only [qA, qK, qP, q0t, qu, qv, ev, qw, qy, zA, zB, zC, zD, zE, zF, zG, zM, ↓reduceIte, Nat.reduceEqDiff, Nat.reduceAdd, zP, zt, cE, jA, jB, jC, jD, jH, jK, jL, jM, jN, hP, rgC, Nat.reduceAdd]; rfl)) "" Cmp.mk) (by kernel_rfl) (by kernel_rfl) (by first | exact zA1 _ | kernel_rfl) (by kernel_rfl) (by rfl) (by rfl) (by first | exact zA0 _ | rfl) (by rfl) ?_ ?_; rotate_left; refine zA4 hctr (rs := res23) true 300 _ _ _ ?_; simp (maxSteps := 1000000) only [VT, qE, qF, qG, qP, qy, zA, zB, zD, zG, zI, zJ, zM, ↓reduceIte, reduceCtorEq, Nat.reduceEqDiff, Nat.reduceAdd, zP, zQ, zt, jN, jO, hP, hk, res23, kp23, Nat.reduceAdd]; rotate_left; simp (maxSteps := 1000000) only [qK, qP, q0t, qu, qv, ev, qw, qy, zA, zB, zC, zD, zE, zG, zM, ↓reduceIte, Nat.reduceEqDiff, Nat.reduceAdd, zP, zR, zS, zT, zn, zt, jD, jH, jN, jP, jQ, jR, jS, jT, jU, hP, Nat.reduceAdd])
   ·exact zQ1 (x:=(⟨x.key,x.flags,x.val,x.exp,x.cas,now,x.stale,wn⟩:It)) hP hS hw hX X.cas X.flush hL (zI7 (by simp)) (by rw [hn0]; exact Nat.zero_le _) rfl (fun q _=>rfl)
   have hY:rGet X now cd x true=(zH7 X (⟨x.key,x.flags,x.val,x.exp,x.cas,now,x.stale,wn⟩:It),⟨1,(⟨x.key,x.flags,x.val,x.exp,x.cas,now,x.stale,wn⟩:It),0,wb,x.stale,x.won⟩):=by simp [rGet,rGot,hwb,hwn,hh]
   have:=fun en=>finN (zH7 X (⟨x.key,x.flags,x.val,x.exp,x.cas,now,x.stale,wn⟩:It),⟨1,(⟨x.key,x.flags,x.val,x.exp,x.cas,now,x.stale,wn⟩:It),0,wb,x.stale,x.won⟩) 6 en hY (by simp)
   rw [hL] at this
   exact this _ rfl
  | true =>
   obtain ⟨L,hL⟩:∃ L,(zH7 X (⟨x.key,x.flags,x.val,zJ1 now cd.exp,x.cas,now,x.stale,wn⟩:It)).items=L:=⟨_,rfl⟩
   (refine zA4 hctr (rs:=res23) true 300 _ _ _ ?_; simp (maxSteps:=1000000) only [VT,jf,qH,qI,qJ,qK,qO,qP,qV,q0t,qu,qv,ev,qw,qy,zA,zB,zC,zD,zE,zG,zI,zJ,zM,↓reduceIte,reduceCtorEq,Nat.reduceEqDiff,Nat.reduceAdd,Nat.reduceLT,zP,zQ,zR,zT,zV,zt,hP,hk,res23,kp23,rgC,zG3,cdS,hnow,Nat.reduceAdd,hh])
   (refine zB9 hctr (by rw [hP]; rfl) rs23_15 [jB (fun N => .g [.rw N L.length, .i .u64 (X.cas), .i .i64 X.flush]) (fun _ => rwI L)] (ensure_type_of% (Cmp.of (by simp (maxSteps := 1000000) only [qA, qK, qP, q0t, qu, qv, ev, qw, qy, zA, zB, zC, zD, zE, zF, zG, zM, ↓reduceIte, Nat.reduceEqDiff, Nat.reduceAdd, zP, zt, cE, jA, jB, jC, jD, jH, jK, jL, jM, jN, hP, rgC, Nat.reduceAdd]; rfl)) "" Cmp.mk) (by kernel_rfl) (by kernel_rfl) (by first | exact zA1 _ | kernel_rfl) (by kernel_rfl) (by rfl) (by rfl) (by first | exact zA0 _ | rfl) (by rfl) ?_ ?_; rotate_left; refine zA4 hctr (rs := res23) true 300 _ _ _ ?_; simp (maxSteps := 1000000) only [VT, qE, qF, qG, qP, qy, zA, zB, zD, zG, zI, zJ, zM, ↓reduceIte, reduceCtorEq, Nat.reduceEqDiff, Nat.reduceAdd, zP, zQ, zt, jN, jO, hP, hk, res23, kp23, Nat.reduceAdd]; rotate_left; simp (maxSteps := 1000000) only [qK, qP, q0t, qu, qv, ev, qw, qy, zA, zB, zC, zD, zE, zG, zM, ↓reduceIte, Nat.reduceEqDiff, Nat.reduceAdd, zP, zR, zS, zT, zn, zt, jD, jH, jN, jP, jQ, jR, jS, jT, jU, hP, Nat.reduceAdd])
   ·exact zQ1 (x:=(⟨x.key,x.flags,x.val,zJ1 now cd.exp,x.cas,now,x.stale,wn⟩:It)) hP hS hw hX X.cas X.flush hL (zI7 (by simp)) (by rw [hn0]; exact Nat.zero_le _) rfl (fun q _=>rfl)
   have hY:rGet X now cd x true=(zH7 X (⟨x.key,x.flags,x.val,zJ1 now cd.exp,x.cas,now,x.stale,wn⟩:It),⟨1,(⟨x.key,x.flags,x.val,zJ1 now cd.exp,x.cas,now,x.stale,wn⟩:It),0,wb,x.stale,x.won⟩):=by simp [rGet,rGot,hwb,hwn,hh]
   have:=fun en=>finN (zH7 X (⟨x.key,x.flags,x.val,zJ1 now cd.exp,x.cas,now,x.stale,wn⟩:It),⟨1,(⟨x.key,x.flags,x.val,zJ1 now cd.exp,x.cas,now,x.stale,wn⟩:It),0,wb,x.stale,x.won⟩) 6 en hY (by simp)
   rw [hL] at this
   exact this _ rfl
end Go.Proofs.YtfpeholdlkfmoaaGreatDoor
