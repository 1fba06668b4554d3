/- What every walk by the engine wants: no contracts, no entries, entries that are only read, the end of a function that only reads. No program in sight but its types. -/
import Derived.Test.YtcbmlanpianclaaGreatDoorBS03
import Derived.Test.YtcbmlanpianclaaGreatDoorCSxLay
import Derived.IntWalk
import Derived.Laws.StructEq
import Derived.DeepKeys
import Derived.Maps.AppendAt
import Derived.WalkSmall
import Derived.Test.YtcbmlanpianclaaGreatDoorBS00
import Derived.WalkKit
import Derived.Lib.Bytealg
import Derived.Lib.ParseIntBCases
import Derived.Lib.Strings
import Derived.LoopTactic
import Derived.WalkSpells
import Derived.Outline
namespace Go.Proofs.YtcbmlanpianclaaGreatDoor
set_option linter.unusedSimpArgs false
set_option linter.unusedVariables false
open Go.RowKit
theorem u8b (a b:UInt8):(a == b)=(a.toNat == b.toNat):=by
 rw [Bool.eq_iff_iff,beq_iff_eq,beq_iff_eq]; exact ⟨fun h=>h ▸ rfl,fun h=>UInt8.toNat_inj.1 h⟩
theorem lb1 (a b:UInt8) (l m:List UInt8):((a :: l) == (b :: m))=((a == b) && (l == m)):=List.cons_beq_cons
theorem lb2 (a:UInt8) (l:List UInt8):((a :: l) == [])=false:=rfl
theorem lb3 (a:UInt8) (l:List UInt8):([] == (a :: l))=false:=rfl
theorem lb4:(([]:List UInt8) == [])=true:=rfl
def noC:Ctr:=fun _ _ _=>none
theorem zF8 {C:Cx} (_:C.P=Tryz.prog):zC1 C noC:=fun _ _ _ _ _ h=>by cases h
theorem At.nil (S:Nat→Prop) (ρ:Nat→RE) (w:World):At S ρ [] w:=⟨fun c _ _ _ hc=>absurd hc (by simp),fun c _ _ _ hc=>absurd hc (by simp),fun c _ hc=>absurd hc (by simp),fun c _ _ hc=>absurd hc (by simp)⟩
def ro (en:List EN):List EN:=en.map fun e=>{ e with mu:=false }
theorem zH3 {C:Cx} {P:Program} {fn:Func} {v v':SV} {ρ:Nat→RE} {w:World} {n:Nat} {kp:List Nat} {en:List EN} {rs:List ResultVar} (hC:C=zL P fn (fun e w'=>e=.returned (v.den ρ)∧Below w.heap.size w w') Non w ρ n kp) (hrs:fn.results.toList=rs) (hv:v'=v) (hw:v.wf (· < n)):Fin C rs v' en:=by
 subst hC
 subst hv
 exact zR5 ctx_of hrs fun ρ' w' h hn _=>⟨congrArg _ (SV.den_congr hw (fun c hc=>h.ini c hc)),h.up.to_below⟩
end Go.Proofs.YtcbmlanpianclaaGreatDoor
/- A walk forgets entries and slots that are no longer needed; operations met by hand, guarded ones too. -/
namespace Go.Proofs.YtcbmlanpianclaaGreatDoor
set_option linter.unusedSimpArgs false
set_option linter.unusedVariables false
open Go.RowKit
section
variable {C:Cx} {nt:Nat} {sl:List (Nat × SV)} {en:List EN} {k:List KI}
def keepS (f:Nat→Nat) (n:Nat) (sl:List (Nat × SV)):List (Nat × SV)→Prop
 | []=>True
 | (d,v) :: r=>(v.wf (· < n)∧∃ v',qy sl d=some v'∧∀ ρ:Nat→RE,v.den (fun c=>ρ (f c))=v'.den ρ)∧keepS f n sl r
theorem keepS_get {f:Nat→Nat} {n:Nat} {sl:List (Nat × SV)}:∀ {s:List (Nat × SV)},keepS f n sl s→∀ d v,qy s d=some v→v.wf (· < n)∧∃ v',qy sl d=some v'∧∀ ρ:Nat→RE,v.den (fun c=>ρ (f c))=v'.den ρ
 | [],_,d,v,h=>by simp [qy] at h
 | (e,u) :: s,hs,d,v,h=>by
  simp only [qy] at h
  split at h
  ·rename_i e'; subst e'; simp only [Option.some.injEq] at h; subst h; exact hs.1
  ·exact keepS_get hs.2 d v h
def keepE (f:Nat→Nat) (n:Nat) (en:List EN):Nat→List EN→Prop
 | _,[]=>True
 | i,e :: r=>(∃ cs,zD en (f i)=some ⟨e.ty,cs,e.mu⟩∧(∀ ρ:Nat→RE,zB8 (fun c=>ρ (f c)) e.cells=zB8 ρ cs)∧wfs (· < n) e.cells)∧keepE f n en (i+1) r
theorem keepE_get {f:Nat→Nat} {n:Nat} {en:List EN}:∀ (l:List EN) (i c:Nat) (e:EN),keepE f n en i l→zD l c=some e→∃ cs,zD en (f (i+c))=some ⟨e.ty,cs,e.mu⟩∧(∀ ρ:Nat→RE,zB8 (fun c=>ρ (f c)) e.cells=zB8 ρ cs)∧wfs (· < n) e.cells
 | [],i,c,e,_,h=>by simp [zD] at h
 | x :: l,i,0,e,hk,h=>by
  simp only [zD,Option.some.injEq] at h; subst h; exact hk.1
 | x :: l,i,c+1,e,hk,h=>by
  have:=keepE_get l (i+1) c e hk.2 (by simpa [zD] using h)
  rwa [show i+1+c=i+(c+1) by omega] at this
theorem Rep.keep {ρ:Nat→RE} {a:Act} {w:World} {f:Nat→Nat} {enK:List EN} {slK:List (Nat × SV)} (hr:Rep C ρ nt sl en a w) (hn0:(∀ c,c < C.n0→f c=c)∧C.n0≤enK.length) (hf:∀ c d,c < enK.length→d < enK.length→f c=f d→c=d)
  (hen:keepE f enK.length en 0 enK) (hsl:keepS f enK.length sl slK):Rep C (fun c=>ρ (f c)) nt slK enK a w:=by
 have hlt:∀ c ty cells mu,zD enK c=some ⟨ty,cells,mu⟩→∃ cs,zD en (f c)=some ⟨ty,cs,mu⟩∧(∀ ρ:Nat→RE,zB8 (fun c=>ρ (f c)) cells=zB8 ρ cs)∧wfs (· < enK.length) cells∧f c < en.length:=by
  intro c ty cells mu hc
  obtain ⟨cs,h1,h2,h3⟩:=keepE_get enK 0 c _ hen hc
  rw [Nat.zero_add] at h1
  exact ⟨cs,h1,h2,h3,by rw [zA3] at h1; exact (List.getElem?_eq_some_iff.1 h1).1⟩
 refine ⟨⟨?_,?_,?_,hr.hw.up,?_,?_⟩,?_,hr.sz,hr.df,?_⟩
 ·intro c ty cells mu hc he
  obtain ⟨cs,q1,q2,q3,q4⟩:=hlt c ty cells mu he
  have h:=hr.hw.hp (f c) ty cs mu q4 q1
  have hl:cs=[]→cells=[]:=fun e=>by
   have:=congrArg List.length (q2 ρ)
   rw [e] at this
   simpa [zB8] using this
  exact ⟨fun hh=>by rw [h.heap hh,q2 ρ],q3,fun e=>⟨hl (h.dead e).1,(h.dead e).2⟩,fun e=>hl (h.non e)⟩
 ·intro c ty cells mu hc he
  obtain ⟨cs,q1,q2,q3,q4⟩:=hlt c ty cells mu he
  exact hr.hw.ho (f c) ty cs mu q4 q1
 ·intro c d hc hd h1 h2 h3
  have g:∀ x,x < enK.length→∃ ty cells mu,zD enK x=some ⟨ty,cells,mu⟩:=fun x hx=>⟨_,_,_,by rw [zA3]; exact List.getElem?_eq_getElem hx⟩
  obtain ⟨ty,cells,mu,p⟩:=g c hc
  obtain ⟨ty',cells',mu',p'⟩:=g d hd
  obtain ⟨cs,q1,q2,q3,q4⟩:=hlt c _ _ _ p
  obtain ⟨cs',r1,r2,r3,r4⟩:=hlt d _ _ _ p'
  rw [zA4 p] at h1; rw [zA4 p'] at h2
  exact hf c d hc hd (hr.hw.inj (f c) (f d) q4 r4 ((zA4 q1).2 h1) ((zA4 r1).2 h2) h3)
 ·intro c ty cells hc he
  obtain ⟨cs,q1,q2,q3,q4⟩:=hlt c ty cells true he
  exact hr.hw.mu (f c) ty cs q4 q1
 ·intro c hc; show ρ (f c)=_; rw [hn0.1 c hc]; exact hr.hw.ini c hc
 ·intro d v hd
  obtain ⟨h1,v',h2,h3⟩:=keepS_get hsl d v hd
  exact ⟨by rw [h3]; exact (hr.tm d v' h2).1,h1⟩
 ·exact hn0.2
theorem zI6 {f:Nat→Nat} {enK:List EN} {slK:List (Nat × SV)} (hn0:(∀ c,c < C.n0→f c=c)∧C.n0≤enK.length) (hf:∀ c d,c < enK.length→d < enK.length→f c=f d→c=d)
  (hen:keepE f enK.length en 0 enK) (hsl:keepS f enK.length sl slK) (h:Run C k nt slK enK):Run C k nt sl en:=
 fun ρ a w hr=>h _ a w (hr.keep hn0 hf hen hsl)
theorem Run_loopD {ι:Type} {c:Code} {k:List KI} (slF:ι→List (Nat × SV)) (enF:ι→List EN) (μ:ι→Nat) (x0:ι) (h0:sub (slF x0) sl) (he0:enF x0=en)
  (round:∀ (x:ι) (D:Cx),D.P=C.P→D.S=C.S→D.w0=C.w0→D.n0=C.n0→D.kp=C.kp→(∀ {P:Program} {fn:Func} {R:Ending→World→Prop},Ctx C P fn R→Ctx D P fn R) →
   (∀ {id:Nat} {k' kk:List KI} {s:List (Nat × SV)} {e:List EN},zH id kk=none→zH id k=some k'→Run C k' nt s e→Run D (.code (.exit id) :: kk) nt s e) →
   (∀ y s,μ y < μ x→sub (slF y) s→Run D [] nt s (enF y))→Run D [.code c] nt (slF x) (enF x)):Run C (.code (.loop c) :: k) nt sl en:=
 Run_loop slF enF μ x0 h0 he0 fun x J hJ=>round x (lpC C k J) rfl rfl rfl rfl rfl (fun h=>h.lp k J) (fun h1 h2 h3=>Run_lpExit h1 h2 h3) hJ
variable {dst:Option Nat} {op:Op} {ty:TypeId} {pos:String} {af:Array Edge} {all r:List Oper} {gd:Option (Nat × Bool)}
def gdT (all:List Oper) (sl:List (Nat × SV)):Option (Nat × Bool)→Bool
 | none=>true
 | some (j,b)=>match zD all j with
  | some ⟨some d,_,_,_,_,_⟩=>match qy sl d with
   | some (.c (.b x))=>x == b
   | _=>false
  | _=>false
theorem Run_softG (v:SV) (hg:gdT all sl gd=true) (hx:∀ ρ a w,Rep C ρ nt sl en a w→(execOp a.eval ⟨dst,op,ty,pos,af,gd⟩).run C.P w=.ok (.value (v.den ρ)) w∧v.wf (· < en.length)) (hd:∀ d,dst=some d→d < nt) (hK:Run C (.ops all r :: k) nt (jN dst v sl) en) :
  Run C (.ops all (⟨dst,op,ty,pos,af,gd⟩ :: r) :: k) nt sl en:=by
 intro ρ a w hr
 obtain ⟨h1,h2⟩:=hx ρ a w hr
 have hwant:Region.wanted ⟨dst,op,ty,pos,af,gd⟩ (yielded all.toArray a.tmps)=true:=by
  cases gd with
  | none=>simp [Region.wanted]
  | some jb =>
   obtain ⟨j,b⟩:=jb
   simp only [gdT] at hg
   split at hg <;> try cases hg
   rename_i d _ _ _ _ _ hj
   split at hg <;> try cases hg
   rename_i x hx
   have e1:=(hr.tm d _ hx).1
   rw [zA3] at hj
   have hxb:x=b:=by simpa using hg
   subst hxb
   simp [Region.wanted,yielded,hj,e1,SV.den,SC.den]
 rw [zN0]
 unfold wpList
 rw [if_pos hwant]
 left
 unfold Oper.wp
 rw [h1]
 simp only [Oper.upon]
 refine hK ρ _ w ?_
 cases dst with
 | none=>exact hr
 | some d=>exact hr.put (hd d rfl) h2
end
end Go.Proofs.YtcbmlanpianclaaGreatDoor
/- A walk: a slice of nothing seen as a row of nothing; structs compared; what lies at raw places. -/
namespace Go.Proofs.YtcbmlanpianclaaGreatDoor
set_option linter.unusedSimpArgs false
set_option linter.unusedVariables false
open Go.RowKit
section
variable {C:Cx} {nt:Nat} {sl:List (Nat × SV)} {en:List EN} {k:List KI}
def relE (N:Nat):List EN→List EN→Prop
 | [],[]=>True
 | e :: l,e' :: l'=>(e.ty=e'.ty∧e.mu=e'.mu∧(∀ ρ:Nat→RE,(ρ N).nl=some none→zB8 ρ e'.cells=zB8 ρ e.cells)∧wfs (· < N+1) e'.cells)∧relE N l l'
 | _,_=>False
theorem relE_len {N:Nat}:∀ {l l':List EN},relE N l l'→l.length=l'.length
 | [],[],_=>rfl
 | _ :: l,_ :: l',h=>by simp [relE_len h.2]
 | [],_ :: _,h=>h.elim
 | _ :: _,[],h=>h.elim
theorem zW8 {N:Nat}:∀ {l l':List EN},relE N l l'→∀ c e',zD l' c=some e'→∃ e,zD l c=some e∧e.ty=e'.ty∧e.mu=e'.mu∧(∀ ρ:Nat→RE,(ρ N).nl=some none→zB8 ρ e'.cells=zB8 ρ e.cells)∧wfs (· < N+1) e'.cells
 | [],[],_,c,e',h=>by simp [zD] at h
 | e :: l,e' :: l',h,0,x,hx=>by
  simp only [zD,Option.some.injEq] at hx; subst hx
  exact ⟨e,rfl,h.1.1,h.1.2.1,h.1.2.2.1,h.1.2.2.2⟩
 | e :: l,e' :: l',h,c+1,x,hx=>by
  simp only [zD] at hx ⊢
  exact zW8 h.2 c x hx
 | [],_ :: _,h,_,_,_=>h.elim
 | _ :: _,[],h,_,_,_=>h.elim
def relS (N:Nat) (sl:List (Nat × SV)):List (Nat × SV)→Prop
 | []=>True
 | (d,v') :: r=>((∃ v,qy sl d=some v∧∀ ρ:Nat→RE,(ρ N).nl=some none→v'.den ρ=v.den ρ)∧v'.wf (· < N+1))∧relS N sl r
theorem relS_get {N:Nat} {sl:List (Nat × SV)}:∀ {s:List (Nat × SV)},relS N sl s→∀ d v',qy s d=some v'→(∃ v,qy sl d=some v∧∀ ρ:Nat→RE,(ρ N).nl=some none→v'.den ρ=v.den ρ)∧v'.wf (· < N+1)
 | [],_,d,v,h=>by simp [qy] at h
 | (e,u) :: s,hs,d,v,h=>by
  simp only [qy] at h
  split at h
  ·rename_i e'; subst e'; simp only [Option.some.injEq] at h; subst h; exact hs.1
  ·exact relS_get hs.2 d v h
theorem zG2 (mu:Bool) {en':List EN} {sl':List (Nat × SV)} (ty:TypeId × Nat × (RE→Prop)) (h0:ty.2.1=0) (hI:∀ b,ty.2.2 ⟨b,[],[],0,some none⟩) (hmu:mu=true→ty.1 ≠ zC9) (hen:relE (zG en) en en') (hsl:relS (zG en) sl sl')
  (h:Run C k nt sl' (zF en' ⟨ty,[],mu⟩)):Run C k nt sl en:=by
 rw [zC8] at hen hsl
 intro ρ a w hr
 have hlen:=relE_len hen
 obtain ⟨N,hN⟩:∃ N,N=en.length:=⟨_,rfl⟩
 rw [← hN] at hen hsl
 obtain ⟨r0,hr0⟩:∃ r0:RE,r0=⟨C.w0.heap.size,[],[],0,some none⟩:=⟨_,rfl⟩
 obtain ⟨ρ',hρ'⟩:∃ ρ':Nat→RE,ρ'=fun c=>if c=N then r0 else ρ c:=⟨_,rfl⟩
 have hnew:ρ' N=r0:=by rw [hρ']; exact if_pos rfl
 have hold:∀ c,c ≠ N→ρ' c=ρ c:=fun c hc=>by rw [hρ']; exact if_neg hc
 have hnl:(ρ' N).nl=some none:=by rw [hnew,hr0]
 have hle:(zF en' ⟨ty,[],mu⟩).length=N+1:=by rw [zF2]; simp [← hlen,hN]
 have hlt:∀ {c:Nat},c < N→c ≠ N:=fun h=>Nat.ne_of_lt h
 have hcase:∀ c e,zD (zF en' ⟨ty,[],mu⟩) c=some e→(c=N∧e=⟨ty,[],mu⟩)∨(c < N∧zD en' c=some e):=by
  intro c e hc
  rw [zA3,zF2] at hc
  rcases Nat.lt_trichotomy c N with h1 | h1 | h1
  ·rw [List.getElem?_append_left (by omega)] at hc
   exact .inr ⟨h1,by rw [zA3]; exact hc⟩
  ·rw [List.getElem?_append_right (by omega),show c - en'.length=0 by omega] at hc
   simp at hc
   exact .inl ⟨h1,hc.symm⟩
  ·rw [List.getElem?_append_right (by omega),List.getElem?_eq_none (by simp; omega)] at hc
   cases hc
 have hlive:∀ c,c < N→zG5 (ρ' c) (zD (zF en' ⟨ty,[],mu⟩) c)=false→zG5 (ρ c) (zD en c)=false:=by
  intro c hc hd
  cases hx:zD (zF en' ⟨ty,[],mu⟩) c with
  | none=>rw [hx] at hd; cases hd
  | some e =>
   rcases hcase c e hx with ⟨h1,_⟩ | ⟨_,h1⟩
   ·exact absurd h1 (hlt hc)
   ·obtain ⟨e0,q1,q2,_⟩:=zW8 hen c e h1
    obtain ⟨t0,c0,m0⟩:=e0
    obtain ⟨t1,c1,m1⟩:=e
    have:=(zA4 hx).1 hd
    simp only at q2
    rw [hold c (hlt hc)] at this
    exact (zA4 q1).2 ⟨by rw [q2]; exact this.1,this.2⟩
 refine h ρ' a w ⟨⟨?_,?_,?_,hr.hw.up,?_,?_⟩,?_,hr.sz,hr.df,by rw [hle]; have:=hr.n0; omega⟩
 ·intro c t cells mu' hc he
  rw [hle] at hc ⊢
  rcases hcase c _ he with ⟨rfl,h1⟩ | ⟨h1,h2⟩
  ·cases h1
   exact ⟨fun hh=>absurd hh.2 (by rw [hnl]; simp),(fun y hy=>nomatch hy),(fun hd=>⟨rfl,by cases hm:mu with | false=>rfl | true=>exact absurd hd (hmu hm)⟩),(fun _=>rfl)⟩
  ·obtain ⟨⟨t0,c0,m0⟩,q1,q2,q3,q4,q5⟩:=zW8 hen c _ h2
   simp only at q2 q3 q4 q5
   subst q2; subst q3
   have hh:=hr.hw.hp c t0 c0 m0 (by show c < en.length; omega) q1
   have hd:zB8 ρ' cells=zB8 ρ c0:=by
    rw [q4 ρ' hnl]
    exact zI9 (pr:=(· < en.length)) hh.wf (fun q hq=>hold q (hlt (by show q < N; rw [hN]; exact hq)))
   rw [show (⟨(t0:TypeId × Nat × (RE→Prop)),cells,m0⟩:EN)=⟨t0,cells,m0⟩ from rfl] at he
   refine ⟨fun hl=>?_,q5,fun hd'=>?_,fun hn=>?_⟩
   ·rw [hold c (hlt h1)] at hl ⊢; rw [hd]; exact hh.heap hl
   ·have:=hh.dead hd'
    have e1:zB8 ρ' cells=[]:=by rw [hd,this.1]; rfl
    refine ⟨by simpa [zB8] using e1,this.2⟩
   ·rw [hold c (hlt h1)] at hn
    have e1:zB8 ρ' cells=[]:=by rw [hd,hh.non hn]; rfl
    simpa [zB8] using e1
 ·intro c t cells mu' hc he
  rw [hle] at hc
  rcases hcase c _ he with ⟨rfl,h1⟩ | ⟨h1,h2⟩
  ·cases h1; rw [hnew,hr0]; exact ⟨h0.symm,hI _⟩
  ·obtain ⟨⟨t0,c0,m0⟩,q1,q2,q3,_⟩:=zW8 hen c _ h2
   simp only at q2; subst q2
   rw [hold c (hlt h1)]
   exact hr.hw.ho c t0 c0 m0 (by show c < en.length; omega) q1
 ·intro c d hc hd h1 h2 h3
  rw [hle] at hc hd
  have nn:∀ q,q < N+1→zG5 (ρ' q) (zD (zF en' ⟨ty,[],mu⟩) q)=false→q < N:=by
   intro q hq hdq
   rcases Nat.lt_or_ge q N with h | h
   ·exact h
   ·obtain rfl:q=N:=by omega
    have hx:zD (zF en' ⟨ty,[],mu⟩) q=some ⟨ty,[],mu⟩:=by
     rw [zA3,zF2,List.getElem?_append_right (by omega),show q - en'.length=0 by omega]; rfl
    have:=(zA4 hx).1 hdq
    rw [hnl] at this; cases this.2
  have c1:=nn c hc h1
  have d1:=nn d hd h2
  rw [hold c (hlt c1),hold d (hlt d1)] at h3
  exact hr.hw.inj c d (by show c < en.length; omega) (by show d < en.length; omega) (hlive c c1 h1) (hlive d d1 h2) h3
 ·intro c t cells hc he
  rw [hle] at hc
  rcases hcase c _ he with ⟨rfl,h1⟩ | ⟨h1,h2⟩
  ·rw [hnew,hr0]; exact .inr (Nat.le_refl _)
  ·obtain ⟨⟨t0,c0,m0⟩,q1,q2,q3,_⟩:=zW8 hen c _ h2
   simp only at q2 q3; subst q2; subst q3
   rw [hold c (hlt h1)]
   exact hr.hw.mu c t0 c0 (by show c < en.length; omega) q1
 ·intro c hc
  have:=hr.n0
  rw [hold c (by omega)]; exact hr.hw.ini c hc
 ·intro d v' hd
  obtain ⟨⟨v,q1,q2⟩,q3⟩:=relS_get hsl d v' hd
  obtain ⟨t1,t2⟩:=hr.tm d v q1
  rw [hle]
  refine ⟨?_,q3⟩
  rw [q2 ρ' hnl,SV.den_congr t2 (fun q hq=>hold q (hlt (by show q < N; rw [hN]; exact hq)))]
  exact t1
end
def subL (sl:List (Nat × SV)):List (Nat × SV)→Prop
 | []=>True
 | (d,v) :: r=>qy sl d=some v∧subL sl r
theorem zB3 {sl:List (Nat × SV)}:∀ {s:List (Nat × SV)},subL sl s→sub s sl
 | [],_=>fun d v h=>by simp [qy] at h
 | (e,u) :: r,hs=>fun d v h=>by
  simp only [qy] at h
  split at h
  ·rename_i e'; subst e'; rw [← h]; exact hs.1
  ·exact zB3 hs.2 d v h
section
variable {C:Cx} {nt:Nat} {sl:List (Nat × SV)} {en:List EN} {k:List KI}
variable {dst:Option Nat} {op:Op} {ty:TypeId} {pos:String} {af:Array Edge} {all r:List Oper} {gd:Option (Nat × Bool)}
theorem rd_arg {W:World} {b o n:Nat} {vs:List Value} (hS:C.S=Non) (hw:C.w0=W) (hb:b < W.heap.size) (h:∀ (j:Nat) v,vs[j]?=some v→W.cell? ⟨b,o+j,none⟩=some v) (hn:vs.length=n):C.rd b o n=some (vs.map qz):=by
 refine rd_of ?_ hn
 rw [hS,hw]
 intro w hu j v hv
 rw [← h j v hv]
 unfold World.cell?
 rw [hu.to_below.block b hb]
end
end Go.Proofs.YtcbmlanpianclaaGreatDoor
/- Rows as entries: entries behind a step that makes one; append. -/
namespace Go.Proofs.YtcbmlanpianclaaGreatDoor
set_option linter.unusedSimpArgs false
set_option linter.unusedVariables false
open Go.RowKit
theorem zQ4 {en:List EN} {e:EN}:zD (zF en e) (zG en)=some e:=by rw [zA3,zF2,zC8]; simp
theorem zH7 {en:List EN} {e:EN} {q:Nat} (h:q ≠ zG en):zD (zF en e) q=zD en q:=by
 rw [zA3,zA3,zF2]
 rw [zC8] at h
 rcases Nat.lt_or_ge q en.length with hl | hl
 ·rw [List.getElem?_append_left hl]
 ·rw [List.getElem?_eq_none hl,List.getElem?_eq_none (by simp; omega)]
theorem nth_set {en:List EN} {e x:EN} {q:Nat} (h:zD en q=some e):zD (zE en q x) q=some x:=by
 rw [zA3] at h
 rw [zA3,zN8,List.getElem?_set_self (List.getElem?_eq_some_iff.1 h).1]
theorem zG8 {en:List EN} {x:EN} {q d:Nat} (h:q ≠ d):zD (zE en d x) q=zD en q:=by
 rw [zA3,zA3,zN8,List.getElem?_set_ne (fun e=>h e.symm)]
theorem len_set {en:List EN} {x:EN} {d:Nat}:zG (zE en d x)=zG en:=by rw [zC8,zC8,zN8]; simp
theorem zX2 {en:List EN} {x:EN}:zG (zF en x)=zG en+1:=by rw [zC8,zC8,zF2]; simp
theorem zR1 {n:Nat} {en:List EN} (h:zG en=n+1) (q:Nat):(n≤q∧q < zG en) ↔ q=n:=by rw [h]; omega
def zH4 (e:EN):EN:=⟨(zC9,e.ty.2.1,e.ty.2.2),[],false⟩
theorem Hw.rebuild {C:Cx} {ρ:Nat→RE} {pr:Nat→Prop} {en en':List EN} {w w':World} {N:Nat} {e:EN} {T:Nat→Prop} (r:RE) (hw:Hw C ρ pr en w) (lN:¬ pr N) (hn1:C.n0≤N) (hU:Upd T w w') (hT:∀ k,k < C.w0.heap.size→T k→C.S k)
  (hold:∀ q,pr q →
   (zD en' q=zD en q∧(zG5 (ρ q) (zD en q)=false→¬ T (ρ q).blk)) ∨
   (∃ e,zD en q=some e∧zD en' q=some (zH4 e)) ∨
   (∃ ty cells cells' mu,zD en q=some ⟨ty,cells,mu⟩∧zD en' q=some ⟨ty,cells',mu⟩∧ty.1 ≠ zC9∧HE (zK7 ρ N r) (fun q=>pr q∨q=N) w' q ty cells' mu))
  (hN:zD en' N=some e) (hE:HE (zK7 ρ N r) (fun q=>pr q∨q=N) w' N e.ty e.cells e.mu) (hO:r.pre.length=e.ty.2.1∧e.ty.2.2 r)
  (hne:r.nl=none→∀ q,pr q→zG5 (ρ q) (zD en' q)=false→(ρ q).blk ≠ r.blk) (hmu:e.mu=true→C.S r.blk∨C.w0.heap.size≤r.blk) :
  (∀ q,pr q→zK7 ρ N r q=ρ q)∧Hw C (zK7 ρ N r) (fun q=>pr q∨q=N) en' w':=by
 have ho:∀ q,pr q→zK7 ρ N r q=ρ q:=fun q hq=>if_neg (fun h:q=N=>lN (h ▸ hq))
 have hn:zK7 ρ N r N=r:=if_pos rfl
 have hlive:∀ q,pr q→zG5 (ρ q) (zD en' q)=false→zG5 (ρ q) (zD en q)=false:=by
  intro q hq hl
  rcases hold q hq with ⟨h1,_⟩ | ⟨e,h1,h2⟩ | ⟨ty,cells,cells',mu,h1,h2,h3,_⟩
  ·rw [← h1]; exact hl
  ·rw [h2] at hl; exact absurd hl (by simp [zH4,zG5])
  ·exact (zA4 h1).2 ⟨h3,((zA4 h2).1 hl).2⟩
 refine ⟨ho,?_,?_,?_,hw.up.trans hU hT,?_,?_⟩
 ·intro q ty cells mu hq hqe
  by_cases hqN:q=N
  ·subst hqN
   rw [hN] at hqe
   cases e
   simp only [Option.some.injEq,EN.mk.injEq] at hqe
   obtain ⟨rfl,rfl,rfl⟩:=hqe
   exact hE
  have hq':=hq.resolve_right hqN
  rcases hold q hq' with ⟨h1,h2⟩ | ⟨e',h1,h2⟩ | ⟨ty',cells0,cells',mu',h1,h2,h3,h4⟩
  ·rw [h1] at hqe
   have hp:=hw.hp q ty cells mu hq' hqe
   refine ⟨fun hl=>?_,zQ0 hp.wf (fun _ h=>Or.inl h),hp.dead,by rw [ho q hq']; exact hp.non⟩
   rw [ho q hq'] at hl
   have hlv:zG5 (ρ q) (zD en q)=false:=(zA4 hqe).2 hl
   rw [ho q hq',zI9 hp.wf ho,hU.block _ (hw.lt hq' hlv) (h2 hlv)]
   exact hp.heap hl
  ·rw [h2] at hqe
   simp only [Option.some.injEq,zH4,EN.mk.injEq] at hqe
   obtain ⟨rfl,rfl,rfl⟩:=hqe
   exact ⟨fun hl=>absurd rfl hl.1,(fun y hy=>nomatch hy),fun _=>⟨rfl,rfl⟩,fun _=>rfl⟩
  ·rw [h2] at hqe
   simp only [Option.some.injEq,EN.mk.injEq] at hqe
   obtain ⟨rfl,rfl,rfl⟩:=hqe
   exact h4
 ·intro q ty cells mu hq hqe
  by_cases hqN:q=N
  ·subst hqN
   rw [hN] at hqe
   cases e
   simp only [Option.some.injEq,EN.mk.injEq] at hqe
   obtain ⟨rfl,rfl,rfl⟩:=hqe
   rw [hn]; exact hO
  have hq':=hq.resolve_right hqN
  rw [ho q hq']
  rcases hold q hq' with ⟨h1,h2⟩ | ⟨e',h1,h2⟩ | ⟨ty',cells0,cells',mu',h1,h2,h3,h4⟩
  ·rw [h1] at hqe; exact hw.ho q ty cells mu hq' hqe
  ·rw [h2] at hqe
   cases e'
   simp only [Option.some.injEq,zH4,EN.mk.injEq] at hqe
   obtain ⟨rfl,rfl,rfl⟩:=hqe
   have h3:=hw.ho q _ _ _ hq' h1
   exact h3
  ·rw [h2] at hqe
   simp only [Option.some.injEq,EN.mk.injEq] at hqe
   obtain ⟨rfl,rfl,rfl⟩:=hqe
   exact hw.ho q _ _ _ hq' h1
 ·intro q d hq hd hql hdl hb
  rcases hq with hq | rfl <;> rcases hd with hd | rfl
  ·rw [ho q hq,ho d hd] at hb
   rw [ho q hq] at hql
   rw [ho d hd] at hdl
   exact hw.inj q d hq hd (hlive q hq hql) (hlive d hd hdl) hb
  ·rw [ho q hq,hn] at hb
   rw [ho q hq] at hql
   rw [hn] at hdl
   exact absurd hb (hne ((zA4 hN).1 hdl).2 q hq hql)
  ·rw [ho d hd,hn] at hb
   rw [ho d hd] at hdl
   rw [hn] at hql
   exact absurd hb.symm (hne ((zA4 hN).1 hql).2 d hd hdl)
  ·rfl
 ·intro q ty cells hq hqe
  by_cases hqN:q=N
  ·subst hqN
   rw [hN] at hqe
   cases e
   simp only [Option.some.injEq,EN.mk.injEq] at hqe
   obtain ⟨rfl,rfl,rfl⟩:=hqe
   rw [hn]; exact hmu rfl
  have hq':=hq.resolve_right hqN
  rw [ho q hq']
  rcases hold q hq' with ⟨h1,h2⟩ | ⟨e',h1,h2⟩ | ⟨ty',cells0,cells',mu',h1,h2,h3,h4⟩
  ·rw [h1] at hqe; exact hw.mu q ty cells hq' hqe
  ·rw [h2] at hqe
   simp only [Option.some.injEq,zH4,EN.mk.injEq] at hqe
   exact absurd hqe.2.2 (by decide)
  ·rw [h2] at hqe
   simp only [Option.some.injEq,EN.mk.injEq] at hqe
   obtain ⟨rfl,rfl,rfl⟩:=hqe
   exact hw.mu q _ _ hq' h1
 ·intro q hq
  rw [show zK7 ρ N r q=ρ q from if_neg (by omega)]
  exact hw.ini q hq
section
variable {C:Cx} {nt:Nat} {sl:List (Nat × SV)} {en:List EN} {k:List KI}
variable {dst:Option Nat} {op:Op} {ty:TypeId} {pos:String} {af:Array Edge} {all r:List Oper} {gd:Option (Nat × Bool)}
theorem gd_wanted {a:Act} {ρ:Nat→RE} {w:World} (hr:Rep C ρ nt sl en a w) (hg:gdT all sl gd=true):Region.wanted ⟨dst,op,ty,pos,af,gd⟩ (yielded all.toArray a.tmps)=true:=by
 cases gd with
 | none=>simp [Region.wanted]
 | some jb =>
  obtain ⟨j,b⟩:=jb
  simp only [gdT] at hg
  split at hg <;> try cases hg
  rename_i d _ _ _ _ _ hj
  split at hg <;> try cases hg
  rename_i x hx
  have e1:=(hr.tm d _ hx).1
  rw [zA3] at hj
  have hxb:x=b:=by simpa using hg
  subst hxb
  simp [Region.wanted,yielded,hj,e1,SV.den,SC.den]
theorem Run_hop (v:SV) (en':List EN) (hg:gdT all sl gd=true) (hn:en.length≤en'.length)
  (H:∀ ρ a w,Rep C ρ nt sl en a w→∃ ρ' w',(execOp a.eval ⟨dst,op,ty,pos,af,gd⟩).run C.P w=.ok (.value (v.den ρ')) w'∧(∀ c,c < en.length→ρ' c=ρ c)∧v.wf (· < en'.length)∧Hw C ρ' (· < en'.length) en' w')
  (hd:∀ d,dst=some d→d < nt) (hK:Run C (.ops all r :: k) nt (jN dst v sl) en'):Run C (.ops all (⟨dst,op,ty,pos,af,gd⟩ :: r) :: k) nt sl en:=by
 intro ρ a w hr
 obtain ⟨ρ',w',h1,h2,h3,h4⟩:=H ρ a w hr
 rw [zN0]
 unfold wpList
 rw [if_pos (gd_wanted hr hg)]
 left
 unfold Oper.wp
 rw [h1]
 simp only [Oper.upon]
 have hr1:Rep C ρ' nt sl en' a w':=by
  refine ⟨h4,fun d u hd=>?_,hr.sz,hr.df,by have:=hr.n0; omega⟩
  obtain ⟨q1,q2⟩:=hr.tm d u hd
  rw [SV.den_congr q2 h2]
  exact ⟨q1,SV.wf_mono q2 (fun c hc=>by show c < _; have:c < en.length:=hc; omega)⟩
 refine hK ρ' _ w' ?_
 cases dst with
 | none=>exact hr1
 | some d=>exact hr1.put (hd d rfl) h3
theorem run_append0 {P:Program} (w:World) {t ty e:TypeId} {i:TypeInfo} (ht:P.underlying t=some (.slice e)) (hi:P.info? e=some i) (A B:Option Addr) (n c k:Nat) (hn:n≤c) :
  (Builtin.append_ #[t,t] ty #[.slice A n c,.slice B 0 k]).run P w=.ok (.slice A n c) w:=by
 have hf:(Builtin.firstCells i.size 0 (.slice B 0 k)).run P w=.ok #[] w:=by
  cases B with
  | none=>simp [run_firstCells_none]
  | some b=>exact run_firstCells_some (P:=P) w i.size 0 b 0 k [] (by simp) (by simp)
 cases A <;> simp [Builtin.append_,run_underlying ht,sizeOf,typeInfo,hi,Builtin.lenOf,hn,hf,storeCells]
def rowP (z n L:Nat):RE→Prop:=fun r=>L=n * z∧((r.nl=none∧r.pre=[]∧L+r.post.length=r.cap * z∧n≤r.cap∧r.cap≤maxLen)∨(r.nl=some none∧n=0∧r.pre=[]))
def rwE (e z n:Nat) (cells:List SC):EN:=⟨(e,0,rowP z n cells.length),cells,true⟩
def SrcOk (C:Cx) (en:List EN) (Y:SC) (m:Nat) (news:List SC):Prop:=∀ ρ pr w,Hw C ρ pr en w→Y.wf pr→∃ a cp,Y.den ρ=.slice (some a) m cp∧∀ (j:Nat) u,(zB8 ρ news)[j]?=some u→w.cell? (a.add j)=some u
theorem zU5 {c o m cp L:Nat} {ty:TypeId × Nat × (RE→Prop)} {cells news:List SC} {mu:Bool} (hc:zD en c=some ⟨ty,cells,mu⟩) (ht:zB o L cells=some news):SrcOk C en (.sl c o m cp) m news:=by
 intro ρ pr w hw hwf
 refine ⟨_,cp,rfl,fun j u hu=>?_⟩
 obtain ⟨h1,h2⟩:=zQ1 ht
 have hx:∃ y,news[j]?=some y∧u=y.den ρ:=by
  simp only [zB8,List.getElem?_map,Option.map_eq_some_iff] at hu
  obtain ⟨y,hy,rfl⟩:=hu
  exact ⟨y,hy,rfl⟩
 obtain ⟨y,hy,rfl⟩:=hx
 have hjl:j < news.length:=(List.getElem?_eq_some_iff.1 hy).1
 have hjL:j < L:=by rw [h1,List.length_take] at hjl; omega
 rw [zI5,Nat.add_assoc]
 refine hw.hp.cellAt hwf hc ?_
 rw [h1,List.getElem?_take,if_pos hjL,List.getElem?_drop] at hy
 exact hy
theorem src_raw {b o m cp L:Nat} {news:List SC} (hr:C.rd b o L=some news):SrcOk C en (.v (.slice (some ⟨b,o,none⟩) m cp)) m news:=by
 intro ρ pr w hw _
 obtain ⟨vs,h1,rfl,h3⟩:=rd_ok hw.up b o L news hr
 refine ⟨_,cp,rfl,fun j u hu=>?_⟩
 rw [zI5]
 refine h3 j u ?_
 have e:zB8 ρ (vs.map qz)=vs:=by
  unfold zB8; rw [List.map_map]
  conv=>rhs; rw [← List.map_id vs]
  exact List.map_congr_left fun z _=>zK3 ρ z
 rw [e] at hu; exact hu
theorem onesS_den {ρ:Nat→RE} {l:List SC} (h:qu l=true):∀ u∈zB8 ρ l,u.oneCell'=true:=by
 intro u hu
 obtain ⟨x,hx,rfl⟩:=List.mem_map.1 hu
 exact one_of (onesS_mem h x hx)
inductive RowV (en:List EN) (e z n m:Nat) (cells:List SC):SC→Option Nat→Prop
 | none:n=0→cells=[]→RowV en e z n m cells (.v (.slice .none 0 0)) .none
 | zero {d:Nat}:n=0→cells=[]→0 < m→RowV en e z n m cells (.sl d 0 0 0) .none
 | some {d:Nat}:zD en d=.some (rwE e z n cells)→RowV en e z n m cells (.rw d n) (.some d)
 | lit {d:Nat}:cells.length=n * z→cells ≠ []→n≤maxLen→zD en d=.some ⟨(e,0,whole),cells,true⟩→RowV en e z n m cells (.sl d 0 n n) (.some d)
def zM2 (en:List EN):Option Nat→List EN
 | none=>en
 | some d=>match zD en d with
  | some e=>zE en d (zH4 e)
  | none=>en
theorem killE_len (en:List EN) (o:Option Nat):(zM2 en o).length=en.length:=by
 unfold zM2
 split
 ·rfl
 ·split
  ·exact setN_len _ _ _
  ·rfl
theorem run_append_zero {P:Program} (w:World) {t ty e:TypeId} {i:TypeInfo} {zv:Value} {z bts:Nat} (ht:P.underlying t=some (.slice e)) (hi:P.info? e=some i) (hz:i.zero=some zv) (hs:i.size=z) (hb:i.bytes=bts) (hzs:zv.cells.size=z)
  (b a:Addr) (m c:Nat) (news:List Value) (hl:news.length=m * z) (hnews:∀ (j:Nat) u,news[j]?=some u→w.cell? (a.add j)=some u) (hm:0 < m) (h63:m≤100000000000) (hbts:m * bts≤140737488355328) :
  ∃ v' w',(Builtin.append_ #[t,t] ty #[.slice (some b) 0 0,.slice (some a) m c]).run P w=.ok v' w'∧w'.ownsRow 0 e z v' (0+m) news∧w.grownBy w' none∧v'.ownBlock=some w.heap.size:=by
 subst hs; subst hb
 have hr:=run_append_grow (P:=P) w t ty e i zv ht hi hz b 0 0 [] (by simp) (fun j v h=>by simp at h) a m c news hl hnews (by omega) (by omega) (by rw [Nat.zero_add,nextslicecap_zero hm]; omega)
 have hge:=grownCap_ge w (0+m) 0 e
 have hcm:=grownCap_le_maxLen w (0+m) 0 e (by unfold maxLen; omega)
 refine ⟨_,_,hr,⟨by rw [hl,Nat.zero_add],.inr ⟨w.heap.size,_,_,rfl,Nat.zero_le _,heap_alloc_new w.drew _,hge,hcm,?_,?_⟩⟩,⟨rfl,rfl,rfl,by simp,fun k hk _=>Go.heap_alloc_old w.drew _ hk⟩,rfl⟩
 ·simp only [Array.size_append,List.size_toArray,List.length_nil,size_zeroCells,hzs,hl,Nat.zero_add] at hge ⊢
  rw [← Nat.add_mul]
  congr 1
  omega
 ·simp only [Array.toList_append,List.nil_append]
  rw [List.take_left' (by rw [hl,Nat.zero_add])]
theorem append_core {N:Nat} {mk:Nat→Prop} {en en':List EN} {e z n m:Nat} {X:SC} {cells news:List SC} {o:Option Nat} {ρ:Nat→RE} {pr:Nat→Prop} {w w':World} {vb:Option Nat} {v':Value}
  (he:e ≠ zC9) (hX:RowV en e z n m cells X o) (hwn:∀ pr,wfs pr news) (hn0:C.n0≤N) (hmk:∀ q,mk q ↔ q=N)
  (hNe:zD en' N=some (rwE e z (n+m) (cells++news))) (hq:∀ q,q ≠ N→zD en' q=zD (zM2 en o) q) (lN:¬ pr N) (hw:Hw C ρ pr en w) (x2:X.wf pr)
  (hblk:∀ g,vb=some g→∃ d iv,o=some d∧pr d∧zD en d=some ⟨(e,0,iv),cells,true⟩∧(ρ d).nl=none∧(ρ d).blk=g)
  (h2:w'.ownsRow 0 e z v' (n+m) (zB8 ρ (cells++news))) (h3:w.grownBy w' vb) (h5:v'.ownBlock=vb∨v'.ownBlock=some w.heap.size) :
  ∃ ρ',(SV.c (SC.rw N (n+m))).den ρ'=v'∧(∀ q,pr q→ρ' q=ρ q)∧Hw C ρ' (fun q=>pr q∨mk q) en' w':=by
 have ldX:∀ d,X=.rw d n→pr d:=fun d h=>by rw [h] at x2; exact x2
 obtain ⟨rr,hr1,hr2,hr3,hr4⟩:∃ rr:RE,v'=zL3 rr (n+m)∧rowP z (n+m) (cells++news).length rr∧(rr.nl=none→v'.ownBlock=some rr.blk∧rr.pre=[]∧w'.heap[rr.blk]?=some (.cells (rr.pre++zB8 ρ (cells++news)++rr.post).toArray e (0,0)))∧(rr.nl ≠ none→rr.blk=C.w0.heap.size):=by
  have hL:(cells++news).length=(n+m) * z:=by have:=h2.1; rwa [zD1] at this
  rcases h2.2 with ⟨e1,e2⟩ | ⟨g,cap,cur,e1,_,e3,e4,e5,e6,e7⟩
  ·exact ⟨⟨C.w0.heap.size,[],[],0,some none⟩,by rw [e1,e2]; rfl,⟨hL,.inr ⟨rfl,e2,rfl⟩⟩,(fun h=>by cases h),fun _=>rfl⟩
  ·refine ⟨⟨g,[],cur.toList.drop ((n+m) * z),cap,none⟩,by rw [e1]; rfl,⟨hL,.inl ⟨rfl,rfl,?_,e4,e5⟩⟩,(fun _=>⟨by rw [e1]; rfl,rfl,?_⟩),fun h=>absurd rfl h⟩
   ·show (cells++news).length+(cur.toList.drop ((n+m) * z)).length=cap * z
    rw [hL,List.length_drop,Array.length_toList,e6]
    have:(n+m) * z≤cap * z:=Nat.mul_le_mul_right _ e4
    omega
   ·rw [e3]
    congr 2
    apply Array.toList_inj.1
    rw [← e7]
    simp
 have hU:Upd (fun q=>some q=vb) w w':=⟨h3.os,h3.tape,h3.output,h3.size,fun q hq hnq=>h3.block q hq hnq⟩
 have hupN:zK7 ρ N rr N=rr:=if_pos rfl
 have hNo:∀ d,o=some d→∃ iv,zD en d=some ⟨(e,0,iv),cells,true⟩∧pr d∧zM2 en o=zE en d (zH4 ⟨(e,0,iv),cells,true⟩):=fun d h=>by
  subst h
  cases hX with
  | some h=>exact ⟨_,h,ldX _ rfl,by simp only [zM2,h]; rfl⟩
  | lit _ _ _ h=>exact ⟨_,h,x2,by simp only [zM2,h]⟩
 have hcw:wfs pr cells:=by
  cases hX with
  | none _ h2=>subst h2; exact fun y hy=>nomatch hy
  | zero _ h2 _=>subst h2; exact fun y hy=>nomatch hy
  | some hd'=>exact (hw.hp _ _ _ _ (ldX _ rfl) hd').wf
  | lit _ _ _ hd'=>exact (hw.hp _ _ _ _ x2 hd').wf
 obtain ⟨k1,k2⟩:=Hw.rebuild (C:=C) (ρ:=ρ) (pr:=pr) (en:=en) (en':=en') (w:=w) (w':=w') (N:=N) (e:=rwE e z (n+m) (cells++news)) (T:=fun q=>some q=vb) rr hw lN hn0 hU
  (fun q hq' hT=>by
   obtain ⟨d,iv,e1,e2,e3,e4,e5⟩:=hblk q hT.symm
   rcases hw.mu d _ _ e2 e3 with h | h
   ·rw [e5] at h; exact h
   ·rw [e5] at h; omega)
  (fun q hq'=>by
   have hqN:q ≠ N:=fun h=>lN (h ▸ hq')
   rw [hq q hqN]
   cases ho:o with
   | none =>
    refine .inl ⟨rfl,fun _ hT=>?_⟩
    obtain ⟨d,_,e1,_⟩:=hblk _ hT.symm
    rw [ho] at e1; cases e1
   | some d =>
    obtain ⟨iv,hd',ld,hkd⟩:=hNo d ho
    rw [← ho,hkd]
    by_cases hqd:q=d
    ·subst hqd
     exact .inr (.inl ⟨_,hd',by rw [nth_set hd']⟩)
    ·refine .inl ⟨zG8 hqd,fun hl hT=>?_⟩
     obtain ⟨d',_,e1,e2,e3,e4,e5⟩:=hblk _ hT.symm
     rw [ho] at e1; cases e1
     exact hqd (hw.inj q d hq' ld hl ((zA4 hd').2 ⟨he,e4⟩) e5.symm))
  hNe ⟨fun hl=>by
    have hnl:rr.nl=none:=by have:=hl.2; rwa [hupN] at this
    obtain ⟨_,_,hh⟩:=hr3 hnl
    rw [hupN,hh]
    congr 3
    congr 1
    congr 1
    exact (zI9 (pr:=pr) (by
     intro y hy
     rcases List.mem_append.1 hy with hy | hy
     ·exact hcw y hy
     ·exact hwn _ y hy) (fun q hq'=>if_neg (fun h:q=N=>lN (h ▸ hq')))).symm,
   (by
    intro y hy
    rcases List.mem_append.1 hy with hy | hy
    ·exact SC.wf_mono (hcw y hy) (fun _ h=>.inl h)
    ·exact hwn _ y hy),
   (fun hd=>absurd (show e=zC9 from hd) he),
   (fun hn=>by
    have hnl:rr.nl ≠ none:=by rwa [hupN] at hn
    obtain ⟨hL,h | ⟨_,h2,_⟩⟩:=hr2
    ·exact absurd h.1 hnl
    ·rw [h2,Nat.zero_mul] at hL
     exact List.eq_nil_of_length_eq_zero hL)⟩
  ⟨(by
    obtain ⟨_,h | h⟩:=hr2
    ·show rr.pre.length=0; rw [h.2.1]; rfl
    ·show rr.pre.length=0; rw [h.2.2]; rfl),hr2⟩
  (fun hnl q hq' hl hbq=>by
   have hqN:q ≠ N:=fun h=>lN (h ▸ hq')
   rw [hq q hqN] at hl
   obtain ⟨hvb,_,_⟩:=hr3 hnl
   have hlive:zG5 (ρ q) (zD en q)=false∧(∀ d,o=some d→q ≠ d):=by
    cases ho:o with
    | none=>rw [ho] at hl; exact ⟨hl,fun d h=>by cases h⟩
    | some d =>
     obtain ⟨iv,hd',ld,hkd⟩:=hNo d ho
     rw [hkd] at hl
     by_cases hqd:q=d
     ·subst hqd; rw [nth_set hd'] at hl; simp [zH4,zG5] at hl
     ·rw [zG8 hqd] at hl
      exact ⟨hl,fun d' h=>by cases h; exact hqd⟩
   rcases h5 with h5 | h5
   ·rw [hvb] at h5
    obtain ⟨d,_,e1,e2,e3,e4,e5⟩:=hblk _ h5.symm
    exact hlive.2 d e1 (hw.inj q d hq' e2 hlive.1 ((zA4 e3).2 ⟨he,e4⟩) (by rw [e5]; exact hbq))
   ·rw [hvb] at h5
    have:=hw.lt hq' hlive.1
    simp only [Option.some.injEq] at h5
    omega)
  (fun _=>by
   cases hnl:rr.nl with
   | some p=>exact .inr (by rw [hr4 (by rw [hnl]; simp)]; exact Nat.le_refl _)
   | none =>
    obtain ⟨hvb,_,_⟩:=hr3 hnl
    rcases h5 with h5 | h5
    ·rw [hvb] at h5
     obtain ⟨d,_,e1,e2,e3,e4,e5⟩:=hblk _ h5.symm
     rw [← e5]; exact hw.mu d _ _ e2 e3
    ·rw [hvb] at h5
     simp only [Option.some.injEq] at h5
     rw [h5]; exact .inr hw.up.size)
 have hsame:(fun q=>pr q∨mk q)=fun q=>pr q∨q=N:=funext fun q=>propext (or_congr_right (hmk q))
 rw [hsame]
 refine ⟨zK7 ρ N rr,?_,k1,k2⟩
 rw [hr1]
 show zL3 (zK7 ρ N rr N) (n+m)=zL3 rr (n+m)
 rw [hupN]
theorem append_happ {nE N:Nat} {mk:Nat→Prop} {en en':List EN} {t e z n m bts:Nat} {X Y:SC} {cells news:List SC} {o:Option Nat} {i:TypeInfo} {zv:Value}
  (ht:C.P.underlying t=some (.slice e)) (hi:C.P.info? e=some i) (hz:i.zero=some zv) (hs:i.size=z) (hb:i.bytes=bts) (hzs:zv.cells.size=z) (hz0:0 < z) (he:e ≠ zC9)
  (hX:RowV en e z n m cells X o) (hY:SrcOk C en Y m news) (hl:news.length=m * z) (hone:qu news=true) (hwn:∀ pr,wfs pr news)
  (hnm:n+m≤100000000000) (hbts:(n+m) * bts≤140737488355328) (hn0:C.n0≤N) (hmk:∀ q,mk q ↔ q=N)
  (hNe:zD en' N=some (rwE e z (n+m) (cells++news))) (hq:∀ q,q ≠ N→zD en' q=zD (zM2 en o) q) :
  HApp C nE mk en en' #[t,t] [.c X,.c Y] (.c (.rw N (n+m))):=by
 intro ρ pr w hpr hmn hw hex hwf ty
 have lN:¬ pr N:=hmn _ ((hmk _).2 rfl)
 have x2:X.wf pr:=hwf (.c X) (by simp)
 have y2:Y.wf pr:=hwf (.c Y) (by simp)
 obtain ⟨ad,cp,hyd,hcell⟩:=hY ρ pr w hw y2
 have hln:(zB8 ρ news).length=m * z:=by rw [zD1,hl]
 have ldX:∀ d,X=.rw d n→pr d:=fun d h=>by rw [h] at x2; exact x2
 obtain ⟨vb,hblk,v',w',h1,h2,h3,h5⟩:∃ vb:Option Nat,(∀ g,vb=some g→∃ d iv,o=some d∧pr d∧zD en d=some ⟨(e,0,iv),cells,true⟩∧(ρ d).nl=none∧(ρ d).blk=g)∧∃ v' w',(Builtin.append_ #[t,t] ty #[X.den ρ,.slice (some ad) m cp]).run C.P w=.ok v' w'∧w'.ownsRow 0 e z v' (n+m) (zB8 ρ cells++zB8 ρ news)∧w.grownBy w' vb∧(v'.ownBlock=vb∨v'.ownBlock=some w.heap.size):=by
  have own:∀ V,w.ownsRow 0 e z V n (zB8 ρ cells)→∃ v' w',(Builtin.append_ #[t,t] ty #[V,.slice (some ad) m cp]).run C.P w=.ok v' w'∧w'.ownsRow 0 e z v' (n+m) (zB8 ρ cells++zB8 ρ news)∧w.grownBy w' V.ownBlock∧(v'.ownBlock=V.ownBlock∨v'.ownBlock=some w.heap.size):=fun V hown=>by
   obtain ⟨v',w',h1,h2,h3,_,h5⟩:=run_append_own_at (P:=C.P) w 0 t ty e i zv z bts ht hi hz hs hb hzs hz0 V n _ hown ad m cp (zB8 ρ news) hln hcell (onesS_den hone) (by unfold maxLen; omega) hbts (Nat.zero_le _)
   exact ⟨v',w',h1,h2,h3,h5⟩
  cases hX with
  | none e1 e2 =>
   subst e1; subst e2
   obtain ⟨v',w',h1,h2,h3,h5⟩:=own (.slice none 0 0) (World.ownsRow_nil w 0 e z)
   exact ⟨none,(fun g h=>by cases h),v',w',h1,h2,h3,h5⟩
  | zero e1 e2 hm =>
   subst e1; subst e2
   obtain ⟨v',w',h1,h2,h3,h5⟩:=run_append_zero (P:=C.P) w (ty:=ty) ht hi hz hs hb hzs _ ad m cp (zB8 ρ news) hln hcell hm (by omega) (by rw [Nat.zero_add] at hbts; exact hbts)
   exact ⟨none,(fun g h=>by cases h),v',w',h1,by simpa [zB8] using h2,h3,.inr h5⟩
  | some hd' =>
   rename_i d
   have ld:pr d:=ldX d rfl
   have hP:=hw.hp d _ _ _ ld hd'
   obtain ⟨hL,h | ⟨h1,h2,_⟩⟩:=(hw.ho d _ _ _ ld hd').2
   ·obtain ⟨h1,h2,h3,h4,h5⟩:=h
    have hh:=hP.heap ⟨he,h1⟩
    have hown:w.ownsRow 0 e z (zL3 (ρ d) n) n (zB8 ρ cells):=by
     refine ⟨by rw [zD1,hL],.inr ⟨(ρ d).blk,(ρ d).cap,_,zI3 h1 n,Nat.zero_le _,hh,h4,h5,?_,?_⟩⟩
     ·simp [h2,zD1]; exact h3
     ·rw [h2]; simp only [List.nil_append]
      rw [List.take_append_of_le_length (by rw [zD1,hL]; exact Nat.le_refl _),List.take_of_length_le (by rw [zD1,hL]; exact Nat.le_refl _)]
    obtain ⟨v',w',g1,g2,g3,g5⟩:=own _ hown
    have hob:(zL3 (ρ d) n).ownBlock=some (ρ d).blk:=by rw [zI3 h1]; rfl
    rw [hob] at g3 g5
    exact ⟨some (ρ d).blk,(fun g hg=>⟨d,_,rfl,ld,hd',h1,Option.some.inj hg⟩),v',w',g1,g2,g3,g5⟩
   ·subst h2
    have hc:cells=[]:=List.eq_nil_of_length_eq_zero (by rw [hL]; simp)
    subst hc
    obtain ⟨v',w',g1,g2,g3,g5⟩:=own (.slice none 0 0) (World.ownsRow_nil w 0 e z)
    have hvd:(SC.rw d 0).den ρ=.slice none 0 0:=by show zL3 (ρ d) 0=_; rw [zF1 h1]
    rw [hvd]
    exact ⟨none,(fun g h=>by cases h),v',w',g1,g2,g3,g5⟩
  | lit hcl hcn hnx hd' =>
   rename_i d
   have ld:pr d:=x2
   have hP:=hw.hp d _ _ _ ld hd'
   have hnl:(ρ d).nl=none:=Decidable.byContradiction fun h=>hcn (hP.non h)
   obtain ⟨_,h1,h2⟩:=hw.ho d _ _ _ ld hd'
   have hh:=hP.heap ⟨he,hnl⟩
   rw [h1,h2] at hh
   have hvd:(SC.sl d 0 n n).den ρ=.slice (some ⟨(ρ d).blk,0,none⟩) n n:=by simp only [SC.den,h1]; rfl
   have hown:w.ownsRow 0 e z (.slice (some ⟨(ρ d).blk,0,none⟩) n n) n (zB8 ρ cells):=by
    refine ⟨by rw [zD1,hcl],.inr ⟨(ρ d).blk,n,_,rfl,Nat.zero_le _,hh,Nat.le_refl _,hnx,?_,?_⟩⟩
    ·simp [zD1,hcl]
    ·simp only [List.nil_append,List.append_nil]
     rw [List.take_of_length_le (by rw [zD1,hcl]; exact Nat.le_refl _)]
   obtain ⟨v',w',g1,g2,g3,g5⟩:=own _ hown
   rw [hvd]
   exact ⟨some (ρ d).blk,(fun g hg=>⟨d,_,rfl,ld,hd',hnl,Option.some.inj hg⟩),v',w',g1,g2,g3,g5⟩
 have hcat:zB8 ρ cells++zB8 ρ news=zB8 ρ (cells++news):=by simp [zB8]
 rw [hcat] at h2
 obtain ⟨ρ',e0,k1,k2⟩:=append_core (C:=C) he hX hwn hn0 hmk hNe hq lN hw x2 hblk h2 h3 h5
 refine ⟨ρ',w',?_,k1,.inr ((hmk N).2 rfl),k2⟩
 rw [e0]
 have eX:(SV.c X).den ρ=X.den ρ:=rfl
 have eY:(SV.c Y).den ρ=.slice (some ad) m cp:=hyd
 simp only [List.map_cons,List.map_nil,eX,eY]
 exact h1
def hap (o:Option Nat) (e z n:Nat) (cells:List SC):HF:=fun en=>(.c (.rw (zG en) n),zF (zM2 en o) (rwE e z n cells))
theorem zH9 {x y:Operand} {t e z n m bts:Nat} {X Y:SC} {cells news:List SC} {o:Option Nat} {i:TypeInfo} {zv:Value}
  (ht:C.P.underlying t=some (.slice e)) (hi:C.P.info? e=some i) (hz:i.zero=some zv) (hs:i.size=z) (hb:i.bytes=bts) (hzs:zv.cells.size=z) (hz0:0 < z) (he:e ≠ zC9)
  (hX:RowV en e z n m cells X o) (hx:ev sl x=some (.c X)) (hy:ev sl y=some (.c Y)) (hY:SrcOk C en Y m news) (hl:news.length=m * z) (hone:qu news=true) (hwn:∀ pr,wfs pr news)
  (hnm:n+m≤100000000000) (hbts:(n+m) * bts≤140737488355328) (hn0:C.n0≤en.length)
  (hg:gdT all sl gd=true) (hd:∀ d,dst=some d→d < nt)
  (hK:Run C (.ops all r :: k) nt (jN dst (.c (.rw (zG en) (n+m))) sl) (zF (zM2 en o) (rwE e z (n+m) (cells++news)))) :
  Run C (.ops all (⟨dst,.call ⟨.builtin .append,#[x,y],#[t,t]⟩,ty,pos,af,gd⟩ :: r) :: k) nt sl en:=by
 have hle:(zF (zM2 en o) (rwE e z (n+m) (cells++news))).length=en.length+1:=by rw [zF2]; simp [killE_len]
 refine Run_hop _ _ hg (by rw [hle]; omega) ?_ hd hK
 intro ρ a w hr
 obtain ⟨x1,x2⟩:=hr.ev_ok _ _ hx
 obtain ⟨y1,y2⟩:=hr.ev_ok _ _ hy
 have hA:=append_happ (C:=C) (nE:=0) (N:=en.length) (mk:=fun q=>q=en.length) (en:=en) (en':=zF (zM2 en o) (rwE e z (n+m) (cells++news))) ht hi hz hs hb hzs hz0 he hX hY hl hone hwn hnm hbts hn0 (fun _=>Iff.rfl)
  (by have:=zQ4 (en:=zM2 en o) (e:=rwE e z (n+m) (cells++news)); rwa [zC8,killE_len] at this)
  (fun q hq=>zH7 (by rw [zC8,killE_len]; exact hq))
 obtain ⟨ρ',w',h1,h2,h3,h4⟩:=hA ρ (· < en.length) w (fun c hc=>absurd hc (Nat.not_lt_zero _)) (fun c hc hp=>by rw [hc] at hp; exact Nat.lt_irrefl _ hp) hr.hw (fun c hc=>by rw [zA3,List.getElem?_eq_getElem hc]; simp)
  (fun q hq=>by simp only [List.mem_cons,List.not_mem_nil,or_false] at hq; rcases hq with rfl | rfl <;> first | exact x2 | exact y2) ty
 refine ⟨ρ',w',?_,h2,?_,h4.iff (fun q=>by rw [hle]; omega)⟩
 ·simp only [List.map_cons,List.map_nil,← x1,← y1] at h1
  rw [zC8]
  simp [execOp,resolve,invoke,builtin,h1]
 ·show zG en < _
  rw [zC8,hle]; omega
end
end Go.Proofs.YtcbmlanpianclaaGreatDoor
/- A walk through decided branches, which stops at open ones; lean where many guards stand in a row. -/
namespace Go.Proofs.YtcbmlanpianclaaGreatDoor
set_option linter.unusedSimpArgs false
set_option linter.unusedVariables false
open Go.RowKit
def VT (C:Cx) (ctr:Ctr) (rs:List ResultVar):Bool→Nat→List KI→Nat→List (Nat × SV)→List EN→Prop
 | false,_,k,nt,sl,en=>Run C k nt sl en
 | true,0,k,nt,sl,en=>Run C k nt sl en
 | true,_+1,[],nt,sl,en=>Run C [] nt sl en
 | true,n+1,.blk _ :: k,nt,sl,en=>VT C ctr rs true n k nt sl en
 | true,n+1,.ops _ [] :: k,nt,sl,en=>VT C ctr rs true n k nt (zJ C.kp sl) en
 | true,n+1,.ops all (⟨dst,op,ty,pos,af,none⟩ :: r) :: k,nt,sl,en =>
  qH C.P C.rd ctr nt (VT C ctr rs true n (.ops all r :: k) nt) (Run C (.ops all (⟨dst,op,ty,pos,af,none⟩ :: r) :: k) nt sl en) dst sl en op
 | true,n+1,.ops all (⟨dst,op,ty,pos,af,some (j,b)⟩ :: r) :: k,nt,sl,en =>
  match zD all j with
  | some ⟨some d,_,_,_,_,_⟩=>match qy sl d with
   | some (.c (.b x))=>match x,b with
    | true,true=>opG (x || !x) C.P C.rd ctr nt (VT C ctr rs (x || !x) n (.ops all r :: k) nt) (Run C (.ops all (⟨dst,op,ty,pos,af,some (j,b)⟩ :: r) :: k) nt sl en) dst sl en op
    | false,false=>opG (x || !x) C.P C.rd ctr nt (VT C ctr rs (x || !x) n (.ops all r :: k) nt) (Run C (.ops all (⟨dst,op,ty,pos,af,some (j,b)⟩ :: r) :: k) nt sl en) dst sl en op
    | true,false=>putG (x || !x) nt (VT C ctr rs (x || !x) n (.ops all r :: k) nt) (Run C (.ops all (⟨dst,op,ty,pos,af,some (j,b)⟩ :: r) :: k) nt sl en) dst (.c .u) sl en
    | false,true=>putG (x || !x) nt (VT C ctr rs (x || !x) n (.ops all r :: k) nt) (Run C (.ops all (⟨dst,op,ty,pos,af,some (j,b)⟩ :: r) :: k) nt sl en) dst (.c .u) sl en
   | some (.c .u)=>qI nt (VT C ctr rs true n (.ops all r :: k) nt) (Run C (.ops all (⟨dst,op,ty,pos,af,some (j,b)⟩ :: r) :: k) nt sl en) dst (.c .u) sl en
   | _=>Run C (.ops all (⟨dst,op,ty,pos,af,some (j,b)⟩ :: r) :: k) nt sl en
  | _=>Run C (.ops all (⟨dst,op,ty,pos,af,some (j,b)⟩ :: r) :: k) nt sl en
 | true,n+1,.code .skip :: k,nt,sl,en=>VT C ctr rs true n k nt sl en
 | true,n+1,.code (.seq a b) :: k,nt,sl,en=>VT C ctr rs true n (.code a :: .code b :: k) nt sl en
 | true,n+1,.code (.block id c) :: k,nt,sl,en=>VT C ctr rs true n (.code c :: .blk id :: k) nt sl en
 | true,n+1,.code (.exit id) :: k,nt,sl,en=>match zH id k with
  | some k'=>VT C ctr rs true n k' nt sl en
  | none=>Run C (.code (.exit id) :: k) nt sl en
 | true,n+1,.code (.cond c a b) :: k,nt,sl,en=>match ev sl c with
  | some (.c (.b x))=>match x with
   | true=>VT C ctr rs (x || !x) n (.code a :: k) nt sl en
   | false=>VT C ctr rs (x || !x) n (.code b :: k) nt sl en
  | _=>Run C (.code (.cond c a b) :: k) nt sl en
 | true,n+1,.code (.region _ ops false) :: k,nt,sl,en=>VT C ctr rs true n (.ops ops.toList ops.toList :: k) nt sl en
 | true,_+1,.code .ret :: k,nt,sl,en=>match qE C.P sl en rs with
  | some l=>Fin C rs (qG l) en
  | none=>Run C (.code .ret :: k) nt sl en
 | true,_+1,k,nt,sl,en=>Run C k nt sl en
section
variable {C:Cx} {ρ:Nat→RE} {nt:Nat} {sl:List (Nat × SV)} {en:List EN} {a:Act} {w:World}
variable {K:Act→World→Prop} {Q:Exit→Act→World→Prop}
theorem zA0 {ctr:Ctr} (hctr:zC1 C ctr) {rs:List ResultVar}:∀ (go:Bool) (n:Nat) (k:List KI) (sl:List (Nat × SV)) (en:List EN),VT C ctr rs go n k nt sl en→Run C k nt sl en
 | false,_,k,sl,en,h=>by simpa only [VT] using h
 | true,0,k,sl,en,h=>h
 | true,n+1,[],sl,en,h=>h
 | true,n+1,.blk id :: k,sl,en,h=>fun ρ a w hr=>zA0 hctr true n k sl en h ρ a w hr
 | true,n+1,.ops all [] :: k,sl,en,h=>fun ρ a w hr=>zA0 hctr true n k _ en h ρ a w (hr.trim _)
 | true,n+1,.ops all (⟨dst,op,ty,pos,af,none⟩ :: r) :: k,sl,en,h=>fun ρ a w hr=>by
  rcases opK_ok hctr (o:=⟨dst,op,ty,pos,af,none⟩) (K:=wpList C.P all.toArray (KQ C k) r) (Q:=KQ C k) h hr (fun sl' en' ρ' a' w' hk hr'=>zA0 hctr true n _ sl' en' hk ρ' a' w' hr') with hst | hwp
  ·exact hst ρ a w hr
  ·rw [zN0]
   unfold wpList
   rw [if_pos (by simp [Region.wanted])]
   exact .inl hwp
 | true,n+1,.ops all (⟨dst,op,ty,pos,af,some (j,b)⟩ :: r) :: k,sl,en,h=>fun ρ a w hr=>by
  have skip:∀ sl',Rep C ρ nt sl' en a w→Region.wanted ⟨dst,op,ty,pos,af,some (j,b)⟩ (yielded all.toArray a.tmps)=false →
    qI nt (VT C ctr rs true n (.ops all r :: k) nt) (Run C (.ops all (⟨dst,op,ty,pos,af,some (j,b)⟩ :: r) :: k) nt sl en) dst (.c .u) sl' en→KQ C (.ops all (⟨dst,op,ty,pos,af,some (j,b)⟩ :: r) :: k) .normal a w:=by
   intro sl' hr' hw hp
   rcases zV1 hp hr' (v:=.c .u) trivial with hst | ⟨sl'',hk,hr''⟩
   ·exact hst ρ a w hr
   ·rw [zN0]
    unfold wpList
    rw [if_neg (by rw [hw]; simp)]
    exact zA0 hctr true n _ sl'' en hk ρ _ w hr''
  simp only [VT] at h
  split at h <;> try exact h ρ a w hr
  rename_i d _ _ _ _ _ hj
  rw [zA3] at hj
  have hy:∀ v,a.tmps[d]?=some v→yielded all.toArray a.tmps j=(match v with | .bool b=>some b | _=>none):=by
   intro v hv
   simp only [yielded,List.getElem?_toArray,hj,Option.bind_some,hv]
   cases v <;> rfl
  split at h <;> try exact h ρ a w hr
  ·rename_i x hx
   have h1:=(hr.tm d _ hx).1
   have h2:=hy _ h1
   have go:∀ (hxb:x=b),qH C.P C.rd ctr nt (VT C ctr rs true n (.ops all r :: k) nt) (Run C (.ops all (⟨dst,op,ty,pos,af,some (j,b)⟩ :: r) :: k) nt sl en) dst sl en op→KQ C (.ops all (⟨dst,op,ty,pos,af,some (j,b)⟩ :: r) :: k) .normal a w:=by
    intro hxb ha
    subst hxb
    rcases opK_ok hctr (o:=⟨dst,op,ty,pos,af,some (j,x)⟩) (K:=wpList C.P all.toArray (KQ C k) r) (Q:=KQ C k) ha hr (fun sl' en' ρ' a' w' hk hr'=>zA0 hctr true n _ sl' en' hk ρ' a' w' hr') with hst | hwp
    ·exact hst ρ a w hr
    ·rw [zN0]
     unfold wpList
     rw [if_pos (by simp [Region.wanted,h2,SV.den,SC.den])]
     exact .inl hwp
   have no:∀ (hxb:x ≠ b),qI nt (VT C ctr rs true n (.ops all r :: k) nt) (Run C (.ops all (⟨dst,op,ty,pos,af,some (j,b)⟩ :: r) :: k) nt sl en) dst (.c .u) sl en→KQ C (.ops all (⟨dst,op,ty,pos,af,some (j,b)⟩ :: r) :: k) .normal a w:=by
    intro hxb hb
    refine skip _ hr ?_ hb
    simp [Region.wanted,h2,SV.den,SC.den]
    exact fun e=>hxb e
   cases x <;> cases b <;> simp only [Bool.not_true,Bool.not_false,Bool.or_true,Bool.or_false,opG,putG] at h
   ·exact go rfl h
   ·exact no (by decide) h
   ·exact no (by decide) h
   ·exact go rfl h
  ·rename_i hx
   have h1:=(hr.tm d _ hx).1
   have h2:=hy _ h1
   refine skip _ hr ?_ h
   simp [Region.wanted,h2,SV.den,SC.den,undef]
 | true,n+1,.code .skip :: k,sl,en,h=>fun ρ a w hr=>wp_skip (zA0 hctr true n k sl en h ρ a w hr)
 | true,n+1,.code (.seq x y) :: k,sl,en,h=>fun ρ a w hr=>wp_seq (zA0 hctr true n (.code x :: .code y :: k) sl en h ρ a w hr)
 | true,n+1,.code (.block id c) :: k,sl,en,h=>fun ρ a w hr=>wp_block (zA0 hctr true n (.code c :: .blk id :: k) sl en h ρ a w hr)
 | true,n+1,.code (.exit id) :: k,sl,en,h=>fun ρ a w hr=>by
  simp only [VT] at h
  split at h
  ·rename_i k' hk
   exact wp_exit (unw_ok hk a w (zA0 hctr true n k' sl en h ρ a w hr))
  ·exact h ρ a w hr
 | true,n+1,.code (.cond c x y) :: k,sl,en,h=>fun ρ a w hr=>by
  simp only [VT] at h
  split at h <;> try exact h ρ a w hr
  rename_i t ht
  obtain ⟨e1,_⟩:=hr.ev_ok _ _ ht
  refine wp_cond (t:=t) e1 ?_
  cases t with
  | true=>exact zA0 hctr true n (.code x :: k) sl en h ρ a w hr
  | false=>exact zA0 hctr true n (.code y :: k) sl en h ρ a w hr
 | true,n+1,.code (.region id ops draw) :: k,sl,en,h=>fun ρ a w hr=>by
  cases draw with
  | true=>exact h ρ a w hr
  | false=>exact wp_region_list (zA0 hctr true n (.ops ops.toList ops.toList :: k) sl en h ρ a w hr)
 | true,n+1,.code (.loop c) :: k,sl,en,h=>h
 | true,n+1,.code (.rangeFunc _ _ _ _) :: k,sl,en,h=>h
 | true,n+1,.code (.scope _) :: k,sl,en,h=>h
 | true,n+1,.code (.label _) :: k,sl,en,h=>h
 | true,n+1,.code (.goto _) :: k,sl,en,h=>h
 | true,n+1,.code .ret :: k,sl,en,h=>fun ρ a w hr=>by
  simp only [VT] at h
  split at h
  ·rename_i l hl
   refine wp_ret (KQ_ret k a w (h ρ a w hr.hw hr.n0 ?_ hr.df fun fn hfn=>?_))
   ·exact resV_wf (hr.res _ _ hl).2
   ·subst hfn; exact (hr.resOk hl).1
  ·exact h ρ a w hr
 | true,n+1,.code (.refuse _) :: k,sl,en,h=>h
theorem jf (b:Bool):(true || b)=true:=rfl
theorem jg (b:Bool):(false || b)=b:=rfl
end
end Go.Proofs.YtcbmlanpianclaaGreatDoor
/- A walk that comes to a panic: an operation that panics, a call that does. -/
namespace Go.Proofs.YtcbmlanpianclaaGreatDoor
set_option linter.unusedSimpArgs false
set_option linter.unusedVariables false
open Go.RowKit
section
variable {C:Cx} {nt:Nat} {sl:List (Nat × SV)} {en:List EN} {k:List KI}
variable {dst:Option Nat} {op:Op} {ty:TypeId} {pos:String} {af:Array Edge} {all r:List Oper} {gd:Option (Nat × Bool)}
def Pan (C:Cx) (ch:List PanicEntry) (en:List EN):Prop:=∀ ρ a w,Hw C ρ (· < en.length) en w→C.n0≤en.length→a.defers=C.df→C.Q (.panic ch) a w
theorem Pan_of {P:Program} {fn:Func} {R:Ending→World→Prop} {S:Nat→Prop} {w0:World} {ρ0:Nat→RE} {n0:Nat} {kp:List Nat} {ch:List PanicEntry} (hC:C=zL P fn R S w0 ρ0 n0 kp)
  (h:∀ ρ w,Hw C ρ (· < en.length) en w→C.n0≤en.length→R (.panicked ch) w):Pan C ch en:=by
 intro ρ a w hw hn hd
 have:=h ρ w hw hn
 subst hC
 exact ⟨hd,this⟩
theorem zC3 {P:Program} {fn:Func} {R:Ending→World→Prop} {S:Nat→Prop} {w0:World} {ρ0:Nat→RE} {n0:Nat} {kp:List Nat} (hC:C=zL P fn R S w0 ρ0 n0 kp) {rs:List ResultVar} (hrs:fn.results.toList=rs) {v:SV}
  (h:∀ ρ w,Hw C ρ (· < en.length) en w→C.n0≤en.length→v.wf (· < en.length)→R (.returned (v.den ρ)) w):Fin C rs v en:=
 zR5 (P:=P) (R:=R) (by rw [hC]; exact ctx_of) hrs h
theorem q_pan {P:Program} {fn:Func} {R:Ending→World→Prop} {S:Nat→Prop} {w0:World} {ρ0:Nat→RE} {n0:Nat} {kp:List Nat} {ch:List PanicEntry} (hC:C=zL P fn R S w0 ρ0 n0 kp) {w':World} (h:R (.panicked ch) w') (a:Act) (ha:a.defers=C.df):C.Q (.panic ch) a w':=by
 subst hC; exact ⟨ha,h⟩
theorem Run_panic {x:Operand} {t:TypeId} {u:Value} (hx:ev sl x=some (.c (.v (.iface t u)))) (h:Pan C [{ v:=.iface t u,recovered:=false }] en):Run C (.ops all (⟨dst,.panic x,ty,pos,af,none⟩ :: r) :: k) nt sl en:=by
 intro ρ a w hr
 rw [zN0]
 unfold wpList
 rw [if_pos (by simp [Region.wanted])]
 left
 unfold Oper.wp
 obtain ⟨e1,_⟩:=hr.ev_ok _ _ hx
 have he:(execOp a.eval ⟨dst,.panic x,ty,pos,af,none⟩).run C.P w=.halt (.panic (.iface t u)) w:=by
  simp [execOp,e1,SV.den,SC.den,run_panic_iface]
 rw [he]
 exact zQ7 _ _ _ _ (h ρ a w hr.hw hr.n0 hr.df)
theorem zT3 {f:FuncId} {args:Array Operand} {tys:Array TypeId} {xs:List SV} (hxs:qw sl args.toList=some xs) (hg:gdT all sl gd=true) (hent:∀ args w,(callFunc f args).run C.P w=.ok (.enter f args) w) (ch:List PanicEntry)
  (hc:∀ ρ w,Hw C ρ (· < en.length) en w→C.n0≤en.length→(∀ x∈xs,x.wf (· < en.length))→Calls C.P f (xs.map (SV.den ρ)).toArray w fun e w'=>e=.panicked ch∧∀ a:Act,a.defers=C.df→C.Q (.panic ch) a w') :
  Run C (.ops all (⟨dst,.call ⟨.value (.func f),args,tys⟩,ty,pos,af,gd⟩ :: r) :: k) nt sl en:=by
 intro ρ a w hr
 obtain ⟨g1,g2⟩:=hr.evs_ok _ _ hxs
 have hargs:args.map a.eval=(xs.map (SV.den ρ)).toArray:=by apply Array.toList_inj.1; simpa using g1
 rw [zN0]
 unfold wpList
 rw [if_pos (gd_wanted hr hg)]
 left
 unfold Oper.wp
 have hx':(execOp a.eval ⟨dst,.call ⟨.value (.func f),args,tys⟩,ty,pos,af,gd⟩).run C.P w=.ok (.enter f (xs.map (SV.den ρ)).toArray) w:=by
  simp [execOp,resolve,Act.eval,Deferred.ofValue,invoke,hargs,hent]
 rw [hx']
 simp only [Oper.upon]
 refine (hc ρ w hr.hw hr.n0 g2).mono ?_
 rintro e w' ⟨rfl,hq⟩
 exact zQ7 _ _ _ _ (hq a hr.df)
theorem zD6 {ι:Type} {c:Code} {k:List KI} (slF:ι→List (Nat × SV)) (enF:ι→List EN) (μ:ι→Nat) (x0:ι) (h0:sub (slF x0) sl) (he0:enF x0=en)
  (round:∀ (x:ι) (D:Cx),D.P=C.P→D.S=C.S→D.w0=C.w0→D.n0=C.n0→D.ρ0=C.ρ0→D.kp=C.kp→D.df=C.df→(∀ ch a w,C.Q (.panic ch) a w→D.Q (.panic ch) a w)→(∀ a w,C.Q .ret a w→D.Q .ret a w) →
   (∀ {id:Nat} {k' kk:List KI} {s:List (Nat × SV)} {e:List EN},zH id kk=none→zH id k=some k'→Run C k' nt s e→Run D (.code (.exit id) :: kk) nt s e) →
   (∀ y s,μ y < μ x→sub (slF y) s→Run D [] nt s (enF y))→Run D [.code c] nt (slF x) (enF x)):Run C (.code (.loop c) :: k) nt sl en:=
 Run_loop slF enF μ x0 h0 he0 fun x J hJ=>round x (lpC C k J) rfl rfl rfl rfl rfl rfl rfl (fun ch a w h=>zQ7 k ch a w h) (fun a w h=>KQ_ret k a w h) (fun h1 h2 h3=>Run_lpExit h1 h2 h3) hJ
theorem zQ6 {P:Program} {fn:Func} {R:Ending→World→Prop} {S:Nat→Prop} {w0:World} {ρ0:Nat→RE} {n0:Nat} {kp:List Nat} (hC:C=zL P fn R S w0 ρ0 n0 kp) (hrs:fn.results.toList=[])
  (h:∀ ρ w,Hw C ρ (· < en.length) en w→C.n0≤en.length→R (.returned (.tuple #[])) w):Run C [] nt sl en:=by
 intro ρ a w hr
 have:=h ρ w hr.hw hr.n0
 subst hC
 exact ⟨hr.df,_,results_none (by apply Array.toList_inj.1; rw [hrs]) _ _ _,this⟩
end
end Go.Proofs.YtcbmlanpianclaaGreatDoor
/- Plain laws on decimal texts, the second part: a number's text says it; texts are ordered as numbers are. No program in sight. -/
namespace Go.Proofs.YtcbmlanpianclaaGreatDoor
set_option linter.unusedSimpArgs false
set_option linter.unusedVariables false
open Go.Lib
theorem valFrom_lt:∀ (l:List UInt8) (a:Nat),zJ4 l=true→zK2 a l < (a+1) * 10 ^ l.length:=by
 intro l
 induction l with
 | nil=>intro a _; show a < (a+1) * 1; omega
 | cons c l ih =>
  intro a hd
  simp only [zJ4,List.all_cons,Bool.and_eq_true] at hd
  obtain ⟨hc,hl⟩:=hd
  simp only [dgt,Bool.and_eq_true,decide_eq_true_eq] at hc
  rw [zR8,List.length_cons,Nat.pow_succ]
  have h1:=ih (10 * a+(c.toNat - 48)) hl
  have h2:(10 * a+(c.toNat - 48)+1) * 10 ^ l.length≤(10 * (a+1)) * 10 ^ l.length:=Nat.mul_le_mul (by omega) (Nat.le_refl _)
  have h3:(10 * (a+1)) * 10 ^ l.length=(a+1) * (10 ^ l.length * 10):=by rw [Nat.mul_comm 10 (a+1),Nat.mul_assoc,Nat.mul_comm 10]
  omega
end Go.Proofs.YtcbmlanpianclaaGreatDoor
/- The model's plain functions: what Apply computes of a state and a command. No program in sight. -/
namespace Go.Proofs.YtcbmlanpianclaaGreatDoor
set_option linter.unusedSimpArgs false
set_option linter.unusedVariables false
open Go.Lib
structure It where
 key:List UInt8
 flags:Int
 val:List UInt8
 exp:Int
 cas:Int
 last:Int
 stale:Bool
 won:Bool
structure St where
 items:List It
 cas:Int
 flush:Int
structure Cd where
 op:Int
 mode:Int
 key:List UInt8
 val:List UInt8
 flags:Int
 exp:Int
 hasExp:Bool
 cas:Int
 hasCas:Bool
 delta:Int
 init:Int
 down:Bool
 viv:Bool
 vive:Int
 recache:Int
 inval:Bool
structure An where
 st:Int
 it:It
 num:Int
 w:Bool
 x:Bool
 z:Bool
def It.zero:It:=⟨[],0,[],0,0,0,false,false⟩
def St.zero:St:=⟨[],0,0⟩
def An.zero:An:=⟨0,It.zero,0,false,false,false⟩
def zG3 (k:List UInt8):Bool:=!k.isEmpty && (k.all fun c=>decide (32 < c.toNat) && decide (c.toNat ≠ 127)) && decide (k.length≤250)
def nearB (n:Int):Bool:=decide (-1099511627776≤n) && decide (n≤1099511627776)
end Go.Proofs.YtcbmlanpianclaaGreatDoor
/- Plain laws on texts of numbers with a sign. No program in sight. -/
namespace Go.Proofs.YtcbmlanpianclaaGreatDoor
set_option linter.unusedSimpArgs false
set_option linter.unusedVariables false
open Go.Lib
def zT0:List UInt8→Bool | c :: _=>c == 45 | []=>false
def zH6 (l:List UInt8):List UInt8:=if zT0 l then l.drop 1 else l
def zC5 (l:List UInt8):Option Int:=
 if zH6 l ≠ []∧(zH6 l).length≤19∧zJ4 (zH6 l)=true∧(zG6 (zH6 l) < 9223372036854775808∨zT0 l=true∧zG6 (zH6 l)=9223372036854775808)
 then some (if zT0 l then -(zG6 (zH6 l):Int) else (zG6 (zH6 l):Int)) else none
theorem isNeg_cons {l:List UInt8} (h:zT0 l=true):∃ r,l=45 :: r:=by
 cases l with
 | nil=>cases h
 | cons c r=>exact ⟨r,by unfold zT0 at h; rw [beq_iff_eq.1 h]⟩
theorem trimDash (l:List UInt8):trimPrefix l [45]=zH6 l:=by
 unfold trimPrefix hasPrefix zH6 zT0
 cases l with
 | nil=>rfl
 | cons c r =>
  by_cases h:c=45
  ·subst h; rfl
  ·have h1:(c == 45)=false:=by simpa using h
   have h2:([45]:List UInt8).isPrefixOf (c :: r)=false:=by
    have:((45:UInt8) == c)=false:=by simpa using fun e=>h e.symm
    simp [List.isPrefixOf,this]
   rw [h2]
   show _=if (c == 45)=true then _ else _
   rw [h1]; rfl
theorem pow19:∀ k,k≤19→10 ^ k≤10000000000000000000:=fun k hk=>by
 have:=Nat.pow_le_pow_right (n:=10) (by omega) hk
 exact this
theorem val19 (l:List UInt8) (h:l.length≤19) (hd:zJ4 l=true):zG6 l < 10000000000000000000:=by
 have h1:=valFrom_lt l 0 hd
 have h2:=pow19 l.length h
 unfold zG6; omega
theorem parseIntB_dgts (l:List UInt8) (h0:zH6 l ≠ []) (h1:(zH6 l).length≤19) (h2:zJ4 (zH6 l)=true) :
  (∃ v,zC5 l=some v∧parseIntB 64 l=.ok v)∨(zC5 l=none∧parseIntB 64 l=.range):=by
 have hv:=val19 _ h1 h2
 have hp:parseUintB 64 (zH6 l)=.ok (zG6 (zH6 l)):=by
  rcases zS6 (zH6 l) h0 h2 with ⟨_,e⟩ | ⟨h,_⟩
  ·exact e
  ·omega
 by_cases hn:zT0 l=true
 ·obtain ⟨r,rfl⟩:=isNeg_cons hn
  have er:zH6 (45 :: r)=r:=rfl
  rw [er] at h0 h1 h2 hv hp
  rw [parseIntB_minus,hp]
  unfold signedC zC5
  rw [er,if_pos (show zT0 (45 :: r)=true from rfl)]
  by_cases hc:2 ^ (64 - 1) < zG6 r
  ·exact .inr ⟨if_neg (fun ⟨_,_,_,h⟩=>by omega),if_pos hc⟩
  ·exact .inl ⟨_,if_pos ⟨h0,h1,h2,by rcases Nat.lt_or_ge (zG6 r) 9223372036854775808 with h | h; exact .inl h; exact .inr ⟨rfl,by omega⟩⟩,if_neg hc⟩
 ·have hn':zT0 l=false:=by simpa using hn
  have er:zH6 l=l:=by unfold zH6; rw [if_neg hn]
  rw [er] at h0 h1 h2 hv hp
  cases l with
  | nil=>exact absurd rfl h0
  | cons c r =>
   have hc:dgt c=true:=by simp only [zJ4,List.all_cons,Bool.and_eq_true] at h2; exact h2.1
   simp only [dgt,Bool.and_eq_true,decide_eq_true_eq] at hc
   rw [parseIntB_plain 64 c r (by omega) (by omega),hp]
   unfold signlessC zC5
   rw [er,if_neg hn]
   by_cases hk:2 ^ (64 - 1)≤zG6 (c :: r)
   ·exact .inr ⟨if_neg (fun ⟨_,_,_,h⟩=>by rcases h with h | ⟨h,_⟩; omega; exact hn h),if_pos hk⟩
   ·exact .inl ⟨_,if_pos ⟨h0,h1,h2,.inl (by omega)⟩,if_neg hk⟩
end Go.Proofs.YtcbmlanpianclaaGreatDoor
/- Plain laws on a line's words. No program in sight. -/
namespace Go.Proofs.YtcbmlanpianclaaGreatDoor
set_option linter.unusedSimpArgs false
set_option linter.unusedVariables false
open Go.Lib
def wordsF:Nat→List UInt8→List (List UInt8)
 | 0,_=>[]
 | k+1,l=>if l.dropWhile (· == 32)=[] then [] else (l.dropWhile (· == 32)).takeWhile (· != 32) :: wordsF k (((l.dropWhile (· == 32)).dropWhile (· != 32)).drop 1)
end Go.Proofs.YtcbmlanpianclaaGreatDoor
/- What text.Parse and text.Reply compute. No program in sight. Printed by gen_textf.py. -/
namespace Go.Proofs.YtcbmlanpianclaaGreatDoor
set_option linter.unusedSimpArgs false
set_option linter.unusedVariables false
open Go.Lib
structure Rq where
 kind:Int
 cmds:List Cd
 quiet:Bool
 tokens:Bool
 reply:List UInt8
 arg:List UInt8
 skip:Int
 close:Bool
 word:List UInt8
def Rq.zero:Rq:=⟨0,[],false,false,[],[],0,false,[]⟩
def zD9 (s:List UInt8):Rq:=⟨2,[],false,false,s,[],0,false,[]⟩
def zA5:List UInt8:=[69,82,82,79,82]
def zA2:List UInt8:=[67,76,73,69,78,84,95,69,82,82,79,82,32,98,97,100,32,99,111,109,109,97,110,100,32,108,105,110,101,32,102,111,114,109,97,116]
def zG9:List UInt8:=[67,76,73,69,78,84,95,69,82,82,79,82,32,105,110,118,97,108,105,100,32,101,120,112,116,105,109,101,32,97,114,103,117,109,101,110,116]
def f_delta:List UInt8:=[67,76,73,69,78,84,95,69,82,82,79,82,32,105,110,118,97,108,105,100,32,110,117,109,101,114,105,99,32,100,101,108,116,97,32,97,114,103,117,109,101,110,116]
def zM3:List UInt8:=[83,69,82,86,69,82,95,69,82,82,79,82,32,111,98,106,101,99,116,32,116,111,111,32,108,97,114,103,101,32,102,111,114,32,99,97,99,104,101]
def zI4:List UInt8:=[110,111,114,101,112,108,121]
def zO6:List UInt8:=[67,76,73,69,78,84,95,69,82,82,79,82,32,98,97,100,32,100,97,116,97,32,99,104,117,110,107]
def zL8:List UInt8:=[67,76,73,69,78,84,95,69,82,82,79,82,32,108,105,110,101,32,116,111,111,32,108,111,110,103]
inductive Rd' where
 | fault (f:List UInt8)
 | got (r:Rq) (more:Bool) (used:Int)
def zI2 (s:List UInt8):Int × Bool:=match zC5 s with
 | some n=>(n,nearB n)
 | none=>(0,false)
def zN5 (w:List (List UInt8)):List (List UInt8) × Bool:=match w.getLast? with
 | some x=>if x=zI4 then (w.dropLast,true) else (w,false)
 | none=>(w,false)
def doR (cs:List Cd) (quiet:Bool):Rq:=⟨1,cs.map (fun c=>{ c with recache:=-1 }),quiet,false,[],[],0,false,[]⟩
def Cd.zero:Cd:=⟨0,0,[],[],0,0,false,0,false,0,0,false,false,0,0,false⟩
def zY8 (name:List UInt8):Int:=if name=[97,100,100] then 1 else if name=[114,101,112,108,97,99,101] then 2 else if name=[97,112,112,101,110,100] then 3 else if name=[112,114,101,112,101,110,100] then 4 else 0
def zJ7 (name:List UInt8) (w:List (List UInt8)):Rd':=
 let gat:=([103,97,116]:List UInt8).isPrefixOf name
 if gat && w.length < 2 then .fault zA5
 else if gat && !(zI2 (w.getD 0 [])).2 then .fault zG9
 else
  let keys:=if gat then w.drop 1 else w
  if keys=[] then .fault zA5
  else if keys.all zG3 then .got { doR (keys.map fun k=>{ Cd.zero with op:=1,key:=k,exp:=if gat then (zI2 (w.getD 0 [])).1 else 0,hasExp:=gat }) false with tokens:=name.getLast? == some 115 } false 0
  else .fault zA2
def zB4 (name:List UInt8) (w0:List (List UInt8)) (behind:List UInt8):Rd':=
 let w:=(zN5 w0).1
 let quiet:=(zN5 w0).2
 let token:=name == [99,97,115]
 if w.length ≠ (bif token then 5 else 4) then .fault zA5
 else match zB0 (w.getD 3 []) with
 | none=>.fault zA2
 | some n =>
  if 1073741824 < n then .fault zA2
  else
   let fl:=zB0 (w.getD 1 [])
   let ex:=zI2 (w.getD 2 [])
   let cs:=bif token then zB0 (w.getD 4 []) else some 0
   let key:=w.getD 0 []
   let size:=n+2
   if !zG3 key || fl.isNone || decide (4294967295 < fl.getD 0) || !(ex.2 && cs.isSome) then .got { zD9 zA2 with skip:=size } false 0
   else if 65536 < n then .got { zD9 zM3 with skip:=size } false 0
   else if behind.length < size then .got Rq.zero true 0
   else if (behind.take size).drop n=[13,10] then .got (doR [{ Cd.zero with op:=2,mode:=zY8 name,key:=key,val:=behind.take n,flags:=fl.getD 0,exp:=ex.1,hasCas:=token,cas:=cs.getD 0 }] quiet) false size
   else .got (zD9 zO6) false size
def zI1 (s:List UInt8) (k:List UInt8→Rd'):Rd':=if zG3 s then k s else .fault zA2
def zA7 (name:List UInt8) (w0:List (List UInt8)):Rd':=
 let w:=(zN5 w0).1
 let quiet:=(zN5 w0).2
 if name=[105,110,99,114]∨name=[100,101,99,114] then
  if w.length ≠ 2 then .fault zA5
  else zI1 (w.getD 0 []) fun key=>match zB0 (w.getD 1 []) with
   | none=>.fault f_delta
   | some n=>.got (doR [{ Cd.zero with op:=3,key:=key,delta:=n,down:=name == [100,101,99,114] }] quiet) false 0
 else if name=[116,111,117,99,104] then
  if w.length ≠ 2 then .fault zA5
  else zI1 (w.getD 0 []) fun key=>if (zI2 (w.getD 1 [])).2 then .got (doR [{ Cd.zero with op:=4,key:=key,exp:=(zI2 (w.getD 1 [])).1 }] quiet) false 0 else .fault zG9
 else if name=[100,101,108,101,116,101] then
  if w.length=0∨2 < w.length then .fault zA5
  else zI1 (w.getD 0 []) fun key=>if w.length=1∨w.getD 1 []=[48] then .got (doR [{ Cd.zero with op:=5,key:=key }] quiet) false 0 else .fault zA2
 else if name=[102,108,117,115,104,95,97,108,108] then
  if 1 < w.length then .fault zA5
  else if w.length=1 then (if (zI2 (w.getD 0 [])).2 then .got (doR [{ Cd.zero with op:=6,exp:=(zI2 (w.getD 0 [])).1 }] quiet) false 0 else .fault zG9)
  else .got (doR [{ Cd.zero with op:=6 }] quiet) false 0
 else if name=[118,101,114,98,111,115,105,116,121] then
  if w.length ≠ 1 then .fault zA5 else .got { Rq.zero with kind:=4,quiet:=quiet } false 0
 else if name=[118,101,114,115,105,111,110] then
  if w0.length ≠ 0 then .fault zA5 else .got { Rq.zero with kind:=3 } false 0
 else if name=[113,117,105,116] then
  if w0.length ≠ 0 then .fault zA5 else .got { Rq.zero with kind:=6,close:=true } false 0
 else if name=[115,116,97,116,115] then
  if 1 < w0.length then .fault zA5 else .got { Rq.zero with kind:=5,arg:=w0.getD 0 [] } false 0
 else .fault zA5
def zJ2 (name:List UInt8) (w:List (List UInt8)) (behind:List UInt8):Rd':=
 if name=[103,101,116]∨name=[103,101,116,115]∨name=[103,97,116]∨name=[103,97,116,115] then zJ7 name w
 else if name=[115,101,116]∨name=[97,100,100]∨name=[114,101,112,108,97,99,101]∨name=[97,112,112,101,110,100]∨name=[112,114,101,112,101,110,100]∨name=[99,97,115] then zB4 name w behind
 else zA7 name w
def zB1 (b:List UInt8):List UInt8 × Nat:=
 let l:=b.takeWhile (· != 10)
 if l.length < b.length then ((if l.getLast?=some 13 then l.dropLast else l),l.length+1) else ([],0)
def endR (n:Nat):Rd'→Rq × Int
 | .fault f=>(zD9 f,n)
 | .got _ true _=>(Rq.zero,0)
 | .got r false used=>(r,n+used)
def lineR (n:Nat) (behind:List UInt8):List (List UInt8)→Rq × Int
 | []=>(zD9 zA5,n)
 | name :: w=>endR n (zJ2 name w behind)
def zE6 (b:List UInt8):Rq × Int:=
 let s:=zB1 (b.take 2048)
 if s.2=0 then (if b.length < 2048 then (Rq.zero,0) else ({ zD9 zL8 with close:=true },2048))
 else lineR s.2 (b.drop s.2) (wordsF (s.1.length+1) s.1)
end Go.Proofs.YtcbmlanpianclaaGreatDoor
/- words.Key, walked. -/
namespace Go.Proofs.YtcbmlanpianclaaGreatDoor
set_option linter.unusedSimpArgs false
set_option linter.unusedVariables false
open Go.RowKit
def chB (c:UInt8):Bool:=decide (32 < c.toNat) && decide (c.toNat ≠ 127)
theorem keyB_eq (k:List UInt8):zG3 k=(!k.isEmpty && k.all chB && decide (k.length≤250)):=rfl
set_option maxHeartbeats 1000000 in
theorem key (k:List UInt8) (hl:k.length≤9223372036854775807) (w:World):Calls Tryz.prog 60 #[.string ⟨k.toArray⟩] w fun e w'=>e=.returned (.bool (zG3 k))∧w=w':=by
 obtain ⟨n,hn⟩:∃ n,n=k.length:=⟨_,rfl⟩
 have HN:=Lib.hid hn
 rw [← hn] at hl
 have hfin:=keyB_eq k
 rw [← hn] at hfin
 have HF:=Lib.hid hfin
 have hsz:(⟨k.toArray⟩:ByteArray).size=n:=by rw [hn]; rfl
 clear hn hfin
 go_enter Tryz.func60,Tryz.ntmps60
 go_wp2_with fail
 go_loop [7] (fun i=>∃ j:Nat,j≤n∧i=.int .i64 j∧(k.take j).all chB=true) (fun i=>n - (intOf i).toNat)
 case atStart=>exact ⟨0,Nat.zero_le _,rfl,rfl⟩
 case round =>
  obtain ⟨j,hj,rfl,hall⟩:=hrel
  have HA:=Lib.hid hall; clear hall
  by_cases hlt:j < n
  ·have hjs:j < (⟨k.toArray⟩:ByteArray).size:=by rw [hsz]; exact hlt
   have hjk:j < k.length:=by rw [← HN.out]; exact hlt
   have hbyte:(⟨k.toArray⟩:ByteArray)[j]'hjs=k[j]'hjk:=rfl
   have HB:=Lib.hid hbyte; clear hbyte
   have hbad:chB (k[j]'hjk)=false→zG3 k=false:=fun h=>by
    rw [keyB_eq]
    have:k.all chB=false:=by
     refine Bool.eq_false_iff.2 fun h2=>?_
     have:=List.all_eq_true.1 h2 _ (List.getElem_mem hjk)
     rw [h] at this; cases this
    rw [this]; simp
   have HBAD:=Lib.hid hbad; clear hbad
   by_cases h32:((⟨k.toArray⟩:ByteArray)[j]'hjs).toNat≤32
   ·go_wp2_with fail
    go_ret
    refine ⟨ret_bool (HBAD.out ?_).symm,rfl⟩
    rw [← HB.out]; unfold chB; rw [decide_eq_false (by omega)]; rfl
   ·by_cases h127:((⟨k.toArray⟩:ByteArray)[j]'hjs).toNat=127
    ·have hb:((((⟨k.toArray⟩:ByteArray)[j]'hjs).toNat:Int) == 127)=true:=by rw [h127]; rfl
     have H127:=Lib.hid h127; clear h127
     go_wp2_with fail
     go_ret
     refine ⟨ret_bool (HBAD.out ?_).symm,rfl⟩
     rw [← HB.out]; unfold chB; rw [H127.out]; rfl
    ·have hb:((((⟨k.toArray⟩:ByteArray)[j]'hjs).toNat:Int) == 127)=false:=by simp; omega
     have H127:=Lib.hid h127; clear h127
     go_wp2_with fail
     go_round
     case rel =>
      refine ⟨j+1,by omega,by go_num,?_⟩
      rw [List.take_succ_eq_append_getElem hjk,List.all_append,HA.out,← HB.out]
      simp only [List.all_cons,List.all_nil,chB,Bool.true_and,Bool.and_true]
      rw [decide_eq_true (by omega),decide_eq_true H127.out]; rfl
     case measure=>simp [intOf]; omega
  ·obtain rfl:j=n:=by omega
   have hka:k.all chB=true:=by have h:=HA.out; rwa [HN.out,List.take_length] at h
   have HKA:=Lib.hid hka; clear hka
   have hfin2:zG3 k=(!k.isEmpty && decide (j≤250)):=by rw [HF.out,HKA.out,Bool.and_true]
   have HF2:=Lib.hid hfin2; clear hfin2
   by_cases h0:k=[]
   ·subst h0
    have hj0:j=0:=HN.out
    subst hj0
    go_wp2_with fail
    go_ret
    exact ⟨rfl,rfl⟩
   ·have he:k.isEmpty=false:=by simpa using h0
    have hne:(!k.isEmpty)=true:=by rw [he]; rfl
    go_wp2_with fail
    go_ret
    refine ⟨ret_bool ?_,rfl⟩
    rw [HF2.out,he]
    by_cases h:j≤250
    ·rw [decide_eq_true h]; simp; omega
    ·rw [decide_eq_false h]; simp; omega
end Go.Proofs.YtcbmlanpianclaaGreatDoor
/- Signed: the program's and the reference's reader of numbers with a sign. -/
namespace Go.Proofs.YtcbmlanpianclaaGreatDoor
set_option linter.unusedSimpArgs false
set_option linter.unusedVariables false
open Go.Shelf Go.RowKit
def zQ3 (l:List UInt8):Value:=.tuple #[.int .i64 ((zC5 l).getD 0),.bool (zC5 l).isSome]
theorem zF5 {l:List UInt8} (h:zC5 l=none):zQ3 l=.tuple #[.int .i64 0,.bool false]:=by unfold zQ3; rw [h]; rfl
theorem zS2 {l:List UInt8} {n:Int} (h:zC5 l=some n):zQ3 l=.tuple #[.int .i64 n,.bool true]:=by unfold zQ3; rw [h]; rfl
theorem unsig_len (l:List UInt8):(zH6 l).length≤l.length:=by unfold zH6; split; simp; exact Nat.le_refl _
set_option maxHeartbeats 1000000 in
set_option maxRecDepth 100000 in
theorem signed (l:List UInt8) (hl:l.length≤9223372036854775807) (w:World) (he:Env w) :
  Calls Tryz.prog 122 #[.string ⟨l.toArray⟩] w fun e w'=>e=.returned (zQ3 l)∧Below w.heap.size w w':=by
 have hul:=unsig_len l
 have D:=Lib.hid (fun w=>digits (zH6 l) (by omega) 19 w)
 have T:∀ w,Calls Tryz.prog 134 #[.string ⟨l.toArray⟩,.string ⟨#[45]⟩] w fun e w'=>e=.returned (.string ⟨(zH6 l).toArray⟩)∧w'=w:=fun w=>by
  have:=Tryz.strings_TrimPrefix ⟨l.toArray⟩ ⟨#[45]⟩ w
  rw [show Lib.trimPrefix (⟨l.toArray⟩:ByteArray).data.toList (⟨#[45]⟩:ByteArray).data.toList=zH6 l from trimDash l] at this
  exact this
 have T:=Lib.hid T
 by_cases hd:zP8 (zH6 l) 19=true
 ·have hd':=hd
  simp only [zP8,Bool.and_eq_true,Bool.not_eq_true',List.isEmpty_eq_false_iff,decide_eq_true_eq] at hd'
  obtain ⟨h0,h1,h2⟩:=hd'
  have hl20:l.length≤20:=by
   have:l.length≤(zH6 l).length+1:=by unfold zH6; split <;> simp <;> omega
   omega
  rcases parseIntB_dgts l h0 (by omega) h2 with ⟨v,h3,h4⟩ | ⟨h3,h4⟩
  ·rw [zS2 h3]
   have H:=Lib.hid (fun w=>Tryz.strconv_ParseInt_10_at64_ok ⟨l.toArray⟩ (by simp [ByteArray.size]; omega) v h4 w)
   have HD:=Lib.hid hd
   generalize zH6 l=u at *
   clear hd h4 h3 h0 h1 h2 hl20
   go_enter Tryz.func122,Tryz.ntmps122
   go_wp2_with fail
   refine (T.out _).mono ?_
   rintro e w0 ⟨rfl,rfl⟩
   go_wp2_with fail
   refine (D.out _).mono ?_
   rintro e w1 ⟨rfl,hb⟩
   rw [HD.out]
   go_wp2_with fail
   refine (H.out _).mono ?_
   rintro e w2 ⟨rfl,hw⟩
   have hb2:Below w1.heap.size w1 w2:=by
    rcases hw with rfl | ⟨t,rfl⟩
    ·exact Below.refl _ _
    ·exact Lib.bytesWorld_below _ _ _
   clear hw
   go_wp2_with fail
   go_ret2
   exact ⟨rfl,hb.trans (hb2.mono hb.size)⟩
  ·rw [zF5 h3]
   have H:=Lib.hid (fun w tp p hv=>Tryz.strconv_ParseInt_10_at64_range_var ⟨l.toArray⟩ (by simp [ByteArray.size]; omega) h4 tp p w hv)
   have HD:=Lib.hid hd
   generalize zH6 l=u at *
   clear hd h4 h3 h0 h1 h2 hl20
   go_enter Tryz.func122,Tryz.ntmps122
   go_wp2_with fail
   refine (T.out _).mono ?_
   rintro e w0 ⟨rfl,rfl⟩
   go_wp2_with fail
   refine (D.out _).mono ?_
   rintro e w1 ⟨rfl,hb⟩
   rw [HD.out]
   obtain ⟨tp,p,hvar⟩:=(he.below hb).rng
   have hvar:=Lib.hid hvar
   go_wp2_with fail
   refine (H.out _ _ _ hvar.out).mono ?_
   rintro e w2 ⟨N,rfl,_,_,hb2⟩
   go_wp2_with fail
   go_ret2
   exact ⟨rfl,hb.trans (hb2.mono hb.size)⟩
 ·have hd':zP8 (zH6 l) 19=false:=by simpa using hd
  have hv:zC5 l=none:=by
   unfold zC5
   rw [if_neg (fun ⟨a,b,c,_⟩=>by
    rw [zP8] at hd
    apply hd
    simp [a,c]; omega)]
  rw [zF5 hv]
  have HD:=Lib.hid hd'
  generalize zH6 l=u at *
  clear hd hd' hv
  go_enter Tryz.func122,Tryz.ntmps122
  go_wp2_with fail
  refine (T.out _).mono ?_
  rintro e w0 ⟨rfl,rfl⟩
  go_wp2_with fail
  refine (D.out _).mono ?_
  rintro e w1 ⟨rfl,hb⟩
  rw [HD.out]
  go_wp2_with fail
  go_ret2
  exact ⟨rfl,hb⟩
end Go.Proofs.YtcbmlanpianclaaGreatDoor
