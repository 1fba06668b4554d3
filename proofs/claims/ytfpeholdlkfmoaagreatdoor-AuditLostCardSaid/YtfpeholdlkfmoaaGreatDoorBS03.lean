/- The walk of a drawn region is sound: every order that its edges allow comes to the same. -/
import Derived.Test.YtfpeholdlkfmoaaGreatDoorBS02
import Derived.Laws.StructEq
import Derived.DeepKeys
namespace Go.Proofs.YtfpeholdlkfmoaaGreatDoor
set_option linter.unusedSimpArgs false
set_option linter.unusedVariables false
open Go.RowKit
def PR (nE:Nat) (crs:List Cr) (listed:Array Bool) (k c:Nat):Prop:=
 c < nE∨(nE≤c∧match crs[c - nE]? with
  | some (.f i)=>listed.getD i false=true
  | some (.h j)=>j < k
  | none=>False)
section
variable {C:Cx} {nE m nt:Nat} {ops:List Oper} {ks:List Kd} {vs:List SV} {rs:List (Nat × Nat)} {lv:List (List EN)} {crs:List Cr} {sl:List (Nat × SV)} {a0:Act}
structure IV (C:Cx) (nE m nt:Nat) (ops:List Oper) (ks:List Kd) (vs:List SV) (rs:List (Nat × Nat)) (lv:List (List EN)) (crs:List Cr) (sl:List (Nat × SV)) (a0:Act) (listed:Array Bool) (a:Act) (w:World) (k:Nat) (ρ:Nat→RE):Prop where
 le:k≤m
 hard:∀ i j,hnum ks[i]?=some j→(listed.getD i false=true ↔ j < k)
 down:∀ i o e,listed.getD i false=true→ops[i]?=some o→e∈o.after.toList→Region.binds .any e=true→listed.getD e.on false=true
 lowr:∀ i,listed.getD i false=true→aftN ks rs i≤k
 uppr:∀ i,i < ops.length→listed.getD i false=false→k≤befN ks rs i
 wd:∃ e,zD lv k=some e∧Hw C ρ (PR nE crs listed k) e w
 tm:∀ i o v d,listed.getD i false=true→ops[i]?=some o→vs[i]?=some v→o.dst=some d→a.tmps[d]?=some (v.den ρ)∧v.wf (PR nE crs listed k)
 old:∀ t,(∀ i o,listed.getD i false=true→ops[i]?=some o→o.dst ≠ some t)→a.tmps[t]?=a0.tmps[t]?
 base:∀ t u,qy sl t=some u→a0.tmps[t]?=some (u.den ρ)∧u.wf (· < nE)
 sz:a.tmps.size=nt
 df:a.defers=C.df
theorem zQ8 {listed:Array Bool} {i j:Nat}:(listed.setIfInBounds i true).getD j false=if i=j∧i < listed.size then true else listed.getD j false:=by
 simp only [Array.getD_eq_getD_getElem?,Array.getElem?_setIfInBounds]
 by_cases e:i=j
 ·subst e
  by_cases hl:i < listed.size
  ·simp [hl]
  ·simp [hl]
 ·simp [e]
theorem zV4 {listed:Array Bool} {i j:Nat} (h:listed.getD j false=true):(listed.setIfInBounds i true).getD j false=true:=by
 rw [zQ8]; split
 ·rfl
 ·exact h
theorem set_new {listed:Array Bool} {i j:Nat} (h:(listed.setIfInBounds i true).getD j false=true):j=i∨listed.getD j false=true:=by
 rw [zQ8] at h; split at h
 ·rename_i e; exact .inl e.1.symm
 ·exact .inr h
theorem PR_mono {listed:Array Bool} {i k k' c:Nat} (hk:k≤k') (h:PR nE crs listed k c):PR nE crs (listed.setIfInBounds i true) k' c:=by
 rcases h with h | ⟨h,h2⟩
 ·exact .inl h
 ·refine .inr ⟨h,?_⟩
  split at h2
  ·exact zV4 h2
  ·omega
  ·exact h2
structure EK (ops:List Oper) (ks:List Kd) (rs:List (Nat × Nat)) (m:Nat):Prop where
 len:ks.length=ops.length
 up:∀ i o e,ops[i]?=some o→e∈o.after.toList→Region.binds .any e=true→e.on < i
 lo:∀ i o,ops[i]?=some o→loN ks rs i=0∨∃ e∈o.after.toList,Region.binds .any e=true∧loN ks rs i≤aftN ks rs e.on
 hn:∀ i j,i < ops.length→hnum ks[i]?=some j→j < m∧∀ x,x < ops.length→hnum ks[x]?=some j→x=i
 hi:∀ i,i < ops.length→hnum ks[i]?=none→m≤befN ks rs i∨∃ x,x < ops.length∧i < x∧edg ops x i=true∧befN ks rs x≤befN ks rs i
 dst:∀ i o x q d,ops[i]?=some o→ops[x]?=some q→q.dst=some d→x ≠ i→o.dst ≠ some d∧(d∈looksB ops o→(x < i∧edg ops i x=true)∨(i < x∧edg ops x i=true))
theorem ckE_ok (h:ckE ops ks rs m=true):EK ops ks rs m:=by
 unfold ckE at h
 simp only [Bool.and_eq_true,beq_iff_eq,List.all_eq_true,List.mem_range] at h
 obtain ⟨⟨h1,h2⟩,h3⟩:=h
 have g:∀ i o,ops[i]?=some o→_:=fun i o ho=>by
  have hi:=(List.getElem?_eq_some_iff.1 ho).1
  have:=h3 i hi
  simp only [ho] at this
  exact this
 refine ⟨h1,?_,?_,?_,?_,?_⟩
 ·intro i o e ho he hb
  have:=g i o ho
  simp only [Bool.and_eq_true,List.all_eq_true] at this
  have:=this.1.1.1.1 e he
  simpa [hb] using this
 ·intro i o ho
  have:=g i o ho
  simp only [Bool.and_eq_true,Bool.or_eq_true,beq_iff_eq,List.any_eq_true,decide_eq_true_eq] at this
  rcases this.1.1.1.2 with h | ⟨e,he,hb,hl⟩
  ·exact .inl h
  ·exact .inr ⟨e,he,hb,hl⟩
 ·intro i j hi hj
  have:=g i _ (List.getElem?_eq_getElem hi)
  simp only [Bool.and_eq_true] at this
  have:=this.1.1.2
  simp only [hj,Bool.and_eq_true,decide_eq_true_eq,List.all_eq_true,List.mem_range,Bool.or_eq_true,beq_iff_eq,bne_iff_ne] at this
  exact ⟨this.1,fun x hx hxj=>(this.2 x hx).resolve_right (fun h=>h hxj)⟩
 ·intro i hi hj
  have:=g i _ (List.getElem?_eq_getElem hi)
  simp only [Bool.and_eq_true] at this
  have:=this.1.1.2
  simp only [hj,Bool.or_eq_true,decide_eq_true_eq,List.any_eq_true,List.mem_range,Bool.and_eq_true] at this
  have hb:befN ks rs i=(rs.getD i (0,0)).2:=by unfold befN; rw [hj]
  rw [hb]
  rcases this with h | ⟨x,hx,⟨h5,h6⟩,h7⟩
  ·exact .inl h
  ·exact .inr ⟨x,hx,h5,h6,h7⟩
 ·intro i o x q d ho hq hd hne
  have hx:=(List.getElem?_eq_some_iff.1 hq).1
  have:=g i o ho
  simp only [Bool.and_eq_true,List.all_eq_true,List.mem_range] at this
  have:=this.1.2 x hx
  simp only [hq,hd,Bool.or_eq_true,beq_iff_eq,Bool.and_eq_true,bne_iff_ne,Bool.not_eq_true',List.contains_eq_mem,decide_eq_false_iff_not,decide_eq_true_eq] at this
  rcases this with h | ⟨h5,h6⟩
  ·exact absurd h hne
  ·refine ⟨fun e=>h5 e.symm,fun hl=>?_⟩
   rcases h6 with (h6 | h6) | h6
   ·exact absurd hl h6
   ·exact .inl h6
   ·exact .inr h6
theorem edg_iff {i j:Nat} (h:edg ops i j=true):∃ o e,ops[i]?=some o∧e∈o.after.toList∧Region.binds .any e=true∧e.on=j:=by
 unfold edg at h
 split at h
 ·rename_i o ho
  simp only [List.any_eq_true,Bool.and_eq_true,beq_iff_eq] at h
  obtain ⟨e,he,hb,hj⟩:=h
  exact ⟨o,e,ho,he,hb,hj⟩
 ·cases h
structure Rdy (ops:List Oper) (listed:Array Bool) (i:Nat) (o:Oper):Prop where
 lt:i < ops.length
 un:listed.getD i false=false
 op:ops[i]?=some o
 pre:∀ e∈o.after.toList,Region.binds .any e=true→listed.getD e.on false=true
theorem rdy_of {listed:Array Bool} {i:Nat} (hs:listed.size=ops.length) (h:i∈Region.ready .any ops.toArray listed):∃ o,Rdy ops listed i o:=by
 obtain ⟨h1,h2,o,ho,hp⟩:=ready_un h
 have h1':i < ops.length:=by simpa using h1
 refine ⟨o,h1',?_,by simpa using ho,fun e he=>hp e (by simpa using he)⟩
 have hlt:i < listed.size:=by omega
 simp only [Array.getD_eq_getD_getElem?,Array.getElem?_eq_getElem hlt,Option.getD_some] at h2 ⊢
 exact h2
variable {listed:Array Bool} {a:Act} {w:World} {k i:Nat} {ρ:Nat→RE} {o:Oper}
theorem IV.kLo (h:IV C nE m nt ops ks vs rs lv crs sl a0 listed a w k ρ) (E:EK ops ks rs m) (r:Rdy ops listed i o):loN ks rs i≤k:=by
 rcases E.lo i o r.op with h0 | ⟨e,he,hb,hl⟩
 ·omega
 ·have:=h.lowr e.on (r.pre e he hb); omega
theorem IV.kHard (h:IV C nE m nt ops ks vs rs lv crs sl a0 listed a w k ρ) (E:EK ops ks rs m) (r:Rdy ops listed i o) {j:Nat} (hj:hnum ks[i]?=some j):j=k:=by
 have h1:=h.kLo E r
 unfold loN at h1
 rw [hj] at h1
 have h2:=h.hard i j hj
 rw [r.un] at h2
 simp at h2
 simp only at h1
 omega
theorem IV.slot (h:IV C nE m nt ops ks vs rs lv crs sl a0 listed a w k ρ) (E:EK ops ks rs m) (r:Rdy ops listed i o) (hv:vs.length=ops.length) {t:Nat} (ht:t∈looksB ops o) {u:SV} (hu:qy (jO ops vs i sl) t=some u) :
  a.tmps[t]?=some (u.den ρ)∧u.wf (PR nE crs listed k):=by
 rcases slAt_get hu hv with ⟨j,q,hj,hq,hd,hvj⟩ | ⟨hn,hb⟩
 ·have hl:listed.getD j false=true:=by
   rcases (E.dst i o j q t r.op hq hd (by omega)).2 ht with ⟨_,he⟩ | ⟨hlt,_⟩
   ·obtain ⟨o',e,ho',he1,he2,rfl⟩:=edg_iff he
    rw [r.op] at ho'
    cases ho'
    exact r.pre e he1 he2
   ·omega
  exact h.tm j q u t hl hq hvj hd
 ·have h1:=h.old t (fun j q hl hq hd=>by
   have hji:j ≠ i:=by rintro rfl; rw [r.un] at hl; cases hl
   rcases (E.dst i o j q t r.op hq hd hji).2 ht with ⟨hlt,_⟩ | ⟨hlt,he⟩
   ·exact hn j q hlt hq hd
   ·obtain ⟨o',e,ho',he1,he2,rfl⟩:=edg_iff he
    rw [hq] at ho'
    cases ho'
    have:=h.down j q e hl hq he1 he2
    rw [r.un] at this
    cases this)
  obtain ⟨h2,h3⟩:=h.base t u hb
  exact ⟨h1.trans h2,SV.wf_mono h3 (fun c hc=>.inl hc)⟩
theorem IV.opnd (h:IV C nE m nt ops ks vs rs lv crs sl a0 listed a w k ρ) (E:EK ops ks rs m) (r:Rdy ops listed i o) (hv:vs.length=ops.length) (x:Operand) (u:SV) (hx:opT o.op x) (hu:ev (jO ops vs i sl) x=some u) :
  a.eval x=u.den ρ∧u.wf (PR nE crs listed k):=by
 cases x with
 | tmp t =>
  obtain ⟨h1,h2⟩:=h.slot E r hv (t:=t) (by
   unfold looksB
   refine List.mem_append.2 (.inl ?_)
   rw [List.mem_filterMap]
   exact ⟨_,hx,rfl⟩) hu
  exact ⟨by simp [Act.eval,Array.getD_eq_getD_getElem?,h1],h2⟩
 | const v=>simp only [ev,Option.some.injEq] at hu; subst hu; exact ⟨by simp [Act.eval,SV.den,zJ1],zM8 _ _⟩
 | global g=>cases hu
 | func f=>simp only [ev,Option.some.injEq] at hu; subst hu; exact ⟨rfl,trivial⟩
theorem IV.opnds (h:IV C nE m nt ops ks vs rs lv crs sl a0 listed a w k ρ) (E:EK ops ks rs m) (r:Rdy ops listed i o) (hv:vs.length=ops.length):∀ (xs:List Operand) (us:List SV),(∀ x∈xs,opT o.op x)→qw (jO ops vs i sl) xs=some us →
  xs.map a.eval=us.map (SV.den ρ)∧∀ u∈us,u.wf (PR nE crs listed k)
 | [],us,_,hx=>by simp [qw] at hx; subst hx; simp
 | x :: xs,us,ho,hx=>by
  simp only [qw] at hx
  split at hx <;> try cases hx
  rename_i v hvv
  split at hx <;> simp only [Option.some.injEq,reduceCtorEq] at hx
  rename_i l hl
  subst hx
  obtain ⟨e1,e2⟩:=h.opnd E r hv x v (ho x (by simp)) hvv
  obtain ⟨r1,r2⟩:=h.opnds E r hv xs l (fun y hy=>ho y (by simp [hy])) hl
  refine ⟨by simp [e1,r1],fun u hu=>?_⟩
  rcases List.mem_cons.1 hu with rfl | hu
  ·exact e2
  ·exact r2 u hu
theorem IV.wanted (h:IV C nE m nt ops ks vs rs lv crs sl a0 listed a w k ρ) (E:EK ops ks rs m) (r:Rdy ops listed i o) (hv:vs.length=ops.length) {b:Bool} (hg:jD ops (jO ops vs i sl) o.guard=some b):Region.wanted o (yielded ops.toArray a.tmps)=b:=by
 unfold Region.wanted
 cases hgd:o.guard with
 | none=>rw [hgd] at hg; simp only [jD,Option.some.injEq] at hg; exact hg
 | some jc =>
  obtain ⟨j,c⟩:=jc
  rw [hgd] at hg
  simp only [jD] at hg
  split at hg <;> try cases hg
  rename_i d _ _ _ _ _ hj
  rw [zA5] at hj
  have hl:d∈looksB ops o:=by
   unfold looksB
   refine List.mem_append.2 (.inr ?_)
   rw [hgd]
   simp [hj]
  have hy:∀ v,a.tmps[d]?=some v→yielded ops.toArray a.tmps j=(match v with | .bool b=>some b | _=>none):=by
   intro v hv
   simp only [yielded,List.getElem?_toArray,hj,Option.bind_some,hv]
   cases v <;> rfl
  split at hg
  ·rename_i x hx
   simp only [Option.some.injEq] at hg
   have h1:=hy _ (h.slot E r hv hl hx).1
   simp only [h1,SV.den,SC.den]
   rw [← hg,eqB_iff]
   cases x <;> cases c <;> rfl
  ·rename_i hx
   simp only [Option.some.injEq] at hg
   have h1:=hy _ (h.slot E r hv hl hx).1
   simp only [h1,SV.den,SC.den,undef]
   rw [← hg]; rfl
  ·cases hg
theorem PR_eq {listed:Array Bool} {i k k':Nat} {c:Nat} (hs:i < listed.size) (h:PR nE crs (listed.setIfInBounds i true) k' c) (hk:k'=k∨k'=k+1):PR nE crs listed k c∨(nE≤c∧crs[c - nE]?=some (.f i))∨(k'=k+1∧mkC nE crs k c):=by
 rcases h with h | ⟨h,h2⟩
 ·exact .inl (.inl h)
 ·split at h2
  ·rename_i j hj
   rcases set_new h2 with rfl | h3
   ·exact .inr (.inl ⟨h,hj⟩)
   ·refine .inl (.inr ⟨h,?_⟩); rw [hj]; exact h3
  ·rename_i j hj
   by_cases hjk:j < k
   ·refine .inl (.inr ⟨h,?_⟩); rw [hj]; exact hjk
   ·obtain rfl:j=k:=by omega
    exact .inr (.inr ⟨by omega,h,hj⟩)
  ·exact h2.elim
theorem IV.next (h:IV C nE m nt ops ks vs rs lv crs sl a0 listed a w k ρ) (E:EK ops ks rs m) (r:Rdy ops listed i o) (hs:listed.size=ops.length) (hv:vs.length=ops.length) (hnt:∀ o∈ops,∀ d,o.dst=some d→d < nt)
  {v:SV} (hvi:vs[i]?=some v) {k':Nat} (hk:(hnum ks[i]?=none∧k'=k)∨(hnum ks[i]?=some k∧k'=k+1)) {ρ':Nat→RE} (hρ:∀ c,PR nE crs listed k c→ρ' c=ρ c) {x:Value} (hx:o.dst=none∨x=v.den ρ') (hvw:v.wf (PR nE crs (listed.setIfInBounds i true) k'))
  {w':World} {e:List EN} (he:zD lv k'=some e) (hw:Hw C ρ' (PR nE crs (listed.setIfInBounds i true) k') e w') :
  IV C nE m nt ops ks vs rs lv crs sl a0 (listed.setIfInBounds i true) (a.put o.dst x) w' k' ρ':=by
 have hil:i < listed.size:=by rw [hs]; exact r.lt
 have hki:(listed.setIfInBounds i true).getD i false=true:=by rw [zQ8,if_pos ⟨rfl,hil⟩]
 have hkk:k≤k':=by rcases hk with ⟨_,rfl⟩ | ⟨_,rfl⟩ <;> omega
 have hpm:∀ c,PR nE crs listed k c→PR nE crs (listed.setIfInBounds i true) k' c:=fun c hc=>PR_mono hkk hc
 refine ⟨?_,?_,?_,?_,?_,⟨e,he,hw⟩,?_,?_,?_,?_,?_⟩
 ·rcases hk with ⟨_,rfl⟩ | ⟨hk,rfl⟩
  ·exact h.le
  ·have:=(E.hn i k r.lt hk).1; omega
 ·intro y j hj
  have h1:=h.hard y j hj
  by_cases hyi:y=i
  ·subst hyi
   rcases hk with ⟨hk,_⟩ | ⟨hk,rfl⟩
   ·rw [hk] at hj; cases hj
   ·rw [hk] at hj; cases hj; simp [hki]
  ·have h2:(listed.setIfInBounds i true).getD y false=listed.getD y false:=by rw [zQ8,if_neg (fun e=>hyi e.1.symm)]
   rw [h2,h1]
   rcases hk with ⟨_,rfl⟩ | ⟨hk,rfl⟩
   ·exact Iff.rfl
   ·constructor
    ·intro hlt; omega
    ·intro hlt
     rcases Nat.lt_or_ge j k with h3 | h3
     ·exact h3
     ·obtain rfl:j=k:=by omega
      have hyl:y < ops.length:=by
       rcases Nat.lt_or_ge y ks.length with h4 | h4
       ·rw [← E.len]; exact h4
       ·rw [List.getElem?_eq_none h4] at hj; cases hj
      exact absurd ((E.hn i j r.lt hk).2 y hyl hj) hyi
 ·intro y q e' hy hq he' hb
  rcases set_new hy with rfl | hy
  ·rw [r.op] at hq; cases hq; exact zV4 (r.pre e' he' hb)
  ·exact zV4 (h.down y q e' hy hq he' hb)
 ·intro y hy
  rcases set_new hy with rfl | hy
  ·unfold aftN
   rcases hk with ⟨hk,rfl⟩ | ⟨hk,rfl⟩
   ·rw [hk]
    have:=h.kLo E r
    unfold loN at this
    rw [hk] at this
    exact this
   ·rw [hk]; exact Nat.le_refl _
  ·have:=h.lowr y hy; omega
 ·intro y hy hyu
  have hyu':listed.getD y false=false:=by
   cases hl:listed.getD y false with
   | false=>rfl
   | true=>rw [zV4 hl] at hyu; cases hyu
  rcases hk with ⟨_,rfl⟩ | ⟨hk,rfl⟩
  ·exact h.uppr y hy hyu'
  ·-- from the greatest down
   have key:∀ n y,ops.length - y≤n→y < ops.length→y ≠ i→listed.getD y false=false→k+1≤befN ks rs y:=by
    intro n
    induction n with
    | zero=>intro y h1 h2; omega
    | succ n ih =>
     intro y h1 h2 h3 h4
     have h5:=h.uppr y h2 h4
     rcases Nat.lt_or_ge k (befN ks rs y) with h6 | h6
     ·exact h6
     ·have h7:befN ks rs y=k:=by omega
      cases hn:hnum ks[y]? with
      | some j =>
       have h8:befN ks rs y=j:=by unfold befN; rw [hn]
       rw [h8] at h7
       subst h7
       exact absurd ((E.hn i j r.lt hk).2 y h2 hn) h3
      | none =>
       rcases E.hi y h2 hn with h8 | ⟨x,hx1,hx2,hx3,hx4⟩
       ·have:=(E.hn i k r.lt hk).1; omega
       ·obtain ⟨q,e',hq,he1,he2,rfl⟩:=edg_iff hx3
        have hxu:listed.getD x false=false:=by
         cases hl:listed.getD x false with
         | false=>rfl
         | true=>rw [h.down x q e' hl hq he1 he2] at h4; cases h4
        have hxi:x ≠ i:=by
         rintro rfl
         rw [r.op] at hq; cases hq
         rw [r.pre e' he1 he2] at h4; cases h4
        have:=ih x (by omega) hx1 hxi hxu
        omega
   have hyi:y ≠ i:=by rintro rfl; rw [hki] at hyu; cases hyu
   exact key _ y (Nat.le_refl _) hy hyi hyu'
 ·intro y q u d hy hq hu hd
  rcases set_new hy with rfl | hyl
  ·rw [r.op] at hq; cases hq
   rw [hvi] at hu; cases hu
   have hdl:d < a.tmps.size:=by rw [h.sz]; exact hnt o (List.mem_of_getElem? r.op) d hd
   rcases hx with hx | rfl
   ·rw [hd] at hx; cases hx
   ·rw [hd]; exact ⟨by simp [Act.put,hdl],hvw⟩
  ·by_cases hyi:y=i
   ·subst hyi; rw [r.un] at hyl; cases hyl
   ·obtain ⟨h1,h2⟩:=h.tm y q u d hyl hq hu hd
    have hne:=(E.dst i o y q d r.op hq hd hyi).1
    refine ⟨?_,SV.wf_mono h2 hpm⟩
    rw [SV.den_congr h2 hρ]
    cases hod:o.dst with
    | none=>exact h1
    | some d'=>simp only [Act.put]; rw [Array.getElem?_setIfInBounds_ne (by rintro rfl; exact hne hod)]; exact h1
 ·intro t ht
  have h1:=h.old t (fun y q hy hq=>ht y q (zV4 hy) hq)
  have h2:=ht i o hki r.op
  cases hod:o.dst with
  | none=>exact h1
  | some d'=>simp only [Act.put]; rw [Array.getElem?_setIfInBounds_ne (by rintro rfl; exact h2 hod)]; exact h1
 ·intro t u hu
  obtain ⟨h1,h2⟩:=h.base t u hu
  rw [SV.den_congr h2 (fun c hc=>hρ c (.inl hc))]
  exact ⟨h1,h2⟩
 ·cases hod:o.dst <;> simp [Act.put,h.sz]
 ·cases hod:o.dst <;> simp [Act.put,h.df]
structure CK (nE:Nat) (ks:List Kd) (crs:List Cr) (m:Nat):Prop where
 cf:∀ q i:Nat,crs[q]?=some (Cr.f i)→i < ks.length∧ks[i]?=some (Kd.flt (nE+q))
 ch:∀ q j:Nat,crs[q]?=some (Cr.h j)→j < m∧∃ i:Nat,ks[i]?=some (Kd.hcl j)
 cj:∀ j,j < m→∃ i:Nat,i < ks.length∧hnum ks[i]?=some j
theorem ckC_ok (h:ckC nE ks crs m=true):CK nE ks crs m:=by
 unfold ckC at h
 simp only [Bool.and_eq_true,List.all_eq_true,List.mem_range,List.any_eq_true,beq_iff_eq] at h
 obtain ⟨h1,h2⟩:=h
 refine ⟨?_,?_,h2⟩
 ·intro q i hq
  have:=h1 q (List.getElem?_eq_some_iff.1 hq).1
  simp only [hq,Bool.and_eq_true,decide_eq_true_eq] at this
  refine ⟨this.1,?_⟩
  have h3:=this.2
  unfold isFlt at h3
  split at h3
  ·rename_i d hd; rw [hd]; simp at h3; rw [h3]
  ·cases h3
 ·intro q j hq
  have:=h1 q (List.getElem?_eq_some_iff.1 hq).1
  simp only [hq,Bool.and_eq_true,decide_eq_true_eq,List.any_eq_true] at this
  obtain ⟨h3,x,hx,h4⟩:=this
  refine ⟨h3,?_⟩
  unfold isHcl at h4
  split at h4
  ·rename_i j'
   obtain ⟨i,hi,he⟩:=List.mem_iff_getElem.1 hx
   refine ⟨i,?_⟩
   rw [List.getElem?_eq_getElem hi,he]
   simp at h4; rw [h4]
  ·cases h4
theorem Hw.iff {C:Cx} {ρ:Nat→RE} {pr qr:Nat→Prop} {en:List EN} {w:World} (h:Hw C ρ pr en w) (hq:∀ c,qr c ↔ pr c):Hw C ρ qr en w:=by
 have:qr=pr:=funext fun c=>propext (hq c)
 rw [this]; exact h
theorem PR_same {listed:Array Bool} {i k c:Nat} (K:CK nE ks crs m) (hs:i < listed.size) (hi:∀ c,ks[i]? ≠ some (.flt c)):PR nE crs (listed.setIfInBounds i true) k c ↔ PR nE crs listed k c:=by
 refine ⟨fun h=>?_,PR_mono (Nat.le_refl _)⟩
 rcases PR_eq hs h (.inl rfl) with h | ⟨_,h2⟩ | ⟨h,_⟩
 ·exact h
 ·exact absurd (K.cf _ _ h2).2 (hi _)
 ·omega
theorem PR_flt {listed:Array Bool} {i k c d:Nat} (K:CK nE ks crs m) (hs:i < listed.size) (hi:ks[i]?=some (.flt d)) (hd:nE≤d) (hcr:crs[d - nE]?=some (.f i)):PR nE crs (listed.setIfInBounds i true) k c ↔ (PR nE crs listed k c∨c=d):=by
 constructor
 ·intro h
  rcases PR_eq hs h (.inl rfl) with h | ⟨h1,h2⟩ | ⟨h,_⟩
  ·exact .inl h
  ·right
   have:=(K.cf _ _ h2).2
   rw [hi] at this
   simp only [Option.some.injEq,Kd.flt.injEq] at this
   omega
  ·omega
 ·rintro (h | rfl)
  ·exact PR_mono (Nat.le_refl _) h
  ·refine .inr ⟨hd,?_⟩
   rw [hcr]
   show (listed.setIfInBounds i true).getD i false=true
   rw [zQ8,if_pos ⟨rfl,hs⟩]
theorem PR_hard {listed:Array Bool} {i k c:Nat} (K:CK nE ks crs m) (hs:i < listed.size) (hi:∀ c,ks[i]? ≠ some (.flt c)):PR nE crs (listed.setIfInBounds i true) (k+1) c ↔ (PR nE crs listed k c∨mkC nE crs k c):=by
 constructor
 ·intro h
  rcases PR_eq hs h (.inr rfl) with h | ⟨_,h2⟩ | ⟨_,h⟩
  ·exact .inl h
  ·exact absurd (K.cf _ _ h2).2 (hi _)
  ·exact .inr h
 ·rintro (h | ⟨h1,h2⟩)
  ·exact PR_mono (by omega) h
  ·refine .inr ⟨h1,?_⟩
   rw [h2]
   show k < k+1
   omega
theorem PR_len {listed:Array Bool} {k c:Nat} (h:PR nE crs listed k c):c < nE+crs.length:=by
 rcases h with h | ⟨h,h2⟩
 ·omega
 ·split at h2
  ·rename_i hj; have:=(List.getElem?_eq_some_iff.1 hj).1; omega
  ·rename_i hj; have:=(List.getElem?_eq_some_iff.1 hj).1; omega
  ·exact h2.elim
theorem nth_ne {e:List EN} {c n:Nat} (h:e.length=n) (hc:c < n):zD e c ≠ none:=by rw [zA5,List.getElem?_eq_getElem (by omega)]; simp
theorem zL5 {l:Nat} {f:List EN→Prop} (h:jQ lv l f):∃ e,zD lv l=some e∧f e:=by
 unfold jQ at h
 split at h
 ·rename_i e he; exact ⟨e,he,h⟩
 ·exact h.elim
theorem zU6 {f:Operand} {args:Array Operand} {tys:Array TypeId} (x:Operand) (hx:x∈args.toList):opT (.call ⟨.value f,args,tys⟩) x:=by
 simp only [opT,Op.operands,Call.operands,Array.toList_append,List.mem_append]
 exact .inr hx
theorem opT_app {b:Builtin} {args:Array Operand} {tys:Array TypeId} (x:Operand) (hx:x∈args.toList):opT (.call ⟨.builtin b,args,tys⟩) x:=by
 simpa only [opT,Op.operands,Call.operands,Array.empty_append] using hx
theorem draw_step {ctr:Ctr} (hctr:zE4 C ctr) {Q:Exit→Act→World→Prop} (E:EK ops ks rs m) (K:CK nE ks crs m) (hL:∀ e∈lv,e.length=nE+crs.length) (hn:∀ o∈ops,∀ d,o.dst=some d→d < nt) (hv:vs.length=ops.length) (hn0:C.n0≤nE)
  (hD:jS C ctr nE ops lv crs 0 ops ks vs rs sl) (hs:listed.size=ops.length) (h:IV C nE m nt ops ks vs rs lv crs sl a0 listed a w k ρ) (hi:i∈Region.ready .any ops.toArray listed) :
  wpOp C.P ops.toArray Q i (fun a' w'=>∃ k' ρ',IV C nE m nt ops ks vs rs lv crs sl a0 (listed.setIfInBounds i true) a' w' k' ρ') a w:=by
 obtain ⟨o,r⟩:=rdy_of hs hi
 obtain ⟨q,v,lo,hi',hk,hvi,hri,hck⟩:=ckD_get hD i o r.op
 rw [Nat.zero_add] at hck
 have hil:i < listed.size:=by rw [hs]; exact r.lt
 obtain ⟨e,he,hw⟩:=h.wd
 have hel:e.length=nE+crs.length:=hL e (by rw [zA5] at he; exact List.mem_of_getElem? he)
 have hne:∀ c,PR nE crs listed k c→zD e c ≠ none:=fun c hc=>nth_ne hel (PR_len hc)
 unfold wpOp
 rw [List.getElem?_toArray,r.op]
 simp only
 have hlo:=h.kLo E r
 have hup:=h.uppr i r.lt r.un
 cases q with
 | skip =>
  obtain ⟨hg,rfl⟩:=hck
  rw [h.wanted E r hv hg]
  simp only [Bool.false_eq_true,if_false]
  have hpr:=fun c=>PR_same (k:=k) (c:=c) K hil (fun c=>by rw [hk]; simp)
  exact ⟨k,ρ,h.next E r hs hv hn hvi (.inl ⟨by rw [hk]; rfl,rfl⟩) (fun _ _=>rfl) (.inr rfl) trivial he (hw.iff hpr)⟩
 | soft =>
  obtain ⟨hg,hal⟩:=hck
  rw [h.wanted E r hv hg]
  simp only [if_true]
  left
  have hpr:=fun c=>PR_same (k:=k) (c:=c) K hil (fun c=>by rw [hk]; simp)
  have hb:befN ks rs i=hi':=by unfold befN; rw [hk,List.getD_eq_getElem?_getD,hri]; rfl
  have hl:loN ks rs i=lo:=by unfold loN; rw [hk,List.getD_eq_getElem?_getD,hri]; rfl
  rw [hb] at hup
  rw [hl] at hlo
  obtain ⟨e',he',hsc⟩:=zL5 (zS0 hal k hlo (by omega))
  rw [he] at he'; cases he'
  have nx:∀ w',Hw C ρ (PR nE crs listed k) e w'→v.wf (PR nE crs listed k)→∃ k' ρ',IV C nE m nt ops ks vs rs lv crs sl a0 (listed.setIfInBounds i true) (a.put o.dst (v.den ρ)) w' k' ρ':=fun w' hw' hvw =>
   ⟨k,ρ,h.next E r hs hv hn hvi (.inl ⟨by rw [hk]; rfl,rfl⟩) (fun _ _=>rfl) (.inr rfl) (SV.wf_mono hvw (fun c hc=>(hpr c).2 hc)) he (hw'.iff hpr)⟩
  have soft:∀ op,o.op=op→(match qK C.P C.rd e (ev (jO ops vs i sl)) op with
    | some (p,u)=>p∧u=v
    | none=>False)→o.wp C.P a w (fun a' w'=>∃ k' ρ',IV C nE m nt ops ks vs rs lv crs sl a0 (listed.setIfInBounds i true) a' w' k' ρ') Q:=by
   intro op ho hss
   split at hss
   ·rename_i p u hu
    obtain ⟨hp,rfl⟩:=hss
    obtain ⟨r1,r2⟩:=softS_at (by rw [ho]; exact hu) hp (fun x u hx hxu=>h.opnd E r hv x u hx hxu) (rd_ok hw.up) hw.hp hw.ho
    exact zU5 r1 (nx w hw r2)
   ·exact hss.elim
  generalize hop:o.op=op at hsc
  unfold jR at hsc
  split at hsc
  ·rename_i f args tys
   split at hsc
   ·rename_i xs hxs
    split at hsc
    ·rename_i p u hu
     obtain ⟨hwe,hwv,hp,rfl⟩:=hsc
     obtain ⟨g1,_⟩:=h.opnds E r hv args.toList xs (fun x hx=>by rw [hop]; exact zU6 x hx) hxs
     have hfl:(jI nE e).length=nE:=by rw [zJ2,List.length_take]; omega
     have hfe:∀ c,c < nE→zD (jI nE e) c=zD e c:=fun c hc=>by rw [zA5,zA5,zJ2,List.getElem?_take,if_pos hc]
     obtain ⟨k1,k2,k3⟩:=hctr f _ xs p u hu hp ρ w hw.up (fun c ty cells mu hc hce=>by
      rw [hfl] at hc
      have hx:=hw.hp c ty cells mu (.inl hc) (by rw [← hfe c hc]; exact hce)
      refine ⟨hx.heap,?_,hx.dead,hx.non⟩
      rw [hfl]
      exact wfE_ok hwe ⟨ty,cells,mu⟩ (List.mem_of_getElem? (by rw [← zA5]; exact hce))) (fun c ty cells mu hc hce=>by
      rw [hfl] at hc
      exact hw.ho c ty cells mu (.inl hc) (by rw [← hfe c hc]; exact hce)) (fun c d hc hd hcl hdl=>by
      rw [hfl] at hc hd
      exact hw.inj c d (.inl hc) (.inl hd) (by rw [← hfe c hc]; exact hcl) (by rw [← hfe d hd]; exact hdl)) (fun x hx=>by rw [hfl]; exact wfV_ok hwv x hx)
     have hargs:args.map a.eval=(xs.map (SV.den ρ)).toArray:=by apply Array.toList_inj.1; simpa using g1
     unfold Oper.wp
     have hx':(execOp a.eval o).run C.P w=.ok (.enter f (xs.map (SV.den ρ)).toArray) w:=by
      simp [execOp,hop,resolve,Act.eval,Deferred.ofValue,invoke,hargs,k1]
     rw [hx']
     simp only [Oper.upon]
     refine k3.mono ?_
     rintro e' w' ⟨rfl,hb'⟩
     rw [hfl] at k2
     exact nx w' (hw.same hb') (SV.wf_mono k2 (fun c hc=>.inl hc))
    ·exact hsc.elim
   ·exact hsc.elim
  ·exact soft _ hop hsc
 | flt c =>
  obtain ⟨hg,hc,hcr,hnew⟩:=hck
  rw [zA5] at hcr
  rw [h.wanted E r hv hg]
  simp only [if_true]
  left
  have hpr:=fun d=>PR_flt (k:=k) (c:=d) K hil hk hc hcr
  have hb:befN ks rs i=hi':=by unfold befN; rw [hk,List.getD_eq_getElem?_getD,hri]; rfl
  have hl:loN ks rs i=lo:=by unfold loN; rw [hk,List.getD_eq_getElem?_getD,hri]; rfl
  rw [hb] at hup
  rw [hl] at hlo
  have hnp:¬ PR nE crs listed k c:=by
   rintro (h1 | ⟨h1,h2⟩)
   ·omega
   ·rw [hcr] at h2
    have h3:listed.getD i false=true:=h2
    rw [r.un] at h3
    cases h3
  have main:∀ t l q,v=jG c q→(execOp a.eval o).run C.P w=.ok (.value (match q with | none=>.pointer (some ⟨w.heap.size,0,none⟩) | some n=>.slice (some ⟨w.heap.size,0,none⟩) n n)) (w.alloc (.cells (zC1 ρ l).toArray t))→wfs (PR nE crs listed k) l→t ≠ zE8→zD e c=some ⟨(t,0,whole),l,true⟩ →
    o.wp C.P a w (fun a' w'=>∃ k' ρ',IV C nE m nt ops ks vs rs lv crs sl a0 (listed.setIfInBounds i true) a' w' k' ρ') Q:=by
   intro t l q hvq hrun hwl htd hce
   subst hvq
   unfold Oper.wp
   rw [hrun]
   simp only [Oper.upon]
   have hal:=hw.allocAt htd hnp (by omega) hce hwl
   refine ⟨k,_,h.next E r hs hv hn hvi (.inl ⟨by rw [hk]; rfl,rfl⟩) (fun d hd=>if_neg (by rintro rfl; exact hnp hd)) (.inr ?_) ?_ he (hal.iff hpr)⟩
   ·cases q <;> simp [jG,SV.den,SC.den,zG5]
   ·cases q <;> exact (hpr c).2 (.inr rfl)
  split at hnew
  ·rename_i t l q hnw
   obtain ⟨hvq,hnew⟩:=hnew
   obtain ⟨e',he',hce⟩:=zL5 (zS0 hnew k hlo (by omega))
   rw [he] at he'; cases he'
   generalize hop:o.op=op at hnw
   unfold jF at hnw
   split at hnw <;> try cases hnw
   ·rename_i t'
    split at hnw <;> simp only [Option.some.injEq,Prod.mk.injEq,reduceCtorEq] at hnw
    rename_i sz ag z fs el es kd ik ht
    obtain ⟨rfl,rfl,rfl⟩:=hnw
    obtain ⟨i',d',zv,fs',e',hi'',hu,hz,_,_,hti⟩:=zD2 ht
    simp only [TI.mk.injEq] at hti
    obtain ⟨_,_,rfl,_⟩:=hti
    refine main t' _ none hvq ?_ (zero_wf _ _) (ti_dead ht) hce
    rw [zero_den]
    simp [execOp,hop,Instr.alloc,zeroValue,typeInfo,hi'',hz,newVar,newRow,newObj,zO4]
   ·rename_i t' n' ps'
    split at hnw <;> simp only [Option.some.injEq,Prod.mk.injEq,reduceCtorEq] at hnw
    rename_i el l' hl'
    obtain ⟨rfl,rfl,rfl⟩:=hnw
    obtain ⟨b1,b2,b3⟩:=zT3 (w:=w) (rv:=a.eval) (ρ:=ρ) (pr:=PR nE crs listed k) hl' (fun x hx u hu=>h.opnd E r hv x.2 u (by
     rw [hop]
     simp only [opT,Op.operands,List.toList_toArray,List.mem_map]
     exact ⟨x,hx,rfl⟩) hu)
    refine main _ _ (some n') hvq ?_ b2 b1 hce
    have hps:(ps'.map fun x=>(x.1,a.eval x.2))=(ps'.toList.map fun x=>(x.1,a.eval x.2)).toArray:=by
     apply Array.toList_inj.1; simp
    simp [execOp,hop]
    rw [hps,b3]
    simp
   ·rename_i t' x
    split at hnw <;> try cases hnw
    rename_i v' hv'
    split at hnw <;> try cases hnw
    rename_i l' hl'
    split at hnw <;> simp only [Option.some.injEq,Prod.mk.injEq,reduceCtorEq] at hnw
    rename_i htd
    obtain ⟨rfl,rfl,rfl⟩:=hnw
    obtain ⟨e1,e2⟩:=h.opnd E r hv x v' (by rw [hop]; simp [opT,Op.operands]) hv'
    obtain ⟨c1,c2,c3⟩:=zO8 (ρ:=ρ) hl'
    refine main t' _ none hvq ?_ (c3 _ e2) htd hce
    simp [execOp,hop,Instr.box,newVar,newRow,newObj,zO4,e1,c1]
  ·exact hnew.elim
 | hst j =>
  obtain ⟨hg,hd,rfl,hst⟩:=hck
  rw [h.wanted E r hv hg]
  simp only [if_true]
  left
  have hjk:=h.kHard E r (by rw [hk]; rfl)
  subst hjk
  obtain ⟨e',he',hst⟩:=zL5 hst
  rw [he] at he'; cases he'
  have hpr:∀ c,PR nE crs (listed.setIfInBounds i true) (j+1) c ↔ PR nE crs listed j c:=fun c=>by
   rw [PR_hard K hil (fun c=>by rw [hk]; simp)]
   refine ⟨fun hh=>hh.resolve_right ?_,.inl⟩
   rintro ⟨_,h2⟩
   obtain ⟨_,i',hi'⟩:=K.ch _ _ h2
   have hil':i' < ops.length:=by rw [← E.len]; exact (List.getElem?_eq_some_iff.1 hi').1
   have:=(E.hn i j r.lt (by rw [hk]; rfl)).2 i' hil' (by rw [hi']; rfl)
   subst this
   rw [hk] at hi'; cases hi'
  split at hst
  ·rename_i en' hse
   generalize hop:o.op=op at hse
   unfold jH at hse
   split at hse <;> try cases hse
   rename_i t x y
   split at hse <;> try cases hse
   rename_i sz ag z fs el es kd ik c off v' ht hx hy
   split at hse <;> try cases hse
   rename_i ty cells hce
   split at hse <;> try cases hse
   rename_i vs' hvs
   split at hse <;> try cases hse
   rename_i hsz
   split at hse <;> simp only [Option.some.injEq,reduceCtorEq] at hse
   rename_i l hl
   subst hse
   obtain ⟨i',d',zv,fs',e',hi'',hu,hz,_,_,hti⟩:=zD2 ht
   simp only [TI.mk.injEq] at hti
   obtain ⟨rfl,_⟩:=hti
   obtain ⟨e1,e2⟩:=h.opnd E r hv x _ (by rw [hop]; simp [opT,Op.operands]) hx
   obtain ⟨f1,f2⟩:=h.opnd E r hv y _ (by rw [hop]; simp [opT,Op.operands]) hy
   obtain ⟨c1,c2,c3⟩:=zO8 (ρ:=ρ) hvs
   obtain ⟨w',hrun,hw'⟩:=hw.store (fun c hc=>by rw [hel]; exact PR_len hc) e2 hce hl (c3 _ f2) c2
   have hsz':(zC1 ρ vs').length=i'.size:=by rw [← hsz,zB9,zD5]
   unfold Oper.wp
   have hx':(execOp a.eval o).run C.P w=.ok .skip w':=by
    have e1':a.eval x=.pointer (some ⟨(ρ c).blk,(ρ c).pre.length+off,none⟩):=e1
    simp [execOp,hop,Instr.storeAt,Instr.sureAddr,e1',f1,storeVar,zC6 hi'',hsz',c1,hrun]
   rw [hx']
   simp only [Oper.upon]
   refine ⟨j+1,ρ,?_⟩
   have:=h.next E r hs hv hn hvi (k':=j+1) (.inr ⟨by rw [hk]; rfl,rfl⟩) (ρ':=ρ) (fun _ _=>rfl) (x:=undef) (.inl hd) trivial hst (hw'.iff hpr)
   exact this
  ·exact hst.elim
 | hcl j =>
  obtain ⟨hg,hcl⟩:=hck
  rw [h.wanted E r hv hg]
  simp only [if_true]
  left
  have hjk:=h.kHard E r (by rw [hk]; rfl)
  subst hjk
  obtain ⟨e',he',hcl⟩:=zL5 hcl
  rw [he] at he'; cases he'
  obtain ⟨en',hen',hcl⟩:=zL5 hcl
  have hpr:∀ c,PR nE crs (listed.setIfInBounds i true) (j+1) c ↔ (PR nE crs listed j c∨mkC nE crs j c):=fun c=>PR_hard K hil (fun c=>by rw [hk]; simp)
  generalize hop:o.op=op at hcl
  unfold jU at hcl
  split at hcl
  ·rename_i f args tys
   split at hcl
   ·rename_i xs hxs
    obtain ⟨g1,g2⟩:=h.opnds E r hv args.toList xs (fun x hx=>by rw [hop]; exact zU6 x hx) hxs
    obtain ⟨k1,k2⟩:=hcl
    have hargs:args.map a.eval=(xs.map (SV.den ρ)).toArray:=by apply Array.toList_inj.1; simpa using g1
    unfold Oper.wp
    have hx':(execOp a.eval o).run C.P w=.ok (.enter f (xs.map (SV.den ρ)).toArray) w:=by
     simp [execOp,hop,resolve,Act.eval,Deferred.ofValue,invoke,hargs,k1]
    rw [hx']
    simp only [Oper.upon]
    refine (k2 ρ _ w (fun c hc=>.inl hc) (fun c hc hp=>?_) hw hne g2).mono ?_
    ·obtain ⟨hc1,hc2⟩:=hc
     rcases hp with hp | ⟨_,hp⟩
     ·omega
     ·rw [hc2] at hp
      have hp':j < j:=hp
      omega
    ·rintro e' w' ⟨ρ',hρ,rfl,hvw,hw',_⟩
     exact ⟨j+1,ρ',h.next E r hs hv hn hvi (.inr ⟨by rw [hk]; rfl,rfl⟩) hρ (.inr rfl) (SV.wf_mono hvw (fun c hc=>(hpr c).2 hc)) hen' (hw'.iff hpr)⟩
   ·exact hcl.elim
  ·rename_i args tys
   split at hcl
   ·rename_i xs hxs
    obtain ⟨g1,g2⟩:=h.opnds E r hv args.toList xs (fun x hx=>by rw [hop]; exact opT_app x hx) hxs
    have hargs:args.map a.eval=(xs.map (SV.den ρ)).toArray:=by apply Array.toList_inj.1; simpa using g1
    obtain ⟨ρ',w',k1,hρ,hvw,hw'⟩:=hcl ρ _ w (fun c hc=>.inl hc) (fun c hc hp=>by
     obtain ⟨hc1,hc2⟩:=hc
     rcases hp with hp | ⟨_,hp⟩
     ·omega
     ·rw [hc2] at hp
      have hp':j < j:=hp
      omega) hw hne g2 o.type
    have hx':(execOp a.eval o).run C.P w=.ok (.value (v.den ρ')) w':=by
     simp [execOp,hop,resolve,invoke,builtin,hargs,k1]
    unfold Oper.wp
    rw [hx']
    simp only [Oper.upon]
    exact ⟨j+1,ρ',h.next E r hs hv hn hvi (.inr ⟨by rw [hk]; rfl,rfl⟩) hρ (.inr rfl) (SV.wf_mono hvw (fun c hc=>(hpr c).2 hc)) hen' (hw'.iff hpr)⟩
   ·exact hcl.elim
  ·exact hcl.elim
theorem slAt_all:∀ {os:List Oper} {vs:List SV} {sl:List (Nat × SV)} {t:Nat} {u:SV},qy (jO os vs os.length sl) t=some u→vs.length=os.length →
  (∃ (j:Nat) (o:Oper),os[j]?=some o∧o.dst=some t∧vs[j]?=some u)∨((∀ (j:Nat) (o:Oper),os[j]?=some o→o.dst ≠ some t)∧qy sl t=some u):=by
 intro os vs sl t u h hl
 rcases slAt_get h hl with ⟨j,o,_,h1,h2,h3⟩ | ⟨h1,h2⟩
 ·exact .inl ⟨j,o,h1,h2,h3⟩
 ·exact .inr ⟨fun j o ho=>h1 j o (List.getElem?_eq_some_iff.1 ho).1 ho,h2⟩
theorem Run_draw {ctr:Ctr} (hctr:zE4 C ctr) (hm:C.P.follows .mixedOrders=true) {en enF:List EN} {id:Nat} {k:List KI} (hE:ckE ops ks rs m=true) (hC:ckC nE ks crs m=true) (hL:lenB lv (nE+crs.length)=true) (hN:ntB ops nt=true)
  (hv:vs.length=ops.length) (hen:en.length=nE) (h0:∃ e,zD lv 0=some e∧jI nE e=en) (hF:zD lv m=some enF) (hD:jS C ctr nE ops lv crs 0 ops ks vs rs sl)
  (hK:Run C k nt (jO ops vs ops.length sl) enF):Run C (.code (.region id ops.toArray true) :: k) nt sl en:=by
 intro ρ a w hr
 have E:=ckE_ok hE
 have K:=ckC_ok hC
 have hL':=lenB_ok hL
 obtain ⟨e0,he0,hfe⟩:=h0
 have hel:e0.length=nE+crs.length:=hL' e0 (by rw [zA5] at he0; exact List.mem_of_getElem? he0)
 have hfc:∀ c,c < nE→zD e0 c=zD en c:=fun c hc=>by rw [← hfe,zJ2,zA5,zA5,List.getElem?_take,if_pos hc]
 have hne:∀ j,(Array.replicate ops.toArray.size false).getD j false=false:=fun j=>by
  simp only [Array.getD_eq_getD_getElem?,Array.getElem?_replicate]
  split <;> rfl
 have hp0:∀ c,PR nE crs (Array.replicate ops.toArray.size false) 0 c ↔ c < en.length:=fun c=>by
  rw [hen]
  refine ⟨?_,.inl⟩
  rintro (h | ⟨_,h⟩)
  ·exact h
  ·split at h
   ·rw [hne] at h; cases h
   ·omega
   ·exact h.elim
 refine wp_region_any (ops:=ops.toArray) (w:=w) hm ?_
 refine zN3 (fun listed a' w'=>∃ k' ρ',IV C nE m nt ops ks vs rs lv crs sl a listed a' w' k' ρ') ?_ ?_ _ _ _ _ (by simp) (by
  have:∀ n,unl (List.replicate n false)=n:=by
   intro n
   induction n with
   | zero=>rfl
   | succ n ih=>simp [List.replicate_succ,unl,ih]; omega
  rw [Array.toList_replicate,this]
  exact Nat.le_refl _) ⟨0,ρ,?_⟩
 ·rintro listed a' w' i hs ⟨k',ρ',hiv⟩ hi
  exact draw_step hctr E K hL' (ntB_ok hN) hv (by rw [← hen]; exact hr.n0) hD (by simpa using hs) hiv hi
 ·rintro listed a' w' hs ⟨k',ρ',h⟩ hrd
  have hs':listed.size=ops.length:=by simpa using hs
  have all:∀ n i,i < n→i < ops.length→listed.getD i false=true:=by
   intro n
   induction n with
   | zero=>intro i hi; omega
   | succ n ih =>
    intro i hin hil
    cases hli:listed.getD i false with
    | true=>rfl
    | false =>
     exfalso
     have hmem:i∈Region.ready .any ops.toArray listed:=by
      unfold Region.ready
      simp only [List.mem_filter,List.mem_range,Bool.and_eq_true,Bool.not_eq_true']
      refine ⟨by simpa using hil,?_,?_⟩
      ·have hlt:i < listed.size:=by omega
       simp only [Array.getD_eq_getD_getElem?,Array.getElem?_eq_getElem hlt,Option.getD_some] at hli ⊢
       exact hli
      ·rw [List.getElem?_toArray,List.getElem?_eq_getElem hil]
       simp only [Option.map_some,Option.getD_some]
       rw [Array.all_eq_true_iff_forall_mem]
       intro e he
       by_cases hb:Region.binds .any e=true
       ·have hlt:=E.up i _ e (List.getElem?_eq_getElem hil) (by simpa using he) hb
        simp [hb,ih e.on (by omega) (by omega)]
       ·simp [hb]
     rw [hrd] at hmem
     cases hmem
  have hall:∀ i,i < ops.length→listed.getD i false=true:=fun i hi=>all (i+1) i (by omega) hi
  have hkm:k'=m:=by
   rcases Nat.lt_or_ge k' m with hlt | hge
   ·obtain ⟨i,hi,hj⟩:=K.cj k' hlt
    have:=(h.hard i k' hj).1 (hall i (by rw [← E.len]; exact hi))
    omega
   ·have:=h.le; omega
  subst hkm
  obtain ⟨e,he,hw⟩:=h.wd
  rw [hF] at he
  cases he
  have heF:enF.length=nE+crs.length:=hL' enF (by rw [zA5] at hF; exact List.mem_of_getElem? hF)
  have hpF:∀ c,c < enF.length ↔ PR nE crs listed k' c:=fun c=>by
   refine ⟨fun hc=>?_,fun hc=>by rw [heF]; exact PR_len hc⟩
   rcases Nat.lt_or_ge c nE with h1 | h1
   ·exact .inl h1
   ·refine .inr ⟨h1,?_⟩
    have hq:c - nE < crs.length:=by omega
    rw [List.getElem?_eq_getElem hq]
    cases hcr:crs[c - nE] with
    | f i=>exact hall i (by rw [← E.len]; exact (K.cf (c - nE) i (by rw [List.getElem?_eq_getElem hq,hcr])).1)
    | h j=>exact (K.ch (c - nE) j (by rw [List.getElem?_eq_getElem hq,hcr])).1
  refine hK ρ' a' w' ⟨hw.iff hpF,?_,h.sz,h.df,?_⟩
  ·intro d v hd
   rcases slAt_all hd hv with ⟨j,o,ho,hod,hvj⟩ | ⟨hn,hb⟩
   ·obtain ⟨h1,h2⟩:=h.tm j o v d (hall j (List.getElem?_eq_some_iff.1 ho).1) ho hvj hod
    exact ⟨h1,SV.wf_mono h2 (fun c hc=>(hpF c).2 hc)⟩
   ·obtain ⟨h1,h2⟩:=h.base d v hb
    exact ⟨(h.old d (fun i o _ ho=>hn i o ho)).trans h1,SV.wf_mono h2 (fun c hc=>(hpF c).2 (.inl hc))⟩
  ·have:=hr.n0; omega
 ·refine ⟨Nat.zero_le _,?_,?_,?_,?_,⟨e0,he0,?_⟩,?_,?_,?_,hr.sz,hr.df⟩
  ·intro i j _
   rw [hne]
   simp
  ·intro i o e hi; rw [hne] at hi; cases hi
  ·intro i hi; rw [hne] at hi; cases hi
  ·intro i _ _; exact Nat.zero_le _
  ·have h1:=hr.hw.drew
   have h2:Hw C ρ (· < en.length) e0 { w with drawn:=w.drawn+1 }:=
    ⟨fun c ty cells mu hc hce=>h1.hp c ty cells mu hc (by rw [← hfc c (by omega)]; exact hce),fun c ty cells mu hc hce=>h1.ho c ty cells mu hc (by rw [← hfc c (by omega)]; exact hce),fun c d hc hd hcl hdl=>h1.inj c d hc hd (by rw [← hfc c (by omega)]; exact hcl) (by rw [← hfc d (by omega)]; exact hdl),h1.up,fun c ty cells hc hce=>h1.mu c ty cells hc (by rw [← hfc c (by omega)]; exact hce),h1.ini⟩
   exact h2.iff hp0
  ·intro i o v d hi; rw [hne] at hi; cases hi
  ·intro t _; rfl
  ·intro t u hu
   rw [← hen]
   exact hr.tm t u hu
end
end Go.Proofs.YtfpeholdlkfmoaaGreatDoor
/- The walk of a drawn region in the text's order, as a computation; calls that change memory, met by hand. -/
namespace Go.Proofs.YtfpeholdlkfmoaaGreatDoor
set_option linter.unusedSimpArgs false
set_option linter.unusedVariables false
open Go.RowKit
structure DD where
 ks:List Kd
 vs:List SV
 lv:List (List EN)
 crs:List Cr
 m:Nat
structure HC where
 v:SV
 en:List EN
def jJ (x:EN):List (List EN)→List (List EN)
 | []=>[]
 | l :: r=>zF l x :: jJ x r
def jK (xs:List EN):List (List EN)→List (List EN)
 | []=>[]
 | l :: r=>qA l xs :: jK xs r
def jL {α:Type}:Nat→List α→List α
 | 0,l=>l
 | _+1,[]=>[]
 | n+1,_ :: l=>jL n l
def jM {α:Type} (x:α):List EN→List α
 | []=>[]
 | _ :: l=>x :: jM x l
def jC (k:Kd) (v:SV):Option DD→Option DD
 | some ⟨ks,vs,lv,crs,m⟩=>some ⟨k :: ks,v :: vs,lv,crs,m⟩
 | none=>none
def cO (P:Program) (rd:Rd) (ctr:Ctr) (nE i:Nat) (en:List EN) (lv:List (List EN)) (crs:List Cr) (m:Nat) (hs:List HC) (sl:List (Nat × SV)):Op→Option (Kd × SV × List (List EN) × List Cr × Nat × List HC)
 | .call ⟨.value (.func f),args,_⟩=>match qw sl args.toList with
  | some xs=>match ctr f (jI nE en) xs with
   | some (_,u)=>some (.soft,u,lv,crs,m,hs)
   | none=>match hs with
    | ⟨v,en'⟩ :: hs'=>some (.hcl m,v,zF (jK (jL (zG en) en') lv) en',qA crs (jM (.h m) (jL (zG en) en')),m+1,hs')
    | []=>none
  | none=>none
 | .store t a x=>match jH P sl en (.store t a x) with
  | some en'=>some (.hst m,.c .u,zF lv en',crs,m+1,hs)
  | none=>none
 | .buildSlice t n ps=>match jF P sl (.buildSlice t n ps) with
  | some (t,l,q)=>some (.flt (zG en),jG (zG en) q,jJ ⟨(t,0,whole),l,true⟩ lv,zF crs (.f i),m,hs)
  | none=>none
 | .alloc t=>match jF P sl (.alloc t) with
  | some (t,l,q)=>some (.flt (zG en),jG (zG en) q,jJ ⟨(t,0,whole),l,true⟩ lv,zF crs (.f i),m,hs)
  | none=>none
 | .box t x=>match jF P sl (.box t x) with
  | some (t,l,q)=>some (.flt (zG en),jG (zG en) q,jJ ⟨(t,0,whole),l,true⟩ lv,zF crs (.f i),m,hs)
  | none=>none
 | op=>match qK P rd en (ev sl) op with
  | some (_,u)=>some (.soft,u,lv,crs,m,hs)
  | none=>none
def cD (P:Program) (rd:Rd) (ctr:Ctr) (nE:Nat) (all:List Oper):List Oper→Nat→List (Nat × SV)→List (List EN)→List Cr→Nat→List HC→Option DD
 | [],_,_,lv,crs,m,_=>some ⟨[],[],lv,crs,m⟩
 | ⟨dst,op,_,_,_,gd⟩ :: os,i,sl,lv,crs,m,hs=>match jD all sl gd with
  | some false=>jC .skip (.c .u) (cD P rd ctr nE all os (i+1) (jN dst (.c .u) sl) lv crs m hs)
  | some true=>match zD lv m with
   | some en=>match cO P rd ctr nE i en lv crs m hs sl op with
    | some (k,v,lv',crs',m',hs')=>jC k v (cD P rd ctr nE all os (i+1) (jN dst v sl) lv' crs' m' hs')
    | none=>none
   | none=>none
  | none=>none
inductive Cmp {α:Type} (a:Option α) (b:α):Prop
 | mk
theorem Cmp.of {α:Type} {a:Option α} {b:α} (_:a=some b):Cmp a b:=.mk
theorem zA2 (en:List EN):lenB [en] (zG en+zG ([]:List Cr))=true:=by simp [lenB,zG]
theorem zA0 {α:Type} (l:List α):jI (zG l) l=l:=by rw [zJ2,zB9,List.take_length]
section
variable {C:Cx} {nt:Nat} {sl:List (Nat × SV)} {en:List EN} {k:List KI}
theorem zA1 {ctr:Ctr} (hctr:zE4 C ctr) (hm:C.P.follows .mixedOrders=true) (rs:List (Nat × Nat)) (hs:List HC) {id:Nat} {os:List Oper} {D:DD} (_hcd:Cmp (cD C.P C.rd ctr (zG en) os os 0 sl [en] [] 0 hs) D) (hE:ckE os D.ks rs D.m=true) (hC:ckC (zG en) D.ks D.crs D.m=true) (hL:lenB D.lv (zG en+zG D.crs)=true) (hN:ntB os nt=true)
  (hv:zG D.vs=zG os) {e0:List EN} (h0:zD D.lv 0=some e0) (h0':jI (zG en) e0=en) {enF:List EN} (hF:zD D.lv D.m=some enF) (hD:jS C ctr (zG en) os D.lv D.crs 0 os D.ks D.vs rs sl)
  (hK:Run C k nt (zJ C.kp (jO os D.vs (zG os) sl)) enF):Run C (.code (.region id os.toArray true) :: k) nt sl en:=by
 simp only [zB9] at hC hL hD h0' hv hK
 refine Run_draw hctr hm hE hC hL hN hv rfl ⟨e0,h0,h0'⟩ hF hD ?_
 intro ρ a w hr
 exact hK ρ a w (hr.trim _)
theorem zE5 {dst:Option Nat} {f:FuncId} {args:Array Operand} {tys:Array TypeId} {ty:TypeId} {pos:String} {af:Array Edge} {all r:List Oper} {xs:List SV} (hxs:qw sl args.toList=some xs) (v:SV) (en':List EN)
  (hH:zP3 C (zG en) (fun c=>zG en≤c∧c < zG en') en en' f xs v) (hn:zG en≤zG en') (hd:∀ d,dst=some d→d < nt) (hK:Run C (.ops all r :: k) nt (jN dst v sl) en') :
  Run C (.ops all (⟨dst,.call ⟨.value (.func f),args,tys⟩,ty,pos,af,none⟩ :: r) :: k) nt sl en:=by
 intro ρ a w hr
 rw [zB9] at hn
 rw [zB9] at hn
 obtain ⟨k1,k2⟩:=hH
 obtain ⟨g1,g2⟩:=hr.evs_ok _ _ hxs
 have hargs:args.map a.eval=(xs.map (SV.den ρ)).toArray:=by apply Array.toList_inj.1; simpa using g1
 rw [zH9]
 unfold wpList
 rw [if_pos (by simp [Region.wanted])]
 left
 unfold Oper.wp
 have hx':(execOp a.eval ⟨dst,.call ⟨.value (.func f),args,tys⟩,ty,pos,af,none⟩).run C.P w=.ok (.enter f (xs.map (SV.den ρ)).toArray) w:=by
  simp [execOp,resolve,Act.eval,Deferred.ofValue,invoke,hargs,k1]
 rw [hx']
 simp only [Oper.upon]
 refine (k2 ρ (· < en.length) w (fun c hc=>by rw [zB9] at hc; exact hc) (fun c hc=>by rw [zB9] at hc; omega) hr.hw (fun c hc=>by rw [zA5,List.getElem?_eq_getElem hc]; simp) g2).mono ?_
 rintro e w' ⟨ρ',hρ,rfl,hvw,hw',_⟩
 have hiff:∀ c,c < en'.length ↔ (c < en.length∨(zG en≤c∧c < zG en')):=fun c=>by rw [zB9,zB9]; omega
 have hr1:Rep C ρ' nt sl en' a w':=by
  refine ⟨hw'.iff hiff,fun d u hd=>?_,hr.sz,hr.df,by have:=hr.n0; omega⟩
  obtain ⟨h1,h2⟩:=hr.tm d u hd
  rw [SV.den_congr h2 hρ]
  exact ⟨h1,SV.wf_mono h2 (fun c hc=>by omega)⟩
 refine hK ρ' _ w' ?_
 cases dst with
 | none=>exact hr1
 | some d=>exact hr1.put (hd d rfl) (SV.wf_mono hvw (fun c hc=>(hiff c).2 hc))
end
end Go.Proofs.YtfpeholdlkfmoaaGreatDoor
/- A walk that stops at an open branch. -/
namespace Go.Proofs.YtfpeholdlkfmoaaGreatDoor
set_option linter.unusedSimpArgs false
set_option linter.unusedVariables false
open Go.RowKit
def opG:Bool→Program→Rd→Ctr→Nat→(List (Nat × SV)→List EN→Prop)→Prop→Option Nat→List (Nat × SV)→List EN→Op→Prop
 | true,P,rd,ctr,nt,K,stop,dst,sl,en,op=>qH P rd ctr nt K stop dst sl en op
 | false,_,_,_,_,_,stop,_,_,_,_=>stop
def putG:Bool→Nat→(List (Nat × SV)→List EN→Prop)→Prop→Option Nat→SV→List (Nat × SV)→List EN→Prop
 | true,nt,K,stop,dst,v,sl,en=>qI nt K stop dst v sl en
 | false,_,_,stop,_,_,_,_=>stop
theorem jZ {P:Program} {rd:Rd} {ctr:Ctr} {nt:Nat} {K:List (Nat × SV)→List EN→Prop} {stop:Prop} {dst:Option Nat} {sl:List (Nat × SV)} {en:List EN} {op:Op}:opG true P rd ctr nt K stop dst sl en op=qH P rd ctr nt K stop dst sl en op:=rfl
theorem ja {P:Program} {rd:Rd} {ctr:Ctr} {nt:Nat} {K:List (Nat × SV)→List EN→Prop} {stop:Prop} {dst:Option Nat} {sl:List (Nat × SV)} {en:List EN} {op:Op}:opG false P rd ctr nt K stop dst sl en op=stop:=rfl
theorem jd {nt:Nat} {K:List (Nat × SV)→List EN→Prop} {stop:Prop} {dst:Option Nat} {v:SV} {sl:List (Nat × SV)} {en:List EN}:putG true nt K stop dst v sl en=qI nt K stop dst v sl en:=rfl
theorem je {nt:Nat} {K:List (Nat × SV)→List EN→Prop} {stop:Prop} {dst:Option Nat} {v:SV} {sl:List (Nat × SV)} {en:List EN}:putG false nt K stop dst v sl en=stop:=rfl
def VG (C:Cx) (ctr:Ctr) (rs:List ResultVar):Bool→Nat→List KI→Nat→List (Nat × SV)→List EN→Prop
 | false,_,k,nt,sl,en=>Run C k nt sl en
 | true,0,k,nt,sl,en=>Run C k nt sl en
 | true,_+1,[],nt,sl,en=>Run C [] nt sl en
 | true,n+1,.blk _ :: k,nt,sl,en=>VG C ctr rs true n k nt sl en
 | true,n+1,.ops _ [] :: k,nt,sl,en=>VG C ctr rs true n k nt (zJ C.kp sl) en
 | true,n+1,.ops all (⟨dst,op,ty,pos,af,none⟩ :: r) :: k,nt,sl,en =>
  qH C.P C.rd ctr nt (VG C ctr rs true n (.ops all r :: k) nt) (Run C (.ops all (⟨dst,op,ty,pos,af,none⟩ :: r) :: k) nt sl en) dst sl en op
 | true,n+1,.ops all (⟨dst,op,ty,pos,af,some (j,b)⟩ :: r) :: k,nt,sl,en =>
  match zD all j with
  | some ⟨some d,_,_,_,_,_⟩=>match qy sl d with
   | some (.c (.b x)) =>
    (x=b→opG (x == b) C.P C.rd ctr nt (VG C ctr rs (x == b) n (.ops all r :: k) nt) (Run C (.ops all (⟨dst,op,ty,pos,af,some (j,b)⟩ :: r) :: k) nt ((d,.c (.b b)) :: sl) en) dst ((d,.c (.b b)) :: sl) en op) ∧
    (x=(!b)→putG (x == !b) nt (VG C ctr rs (x == !b) n (.ops all r :: k) nt) (Run C (.ops all (⟨dst,op,ty,pos,af,some (j,b)⟩ :: r) :: k) nt sl en) dst (.c .u) ((d,.c (.b !b)) :: sl) en)
   | some (.c .u)=>qI nt (VG C ctr rs true n (.ops all r :: k) nt) (Run C (.ops all (⟨dst,op,ty,pos,af,some (j,b)⟩ :: r) :: k) nt sl en) dst (.c .u) sl en
   | _=>Run C (.ops all (⟨dst,op,ty,pos,af,some (j,b)⟩ :: r) :: k) nt sl en
  | _=>Run C (.ops all (⟨dst,op,ty,pos,af,some (j,b)⟩ :: r) :: k) nt sl en
 | true,n+1,.code .skip :: k,nt,sl,en=>VG C ctr rs true n k nt sl en
 | true,n+1,.code (.seq a b) :: k,nt,sl,en=>VG C ctr rs true n (.code a :: .code b :: k) nt sl en
 | true,n+1,.code (.block id c) :: k,nt,sl,en=>VG C ctr rs true n (.code c :: .blk id :: k) nt sl en
 | true,n+1,.code (.exit id) :: k,nt,sl,en=>match zH id k with
  | some k'=>VG C ctr rs true n k' nt sl en
  | none=>Run C (.code (.exit id) :: k) nt sl en
 | true,n+1,.code (.cond c a b) :: k,nt,sl,en=>match ev sl c with
  | some (.c (.b x))=>(x=true→VG C ctr rs x n (.code a :: k) nt sl en)∧(x=false→VG C ctr rs (!x) n (.code b :: k) nt sl en)
  | _=>Run C (.code (.cond c a b) :: k) nt sl en
 | true,n+1,.code (.region _ ops false) :: k,nt,sl,en=>VG C ctr rs true n (.ops ops.toList ops.toList :: k) nt sl en
 | true,_+1,.code .ret :: k,nt,sl,en=>match qE C.P sl en rs with
  | some l=>Fin C rs (qG l) en
  | none=>Run C (.code .ret :: k) nt sl en
 | true,_+1,k,nt,sl,en=>Run C k nt sl en
section
variable {C:Cx} {ρ:Nat→RE} {nt:Nat} {sl:List (Nat × SV)} {en:List EN} {a:Act} {w:World}
variable {K:Act→World→Prop} {Q:Exit→Act→World→Prop}
theorem zA6 {ctr:Ctr} (hctr:zE4 C ctr) {rs:List ResultVar}:∀ (go:Bool) (n:Nat) (k:List KI) (sl:List (Nat × SV)) (en:List EN),VG C ctr rs go n k nt sl en→Run C k nt sl en
 | false,_,k,sl,en,h=>by simpa only [VG] using h
 | true,0,k,sl,en,h=>h
 | true,n+1,[],sl,en,h=>h
 | true,n+1,.blk id :: k,sl,en,h=>fun ρ a w hr=>zA6 hctr true n k sl en h ρ a w hr
 | true,n+1,.ops all [] :: k,sl,en,h=>fun ρ a w hr=>zA6 hctr true n k _ en h ρ a w (hr.trim _)
 | true,n+1,.ops all (⟨dst,op,ty,pos,af,none⟩ :: r) :: k,sl,en,h=>fun ρ a w hr=>by
  rcases zZ7 hctr (o:=⟨dst,op,ty,pos,af,none⟩) (K:=wpList C.P all.toArray (KQ C k) r) (Q:=KQ C k) h hr (fun sl' en' ρ' a' w' hk hr'=>zA6 hctr true n _ sl' en' hk ρ' a' w' hr') with hst | hwp
  ·exact hst ρ a w hr
  ·rw [zH9]
   unfold wpList
   rw [if_pos (by simp [Region.wanted])]
   exact .inl hwp
 | true,n+1,.ops all (⟨dst,op,ty,pos,af,some (j,b)⟩ :: r) :: k,sl,en,h=>fun ρ a w hr=>by
  have skip:∀ sl',Rep C ρ nt sl' en a w→Region.wanted ⟨dst,op,ty,pos,af,some (j,b)⟩ (yielded all.toArray a.tmps)=false →
    qI nt (VG C ctr rs true n (.ops all r :: k) nt) (Run C (.ops all (⟨dst,op,ty,pos,af,some (j,b)⟩ :: r) :: k) nt sl en) dst (.c .u) sl' en→KQ C (.ops all (⟨dst,op,ty,pos,af,some (j,b)⟩ :: r) :: k) .normal a w:=by
   intro sl' hr' hw hp
   rcases zN9 hp hr' (v:=.c .u) trivial with hst | ⟨sl'',hk,hr''⟩
   ·exact hst ρ a w hr
   ·rw [zH9]
    unfold wpList
    rw [if_neg (by rw [hw]; simp)]
    exact zA6 hctr true n _ sl'' en hk ρ _ w hr''
  simp only [VG] at h
  split at h <;> try exact h ρ a w hr
  rename_i d _ _ _ _ _ hj
  rw [zA5] at hj
  have hy:∀ v,a.tmps[d]?=some v→yielded all.toArray a.tmps j=(match v with | .bool b=>some b | _=>none):=by
   intro v hv
   simp only [yielded,List.getElem?_toArray,hj,Option.bind_some,hv]
   cases v <;> rfl
  split at h <;> try exact h ρ a w hr
  ·rename_i x hx
   have h1:=(hr.tm d _ hx).1
   have h2:=hy _ h1
   obtain ⟨ha,hb⟩:=h
   by_cases hxb:x=b
   ·subst hxb
    have ha:=ha rfl
    rw [beq_self_eq_true,opG] at ha
    rcases zZ7 hctr (o:=⟨dst,op,ty,pos,af,some (j,x)⟩) (K:=wpList C.P all.toArray (KQ C k) r) (Q:=KQ C k) ha (hr.lit hx) (fun sl' en' ρ' a' w' hk hr'=>zA6 hctr true n _ sl' en' hk ρ' a' w' hr') with hst | hwp
    ·exact hst ρ a w (hr.lit hx)
    ·rw [zH9]
     unfold wpList
     rw [if_pos (by simp [Region.wanted,h2,SV.den,SC.den])]
     exact .inl hwp
   ·have hxb':x=!b:=by cases x <;> cases b <;> simp_all
    have hb:=hb hxb'
    rw [hxb',beq_self_eq_true,putG] at hb
    refine skip _ (by rw [← hxb']; exact hr.lit hx) ?_ hb
    simp [Region.wanted,h2,SV.den,SC.den,hxb']
  ·rename_i hx
   have h1:=(hr.tm d _ hx).1
   have h2:=hy _ h1
   refine skip _ hr ?_ h
   simp [Region.wanted,h2,SV.den,SC.den,undef]
 | true,n+1,.code .skip :: k,sl,en,h=>fun ρ a w hr=>wp_skip (zA6 hctr true n k sl en h ρ a w hr)
 | true,n+1,.code (.seq x y) :: k,sl,en,h=>fun ρ a w hr=>wp_seq (zA6 hctr true n (.code x :: .code y :: k) sl en h ρ a w hr)
 | true,n+1,.code (.block id c) :: k,sl,en,h=>fun ρ a w hr=>wp_block (zA6 hctr true n (.code c :: .blk id :: k) sl en h ρ a w hr)
 | true,n+1,.code (.exit id) :: k,sl,en,h=>fun ρ a w hr=>by
  simp only [VG] at h
  split at h
  ·rename_i k' hk
   exact wp_exit (zT6 hk a w (zA6 hctr true n k' sl en h ρ a w hr))
  ·exact h ρ a w hr
 | true,n+1,.code (.cond c x y) :: k,sl,en,h=>fun ρ a w hr=>by
  simp only [VG] at h
  split at h <;> try exact h ρ a w hr
  rename_i t ht
  obtain ⟨e1,_⟩:=hr.ev_ok _ _ ht
  refine wp_cond (t:=t) e1 ?_
  cases t with
  | true=>exact zA6 hctr true n (.code x :: k) sl en (h.1 rfl) ρ a w hr
  | false=>exact zA6 hctr true n (.code y :: k) sl en (h.2 rfl) ρ a w hr
 | true,n+1,.code (.region id ops draw) :: k,sl,en,h=>fun ρ a w hr=>by
  cases draw with
  | true=>exact h ρ a w hr
  | false=>exact wp_region_list (zA6 hctr true n (.ops ops.toList ops.toList :: k) sl en h ρ a w hr)
 | true,n+1,.code (.loop c) :: k,sl,en,h=>h
 | true,n+1,.code (.rangeFunc _ _ _ _) :: k,sl,en,h=>h
 | true,n+1,.code (.scope _) :: k,sl,en,h=>h
 | true,n+1,.code (.label _) :: k,sl,en,h=>h
 | true,n+1,.code (.goto _) :: k,sl,en,h=>h
 | true,n+1,.code .ret :: k,sl,en,h=>fun ρ a w hr=>by
  simp only [VG] at h
  split at h
  ·rename_i l hl
   refine wp_ret (zS4 k a w (h ρ a w hr.hw hr.n0 ?_ hr.df fun fn hfn=>?_))
   ·exact resV_wf (hr.res _ _ hl).2
   ·subst hfn; exact (hr.resOk hl).1
  ·exact h ρ a w hr
 | true,n+1,.code (.refuse _) :: k,sl,en,h=>h
end
end Go.Proofs.YtfpeholdlkfmoaaGreatDoor
/- Calls that change memory told by what they add; operations met by hand. -/
namespace Go.Proofs.YtfpeholdlkfmoaaGreatDoor
set_option linter.unusedSimpArgs false
set_option linter.unusedVariables false
open Go.RowKit
abbrev HF:=List EN→SV × List EN
def jB (f:Nat→SV) (e:Nat→EN):HF:=fun en=>(f (zG en),zF en (e (zG en)))
def jA (P:Program) (rd:Rd) (ctr:Ctr) (nE i:Nat) (en:List EN) (lv:List (List EN)) (crs:List Cr) (m:Nat) (hs:List HF) (sl:List (Nat × SV)):Op→Option (Kd × SV × List (List EN) × List Cr × Nat × List HF)
 | .call ⟨.value (.func f),args,_⟩=>match qw sl args.toList with
  | some xs=>match ctr f (jI nE en) xs with
   | some (_,u)=>some (.soft,u,lv,crs,m,hs)
   | none=>match hs with
    | h :: hs'=>match h en with
     | (v,en')=>some (.hcl m,v,zF (jK (jL (zG en) en') lv) en',qA crs (jM (.h m) (jL (zG en) en')),m+1,hs')
    | []=>none
  | none=>none
 | .call ⟨.builtin .append,_,_⟩=>match hs with
  | h :: hs'=>match h en with
   | (v,en')=>some (.hcl m,v,zF (jK (jL (zG en) en') lv) en',qA crs (jM (.h m) (jL (zG en) en')),m+1,hs')
  | []=>none
 | .store t a x=>match jH P sl en (.store t a x) with
  | some en'=>some (.hst m,.c .u,zF lv en',crs,m+1,hs)
  | none=>none
 | .buildSlice t n ps=>match jF P sl (.buildSlice t n ps) with
  | some (t,l,q)=>some (.flt (zG en),jG (zG en) q,jJ ⟨(t,0,whole),l,true⟩ lv,zF crs (.f i),m,hs)
  | none=>none
 | .alloc t=>match jF P sl (.alloc t) with
  | some (t,l,q)=>some (.flt (zG en),jG (zG en) q,jJ ⟨(t,0,whole),l,true⟩ lv,zF crs (.f i),m,hs)
  | none=>none
 | .box t x=>match jF P sl (.box t x) with
  | some (t,l,q)=>some (.flt (zG en),jG (zG en) q,jJ ⟨(t,0,whole),l,true⟩ lv,zF crs (.f i),m,hs)
  | none=>none
 | op=>match qK P rd en (ev sl) op with
  | some (_,u)=>some (.soft,u,lv,crs,m,hs)
  | none=>none
def cE (P:Program) (rd:Rd) (ctr:Ctr) (nE:Nat) (all:List Oper):List Oper→Nat→List (Nat × SV)→List (List EN)→List Cr→Nat→List HF→Option DD
 | [],_,_,lv,crs,m,_=>some ⟨[],[],lv,crs,m⟩
 | ⟨dst,op,_,_,_,gd⟩ :: os,i,sl,lv,crs,m,hs=>match jD all sl gd with
  | some false=>jC .skip (.c .u) (cE P rd ctr nE all os (i+1) (jN dst (.c .u) sl) lv crs m hs)
  | some true=>match zD lv m with
   | some en=>match jA P rd ctr nE i en lv crs m hs sl op with
    | some (k,v,lv',crs',m',hs')=>jC k v (cE P rd ctr nE all os (i+1) (jN dst v sl) lv' crs' m' hs')
    | none=>none
   | none=>none
  | none=>none
section
variable {C:Cx} {nt:Nat} {sl:List (Nat × SV)} {en:List EN} {k:List KI}
theorem zG1 {ctr:Ctr} (hctr:zE4 C ctr) (hm:C.P.follows .mixedOrders=true) (rs:List (Nat × Nat)) (hs:List HF) {id:Nat} {os:List Oper} {D:DD} (_hcd:Cmp (cE C.P C.rd ctr (zG en) os os 0 sl [en] [] 0 hs) D) (hE:ckE os D.ks rs D.m=true) (hC:ckC (zG en) D.ks D.crs D.m=true) (hL:lenB D.lv (zG en+zG D.crs)=true) (hN:ntB os nt=true)
  (hv:zG D.vs=zG os) {e0:List EN} (h0:zD D.lv 0=some e0) (h0':jI (zG en) e0=en) {enF:List EN} (hF:zD D.lv D.m=some enF) (hD:jS C ctr (zG en) os D.lv D.crs 0 os D.ks D.vs rs sl)
  (hK:Run C k nt (zJ C.kp (jO os D.vs (zG os) sl)) enF):Run C (.code (.region id os.toArray true) :: k) nt sl en:=
 zA1 hctr hm rs [] (D:=D) Cmp.mk hE hC hL hN hv h0 h0' hF hD hK
variable {dst:Option Nat} {op:Op} {ty:TypeId} {pos:String} {af:Array Edge} {all r:List Oper}
theorem Run_soft1 (v:SV) (hx:∀ ρ a w,Rep C ρ nt sl en a w→(execOp a.eval ⟨dst,op,ty,pos,af,none⟩).run C.P w=.ok (.value (v.den ρ)) w∧v.wf (· < en.length)) (hd:∀ d,dst=some d→d < nt) (hK:Run C (.ops all r :: k) nt (jN dst v sl) en) :
  Run C (.ops all (⟨dst,op,ty,pos,af,none⟩ :: r) :: k) nt sl en:=by
 intro ρ a w hr
 obtain ⟨h1,h2⟩:=hx ρ a w hr
 rw [zH9]
 unfold wpList
 rw [if_pos (by simp [Region.wanted])]
 left
 unfold Oper.wp
 rw [h1]
 simp only [Oper.upon]
 refine hK ρ _ w ?_
 cases dst with
 | none=>exact hr
 | some d=>exact hr.put (hd d rfl) h2
theorem and_le (a m:Int) (h0:0≤m) (h1:m < 9223372036854775808):0≤IntKind.i64.wrap ((BitVec.ofInt 64 a &&& BitVec.ofInt 64 m).toNat:Int)∧IntKind.i64.wrap ((BitVec.ofInt 64 a &&& BitVec.ofInt 64 m).toNat:Int)≤m:=by
 have h2:(BitVec.ofInt 64 a &&& BitVec.ofInt 64 m).toNat≤m.toNat:=by
  rw [BitVec.toNat_and]
  refine Nat.le_trans Nat.and_le_right ?_
  rw [BitVec.toNat_ofInt]
  omega
 rw [IntKind.wrap_i64]
 omega
end
end Go.Proofs.YtfpeholdlkfmoaaGreatDoor
/- A walk forgets entries and slots that are no longer needed; operations met by hand, guarded ones too. -/
namespace Go.Proofs.YtfpeholdlkfmoaaGreatDoor
set_option linter.unusedSimpArgs false
set_option linter.unusedVariables false
open Go.RowKit
section
variable {C:Cx} {nt:Nat} {sl:List (Nat × SV)} {en:List EN} {k:List KI}
def keepS (f:Nat→Nat) (n:Nat) (sl:List (Nat × SV)):List (Nat × SV)→Prop
 | []=>True
 | (d,v) :: r=>(v.wf (· < n)∧∃ v',qy sl d=some v'∧∀ ρ:Nat→RE,v.den (fun c=>ρ (f c))=v'.den ρ)∧keepS f n sl r
theorem keepS_get {f:Nat→Nat} {n:Nat} {sl:List (Nat × SV)}:∀ {s:List (Nat × SV)},keepS f n sl s→∀ d v,qy s d=some v→v.wf (· < n)∧∃ v',qy sl d=some v'∧∀ ρ:Nat→RE,v.den (fun c=>ρ (f c))=v'.den ρ
 | [],_,d,v,h=>by simp [qy] at h
 | (e,u) :: s,hs,d,v,h=>by
  simp only [qy] at h
  split at h
  ·rename_i e'; subst e'; simp only [Option.some.injEq] at h; subst h; exact hs.1
  ·exact keepS_get hs.2 d v h
def keepE (f:Nat→Nat) (n:Nat) (en:List EN):Nat→List EN→Prop
 | _,[]=>True
 | i,e :: r=>(∃ cs,zD en (f i)=some ⟨e.ty,cs,e.mu⟩∧(∀ ρ:Nat→RE,zC1 (fun c=>ρ (f c)) e.cells=zC1 ρ cs)∧wfs (· < n) e.cells)∧keepE f n en (i+1) r
theorem keepE_get {f:Nat→Nat} {n:Nat} {en:List EN}:∀ (l:List EN) (i c:Nat) (e:EN),keepE f n en i l→zD l c=some e→∃ cs,zD en (f (i+c))=some ⟨e.ty,cs,e.mu⟩∧(∀ ρ:Nat→RE,zC1 (fun c=>ρ (f c)) e.cells=zC1 ρ cs)∧wfs (· < n) e.cells
 | [],i,c,e,_,h=>by simp [zD] at h
 | x :: l,i,0,e,hk,h=>by
  simp only [zD,Option.some.injEq] at h; subst h; exact hk.1
 | x :: l,i,c+1,e,hk,h=>by
  have:=keepE_get l (i+1) c e hk.2 (by simpa [zD] using h)
  rwa [show i+1+c=i+(c+1) by omega] at this
theorem Rep.keep {ρ:Nat→RE} {a:Act} {w:World} {f:Nat→Nat} {enK:List EN} {slK:List (Nat × SV)} (hr:Rep C ρ nt sl en a w) (hn0:(∀ c,c < C.n0→f c=c)∧C.n0≤enK.length) (hf:∀ c d,c < enK.length→d < enK.length→f c=f d→c=d)
  (hen:keepE f enK.length en 0 enK) (hsl:keepS f enK.length sl slK):Rep C (fun c=>ρ (f c)) nt slK enK a w:=by
 have hlt:∀ c ty cells mu,zD enK c=some ⟨ty,cells,mu⟩→∃ cs,zD en (f c)=some ⟨ty,cs,mu⟩∧(∀ ρ:Nat→RE,zC1 (fun c=>ρ (f c)) cells=zC1 ρ cs)∧wfs (· < enK.length) cells∧f c < en.length:=by
  intro c ty cells mu hc
  obtain ⟨cs,h1,h2,h3⟩:=keepE_get enK 0 c _ hen hc
  rw [Nat.zero_add] at h1
  exact ⟨cs,h1,h2,h3,by rw [zA5] at h1; exact (List.getElem?_eq_some_iff.1 h1).1⟩
 refine ⟨⟨?_,?_,?_,hr.hw.up,?_,?_⟩,?_,hr.sz,hr.df,?_⟩
 ·intro c ty cells mu hc he
  obtain ⟨cs,q1,q2,q3,q4⟩:=hlt c ty cells mu he
  have h:=hr.hw.hp (f c) ty cs mu q4 q1
  have hl:cs=[]→cells=[]:=fun e=>by
   have:=congrArg List.length (q2 ρ)
   rw [e] at this
   simpa [zC1] using this
  exact ⟨fun hh=>by rw [h.heap hh,q2 ρ],q3,fun e=>⟨hl (h.dead e).1,(h.dead e).2⟩,fun e=>hl (h.non e)⟩
 ·intro c ty cells mu hc he
  obtain ⟨cs,q1,q2,q3,q4⟩:=hlt c ty cells mu he
  exact hr.hw.ho (f c) ty cs mu q4 q1
 ·intro c d hc hd h1 h2 h3
  have g:∀ x,x < enK.length→∃ ty cells mu,zD enK x=some ⟨ty,cells,mu⟩:=fun x hx=>⟨_,_,_,by rw [zA5]; exact List.getElem?_eq_getElem hx⟩
  obtain ⟨ty,cells,mu,p⟩:=g c hc
  obtain ⟨ty',cells',mu',p'⟩:=g d hd
  obtain ⟨cs,q1,q2,q3,q4⟩:=hlt c _ _ _ p
  obtain ⟨cs',r1,r2,r3,r4⟩:=hlt d _ _ _ p'
  rw [zB4 p] at h1; rw [zB4 p'] at h2
  exact hf c d hc hd (hr.hw.inj (f c) (f d) q4 r4 ((zB4 q1).2 h1) ((zB4 r1).2 h2) h3)
 ·intro c ty cells hc he
  obtain ⟨cs,q1,q2,q3,q4⟩:=hlt c ty cells true he
  exact hr.hw.mu (f c) ty cs q4 q1
 ·intro c hc; show ρ (f c)=_; rw [hn0.1 c hc]; exact hr.hw.ini c hc
 ·intro d v hd
  obtain ⟨h1,v',h2,h3⟩:=keepS_get hsl d v hd
  exact ⟨by rw [h3]; exact (hr.tm d v' h2).1,h1⟩
 ·exact hn0.2
theorem Run_keep {f:Nat→Nat} {enK:List EN} {slK:List (Nat × SV)} (hn0:C.n0=0) (hf:∀ c d,c < enK.length→d < enK.length→f c=f d→c=d)
  (hen:keepE f enK.length en 0 enK) (hsl:keepS f enK.length sl slK) (h:Run C k nt slK enK):Run C k nt sl en:=
 fun ρ a w hr=>h _ a w (hr.keep ⟨fun c hc=>by rw [hn0] at hc; exact absurd hc (Nat.not_lt_zero _),by rw [hn0]; exact Nat.zero_le _⟩ hf hen hsl)
theorem zM3 {f:Nat→Nat} {enK:List EN} {slK:List (Nat × SV)} (hn0:(∀ c,c < C.n0→f c=c)∧C.n0≤enK.length) (hf:∀ c d,c < enK.length→d < enK.length→f c=f d→c=d)
  (hen:keepE f enK.length en 0 enK) (hsl:keepS f enK.length sl slK) (h:Run C k nt slK enK):Run C k nt sl en:=
 fun ρ a w hr=>h _ a w (hr.keep hn0 hf hen hsl)
theorem Run_loopD {ι:Type} {c:Code} {k:List KI} (slF:ι→List (Nat × SV)) (enF:ι→List EN) (μ:ι→Nat) (x0:ι) (h0:sub (slF x0) sl) (he0:enF x0=en)
  (round:∀ (x:ι) (D:Cx),D.P=C.P→D.S=C.S→D.w0=C.w0→D.n0=C.n0→D.kp=C.kp→(∀ {P:Program} {fn:Func} {R:Ending→World→Prop},Ctx C P fn R→Ctx D P fn R) →
   (∀ {id:Nat} {k' kk:List KI} {s:List (Nat × SV)} {e:List EN},zH id kk=none→zH id k=some k'→Run C k' nt s e→Run D (.code (.exit id) :: kk) nt s e) →
   (∀ y s,μ y < μ x→sub (slF y) s→Run D [] nt s (enF y))→Run D [.code c] nt (slF x) (enF x)):Run C (.code (.loop c) :: k) nt sl en:=
 Run_loop slF enF μ x0 h0 he0 fun x J hJ=>round x (lpC C k J) rfl rfl rfl rfl rfl (fun h=>h.lp k J) (fun h1 h2 h3=>Run_lpExit h1 h2 h3) hJ
variable {dst:Option Nat} {op:Op} {ty:TypeId} {pos:String} {af:Array Edge} {all r:List Oper} {gd:Option (Nat × Bool)}
def gdT (all:List Oper) (sl:List (Nat × SV)):Option (Nat × Bool)→Bool
 | none=>true
 | some (j,b)=>match zD all j with
  | some ⟨some d,_,_,_,_,_⟩=>match qy sl d with
   | some (.c (.b x))=>x == b
   | _=>false
  | _=>false
end
end Go.Proofs.YtfpeholdlkfmoaaGreatDoor
/- A walk: a slice of nothing seen as a row of nothing; structs compared; what lies at raw places. -/
namespace Go.Proofs.YtfpeholdlkfmoaaGreatDoor
set_option linter.unusedSimpArgs false
set_option linter.unusedVariables false
open Go.RowKit
section
variable {C:Cx} {nt:Nat} {sl:List (Nat × SV)} {en:List EN} {k:List KI}
def relE (N:Nat):List EN→List EN→Prop
 | [],[]=>True
 | e :: l,e' :: l'=>(e.ty=e'.ty∧e.mu=e'.mu∧(∀ ρ:Nat→RE,(ρ N).nl=some none→zC1 ρ e'.cells=zC1 ρ e.cells)∧wfs (· < N+1) e'.cells)∧relE N l l'
 | _,_=>False
theorem relE_len {N:Nat}:∀ {l l':List EN},relE N l l'→l.length=l'.length
 | [],[],_=>rfl
 | _ :: l,_ :: l',h=>by simp [relE_len h.2]
 | [],_ :: _,h=>h.elim
 | _ :: _,[],h=>h.elim
theorem zR0 {N:Nat}:∀ {l l':List EN},relE N l l'→∀ c e',zD l' c=some e'→∃ e,zD l c=some e∧e.ty=e'.ty∧e.mu=e'.mu∧(∀ ρ:Nat→RE,(ρ N).nl=some none→zC1 ρ e'.cells=zC1 ρ e.cells)∧wfs (· < N+1) e'.cells
 | [],[],_,c,e',h=>by simp [zD] at h
 | e :: l,e' :: l',h,0,x,hx=>by
  simp only [zD,Option.some.injEq] at hx; subst hx
  exact ⟨e,rfl,h.1.1,h.1.2.1,h.1.2.2.1,h.1.2.2.2⟩
 | e :: l,e' :: l',h,c+1,x,hx=>by
  simp only [zD] at hx ⊢
  exact zR0 h.2 c x hx
 | [],_ :: _,h,_,_,_=>h.elim
 | _ :: _,[],h,_,_,_=>h.elim
def relS (N:Nat) (sl:List (Nat × SV)):List (Nat × SV)→Prop
 | []=>True
 | (d,v') :: r=>((∃ v,qy sl d=some v∧∀ ρ:Nat→RE,(ρ N).nl=some none→v'.den ρ=v.den ρ)∧v'.wf (· < N+1))∧relS N sl r
theorem relS_get {N:Nat} {sl:List (Nat × SV)}:∀ {s:List (Nat × SV)},relS N sl s→∀ d v',qy s d=some v'→(∃ v,qy sl d=some v∧∀ ρ:Nat→RE,(ρ N).nl=some none→v'.den ρ=v.den ρ)∧v'.wf (· < N+1)
 | [],_,d,v,h=>by simp [qy] at h
 | (e,u) :: s,hs,d,v,h=>by
  simp only [qy] at h
  split at h
  ·rename_i e'; subst e'; simp only [Option.some.injEq] at h; subst h; exact hs.1
  ·exact relS_get hs.2 d v h
theorem zI8 (mu:Bool) {en':List EN} {sl':List (Nat × SV)} (ty:TypeId × Nat × (RE→Prop)) (h0:ty.2.1=0) (hI:∀ b,ty.2.2 ⟨b,[],[],0,some none⟩) (hmu:mu=true→ty.1 ≠ zE8) (hen:relE (zG en) en en') (hsl:relS (zG en) sl sl')
  (h:Run C k nt sl' (zF en' ⟨ty,[],mu⟩)):Run C k nt sl en:=by
 rw [zB9] at hen hsl
 intro ρ a w hr
 have hlen:=relE_len hen
 obtain ⟨N,hN⟩:∃ N,N=en.length:=⟨_,rfl⟩
 rw [← hN] at hen hsl
 obtain ⟨r0,hr0⟩:∃ r0:RE,r0=⟨C.w0.heap.size,[],[],0,some none⟩:=⟨_,rfl⟩
 obtain ⟨ρ',hρ'⟩:∃ ρ':Nat→RE,ρ'=fun c=>if c=N then r0 else ρ c:=⟨_,rfl⟩
 have hnew:ρ' N=r0:=by rw [hρ']; exact if_pos rfl
 have hold:∀ c,c ≠ N→ρ' c=ρ c:=fun c hc=>by rw [hρ']; exact if_neg hc
 have hnl:(ρ' N).nl=some none:=by rw [hnew,hr0]
 have hle:(zF en' ⟨ty,[],mu⟩).length=N+1:=by rw [zE0]; simp [← hlen,hN]
 have hlt:∀ {c:Nat},c < N→c ≠ N:=fun h=>Nat.ne_of_lt h
 have hcase:∀ c e,zD (zF en' ⟨ty,[],mu⟩) c=some e→(c=N∧e=⟨ty,[],mu⟩)∨(c < N∧zD en' c=some e):=by
  intro c e hc
  rw [zA5,zE0] at hc
  rcases Nat.lt_trichotomy c N with h1 | h1 | h1
  ·rw [List.getElem?_append_left (by omega)] at hc
   exact .inr ⟨h1,by rw [zA5]; exact hc⟩
  ·rw [List.getElem?_append_right (by omega),show c - en'.length=0 by omega] at hc
   simp at hc
   exact .inl ⟨h1,hc.symm⟩
  ·rw [List.getElem?_append_right (by omega),List.getElem?_eq_none (by simp; omega)] at hc
   cases hc
 have hlive:∀ c,c < N→zE7 (ρ' c) (zD (zF en' ⟨ty,[],mu⟩) c)=false→zE7 (ρ c) (zD en c)=false:=by
  intro c hc hd
  cases hx:zD (zF en' ⟨ty,[],mu⟩) c with
  | none=>rw [hx] at hd; cases hd
  | some e =>
   rcases hcase c e hx with ⟨h1,_⟩ | ⟨_,h1⟩
   ·exact absurd h1 (hlt hc)
   ·obtain ⟨e0,q1,q2,_⟩:=zR0 hen c e h1
    obtain ⟨t0,c0,m0⟩:=e0
    obtain ⟨t1,c1,m1⟩:=e
    have:=(zB4 hx).1 hd
    simp only at q2
    rw [hold c (hlt hc)] at this
    exact (zB4 q1).2 ⟨by rw [q2]; exact this.1,this.2⟩
 refine h ρ' a w ⟨⟨?_,?_,?_,hr.hw.up,?_,?_⟩,?_,hr.sz,hr.df,by rw [hle]; have:=hr.n0; omega⟩
 ·intro c t cells mu' hc he
  rw [hle] at hc ⊢
  rcases hcase c _ he with ⟨rfl,h1⟩ | ⟨h1,h2⟩
  ·cases h1
   exact ⟨fun hh=>absurd hh.2 (by rw [hnl]; simp),(fun y hy=>nomatch hy),(fun hd=>⟨rfl,by cases hm:mu with | false=>rfl | true=>exact absurd hd (hmu hm)⟩),(fun _=>rfl)⟩
  ·obtain ⟨⟨t0,c0,m0⟩,q1,q2,q3,q4,q5⟩:=zR0 hen c _ h2
   simp only at q2 q3 q4 q5
   subst q2; subst q3
   have hh:=hr.hw.hp c t0 c0 m0 (by show c < en.length; omega) q1
   have hd:zC1 ρ' cells=zC1 ρ c0:=by
    rw [q4 ρ' hnl]
    exact zF9 (pr:=(· < en.length)) hh.wf (fun q hq=>hold q (hlt (by show q < N; rw [hN]; exact hq)))
   rw [show (⟨(t0:TypeId × Nat × (RE→Prop)),cells,m0⟩:EN)=⟨t0,cells,m0⟩ from rfl] at he
   refine ⟨fun hl=>?_,q5,fun hd'=>?_,fun hn=>?_⟩
   ·rw [hold c (hlt h1)] at hl ⊢; rw [hd]; exact hh.heap hl
   ·have:=hh.dead hd'
    have e1:zC1 ρ' cells=[]:=by rw [hd,this.1]; rfl
    refine ⟨by simpa [zC1] using e1,this.2⟩
   ·rw [hold c (hlt h1)] at hn
    have e1:zC1 ρ' cells=[]:=by rw [hd,hh.non hn]; rfl
    simpa [zC1] using e1
 ·intro c t cells mu' hc he
  rw [hle] at hc
  rcases hcase c _ he with ⟨rfl,h1⟩ | ⟨h1,h2⟩
  ·cases h1; rw [hnew,hr0]; exact ⟨h0.symm,hI _⟩
  ·obtain ⟨⟨t0,c0,m0⟩,q1,q2,q3,_⟩:=zR0 hen c _ h2
   simp only at q2; subst q2
   rw [hold c (hlt h1)]
   exact hr.hw.ho c t0 c0 m0 (by show c < en.length; omega) q1
 ·intro c d hc hd h1 h2 h3
  rw [hle] at hc hd
  have nn:∀ q,q < N+1→zE7 (ρ' q) (zD (zF en' ⟨ty,[],mu⟩) q)=false→q < N:=by
   intro q hq hdq
   rcases Nat.lt_or_ge q N with h | h
   ·exact h
   ·obtain rfl:q=N:=by omega
    have hx:zD (zF en' ⟨ty,[],mu⟩) q=some ⟨ty,[],mu⟩:=by
     rw [zA5,zE0,List.getElem?_append_right (by omega),show q - en'.length=0 by omega]; rfl
    have:=(zB4 hx).1 hdq
    rw [hnl] at this; cases this.2
  have c1:=nn c hc h1
  have d1:=nn d hd h2
  rw [hold c (hlt c1),hold d (hlt d1)] at h3
  exact hr.hw.inj c d (by show c < en.length; omega) (by show d < en.length; omega) (hlive c c1 h1) (hlive d d1 h2) h3
 ·intro c t cells hc he
  rw [hle] at hc
  rcases hcase c _ he with ⟨rfl,h1⟩ | ⟨h1,h2⟩
  ·rw [hnew,hr0]; exact .inr (Nat.le_refl _)
  ·obtain ⟨⟨t0,c0,m0⟩,q1,q2,q3,_⟩:=zR0 hen c _ h2
   simp only at q2 q3; subst q2; subst q3
   rw [hold c (hlt h1)]
   exact hr.hw.mu c t0 c0 (by show c < en.length; omega) q1
 ·intro c hc
  have:=hr.n0
  rw [hold c (by omega)]; exact hr.hw.ini c hc
 ·intro d v' hd
  obtain ⟨⟨v,q1,q2⟩,q3⟩:=relS_get hsl d v' hd
  obtain ⟨t1,t2⟩:=hr.tm d v q1
  rw [hle]
  refine ⟨?_,q3⟩
  rw [q2 ρ' hnl,SV.den_congr t2 (fun q hq=>hold q (hlt (by show q < N; rw [hN]; exact hq)))]
  exact t1
theorem Run_nilrow {en':List EN} {sl':List (Nat × SV)} (ty:TypeId × Nat × (RE→Prop)) (h0:ty.2.1=0) (hI:∀ b,ty.2.2 ⟨b,[],[],0,some none⟩) (hen:relE (zG en) en en') (hsl:relS (zG en) sl sl')
  (h:Run C k nt sl' (zF en' ⟨ty,[],false⟩)):Run C k nt sl en:=zI8 false ty h0 hI (fun h=>by cases h) hen hsl h
end
def subL (sl:List (Nat × SV)):List (Nat × SV)→Prop
 | []=>True
 | (d,v) :: r=>qy sl d=some v∧subL sl r
theorem zH6 {sl:List (Nat × SV)}:∀ {s:List (Nat × SV)},subL sl s→sub s sl
 | [],_=>fun d v h=>by simp [qy] at h
 | (e,u) :: r,hs=>fun d v h=>by
  simp only [qy] at h
  split at h
  ·rename_i e'; subst e'; rw [← h]; exact hs.1
  ·exact zH6 hs.2 d v h
section
variable {C:Cx} {nt:Nat} {sl:List (Nat × SV)} {en:List EN} {k:List KI}
variable {dst:Option Nat} {op:Op} {ty:TypeId} {pos:String} {af:Array Edge} {all r:List Oper} {gd:Option (Nat × Bool)}
theorem rd_arg {W:World} {b o n:Nat} {vs:List Value} (hS:C.S=Non) (hw:C.w0=W) (hb:b < W.heap.size) (h:∀ (j:Nat) v,vs[j]?=some v→W.cell? ⟨b,o+j,none⟩=some v) (hn:vs.length=n):C.rd b o n=some (vs.map qz):=by
 refine zY9 ?_ hn
 rw [hS,hw]
 intro w hu j v hv
 rw [← h j v hv]
 unfold World.cell?
 rw [hu.to_below.block b hb]
end
end Go.Proofs.YtfpeholdlkfmoaaGreatDoor
