/- The symbolic walk is sound: what it leaves to be shown is enough. -/
import Derived.Test.YtfpeholdlkfmoaaGreatDoorBS01
import Derived.Deep.LoopGhost
namespace Go.Proofs.YtfpeholdlkfmoaaGreatDoor
set_option linter.unusedSimpArgs false
set_option linter.unusedVariables false
open Go.RowKit
section
variable {C:Cx} {ρ:Nat→RE} {nt:Nat} {sl:List (Nat × SV)} {en:List EN} {a:Act} {w:World}
theorem Rep.ev_ok (h:Rep C ρ nt sl en a w) (x:Operand) (u:SV) (hx:ev sl x=some u):a.eval x=u.den ρ∧u.wf (· < en.length):=by
 cases x with
 | tmp t =>
  obtain ⟨h1,h2⟩:=h.tm t u hx
  exact ⟨by simp [Act.eval,Array.getD_eq_getD_getElem?,h1],h2⟩
 | const v=>simp only [ev,Option.some.injEq] at hx; subst hx; exact ⟨by simp [Act.eval,SV.den,zJ1],zM8 _ _⟩
 | global g=>cases hx
 | func f=>simp only [ev,Option.some.injEq] at hx; subst hx; exact ⟨rfl,trivial⟩
theorem Rep.evs_ok (h:Rep C ρ nt sl en a w):∀ (xs:List Operand) (us:List SV),qw sl xs=some us→xs.map a.eval=us.map (SV.den ρ)∧∀ u∈us,u.wf (· < en.length)
 | [],us,hx=>by simp [qw] at hx; subst hx; simp
 | x :: xs,us,hx=>by
  simp only [qw] at hx
  split at hx <;> try cases hx
  rename_i v hv
  split at hx <;> simp only [Option.some.injEq,reduceCtorEq] at hx
  rename_i l hl
  subst hx
  obtain ⟨e1,e2⟩:=h.ev_ok x v hv
  obtain ⟨r1,r2⟩:=h.evs_ok xs l hl
  refine ⟨by simp [e1,r1],fun u hu=>?_⟩
  rcases List.mem_cons.1 hu with rfl | hu
  ·exact e2
  ·exact r2 u hu
theorem Rep.put (h:Rep C ρ nt sl en a w) {d:Nat} (hd:d < nt) {v:SV} (hv:v.wf (· < en.length)):Rep C ρ nt ((d,v) :: sl) en (a.put (some d) (v.den ρ)) w:=by
 refine ⟨h.hw,fun t u ht=>?_,by simpa [Act.put] using h.sz,h.df,h.n0⟩
 simp only [qy] at ht
 split at ht
 ·rename_i e
  subst e
  simp only [Option.some.injEq] at ht
  subst ht
  refine ⟨?_,hv⟩
  simp [Act.put,h.sz,hd]
 ·rename_i hne
  obtain ⟨h1,h2⟩:=h.tm t u ht
  refine ⟨?_,h2⟩
  simp [Act.put,hne,h1]
theorem Rep.lit (h:Rep C ρ nt sl en a w) {d:Nat} {v:SV} (hv:qy sl d=some v):Rep C ρ nt ((d,v) :: sl) en a w:=by
 refine ⟨h.hw,fun t u ht=>?_,h.sz,h.df,h.n0⟩
 simp only [qy] at ht
 split at ht
 ·rename_i e
  subst e
  simp only [Option.some.injEq] at ht
  subst ht
  exact h.tm d v hv
 ·exact h.tm t u ht
theorem zX1 {kp:List Nat}:∀ {sl:List (Nat × SV)} {d:Nat} {v:SV},qy (zJ kp sl) d=some v→qy sl d=some v
 | [],d,v,h=>by simp [zJ,qy] at h
 | (e,u) :: l,d,v,h=>by
  simp only [zJ,cond_eq_ite] at h
  split at h
  ·simp only [qy] at h ⊢
   split
   ·rename_i he; simpa [he] using h
   ·rename_i he; simp only [he,if_false] at h; exact zX1 h
  ·rename_i hm
   have h1:=zX1 h
   simp only [qy]
   split
   ·rename_i he
    subst he
    exfalso
    have gen:∀ (l:List (Nat × SV)),qy (zJ kp l) e=some v→zI kp e=true:=by
     intro l
     induction l with
     | nil=>intro h; simp [zJ,qy] at h
     | cons x l ih =>
      obtain ⟨f,y⟩:=x
      intro h
      simp only [zJ,cond_eq_ite] at h
      split at h
      ·rename_i hf
       simp only [qy] at h
       split at h
       ·rename_i hfe; rw [← hfe]; exact hf
       ·exact ih h
      ·exact ih h
    exact hm (gen l h)
   ·exact h1
theorem Rep.trim (h:Rep C ρ nt sl en a w) (kp:List Nat):Rep C ρ nt (zJ kp sl) en a w:=⟨h.hw,fun d v hd=>h.tm d v (zX1 hd),h.sz,h.df,h.n0⟩
theorem Hw.lt {pr:Nat→Prop} (h:Hw C ρ pr en w) {c:Nat} (hc:pr c) (hl:zE7 (ρ c) (zD en c)=false):(ρ c).blk < w.heap.size:=by
 cases hx:zD en c with
 | none=>rw [hx] at hl; cases hl
 | some e =>
  cases e with
  | mk ty cells mu=>exact (Array.getElem?_eq_some_iff.1 ((h.hp c ty cells mu hc hx).heap ((zB4 hx).1 hl))).1
theorem Hw.same {pr:Nat→Prop} (h:Hw C ρ pr en w) {w':World} (hb:Below w.heap.size w w'):Hw C ρ pr en w':=by
 refine ⟨fun c ty cells mu hc he=>?_,h.ho,h.inj,h.up.below hb,h.mu,h.ini⟩
 have h1:=h.hp c ty cells mu hc he
 exact ⟨fun hd=>(hb.block _ (h.lt hc ((zB4 he).2 hd))).trans (h1.heap hd),h1.wf,h1.dead,h1.non⟩
theorem Rep.same (h:Rep C ρ nt sl en a w) {w':World} (hb:Below w.heap.size w w'):Rep C ρ nt sl en a w':=⟨h.hw.same hb,h.tm,h.sz,h.df,h.n0⟩
def zL6 (ρ:Nat→RE) (c:Nat) (r:RE):Nat→RE:=fun d=>if d=c then r else ρ d
theorem Rep.alloc (h:Rep C ρ nt sl en a w) (t:TypeId) (htd:t ≠ zE8) {l:List SC} (hl:wfs (· < en.length) l) :
  Rep C (zL6 ρ en.length ⟨w.heap.size,[],[],0,none⟩) nt sl (zF en ⟨(t,0,whole),l,true⟩) a (w.alloc (.cells (zC1 ρ l).toArray t)):=by
 have hρ:∀ c,c < en.length→zL6 ρ en.length ⟨w.heap.size,[],[],0,none⟩ c=ρ c:=fun c hc=>if_neg (by omega)
 have hn:zL6 ρ en.length ⟨w.heap.size,[],[],0,none⟩ en.length=⟨w.heap.size,[],[],0,none⟩:=if_pos rfl
 have hup:∀ c,c < en.length→c < (zF en (⟨(t,0,whole),l,true⟩:EN)).length:=by intro c hc; rw [zE0]; simp; omega
 refine ⟨⟨?_,?_,?_,h.hw.up.alloc _,?_,?_⟩,?_,h.sz,h.df,?_⟩
 ·intro c ty cells mu hc he
  rw [zA5,zE0] at he
  rw [zE0] at hc
  simp only [List.length_append,List.length_singleton] at hc
  by_cases hce:c < en.length
  ·rw [List.getElem?_append_left hce,← zA5] at he
   have h1:=h.hw.hp c ty cells mu hce he
   refine ⟨fun hd=>?_,zJ3 h1.wf (fun c hc=>hup c hc),h1.dead,by rw [hρ c hce]; exact h1.non⟩
   rw [hρ c hce] at hd
   rw [hρ c hce,zF9 h1.wf (fun c hc=>hρ c hc)]
   exact (Below.heap_alloc w _ _ (h.hw.lt hce ((zB4 he).2 hd))).trans (h1.heap hd)
  ·obtain rfl:c=en.length:=by omega
   rw [List.getElem?_append_right (Nat.le_refl _)] at he
   simp at he
   obtain ⟨rfl,rfl,rfl⟩:=he
   refine ⟨fun _=>?_,zJ3 hl (fun c hc=>hup c hc),fun hd=>absurd hd htd,by rw [hn]; exact fun h=>absurd rfl h⟩
   rw [hn,zF9 hl (fun c hc=>hρ c hc)]
   simpa using heap_alloc_new w (.cells (zC1 ρ l).toArray t)
 ·intro c ty cells mu hc he
  rw [zA5,zE0] at he
  rw [zE0] at hc
  simp only [List.length_append,List.length_singleton] at hc
  by_cases hce:c < en.length
  ·rw [List.getElem?_append_left hce,← zA5] at he
   rw [hρ c hce]
   exact h.hw.ho c ty cells mu hce he
  ·obtain rfl:c=en.length:=by omega
   rw [List.getElem?_append_right (Nat.le_refl _)] at he
   simp at he
   obtain ⟨rfl,rfl,rfl⟩:=he
   rw [hn]; exact ⟨rfl,rfl,rfl⟩
 ·intro c d hc hd hcl hdl hcd
  rw [zE0] at hc hd
  rw [zA5,zE0] at hcl hdl
  simp only [List.length_append,List.length_singleton] at hc hd
  by_cases hce:c < en.length <;> by_cases hde:d < en.length
  ·rw [List.getElem?_append_left hce,← zA5] at hcl
   rw [List.getElem?_append_left hde,← zA5] at hdl
   rw [hρ c hce,hρ d hde] at hcd; rw [hρ c hce] at hcl; rw [hρ d hde] at hdl; exact h.hw.inj c d hce hde hcl hdl hcd
  ·obtain rfl:d=en.length:=by omega
   rw [List.getElem?_append_left hce,← zA5] at hcl
   rw [hρ c hce,hn] at hcd
   rw [hρ c hce] at hcl
   have:=h.hw.lt hce hcl
   simp only at hcd; omega
  ·obtain rfl:c=en.length:=by omega
   rw [List.getElem?_append_left hde,← zA5] at hdl
   rw [hρ d hde,hn] at hcd
   rw [hρ d hde] at hdl
   have:=h.hw.lt hde hdl
   simp only at hcd; omega
  ·omega
 ·intro c ty cells hc he
  rw [zA5,zE0] at he
  rw [zE0] at hc
  simp only [List.length_append,List.length_singleton] at hc
  by_cases hce:c < en.length
  ·rw [List.getElem?_append_left hce,← zA5] at he
   rw [hρ c hce]
   exact h.hw.mu c ty cells hce he
  ·obtain rfl:c=en.length:=by omega
   rw [hn]
   exact .inr h.hw.up.size
 ·intro c hc
  rw [hρ c (Nat.lt_of_lt_of_le hc h.n0)]
  exact h.hw.ini c hc
 ·intro d v hd
  obtain ⟨h1,h2⟩:=h.tm d v hd
  rw [SV.den_congr h2 (fun c hc=>hρ c hc)]
  exact ⟨h1,SV.wf_mono h2 (fun c hc=>hup c hc)⟩
 ·rw [zE0]; have:=h.n0; simp; omega
theorem one_of {x:SC} (h:q0t x=true):(x.den ρ).oneCell'=true:=by
 cases x with
 | rw c n=>obtain ⟨q,k,hq⟩:=rwOf_sl (ρ c) n; simp [SC.den,hq,Value.oneCell']
 | v x=>exact h
 | u=>cases h
 | _=>rfl
theorem setN_len {α:Type} (l:List α) (n:Nat) (x:α):(zE l n x).length=l.length:=by rw [zL3]; simp
theorem Hw.store {pr:Nat→Prop} (h:Hw C ρ pr en w) (hpl:∀ c,pr c→c < en.length) {c o:Nat} {ty:TypeId × Nat × (RE→Prop)} {cells vs l:List SC} (hc:pr c) (he:zD en c=some ⟨ty,cells,true⟩) (hl:zC o vs cells=some l) (hv:wfs pr vs) (h1:∀ v∈vs,q0t v=true) :
  ∃ w',(storeCells ⟨(ρ c).blk,(ρ c).pre.length+o,none⟩ (zC1 ρ vs)).run C.P w=.ok () w'∧Hw C ρ pr (zE en c ⟨ty,l,true⟩) w':=by
 have g0:=h.hp c ty cells true hc he
 have hnd1:ty.1 ≠ zE8:=fun hd=>by have:=(g0.dead hd).2; cases this
 have g2:=g0.wf
 obtain ⟨e1,e2⟩:=zL9 hl
 have hlen:o+vs.length≤cells.length:=by
  rcases e2 with e2 | ⟨rfl,e2⟩
  ·exact e2
  ·simpa using e2
 by_cases hnl:(ρ c).nl=none
 case neg =>
  have hc0:=g0.non hnl
  subst hc0
  have hv0:vs=[]:=List.length_eq_zero_iff.1 (by rw [List.length_nil] at hlen; omega)
  subst hv0
  have hl0:l=[]:=by rw [e1]; simp
  subst hl0
  have hsame:zE en c ⟨ty,[],true⟩=en:=by
   rw [zL3]
   rw [zA5] at he
   obtain ⟨hcl,he'⟩:=List.getElem?_eq_some_iff.1 he
   rw [← he',List.set_getElem_self]
  rw [hsame]
  exact ⟨w,by simp [zC1,storeCells],h⟩
 have hnd:ty.1 ≠ zE8∧(ρ c).nl=none:=⟨hnd1,hnl⟩
 have g1:=g0.heap hnd
 have hst:=run_storeCells_at C.P (ρ c).blk ((ρ c).pre.length+o) ty.1 (zC1 ρ vs) 0 _ w g1 (by simp [zC1]; omega) (by
  intro v hv'
  obtain ⟨x,hx,rfl⟩:=List.mem_map.1 hv'
  exact one_of (h1 x hx))
 refine ⟨_,hst,?_⟩
 have hrow:((ρ c).pre++zC1 ρ cells++(ρ c).post).take ((ρ c).pre.length+o)++zC1 ρ vs++((ρ c).pre++zC1 ρ cells++(ρ c).post).drop ((ρ c).pre.length+o+(zC1 ρ vs).length)=(ρ c).pre++zC1 ρ l++(ρ c).post:=by
  rw [e1]
  have d1:zC1 ρ (cells.take o++vs++cells.drop (o+vs.length))=(zC1 ρ cells).take o++zC1 ρ vs++(zC1 ρ cells).drop (o+vs.length):=by simp [zC1,List.map_take,List.map_drop]
  rw [d1]
  have l1:(zC1 ρ cells).length=cells.length:=zD5 _
  have l2:(zC1 ρ vs).length=vs.length:=zD5 _
  generalize (ρ c).pre=p,(ρ c).post=q at *
  generalize zC1 ρ cells=x,zC1 ρ vs=y at *
  rw [List.append_assoc p x q,List.take_append,List.drop_append]
  simp only [Nat.add_sub_cancel_left,List.take_of_length_le (show p.length≤p.length+o by omega),List.drop_of_length_le (show p.length≤p.length+o+y.length by omega),List.nil_append]
  rw [List.take_append_of_le_length (by omega),show p.length+o+y.length - p.length=o+vs.length by omega,List.drop_append_of_le_length (by omega)]
  simp [List.append_assoc]
 have hwf:wfs pr l:=by
  intro x hx
  rw [e1] at hx
  simp only [List.mem_append] at hx
  rcases hx with (hx | hx) | hx
  ·exact g2 x (List.mem_of_mem_take hx)
  ·exact hv x hx
  ·exact g2 x (List.mem_of_mem_drop hx)
 refine ⟨?_,?_,?_,?_,?_,h.ini⟩
 ·intro d ty' cells' mu' hd hd'
  rw [zA5,zL3] at hd'
  by_cases hdc:d=c
  ·subst hdc
   rw [List.getElem?_set_self (hpl d hd)] at hd'
   simp only [Option.some.injEq,EN.mk.injEq] at hd'
   obtain ⟨rfl,rfl,_⟩:=hd'
   refine ⟨fun _=>?_,hwf,fun hd=>absurd hd hnd1,fun hx=>absurd hnl hx⟩
   rw [← hrow]
   have:=setRow_heap w (ρ d).blk _ (((ρ d).pre++zC1 ρ cells++(ρ d).post).take ((ρ d).pre.length+o)++zC1 ρ vs++((ρ d).pre++zC1 ρ cells++(ρ d).post).drop ((ρ d).pre.length+o+(zC1 ρ vs).length)).toArray ty.1 (0,0) g1
   simpa using this
  ·rw [List.getElem?_set_ne (fun e=>hdc e.symm),← zA5] at hd'
   have k1:=h.hp d ty' cells' mu' hd hd'
   exact ⟨fun hx=>(setRow_other w _ _ _ (fun e=>hdc (h.inj d c hd hc ((zB4 hd').2 hx) ((zB4 he).2 hnd) e))).trans (k1.heap hx),k1.wf,k1.dead,k1.non⟩
 ·intro d ty' cells' mu' hd hd'
  rw [zA5,zL3] at hd'
  by_cases hdc:d=c
  ·subst hdc
   rw [List.getElem?_set_self (hpl d hd)] at hd'
   simp only [Option.some.injEq,EN.mk.injEq] at hd'
   obtain ⟨rfl,_,_⟩:=hd'
   exact h.ho d ty cells true hd he
  ·rw [List.getElem?_set_ne (fun e=>hdc e.symm),← zA5] at hd'
   exact h.ho d ty' cells' mu' hd hd'
 ·intro x y hx hy hxl hyl hxy
  have hl:∀ z,zE7 (ρ z) (zD (zE en c ⟨ty,l,true⟩) z)=zE7 (ρ z) (zD en z):=fun z=>by
   rw [zA5,zL3]
   by_cases hzc:z=c
   ·subst hzc
    rw [List.getElem?_set_self (hpl z hc),he]
    rfl
   ·rw [List.getElem?_set_ne (fun e=>hzc e.symm),zA5]
  rw [hl] at hxl hyl
  exact h.inj x y hx hy hxl hyl hxy
 ·refine h.up.setRow (fun hlt=>?_) _
  rcases h.mu c ty cells hc he with hm | hm
  ·exact hm
  ·omega
 ·intro d ty' cells' hd hd'
  rw [zA5,zL3] at hd'
  by_cases hdc:d=c
  ·subst hdc; exact h.mu d ty cells hd he
  ·rw [List.getElem?_set_ne (fun e=>hdc e.symm),← zA5] at hd'
   exact h.mu d ty' cells' hd hd'
theorem Rep.setE (h:Rep C ρ nt sl en a w) {c:Nat} {e:EN} {w':World} (hw:Hw C ρ (· < en.length) (zE en c e) w'):Rep C ρ nt sl (zE en c e) a w':=by
 have hl:(zE en c e).length=en.length:=setN_len _ _ _
 refine ⟨?_,?_,h.sz,h.df,?_⟩
 ·rw [hl]; exact hw
 ·rw [hl]; exact h.tm
 ·rw [hl]; exact h.n0
theorem zO8 {v:SV} {l:List SC} (h:qv v=some l):(v.den ρ).cells=(zC1 ρ l).toArray∧(∀ x∈l,q0t x=true)∧(∀ pr,v.wf pr→wfs pr l):=by
 cases v with
 | c x =>
  simp only [qv,cond_eq_ite] at h
  split at h <;> simp only [Option.some.injEq,reduceCtorEq] at h
  rename_i hx
  subst h
  exact ⟨one_cells hx,fun y hy=>by rw [List.mem_singleton.1 hy]; exact hx,fun pr hp y hy=>by rw [List.mem_singleton.1 hy]; exact hp⟩
 | g l' =>
  simp only [qv,cond_eq_ite] at h
  split at h <;> simp only [Option.some.injEq,reduceCtorEq] at h
  rename_i hx
  subst h
  exact ⟨rfl,zW7 hx,fun pr hp=>hp⟩
 | t l=>cases h
variable {K:Act→World→Prop} {Q:Exit→Act→World→Prop}
theorem zU5 {o:Oper} {v:Value} (h:(execOp a.eval o).run C.P w=.ok (.value v) w) (hk:K (a.put o.dst v) w):o.wp C.P a w K Q:=by
 unfold Oper.wp; rw [h]; exact hk
theorem zN9 {Kp:List (Nat × SV)→List EN→Prop} {stop:Prop} {dst:Option Nat} {v:SV} (h:qI nt Kp stop dst v sl en) (hr:Rep C ρ nt sl en a w) (hv:v.wf (· < en.length)) :
  stop∨∃ sl',Kp sl' en∧Rep C ρ nt sl' en (a.put dst (v.den ρ)) w:=by
 cases dst with
 | none=>exact .inr ⟨sl,h,hr⟩
 | some d =>
  simp only [qI] at h
  split at h
  ·rename_i hd; exact .inr ⟨_,h,hr.put hd hv⟩
  ·exact .inl h
theorem zero_wf (pr:Nat→Prop) (l:List Value):wfs pr (l.map qz):=by
 intro q hq
 obtain ⟨u,_,rfl⟩:=List.mem_map.1 hq
 exact zM8 _ _
theorem zero_den (ρ:Nat→RE) (l:List Value):zC1 ρ (l.map qz)=l:=by
 unfold zC1
 rw [List.map_map]
 have:(SC.den ρ ∘ qz)=id:=funext fun x=>zJ1 ρ x
 rw [this,List.map_id]
theorem ti_dead {P:Program} {t:TypeId} {ti:TI} (h:zG2 P t=some ti):t ≠ zE8:=fun e=>by
 rw [e] at h
 have:zG2 P zE8=none:=zV2 P
 rw [this] at h; cases h
theorem zO4 (P:Program) (w:World) (o:Obj):(Sem.new o Sem.pure:Sem Nat).run P w=.ok w.heap.size (w.alloc o):=rfl
theorem zZ7 {ctr:Ctr} (hctr:zE4 C ctr) {Kp:List (Nat × SV)→List EN→Prop} {stop:Prop} {o:Oper} (h:qH C.P C.rd ctr nt Kp stop o.dst sl en o.op) (hr:Rep C ρ nt sl en a w)
  (hK:∀ sl' en' ρ' a' w',Kp sl' en'→Rep C ρ' nt sl' en' a' w'→K a' w'):stop∨o.wp C.P a w K Q:=by
 have soft:∀ op,o.op=op→(match qK C.P C.rd en (ev sl) op with
   | some (p,v)=>p∧qI nt Kp stop o.dst v sl en
   | none=>stop)→stop∨o.wp C.P a w K Q:=by
  intro op ho hs
  split at hs
  ·rename_i p v hsv
   obtain ⟨hp,hk⟩:=hs
   obtain ⟨r1,r2⟩:=softS_ok ho hsv hp (fun x u hx=>hr.ev_ok x u hx) (rd_ok hr.hw.up) hr.hw.hp hr.hw.ho
   rcases zN9 hk hr r2 with hst | ⟨sl',hk',hr'⟩
   ·exact .inl hst
   ·exact .inr (zU5 r1 (hK _ _ _ _ _ hk' hr'))
  ·exact .inl hs
 generalize hop:o.op=op at h
 unfold qH at h
 split at h
 ·rename_i t
  split at h
  ·rename_i sz ag z fs el es kd ik ht
   obtain ⟨i,d,zv,fs',e',hi,hu,hz,_,_,hti⟩:=zD2 ht
   simp only [TI.mk.injEq] at hti
   obtain ⟨_,_,rfl,_⟩:=hti
   rw [zB9] at h
   have hal:=hr.alloc t (ti_dead ht) (zero_wf (· < en.length) zv.cells.toList)
   have hlen:en.length < (zF en (⟨(t,0,whole),zv.cells.toList.map qz,true⟩:EN)).length:=by rw [zE0]; simp
   rcases zN9 h hal (v:=.c (.p en.length 0)) hlen with hst | ⟨sl',hk',hr'⟩
   ·exact .inl hst
   ·right
    unfold Oper.wp
    have hrun:(execOp a.eval o).run C.P w=.ok (.value (.pointer (some ⟨w.heap.size,0,none⟩))) (w.alloc (.cells zv.cells t)):=by
     simp [execOp,hop,Instr.alloc,zeroValue,typeInfo,hi,hz,newVar,newRow,newObj,zO4]
    rw [hrun]
    have hd:(SV.c (SC.p en.length 0)).den (zL6 ρ en.length ⟨w.heap.size,[],[],0,none⟩)=.pointer (some ⟨w.heap.size,0,none⟩):=by simp [SV.den,SC.den,zG5,zL6]
    rw [hd,zero_den] at hr'
    exact hK _ _ _ _ _ hk' hr'
  ·exact .inl h
 ·rename_i t x
  split at h
  ·rename_i v hv
   split at h
   ·rename_i l hl
    obtain ⟨e1,e2⟩:=hr.ev_ok x v hv
    obtain ⟨c1,c2,c3⟩:=zO8 (ρ:=ρ) hl
    split at h
    ·exact .inl h
    rename_i htd
    rw [zB9] at h
    have hal:=hr.alloc t htd (c3 _ e2)
    have hlen:en.length < (zF en (⟨(t,0,whole),l,true⟩:EN)).length:=by rw [zE0]; simp
    rcases zN9 h hal (v:=.c (.p en.length 0)) hlen with hst | ⟨sl',hk',hr'⟩
    ·exact .inl hst
    ·right
     unfold Oper.wp
     have hrun:(execOp a.eval o).run C.P w=.ok (.value (.pointer (some ⟨w.heap.size,0,none⟩))) (w.alloc (.cells (zC1 ρ l).toArray t)):=by
      simp [execOp,hop,Instr.box,newVar,newRow,newObj,zO4,e1,c1]
     rw [hrun]
     have hd:(SV.c (SC.p en.length 0)).den (zL6 ρ en.length ⟨w.heap.size,[],[],0,none⟩)=.pointer (some ⟨w.heap.size,0,none⟩):=by simp [SV.den,SC.den,zG5,zL6]
     rw [hd] at hr'
     exact hK _ _ _ _ _ hk' hr'
   ·exact .inl h
  ·exact .inl h
 ·rename_i t n ps
  split at h
  ·rename_i el l hl
   obtain ⟨b1,b2,b3⟩:=zT3 (w:=w) hl (fun x _ u hx=>hr.ev_ok x.2 u hx)
   rw [zB9] at h
   have hal:=hr.alloc el b1 b2
   have hlen:en.length < (zF en (⟨(el,0,whole),l,true⟩:EN)).length:=by rw [zE0]; simp
   rcases zN9 h hal (v:=.c (.sl en.length 0 n n)) hlen with hst | ⟨sl',hk',hr'⟩
   ·exact .inl hst
   ·right
    unfold Oper.wp
    have hps:(ps.map fun x=>(x.1,a.eval x.2))=(ps.toList.map fun x=>(x.1,a.eval x.2)).toArray:=by
     apply Array.toList_inj.1; simp
    have hrun:(execOp a.eval o).run C.P w=.ok (.value (.slice (some ⟨w.heap.size,0,none⟩) n n)) (w.alloc (.cells (zC1 ρ l).toArray el)):=by
     simp [execOp,hop]
     rw [hps,b3]
     simp
    rw [hrun]
    have hd:(SV.c (SC.sl en.length 0 n n)).den (zL6 ρ en.length ⟨w.heap.size,[],[],0,none⟩)=.slice (some ⟨w.heap.size,0,none⟩) n n:=by simp [SV.den,SC.den,zL6]
    rw [hd] at hr'
    exact hK _ _ _ _ _ hk' hr'
  ·exact .inl h
 ·rename_i t x y
  split at h
  ·rename_i hdst
   unfold qJ at h
   split at h
   ·rename_i sz ag z fs el es kd ik c off v ht hx hy
    split at h
    ·rename_i ty cells he
     split at h
     ·rename_i vs hvs
      split at h
      ·rename_i hsz
       split at h
       ·rename_i l hl
        right
        obtain ⟨i,d,zv,fs',e',hi,hu,hz,_,_,hti⟩:=zD2 ht
        simp only [TI.mk.injEq] at hti
        obtain ⟨rfl,_⟩:=hti
        obtain ⟨e1,e2⟩:=hr.ev_ok _ _ hx
        obtain ⟨f1,f2⟩:=hr.ev_ok _ _ hy
        obtain ⟨c1,c2,c3⟩:=zO8 (ρ:=ρ) hvs
        obtain ⟨w',hrun,hw'⟩:=hr.hw.store (fun _ h=>h) e2 he hl (c3 _ f2) c2
        unfold Oper.wp
        have hsz':(zC1 ρ vs).length=i.size:=by rw [← hsz,zB9,zD5]
        have hx':(execOp a.eval o).run C.P w=.ok .skip w':=by
         have e1':a.eval x=.pointer (some ⟨(ρ c).blk,(ρ c).pre.length+off,none⟩):=e1
         simp [execOp,hop,Instr.storeAt,Instr.sureAddr,e1',f1,storeVar,zC6 hi,hsz',c1,hrun]
        rw [hx']
        simp only [Oper.upon,hdst]
        exact hK _ _ _ _ _ h (hr.setE hw')
       ·exact .inl h
      ·exact .inl h
     ·exact .inl h
    ·exact .inl h
   ·exact .inl h
  ·exact .inl h
 ·rename_i f args tys
  split at h
  ·rename_i xs hxs
   split at h
   ·rename_i p v hc
    obtain ⟨hp,hk⟩:=h
    obtain ⟨g1,g2⟩:=hr.evs_ok _ _ hxs
    obtain ⟨k1,k2,k3⟩:=hctr f en xs p v hc hp ρ w hr.hw.up hr.hw.hp hr.hw.ho hr.hw.inj g2
    have hargs:args.map a.eval=(xs.map (SV.den ρ)).toArray:=by apply Array.toList_inj.1; simpa using g1
    have hx':(execOp a.eval o).run C.P w=.ok (.enter f (xs.map (SV.den ρ)).toArray) w:=by
     simp [execOp,hop,resolve,Act.eval,Deferred.ofValue,invoke,hargs,k1]
    rcases zN9 hk hr k2 with hst | ⟨sl',hk',hr'⟩
    ·exact .inl hst
    ·right
     unfold Oper.wp
     rw [hx']
     simp only [Oper.upon]
     refine k3.mono ?_
     rintro e w' ⟨rfl,hb⟩
     exact hK _ _ _ _ _ hk' (hr'.same hb)
   ·exact .inl h
  ·exact .inl h
 ·exact soft _ hop h
theorem teS_sv {v:SV} {t:TE} (h:qF v=some t):t.sv=v:=by cases v <;> simp_all [qF] <;> subst h <;> rfl
theorem teS_wf {v:SV} {t:TE} {pr:Nat→Prop} (h:qF v=some t) (hv:v.wf pr):t.wf pr:=by cases v <;> simp_all [qF] <;> subst h <;> exact hv
theorem Rep.res (h:Rep C ρ nt sl en a w):∀ (rs:List ResultVar) (l:List TE),qE C.P sl en rs=some l→(rs.mapM (resG a.tmps)).run C.P w=.ok (l.map (TE.den ρ)) w∧∀ x∈l,x.wf (· < en.length)
 | [],l,hl=>by simp [qE] at hl; subst hl; simp
 | .tmp t :: r,l,hl=>by
  simp only [qE] at hl
  split at hl <;> try cases hl
  rename_i v hv
  split at hl <;> try cases hl
  rename_i x hx
  split at hl <;> simp only [Option.some.injEq,reduceCtorEq] at hl
  rename_i l' hl'
  subst hl
  obtain ⟨h1,h5⟩:=h.tm t v hv
  have h2:v.den ρ=x.den ρ:=by rw [← TE.den_sv,teS_sv hx]
  obtain ⟨h6,h7⟩:=h.res r l' hl'
  refine ⟨by simp [List.mapM_cons,resG,Array.getD_eq_getD_getElem?,h1,h2,h6],fun y hy=>?_⟩
  rcases List.mem_cons.1 hy with rfl | hy
  ·exact teS_wf hx h5
  ·exact h7 y hy
 | .cell b t :: r,l,hl=>by
  simp only [qE] at hl
  split at hl <;> try cases hl
  rename_i p v hv
  split at hl <;> try cases hl
  rename_i x hx
  split at hl <;> simp only [Option.some.injEq,reduceCtorEq] at hl
  rename_i l' hl'
  subst hl
  cases hb:qy sl b with
  | none=>rw [hb] at hv; simp [qP] at hv
  | some u =>
   rw [hb] at hv
   obtain ⟨h1,h2⟩:=h.tm b u hb
   obtain ⟨r1,r2⟩:=load_ok hv h2 (noRd_ok w) h.hw.hp
   have hp:∃ c o,u=.c (.p c o):=by
    unfold qP at hv
    split at hv
    ·simp [noRd] at hv
    ·simp [noRd] at hv
    ·rename_i q _; cases q; exact ⟨_,_,rfl⟩
    ·rename_i q _; cases q; exact ⟨_,_,rfl⟩
    ·cases hv
   obtain ⟨c,o,rfl⟩:=hp
   have h3:v.den ρ=x.den ρ:=by rw [← TE.den_sv,teS_sv hx]
   rw [h3] at r1
   have h4:(SV.c (SC.p c o)).den ρ=.pointer (some ⟨(ρ c).blk,(ρ c).pre.length+o,none⟩):=rfl
   rw [h4] at r1 h1
   simp only [Instr.loadAt,Instr.sureAddr] at r1
   simp at r1
   obtain ⟨h6,h7⟩:=h.res r l' hl'
   refine ⟨by simp [List.mapM_cons,resG,Array.getD_eq_getD_getElem?,h1,asAddr,r1,h6],fun y hy=>?_⟩
   rcases List.mem_cons.1 hy with rfl | hy
   ·exact teS_wf hx r2
   ·exact h7 y hy
theorem Rep.resOk {fn:Func} (h:Rep C ρ nt sl en a w) {l:List TE} (hl:qE C.P sl en fn.results.toList=some l):(results fn a.tmps).run C.P w=.ok ((qG l).den ρ) w∧∀ x∈l,x.wf (· < en.length):=by
 obtain ⟨h1,h9⟩:=h.res _ _ hl
 refine ⟨?_,h9⟩
 have h0:results fn a.tmps=(do
  let vs ← fn.results.mapM (resG a.tmps)
  pure (if h:vs.size=1 then vs[0] else .tuple vs)):=by
  unfold results
  congr 2
 rw [h0]
 simp only [Array.mapM_eq_mapM_toList,Sem.run_bind,Sem.run_map,h1]
 cases l with
 | nil=>simp [qG,SV.den]
 | cons x l =>
  cases l with
  | nil=>simp [qG,TE.den_sv]
  | cons y l=>simp [qG,SV.den]
theorem zS4:∀ (k:List KI) (a:Act) (w:World),C.Q .ret a w→KQ C k .ret a w
 | [],_,_,h=>h
 | .code _ :: k,_,_,h=>zS4 k _ _ h
 | .blk _ :: k,_,_,h=>zS4 k _ _ h
 | .ops _ _ :: k,_,_,h=>zS4 k _ _ h
theorem resV_wf {l:List TE} {pr:Nat→Prop} (h:∀ x∈l,x.wf pr):(qG l).wf pr:=by
 unfold qG
 split
 ·exact TE.wf_sv (h _ (by simp))
 ·exact h
theorem zT6 {id:Nat}:∀ {k k':List KI},zH id k=some k'→∀ a w,KQ C k' .normal a w→KQ C k (.exit id) a w
 | [],k',h,a,w,hq=>by cases h
 | .blk i :: k,k',h,a,w,hq=>by
  simp only [zH] at h
  simp only [KQ,Exit.inBlock]
  split at h
  ·rename_i hi
   simp only [Option.some.injEq] at h
   subst h
   rw [if_pos hi]; exact hq
  ·rename_i hi
   rw [if_neg hi]
   exact zT6 h a w hq
 | .code c :: k,k',h,a,w,hq=>zT6 (k:=k) h a w hq
 | .ops all r :: k,k',h,a,w,hq=>zT6 (k:=k) h a w hq
theorem zH9 (all r:List Oper) (k:List KI):KQ C (.ops all r :: k) .normal a w=wpList C.P all.toArray (KQ C k) r a w:=by simp only [KQ,Exit.then]
theorem zH1 {ctr:Ctr} (hctr:zE4 C ctr) {rs:List ResultVar}:∀ (n:Nat) (k:List KI) (sl:List (Nat × SV)) (en:List EN),VC C ctr rs n k nt sl en→Run C k nt sl en
 | 0,k,sl,en,h=>h
 | n+1,[],sl,en,h=>h
 | n+1,.blk id :: k,sl,en,h=>fun ρ a w hr=>zH1 hctr n k sl en h ρ a w hr
 | n+1,.ops all [] :: k,sl,en,h=>fun ρ a w hr=>zH1 hctr n k _ en h ρ a w (hr.trim _)
 | n+1,.ops all (⟨dst,op,ty,pos,af,none⟩ :: r) :: k,sl,en,h=>fun ρ a w hr=>by
  rcases zZ7 hctr (o:=⟨dst,op,ty,pos,af,none⟩) (K:=wpList C.P all.toArray (KQ C k) r) (Q:=KQ C k) h hr (fun sl' en' ρ' a' w' hk hr'=>zH1 hctr n _ sl' en' hk ρ' a' w' hr') with hst | hwp
  ·exact hst ρ a w hr
  ·rw [zH9]
   unfold wpList
   rw [if_pos (by simp [Region.wanted])]
   exact .inl hwp
 | n+1,.ops all (⟨dst,op,ty,pos,af,some (j,b)⟩ :: r) :: k,sl,en,h=>fun ρ a w hr=>by
  have skip:∀ sl',Rep C ρ nt sl' en a w→Region.wanted ⟨dst,op,ty,pos,af,some (j,b)⟩ (yielded all.toArray a.tmps)=false →
    qI nt (VC C ctr rs n (.ops all r :: k) nt) (Run C (.ops all (⟨dst,op,ty,pos,af,some (j,b)⟩ :: r) :: k) nt sl en) dst (.c .u) sl' en→KQ C (.ops all (⟨dst,op,ty,pos,af,some (j,b)⟩ :: r) :: k) .normal a w:=by
   intro sl' hr' hw hp
   rcases zN9 hp hr' (v:=.c .u) trivial with hst | ⟨sl'',hk,hr''⟩
   ·exact hst ρ a w hr
   ·rw [zH9]
    unfold wpList
    rw [if_neg (by rw [hw]; simp)]
    exact zH1 hctr n _ sl'' en hk ρ _ w hr''
  simp only [VC] at h
  split at h <;> try exact h ρ a w hr
  rename_i d _ _ _ _ _ hj
  rw [zA5] at hj
  have hy:∀ v,a.tmps[d]?=some v→yielded all.toArray a.tmps j=(match v with | .bool b=>some b | _=>none):=by
   intro v hv
   simp only [yielded,List.getElem?_toArray,hj,Option.bind_some,hv]
   cases v <;> rfl
  split at h <;> try exact h ρ a w hr
  ·rename_i x hx
   have h1:=(hr.tm d _ hx).1
   have h2:=hy _ h1
   obtain ⟨ha,hb⟩:=h
   by_cases hxb:x=b
   ·subst hxb
    rcases zZ7 hctr (o:=⟨dst,op,ty,pos,af,some (j,x)⟩) (K:=wpList C.P all.toArray (KQ C k) r) (Q:=KQ C k) (ha rfl) (hr.lit hx) (fun sl' en' ρ' a' w' hk hr'=>zH1 hctr n _ sl' en' hk ρ' a' w' hr') with hst | hwp
    ·exact hst ρ a w (hr.lit hx)
    ·rw [zH9]
     unfold wpList
     rw [if_pos (by simp [Region.wanted,h2,SV.den,SC.den])]
     exact .inl hwp
   ·have hxb':x=!b:=by cases x <;> cases b <;> simp_all
    refine skip _ (by rw [← hxb']; exact hr.lit hx) ?_ (hb hxb')
    simp [Region.wanted,h2,SV.den,SC.den,hxb']
  ·rename_i hx
   have h1:=(hr.tm d _ hx).1
   have h2:=hy _ h1
   refine skip _ hr ?_ h
   simp [Region.wanted,h2,SV.den,SC.den,undef]
 | n+1,.code .skip :: k,sl,en,h=>fun ρ a w hr=>wp_skip (zH1 hctr n k sl en h ρ a w hr)
 | n+1,.code (.seq x y) :: k,sl,en,h=>fun ρ a w hr=>wp_seq (zH1 hctr n (.code x :: .code y :: k) sl en h ρ a w hr)
 | n+1,.code (.block id c) :: k,sl,en,h=>fun ρ a w hr=>wp_block (zH1 hctr n (.code c :: .blk id :: k) sl en h ρ a w hr)
 | n+1,.code (.exit id) :: k,sl,en,h=>fun ρ a w hr=>by
  simp only [VC] at h
  split at h
  ·rename_i k' hk
   exact wp_exit (zT6 hk a w (zH1 hctr n k' sl en h ρ a w hr))
  ·exact h ρ a w hr
 | n+1,.code (.cond c x y) :: k,sl,en,h=>fun ρ a w hr=>by
  simp only [VC] at h
  split at h <;> try exact h ρ a w hr
  rename_i t ht
  obtain ⟨e1,_⟩:=hr.ev_ok _ _ ht
  refine wp_cond (t:=t) e1 ?_
  cases t with
  | true=>exact zH1 hctr n (.code x :: k) sl en (h.1 rfl) ρ a w hr
  | false=>exact zH1 hctr n (.code y :: k) sl en (h.2 rfl) ρ a w hr
 | n+1,.code (.region id ops draw) :: k,sl,en,h=>fun ρ a w hr=>by
  cases draw with
  | true=>exact h ρ a w hr
  | false=>exact wp_region_list (zH1 hctr n (.ops ops.toList ops.toList :: k) sl en h ρ a w hr)
 | n+1,.code (.loop c) :: k,sl,en,h=>h
 | n+1,.code (.rangeFunc _ _ _ _) :: k,sl,en,h=>h
 | n+1,.code (.scope _) :: k,sl,en,h=>h
 | n+1,.code (.label _) :: k,sl,en,h=>h
 | n+1,.code (.goto _) :: k,sl,en,h=>h
 | n+1,.code .ret :: k,sl,en,h=>fun ρ a w hr=>by
  simp only [VC] at h
  split at h
  ·rename_i l hl
   refine wp_ret (zS4 k a w (h ρ a w hr.hw hr.n0 ?_ hr.df fun fn hfn=>?_))
   ·exact resV_wf (hr.res _ _ hl).2
   ·subst hfn; exact (hr.resOk hl).1
  ·exact h ρ a w hr
 | n+1,.code (.refuse _) :: k,sl,en,h=>h
end
end Go.Proofs.YtfpeholdlkfmoaaGreatDoor
/- The symbolic walk of a whole function: its beginning, its end, and calls that are met by hand. -/
namespace Go.Proofs.YtfpeholdlkfmoaaGreatDoor
set_option linter.unusedSimpArgs false
set_option linter.unusedVariables false
open Go.RowKit
def zK:Nat→List SV→List (Nat × SV)
 | _,[]=>[]
 | k,v :: l=>(k,v) :: zK (k+1) l
theorem getS_arg:∀ {l:List SV} {k d:Nat} {v:SV},qy (zK k l) d=some v→k≤d∧l[d - k]?=some v
 | [],k,d,v,h=>by simp [zK,qy] at h
 | x :: l,k,d,v,h=>by
  simp only [zK,qy] at h
  split at h
  ·rename_i e; subst e; simp only [Option.some.injEq] at h; subst h; simp
  ·rename_i hne
   obtain ⟨h1,h2⟩:=getS_arg h
   refine ⟨by omega,?_⟩
   rw [show d - k=(d - (k+1))+1 by omega]
   simpa using h2
section
variable {C:Cx} {ρ:Nat→RE} {nt:Nat} {sl:List (Nat × SV)} {en:List EN} {a:Act} {w:World}
theorem zP1:∀ (k:List KI) (ch:List PanicEntry) (a:Act) (w:World),C.Q (.panic ch) a w→KQ C k (.panic ch) a w
 | [],_,_,_,h=>h
 | .code _ :: k,_,_,_,h=>zP1 k _ _ _ h
 | .blk _ :: k,_,_,_,h=>zP1 k _ _ _ h
 | .ops _ _ :: k,_,_,_,h=>zP1 k _ _ _ h
structure At (S:Nat→Prop) (ρ:Nat→RE) (en:List EN) (w:World):Prop where
 hp:Hp ρ (· < en.length) en w
 ho:Ho ρ (· < en.length) en
 inj:Inj ρ (· < en.length) en
 mu:∀ c ty cells,c < en.length→zD en c=some ⟨ty,cells,true⟩→S (ρ c).blk
def zL (P:Program) (fn:Func) (R:Ending→World→Prop) (S:Nat→Prop) (w0:World) (ρ0:Nat→RE) (n0:Nat) (kp:List Nat):Cx:=⟨P,bodyPost P fn R,S,w0,ρ0,n0,kp,[]⟩
theorem zB8 {P:Program} {f:FuncId} {fn:Func} {c:Code} {R:Ending→World→Prop} (hf:P.funcs[f]?=some fn) (hb:fn.body=some c) {S:Nat→Prop} (kp:List Nat) (args:List SV) (hn:fn.ntmps=nt)
  (hat:At S ρ en w) (hargs:∀ x∈args,x.wf (· < en.length)) (hlen:args.length≤nt)
  (h:∀ C,C=zL P fn R S w ρ en.length kp→C.P=P→C.kp=kp→Run C [.code c] nt (zK 0 args) en):Calls P f (args.map (SV.den ρ)).toArray w R:=by
 refine calls_of_wp hf hb ?_
 refine h _ rfl rfl rfl ρ _ w ⟨⟨hat.hp,hat.ho,hat.inj,Upd.refl _ _,fun c ty cells hc he=>.inl (hat.mu c ty cells hc he),fun c _=>rfl⟩,?_,?_,rfl,Nat.le_refl _⟩
 ·intro d v hd
  obtain ⟨h1,h2⟩:=getS_arg hd
  simp only [Nat.sub_zero] at h2
  have hl:=(List.getElem?_eq_some_iff.1 h2).1
  refine ⟨?_,hargs v (List.mem_of_getElem? h2)⟩
  rw [Array.getElem?_append_left (by simpa using hl)]
  simp [h2]
 ·simp [hn]; omega
structure Ctx (C:Cx) (P:Program) (fn:Func) (R:Ending→World→Prop):Prop where
 p:C.P=P
 ret:∀ a w,bodyPost P fn R .ret a w→C.Q .ret a w
 df:C.df=[]
theorem zK7 {P:Program} {fn:Func} {R:Ending→World→Prop} (hC:Ctx C P fn R) {rs:List ResultVar} (hrs:fn.results.toList=rs) {v:SV} (h:∀ ρ w,Hw C ρ (· < en.length) en w→C.n0≤en.length→v.wf (· < en.length)→R (.returned (v.den ρ)) w):Fin C rs v en:=by
 intro ρ a w hw hn hv hd hr
 refine hC.ret a w ⟨hd.trans hC.df,_,?_,h ρ w hw hn hv⟩
 rw [← hC.p]
 exact hr fn hrs
theorem zL1 {P:Program} {fn:Func} {R:Ending→World→Prop} {S:Nat→Prop} {w0:World} {ρ0:Nat→RE} {n0:Nat} {kp:List Nat}:Ctx (zL P fn R S w0 ρ0 n0 kp) P fn R:=⟨rfl,fun _ _ h=>h,rfl⟩
def lpC (C:Cx) (k:List KI) (J:Act→World→Prop):Cx:=⟨C.P,Exit.then J (KQ C k),C.S,C.w0,C.ρ0,C.n0,C.kp,C.df⟩
theorem Hw.toC {C D:Cx} {ρ:Nat→RE} {pr:Nat→Prop} {en:List EN} {w:World} (h:Hw C ρ pr en w) (hS:D.S=C.S) (hw:D.w0=C.w0) (hρ:D.ρ0=C.ρ0) (hn:D.n0=C.n0):Hw D ρ pr en w:=
 ⟨h.hp,h.ho,h.inj,by rw [hS,hw]; exact h.up,by rw [hS,hw]; exact h.mu,by rw [hρ,hn]; exact h.ini⟩
theorem Rep.toC {C D:Cx} (h:Rep C ρ nt sl en a w) (hS:D.S=C.S) (hw:D.w0=C.w0) (hρ:D.ρ0=C.ρ0) (hn:D.n0=C.n0) (hd:D.df=C.df):Rep D ρ nt sl en a w:=
 ⟨h.hw.toC hS hw hρ hn,h.tm,h.sz,h.df.trans hd.symm,by rw [hn]; exact h.n0⟩
def sub (s t:List (Nat × SV)):Prop:=∀ d v,qy s d=some v→qy t d=some v
theorem Rep.less {s:List (Nat × SV)} (h:Rep C ρ nt sl en a w) (hs:sub s sl):Rep C ρ nt s en a w:=⟨h.hw,fun d v hd=>h.tm d v (hs d v hd),h.sz,h.df,h.n0⟩
theorem zS2 {s:List (Nat × SV)} {k:List KI} (hs:sub s sl) (h:Run C k nt s en):Run C k nt sl en:=fun ρ a w hr=>h ρ a w (hr.less hs)
theorem Run_loop {ι:Type} {c:Code} {k:List KI} (slF:ι→List (Nat × SV)) (enF:ι→List EN) (μ:ι→Nat) (x0:ι) (h0:sub (slF x0) sl) (he0:enF x0=en)
  (round:∀ x J,(∀ y s,μ y < μ x→sub (slF y) s→Run (lpC C k J) [] nt s (enF y))→Run (lpC C k J) [.code c] nt (slF x) (enF x)):Run C (.code (.loop c) :: k) nt sl en:=by
 intro ρ a w hr
 subst he0
 refine wp_loop_ghost (fun n a w=>∃ x ρ,μ x=n∧Rep C ρ nt (slF x) (enF x) a w) (μ x0) ⟨x0,ρ,rfl,hr.less h0⟩ ?_
 rintro n a w ⟨x,ρ,rfl,hx⟩
 refine round x (fun a' w'=>∃ n',n' < μ x∧∃ y ρ,μ y=n'∧Rep C ρ nt (slF y) (enF y) a' w') ?_ ρ a w (hx.toC rfl rfl rfl rfl rfl)
 intro y s hy hs ρ' a' w' hr'
 exact ⟨μ y,hy,y,ρ',rfl,(hr'.less hs).toC rfl rfl rfl rfl rfl⟩
theorem zY5 {id:Nat}:∀ (k:List KI) (a:Act) (w:World),zH id k=none→C.Q (.exit id) a w→KQ C k (.exit id) a w
 | [],a,w,_,h=>h
 | .code _ :: k,a,w,hu,h=>zY5 k a w hu h
 | .blk i :: k,a,w,hu,h=>by
  simp only [zH] at hu
  split at hu
  ·cases hu
  ·rename_i hne
   simp only [KQ,Exit.inBlock]
   rw [if_neg hne]
   exact zY5 k a w hu h
 | .ops _ _ :: k,a,w,hu,h=>zY5 k a w hu h
theorem Run_lpExit {id:Nat} {k k' kk:List KI} {J:Act→World→Prop} (hkk:zH id kk=none) (hk:zH id k=some k') (h:Run C k' nt sl en):Run (lpC C k J) (.code (.exit id) :: kk) nt sl en:=by
 intro ρ a w hr
 refine wp_exit (zY5 kk a w hkk ?_)
 exact zT6 hk a w (h ρ a w (hr.toC rfl rfl rfl rfl rfl))
theorem Ctx.lp {P:Program} {fn:Func} {R:Ending→World→Prop} (h:Ctx C P fn R) (k:List KI) (J:Act→World→Prop):Ctx (lpC C k J) P fn R:=⟨h.p,fun a w hb=>zS4 k a w (h.ret a w hb),h.df⟩
end
end Go.Proofs.YtfpeholdlkfmoaaGreatDoor
/- A region whose order is drawn: an invariant over every order that its edges allow. Plain order facts, and the operations' own laws at any set of entries that are there. -/
namespace Go.Proofs.YtfpeholdlkfmoaaGreatDoor
set_option linter.unusedSimpArgs false
set_option linter.unusedVariables false
open Go.RowKit
section
variable {P:Program} {ops:Array Oper} {Q:Exit→Act→World→Prop}
def unl:List Bool→Nat
 | []=>0
 | b :: l=>(if b then 0 else 1)+unl l
theorem unl_set:∀ {l:List Bool} {i:Nat},l[i]?=some false→unl (l.set i true)+1=unl l
 | [],i,h=>by simp at h
 | b :: l,0,h=>by simp at h; subst h; simp [unl]; omega
 | b :: l,i+1,h=>by
  have:=unl_set (l:=l) (i:=i) (by simpa using h)
  simp only [List.set_cons_succ,unl]; omega
theorem ready_un {listed:Array Bool} {i:Nat} (h:i∈Region.ready .any ops listed):i < ops.size∧listed.getD i true=false∧∃ o,ops[i]?=some o∧∀ e∈o.after,Region.binds .any e=true→listed.getD e.on false=true:=by
 unfold Region.ready at h
 simp only [List.mem_filter,List.mem_range,Bool.and_eq_true,Bool.not_eq_true'] at h
 obtain ⟨h1,h2,h3⟩:=h
 refine ⟨h1,h2,ops[i],by simp [h1],?_⟩
 simp only [Array.getElem?_eq_getElem h1,Option.map_some,Option.getD_some] at h3
 intro e he hb
 rw [Array.all_eq_true_iff_forall_mem] at h3
 have:=h3 e he
 simpa [hb] using this
theorem zN3 (Inv:Array Bool→Act→World→Prop)
  (step:∀ listed a w i,listed.size=ops.size→Inv listed a w→i∈Region.ready .any ops listed→wpOp P ops Q i (Inv (listed.setIfInBounds i true)) a w)
  (fin:∀ listed a w,listed.size=ops.size→Inv listed a w→Region.ready .any ops listed=[]→Q .normal a w) :
  ∀ (fuel:Nat) (listed:Array Bool) (a:Act) (w:World),listed.size=ops.size→unl listed.toList≤fuel→Inv listed a w→wpAny P .any ops Q fuel listed a w
 | 0,listed,a,w,hs,hu,hi=>by
  have hr:Region.ready .any ops listed=[]:=by
   cases h:Region.ready .any ops listed with
   | nil=>rfl
   | cons i l =>
    have hi:i∈Region.ready .any ops listed:=by rw [h]; simp
    obtain ⟨h1,h2,_⟩:=ready_un hi
    have hg:listed.toList[i]?=some false:=by
     have hlt:i < listed.size:=by omega
     simp only [Array.getD_eq_getD_getElem?,Array.getElem?_eq_getElem hlt,Option.getD_some] at h2
     simp [hlt,h2]
    have:=unl_set hg
    omega
  exact ⟨hr,fin listed a w hs hi hr⟩
 | fuel+1,listed,a,w,hs,hu,hi=>by
  refine ⟨fun hr=>fin listed a w hs hi hr,fun i hir=>?_⟩
  obtain ⟨h1,h2,_⟩:=ready_un hir
  have hg:listed.toList[i]?=some false:=by
   have hlt:i < listed.size:=by omega
   simp only [Array.getD_eq_getD_getElem?,Array.getElem?_eq_getElem hlt,Option.getD_some] at h2
   simp [hlt,h2]
  have hun:=unl_set hg
  exact wpOp_mono (fun a' w' h'=>zN3 Inv step fin fuel _ a' w' (by simpa using hs) (by rw [Array.toList_setIfInBounds]; omega) h') (step listed a w i hs hi hir)
end
def opT (o:Op) (x:Operand):Prop:=x∈o.operands.toList
theorem zX4 {fs:List (Nat × Nat × Bool)} {e1 e2:Operand→Option SV}:∀ (ps:List (Nat × Operand)) (l:List SC),(∀ x∈ps,e1 x.2=e2 x.2)→qg fs e1 ps l=qg fs e2 ps l
 | [],l,_=>rfl
 | (i,x) :: r,l,h=>by
  have h0:=h (i,x) (by simp)
  have hr:∀ l,qg fs e1 r l=qg fs e2 r l:=fun l=>zX4 r l (fun y hy=>h y (by simp [hy]))
  simp only [qg,h0,hr]
theorem zY1 {e1 e2:Operand→Option SV}:∀ (xs:List Operand),(∀ x∈xs,e1 x=e2 x)→qk e1 xs=qk e2 xs
 | [],_=>rfl
 | x :: r,h=>by
  have h0:=h x (by simp)
  have hr:=zY1 r (fun y hy=>h y (by simp [hy]))
  simp only [qk,h0,hr]
theorem zU1 {e1 e2:Operand→Option SV} {d:Int} {o:Option Operand} (h:∀ x,o=some x→e1 x=e2 x):ql e1 d o=ql e2 d o:=by
 cases o with
 | none=>rfl
 | some x=>simp only [ql,h x rfl]
theorem softS_congr {P:Program} {rd:Rd} {en:List EN} {e1 e2:Operand→Option SV} {op:Op} (h:∀ x,opT op x→e1 x=e2 x):qK P rd en e1 op=qK P rd en e2 op:=by
 unfold opT at h
 cases op <;> simp only [qK] <;> simp only [Op.operands] at h
 case move x=>rw [h x (by simp)]
 case assign x=>rw [h x (by simp)]
 case pick c a b=>rw [h c (by simp),h a (by simp),h b (by simp)]
 case build t ps=>unfold qf; simp only [zX4 ps.toList _ (fun x hx=>h x.2 (by simp; exact ⟨x.1,by simpa using hx⟩))]
 case load t a=>rw [h a (by simp)]
 case nilCheck x=>rw [h x (by simp)]
 case binOp b t x y t'=>rw [h x (by simp),h y (by simp)]
 case unOp u t x=>rw [h x (by simp)]
 case convert s t x=>rw [h x (by simp)]
 case makeInterface t x=>rw [h x (by simp)]
 case makeFunc fn first cap=>rw [zY1 cap.toList (fun x hx=>h x (by simp; exact .inr (by simpa using hx)))]
 case slice t x lo hi mx =>
  cases mx with
  | some m=>rfl
  | none=>simp only [h x (by simp),zU1 (o:=lo) (fun y hy=>h y (by simp [hy])),zU1 (o:=hi) (fun y hy=>h y (by simp [hy]))]
 case fieldAddr t x f=>rw [h x (by simp)]
 case field t x f=>rw [h x (by simp)]
 case indexAddr t x j=>rw [h x (by simp),h j (by simp)]
 case index t x j=>rw [h x (by simp),h j (by simp)]
 case extract x k=>rw [h x (by simp)]
 case call c =>
  obtain ⟨callee,args,tys⟩:=c
  unfold qN
  split <;> try rfl
  ·rename_i args tys hc
   cases hc
   split <;> try rfl
   rename_i x t hx ht
   rw [h x (by simp [Call.operands]; simpa using (by rw [hx]; simp:x∈args.toList))]
  ·rename_i args tys hc
   cases hc
   split <;> try rfl
   rename_i x y hx
   rw [h x (by simp [Call.operands]; simpa using (by rw [hx]; simp:x∈args.toList)),h y (by simp [Call.operands]; simpa using (by rw [hx]; simp:y∈args.toList))]
  ·rename_i args tys hc
   cases hc
   split <;> try rfl
   rename_i x y hx
   rw [h x (by simp [Call.operands]; simpa using (by rw [hx]; simp:x∈args.toList)),h y (by simp [Call.operands]; simpa using (by rw [hx]; simp:y∈args.toList))]
theorem softS_at {P:Program} {rd:Rd} {en:List EN} {e:Operand→Option SV} {rv:Operand→Value} {ρ:Nat→RE} {pr:Nat→Prop} {w:World} {o:Oper} {p:Prop} {v:SV} (h:qK P rd en e o.op=some (p,v)) (hp:p)
  (hev:∀ x u,opT o.op x→e x=some u→rv x=u.den ρ∧u.wf pr) (hrd:RdOk rd w) (hh:Hp ρ pr en w) (hho:Ho ρ pr en):(execOp rv o).run P w=.ok (.value (v.den ρ)) w∧v.wf pr:=by
 classical
 have h2:=(softS_congr (P:=P) (rd:=rd) (en:=en) (e1:=fun x=>if opT o.op x then e x else none) (e2:=e) (op:=o.op) (fun x hx=>by simp [hx])).trans h
 refine softS_ok rfl h2 hp (fun x u hx=>?_) hrd hh hho
 split at hx
 ·rename_i ho; exact hev x u ho hx
 ·cases hx
section
variable {C:Cx} {ρ:Nat→RE} {pr:Nat→Prop} {en:List EN} {w:World}
theorem Hw.drew (h:Hw C ρ pr en w):Hw C ρ pr en { w with drawn:=w.drawn+1 }:=⟨fun c ty cells mu hc he=>⟨(h.hp c ty cells mu hc he).heap,(h.hp c ty cells mu hc he).wf,(h.hp c ty cells mu hc he).dead,(h.hp c ty cells mu hc he).non⟩,h.ho,h.inj,⟨h.up.os,h.up.tape,h.up.output,h.up.size,h.up.block⟩,h.mu,h.ini⟩
theorem Hw.allocAt (h:Hw C ρ pr en w) {c:Nat} {t:TypeId} (htd:t ≠ zE8) {l:List SC} (hc:¬ pr c) (hn:C.n0≤c) (he:zD en c=some ⟨(t,0,whole),l,true⟩) (hw:wfs pr l) :
  Hw C (zL6 ρ c ⟨w.heap.size,[],[],0,none⟩) (fun d=>pr d∨d=c) en (w.alloc (.cells (zC1 ρ l).toArray t)):=by
 have hρ:∀ d,pr d→zL6 ρ c ⟨w.heap.size,[],[],0,none⟩ d=ρ d:=fun d hd=>if_neg (by rintro rfl; exact hc hd)
 have hs:zL6 ρ c ⟨w.heap.size,[],[],0,none⟩ c=⟨w.heap.size,[],[],0,none⟩:=if_pos rfl
 refine ⟨?_,?_,?_,h.up.alloc _,?_,?_⟩
 ·intro d ty cells mu hd hde
  by_cases hdc:d=c
  ·subst hdc
   rw [he] at hde
   simp only [Option.some.injEq,EN.mk.injEq] at hde
   obtain ⟨rfl,rfl,rfl⟩:=hde
   refine ⟨fun _=>?_,zJ3 hw (fun x hx=>.inl hx),fun hd=>absurd hd htd,by rw [hs]; exact fun h=>absurd rfl h⟩
   rw [hs,zF9 hw hρ]
   simpa using heap_alloc_new w (.cells (zC1 ρ l).toArray t)
  ·have hpd:pr d:=hd.resolve_right hdc
   have h1:=h.hp d ty cells mu hpd hde
   refine ⟨fun hd=>?_,zJ3 h1.wf (fun x hx=>.inl hx),h1.dead,by rw [hρ d hpd]; exact h1.non⟩
   rw [hρ d hpd] at hd
   rw [hρ d hpd,zF9 h1.wf hρ]
   exact (Below.heap_alloc w _ _ (h.lt hpd ((zB4 hde).2 hd))).trans (h1.heap hd)
 ·intro d ty cells mu hd hde
  by_cases hdc:d=c
  ·subst hdc
   rw [he] at hde
   simp only [Option.some.injEq,EN.mk.injEq] at hde
   obtain ⟨rfl,_,_⟩:=hde
   rw [hs]; exact ⟨rfl,rfl,rfl⟩
  ·have hpd:pr d:=hd.resolve_right hdc
   rw [hρ d hpd]
   exact h.ho d ty cells mu hpd hde
 ·intro x y hx hy hxl hyl hxy
  rcases hx with hx | rfl <;> rcases hy with hy | rfl
  ·rw [hρ x hx,hρ y hy] at hxy; rw [hρ x hx] at hxl; rw [hρ y hy] at hyl; exact h.inj x y hx hy hxl hyl hxy
  ·rw [hρ x hx,hs] at hxy
   rw [hρ x hx] at hxl
   have:=h.lt hx hxl
   simp only at hxy; omega
  ·rw [hρ y hy,hs] at hxy
   rw [hρ y hy] at hyl
   have:=h.lt hy hyl
   simp only at hxy; omega
  ·rfl
 ·intro d ty cells hd hde
  rcases hd with hd | rfl
  ·rw [hρ d hd]; exact h.mu d ty cells hd hde
  ·rw [hs]; exact .inr h.up.size
 ·intro d hd
  have:zL6 ρ c ⟨w.heap.size,[],[],0,none⟩ d=ρ d:=if_neg (by omega)
  rw [this]; exact h.ini d hd
end
end Go.Proofs.YtfpeholdlkfmoaaGreatDoor
/- A region whose order is drawn, walked once in the text's order: the check of each operation at each state in which it may be executed, and that this is enough. -/
namespace Go.Proofs.YtfpeholdlkfmoaaGreatDoor
set_option linter.unusedSimpArgs false
set_option linter.unusedVariables false
open Go.RowKit
inductive Kd where
 | skip
 | soft
 | flt (c:Nat)
 | hst (j:Nat)
 | hcl (j:Nat)
inductive Cr where
 | f (i:Nat)
 | h (j:Nat)
def jE:Bool→Bool→Bool
 | true,true=>true
 | false,false=>true
 | _,_=>false
theorem eqB_iff (x y:Bool):jE x y=(x == y):=by cases x <;> cases y <;> rfl
def jD (all:List Oper) (sl:List (Nat × SV)):Option (Nat × Bool)→Option Bool
 | none=>some true
 | some (j,b)=>match zD all j with
  | some ⟨some d,_,_,_,_,_⟩=>match qy sl d with
   | some (.c (.b x))=>some (jE x b)
   | some (.c .u)=>some false
   | _=>none
  | _=>none
def jP:Nat→Nat→(Nat→Prop)→Prop
 | 0,_,_=>True
 | n+1,s,f=>f s∧jP n (s+1) f
theorem zS0 {f:Nat→Prop}:∀ {n s:Nat},jP n s f→∀ l,s≤l→l < s+n→f l
 | 0,s,_,l,h1,h2=>by omega
 | n+1,s,h,l,h1,h2=>by
  by_cases e:l=s
  ·subst e; exact h.1
  ·exact zS0 h.2 l (by omega) (by omega)
def jI {α:Type}:Nat→List α→List α
 | 0,_=>[]
 | _+1,[]=>[]
 | n+1,x :: l=>x :: jI n l
theorem zJ2 {α:Type}:∀ (n:Nat) (l:List α),jI n l=l.take n
 | 0,l=>by simp [jI]
 | n+1,[]=>by simp [jI]
 | n+1,x :: l=>by simp [jI,zJ2 n l]
def jV (n:Nat):SC→Bool
 | .p c _=>decide (c < n)
 | .sl c _ _ _=>decide (c < n)
 | .rw c _=>decide (c < n)
 | .f _ cap=>cap.all fun x=>decide (x.1 < n)
 | _=>true
def jW (n:Nat):List SC→Bool
 | []=>true
 | x :: l=>bif jV n x then jW n l else false
def jX (n:Nat):List EN→Bool
 | []=>true
 | ⟨_,cells,_⟩ :: l=>bif jW n cells then jX n l else false
def jY (n:Nat):List SV→Bool
 | []=>true
 | .c x :: l=>bif jV n x then jY n l else false
 | .g c :: l=>bif jW n c then jY n l else false
 | .t _ :: _=>false
theorem wfC_ok {n:Nat} {x:SC} (h:jV n x=true):x.wf (· < n):=by
 cases x with
 | p c o=>have h1:c < n:=of_decide_eq_true h; exact h1
 | sl c o k m=>have h1:c < n:=of_decide_eq_true h; exact h1
 | rw c k=>have h1:c < n:=of_decide_eq_true h; exact h1
 | f fn cap=>intro y hy; simp only [jV,List.all_eq_true,decide_eq_true_eq] at h; exact h y hy
 | _=>trivial
theorem wfL_ok {n:Nat}:∀ {l:List SC},jW n l=true→wfs (· < n) l
 | [],_=>fun x hx=>nomatch hx
 | x :: l,h=>by
  simp only [jW,cond_eq_ite] at h
  split at h
  ·rename_i hx
   intro y hy
   rcases List.mem_cons.1 hy with rfl | hy
   ·exact wfC_ok hx
   ·exact wfL_ok h y hy
  ·cases h
theorem wfE_ok {n:Nat}:∀ {l:List EN},jX n l=true→∀ e∈l,wfs (· < n) e.cells
 | [],_=>fun x hx=>nomatch hx
 | ⟨ty,cells,mu⟩ :: l,h=>by
  simp only [jX,cond_eq_ite] at h
  split at h
  ·rename_i hx
   intro y hy
   rcases List.mem_cons.1 hy with rfl | hy
   ·exact wfL_ok hx
   ·exact wfE_ok h y hy
  ·cases h
theorem wfV_ok {n:Nat}:∀ {l:List SV},jY n l=true→∀ x∈l,x.wf (· < n)
 | [],_=>fun x hx=>nomatch hx
 | .c x :: l,h=>by
  simp only [jY,cond_eq_ite] at h
  split at h
  ·rename_i hx
   intro y hy
   rcases List.mem_cons.1 hy with rfl | hy
   ·exact wfC_ok hx
   ·exact wfV_ok h y hy
  ·cases h
 | .g c :: l,h=>by
  simp only [jY,cond_eq_ite] at h
  split at h
  ·rename_i hx
   intro y hy
   rcases List.mem_cons.1 hy with rfl | hy
   ·exact wfL_ok hx
   ·exact wfV_ok h y hy
  ·cases h
 | .t _ :: _,h=>by cases h
def jR (P:Program) (rd:Rd) (ctr:Ctr) (nE:Nat) (en:List EN) (sl:List (Nat × SV)) (v:SV):Op→Prop
 | .call ⟨.value (.func f),args,_⟩=>match qw sl args.toList with
  | some xs=>match ctr f (jI nE en) xs with
   | some (p,u)=>jX nE (jI nE en)=true∧jY nE xs=true∧p∧u=v
   | none=>False
  | none=>False
 | op=>match qK P rd en (ev sl) op with
  | some (p,u)=>p∧u=v
  | none=>False
def jG (c:Nat):Option Nat→SV
 | none=>.c (.p c 0)
 | some n=>.c (.sl c 0 n n)
def jF (P:Program) (sl:List (Nat × SV)):Op→Option (TypeId × List SC × Option Nat)
 | .alloc t=>match zG2 P t with
  | some ⟨_,_,z,_,_,_,_,_⟩=>some (t,z,none)
  | none=>none
 | .buildSlice t n ps=>match qD P (ev sl) t n ps.toList with
  | some (el,l)=>some (el,l,some n)
  | none=>none
 | .box t x=>match ev sl x with
  | some v=>match qv v with
   | some l=>if t=4294967295 then none else some (t,l,none)
   | none=>none
  | none=>none
 | _=>none
def jH (P:Program) (sl:List (Nat × SV)) (en:List EN):Op→Option (List EN)
 | .store t a x=>match zG2 P t,ev sl a,ev sl x with
  | some ⟨sz,_,_,_,_,_,_,_⟩,some (.c (.p c o)),some v=>match zD en c with
   | some ⟨ty,cells,true⟩=>match qv v with
    | some vs=>if zG vs=sz then (match zC o vs cells with
     | some l=>some (zE en c ⟨ty,l,true⟩)
     | none=>none) else none
    | none=>none
   | _=>none
  | _,_,_=>none
 | _=>none
def zP3 (C:Cx) (nE:Nat) (mk:Nat→Prop) (en en':List EN) (f:FuncId) (xs:List SV) (v:SV):Prop:=
 (∀ args w,(callFunc f args).run C.P w=.ok (.enter f args) w) ∧
 ∀ ρ pr w,(∀ c,c < nE→pr c)→(∀ c,mk c→¬ pr c)→Hw C ρ pr en w→(∀ c,pr c→zD en c ≠ none)→(∀ x∈xs,x.wf pr) →
  Calls C.P f (xs.map (SV.den ρ)).toArray w fun e w'=>∃ ρ',(∀ c,pr c→ρ' c=ρ c)∧e=.returned (v.den ρ')∧v.wf (fun c=>pr c∨mk c)∧Hw C ρ' (fun c=>pr c∨mk c) en' w'∧∀ c,mk c→zD en' c ≠ none
def HApp (C:Cx) (nE:Nat) (mk:Nat→Prop) (en en':List EN) (tys:Array TypeId) (xs:List SV) (v:SV):Prop:=
 ∀ ρ pr w,(∀ c,c < nE→pr c)→(∀ c,mk c→¬ pr c)→Hw C ρ pr en w→(∀ c,pr c→zD en c ≠ none)→(∀ x∈xs,x.wf pr)→∀ ty,
  ∃ ρ' w',(Builtin.append_ tys ty (xs.map (SV.den ρ)).toArray).run C.P w=.ok (v.den ρ') w'∧(∀ c,pr c→ρ' c=ρ c)∧v.wf (fun c=>pr c∨mk c)∧Hw C ρ' (fun c=>pr c∨mk c) en' w'
def jU (C:Cx) (nE:Nat) (mk:Nat→Prop) (en en':List EN) (sl:List (Nat × SV)) (v:SV):Op→Prop
 | .call ⟨.value (.func f),args,_⟩=>match qw sl args.toList with
  | some xs=>zP3 C nE mk en en' f xs v
  | none=>False
 | .call ⟨.builtin .append,args,tys⟩=>match qw sl args.toList with
  | some xs=>HApp C nE mk en en' tys xs v
  | none=>False
 | _=>False
def mkC (nE:Nat) (crs:List Cr) (j:Nat) (c:Nat):Prop:=nE≤c∧crs[c - nE]?=some (.h j)
def jQ (lv:List (List EN)) (l:Nat) (f:List EN→Prop):Prop:=
 match zD lv l with
 | some en=>f en
 | none=>False
def jT (C:Cx) (ctr:Ctr) (nE:Nat) (all:List Oper) (lv:List (List EN)) (crs:List Cr) (i:Nat) (o:Oper) (v:SV) (lo hi:Nat) (sl:List (Nat × SV)):Kd→Prop
 | .skip=>jD all sl o.guard=some false∧v=.c .u
 | .soft=>jD all sl o.guard=some true∧jP (hi+1 - lo) lo fun l=>jQ lv l fun en=>jR C.P C.rd ctr nE en sl v o.op
 | .flt c=>jD all sl o.guard=some true∧nE≤c∧zD crs (c - nE)=some (.f i)∧match jF C.P sl o.op with
  | some (t,l,q)=>v=jG c q∧jP (hi+1 - lo) lo fun q=>jQ lv q fun en=>zD en c=some ⟨(t,0,whole),l,true⟩
  | none=>False
 | .hst j=>jD all sl o.guard=some true∧o.dst=none∧v=.c .u∧jQ lv j fun en=>match jH C.P sl en o.op with
  | some en'=>zD lv (j+1)=some en'
  | none=>False
 | .hcl j=>jD all sl o.guard=some true∧jQ lv j fun en=>jQ lv (j+1) fun en'=>jU C nE (mkC nE crs j) en en' sl v o.op
def jN (dst:Option Nat) (v:SV) (sl:List (Nat × SV)):List (Nat × SV):=
 match dst with
 | some d=>(d,v) :: sl
 | none=>sl
def jS (C:Cx) (ctr:Ctr) (nE:Nat) (all:List Oper) (lv:List (List EN)) (crs:List Cr):Nat→List Oper→List Kd→List SV→List (Nat × Nat)→List (Nat × SV)→Prop
 | _,[],[],[],[],_=>True
 | i,o :: os,k :: ks,v :: vs,(lo,hi) :: rs,sl=>jT C ctr nE all lv crs i o v lo hi sl k∧jS C ctr nE all lv crs (i+1) os ks vs rs (jN o.dst v sl)
 | _,_,_,_,_,_=>False
def jO:List Oper→List SV→Nat→List (Nat × SV)→List (Nat × SV)
 | o :: os,v :: vs,i+1,sl=>jO os vs i (jN o.dst v sl)
 | _,_,_,sl=>sl
theorem ckD_get {C:Cx} {ctr:Ctr} {nE:Nat} {all:List Oper} {lv:List (List EN)} {crs:List Cr}:∀ {b:Nat} {os:List Oper} {ks:List Kd} {vs:List SV} {rs:List (Nat × Nat)} {sl:List (Nat × SV)},
  jS C ctr nE all lv crs b os ks vs rs sl→∀ (i:Nat) (o:Oper),os[i]?=some o→∃ k v lo hi,ks[i]?=some k∧vs[i]?=some v∧rs[i]?=some (lo,hi)∧jT C ctr nE all lv crs (b+i) o v lo hi (jO os vs i sl) k
 | b,[],[],[],[],sl,h,i,o,ho=>by simp at ho
 | b,o' :: os,k :: ks,v :: vs,(lo,hi) :: rs,sl,h,0,o,ho=>by
  simp at ho; subst ho
  exact ⟨k,v,lo,hi,rfl,rfl,rfl,h.1⟩
 | b,o' :: os,k :: ks,v :: vs,(lo,hi) :: rs,sl,h,i+1,o,ho=>by
  obtain ⟨k',v',lo',hi',h1,h2,h3,h4⟩:=ckD_get h.2 i o (by simpa using ho)
  exact ⟨k',v',lo',hi',by simpa using h1,by simpa using h2,by simpa using h3,by rw [show b+(i+1)=b+1+i by omega]; exact h4⟩
theorem slAt_get:∀ {os:List Oper} {vs:List SV} {i:Nat} {sl:List (Nat × SV)} {t:Nat} {u:SV},qy (jO os vs i sl) t=some u→vs.length=os.length →
  (∃ j o,j < i∧os[j]?=some o∧o.dst=some t∧vs[j]?=some u)∨((∀ j o,j < i→os[j]?=some o→o.dst ≠ some t)∧qy sl t=some u)
 | [],vs,i,sl,t,u,h,hl=>by
  right
  cases i <;> cases vs <;> simp [jO] at h <;> exact ⟨fun j o _ ho=>by simp at ho,h⟩
 | o :: os,[],i,sl,t,u,h,hl=>by simp at hl
 | o :: os,v :: vs,0,sl,t,u,h,hl=>by right; exact ⟨fun j o hj=>by omega,h⟩
 | o :: os,v :: vs,i+1,sl,t,u,h,hl=>by
  simp only [jO] at h
  rcases slAt_get h (by simpa using hl) with ⟨j,o',hj,h1,h2,h3⟩ | ⟨h1,h2⟩
  ·exact .inl ⟨j+1,o',by omega,by simpa using h1,h2,by simpa using h3⟩
  ·unfold jN at h2
   cases hd:o.dst with
   | none =>
    rw [hd] at h2
    right
    refine ⟨fun j o' hj ho=>?_,h2⟩
    cases j with
    | zero=>simp at ho; subst ho; rw [hd]; simp
    | succ j=>exact h1 j o' (by omega) (by simpa using ho)
   | some d =>
    rw [hd] at h2
    simp only [qy] at h2
    split at h2
    ·rename_i e
     subst e
     simp only [Option.some.injEq] at h2
     subst h2
     exact .inl ⟨0,o,by omega,rfl,hd,rfl⟩
    ·rename_i hne
     right
     refine ⟨fun j o' hj ho=>?_,h2⟩
     cases j with
     | zero=>simp at ho; subst ho; rw [hd]; simp; exact hne
     | succ j=>exact h1 j o' (by omega) (by simpa using ho)
def hnum:Option Kd→Option Nat
 | some (.hst j)=>some j
 | some (.hcl j)=>some j
 | _=>none
def aftN (ks:List Kd) (rs:List (Nat × Nat)) (i:Nat):Nat:=match hnum ks[i]? with | some j=>j+1 | none=>(rs.getD i (0,0)).1
def befN (ks:List Kd) (rs:List (Nat × Nat)) (i:Nat):Nat:=match hnum ks[i]? with | some j=>j | none=>(rs.getD i (0,0)).2
def loN (ks:List Kd) (rs:List (Nat × Nat)) (i:Nat):Nat:=match hnum ks[i]? with | some j=>j | none=>(rs.getD i (0,0)).1
def edg (ops:List Oper) (i j:Nat):Bool:=match ops[i]? with | some o=>o.after.toList.any fun e=>Region.binds .any e && e.on == j | none=>false
def looksB (ops:List Oper) (o:Oper):List Nat:=(o.op.operands.toList.filterMap fun | .tmp t=>some t | _=>none)++(match o.guard with | some (g,_)=>((ops[g]?).bind (·.dst)).toList | none=>[])
def ckE (ops:List Oper) (ks:List Kd) (rs:List (Nat × Nat)) (m:Nat):Bool:=
 ks.length == ops.length && rs.length == ops.length &&
 (List.range ops.length).all fun i =>
  match ops[i]? with
  | none=>false
  | some o =>
   (o.after.toList.all fun e=>!Region.binds .any e || e.on < i) &&
   (loN ks rs i == 0 || o.after.toList.any fun e=>Region.binds .any e && loN ks rs i≤aftN ks rs e.on) &&
   (match hnum ks[i]? with
    | some j=>j < m && (List.range ops.length).all fun x=>x == i || hnum ks[x]? != some j
    | none=>m≤(rs.getD i (0,0)).2 || (List.range ops.length).any fun x=>i < x && edg ops x i && befN ks rs x≤(rs.getD i (0,0)).2) &&
   ((List.range ops.length).all fun x=>x == i || (match ops[x]? with
     | some q=>(match q.dst with
      | none=>true
      | some d=>q.dst != o.dst && (!(looksB ops o).contains d || (x < i && edg ops i x) || (i < x && edg ops x i)))
     | none=>false)) &&
   (match o.op with | .select _ _=>false | _=>true)
def isFlt (c:Nat):Option Kd→Bool
 | some (.flt d)=>c == d
 | _=>false
def isHcl (j:Nat):Kd→Bool
 | .hcl i=>i == j
 | _=>false
def ckC (nE:Nat) (ks:List Kd) (crs:List Cr) (m:Nat):Bool:=
 ((List.range crs.length).all fun q=>match crs[q]? with
   | some (.f i)=>i < ks.length && isFlt (nE+q) ks[i]?
   | some (.h j)=>j < m && ks.any (isHcl j)
   | none=>true) &&
 (List.range m).all fun j=>(List.range ks.length).any fun i=>hnum ks[i]? == some j
def lenB:List (List EN)→Nat→Bool
 | [],_=>true
 | e :: l,n=>bif zG e == n then lenB l n else false
theorem lenB_ok:∀ {l:List (List EN)} {n:Nat},lenB l n=true→∀ e∈l,e.length=n
 | [],_,_=>fun e he=>nomatch he
 | x :: l,n,h=>by
  simp only [lenB,cond_eq_ite] at h
  split at h
  ·rename_i hx
   intro y hy
   rcases List.mem_cons.1 hy with rfl | hy
   ·rw [← zB9]; simpa using hx
   ·exact lenB_ok h y hy
  ·cases h
def ntB (ops:List Oper) (nt:Nat):Bool:=ops.all fun o=>match o.dst with | some d=>d < nt | none=>true
theorem ntB_ok {ops:List Oper} {nt:Nat} (h:ntB ops nt=true):∀ o∈ops,∀ d,o.dst=some d→d < nt:=by
 intro o ho d hd
 unfold ntB at h
 rw [List.all_eq_true] at h
 have:=h o ho
 rw [hd] at this
 simpa using this
end Go.Proofs.YtfpeholdlkfmoaaGreatDoor
