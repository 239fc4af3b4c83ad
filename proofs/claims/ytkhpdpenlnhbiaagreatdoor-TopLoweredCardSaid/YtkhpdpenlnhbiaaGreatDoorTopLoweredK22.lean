/- A part of the proof: contracts of functions and plain laws; each theorem says its own conditions. -/
import Derived.Test.YtkhpdpenlnhbiaaGreatDoorTopLoweredK21
set_option linter.unusedVariables false
set_option linter.unusedSimpArgs false
/- The locks held ahead of each node: every way leads to a node with the same ones. -/
namespace ParS
open Sx LexS Go Go.RowKit
def aft (g:Gn) (l:List Int):List Int:=if g.k=5 then l++[g.th] else if g.k=6 then l.dropLast else l
def okA (g:Gn) (l:List Int):Prop:=(g.k=6→l.getLast?=some g.th)∧(g.k=9→l=[])
theorem aft_ky {g g':Gn} (e:ky g'=ky g) (l:List Int):aft g' l=aft g l:=by
  simp only [ky,Prod.mk.injEq] at e
  unfold aft;rw [e.1,e.2.2.2.1]
theorem okA_ky {g g':Gn} {l:List Int} (h:okA g l) (e:ky g'=ky g):okA g' l:=by
  simp only [ky,Prod.mk.injEq] at e
  unfold okA at h ⊢;rw [e.1,e.2.2.2.1];exact h
theorem k_ky {g g':Gn} (e:ky g'=ky g):g'.k=g.k:=by simp only [ky,Prod.mk.injEq] at e;exact e.1
def Pnd (lab:List (List Int)) (N:List Gn) (H:List Int) (f:Nat×Bool):Prop:=∃ g l,N[f.1]?=some g∧lab[f.1]?=some l∧aft g l=H∧g.k≠9∧(f.2=true→g.k=8)
def NodeOk (lab:List (List Int)) (X:List (Nat×Bool)) (i:Nat) (g:Gn) (l:List Int):Prop:=okA g l∧(g.k≠8→g.el=0)∧(g.k=9→g.nx=0)∧(g.k≠9→(i,false)∈X∨lab[g.nx]?=some (aft g l))∧(g.k=8→(i,true)∈X∨lab[g.el]?=some (aft g l))
structure Fl (lab:List (List Int)) (st:LS) (H:List Int) (X:List (Nat×Bool)):Prop where
  len:lab.length=st.N.length
  emp:st.N=[]→H=[]
  fst:∀ l,lab[0]?=some l→l=[]
  node:∀ i g l,st.N[i]?=some g→lab[i]?=some l→NodeOk lab (st.op++X) i g l
  opn:∀ f∈st.op,Pnd lab st.N H f
structure Gr (lab:List (List Int)) (st:LS) (lab':List (List Int)) (st':LS):Prop where
  lab:lab <+: lab'
  N:st.N.map ky <+: st'.N.map ky
theorem Gr.refl (lab:List (List Int)) (st:LS):Gr lab st lab st:=⟨List.prefix_refl _,List.prefix_refl _⟩
theorem Gr.trans {l1 l2 l3:List (List Int)} {a b c:LS} (h:Gr l1 a l2 b) (g:Gr l2 b l3 c):Gr l1 a l3 c:=⟨h.lab.trans g.lab,h.N.trans g.N⟩
theorem pre_get {α:Type} {l m:List α} (h:l <+: m) {i:Nat} {x:α} (hx:l[i]?=some x):m[i]?=some x:=by
  obtain⟨t,rfl⟩:=h
  rw [List.getElem?_append_left (List.getElem?_eq_some_iff.1 hx).1];exact hx
theorem ky_get {N N':List Gn} (h:N.map ky <+: N'.map ky) {i:Nat} {g:Gn} (hg:N[i]?=some g):∃ g',N'[i]?=some g'∧ky g'=ky g:=by
  have:(N.map ky)[i]?=some (ky g):=by rw [List.getElem?_map,hg];rfl
  have:=pre_get h this
  rw [List.getElem?_map,Option.map_eq_some_iff] at this
  exact this
theorem Pnd.keep {lab lab':List (List Int)} {N N':List Gn} {H:List Int} {f:Nat×Bool} (h:Pnd lab N H f) (hl:lab <+: lab') (hN:N.map ky <+: N'.map ky):Pnd lab' N' H f:=by
  obtain⟨g,l,h1,h2,h3,h4,h5⟩:=h
  obtain⟨g',g1,e⟩:=ky_get hN h1
  exact⟨g',l,g1,pre_get hl h2,by rw [aft_ky e,h3],by rw [k_ky e];exact h4,fun h=>by rw [k_ky e];exact h5 h⟩
theorem ptc_get {to:Nat} {N:List Gn} {f:Nat×Bool} {i:Nat} {g':Gn} (h:(ptc to N f)[i]?=some g'):∃ g,N[i]?=some g∧g'=(if f.1=i then setT f.2 to g else g):=by
  simp only [ptc,List.getElem?_modify] at h
  cases hN:N[i]? with
  | none=>rw [hN] at h;simp at h
  | some g=>
    rw [hN] at h
    by_cases hi:f.1=i
    · simp [hi] at h;exact⟨g,rfl,by rw [if_pos hi,h]⟩
    · simp [hi] at h;exact⟨g,rfl,by rw [if_neg hi,h]⟩
theorem lead_get (to:Nat):∀ (op:List (Nat×Bool)) (N:List Gn) (i:Nat) (g':Gn),(leadL op to N)[i]?=some g'→∃ g,N[i]?=some g∧ky g'=ky g∧g'.nx=(if (i,false)∈op then to else g.nx)∧g'.el=(if (i,true)∈op then to else g.el)
  | [],N,i,g',h=>⟨g',h,rfl,by simp,by simp⟩
  | f::r,N,i,g',h=>by
    obtain⟨g1,h1,e1,e2,e3⟩:=lead_get to r (ptc to N f) i g' h
    obtain⟨g,h2,rfl⟩:=ptc_get h1
    refine⟨g,h2,?_,?_,?_⟩
    · rw [e1];split
      · exact ky_set _ _ _
      · rfl
    · rw [e2]
      obtain⟨j,b⟩:=f
      by_cases hr:(i,false)∈r
      · simp [hr]
      · rw [if_neg hr]
        by_cases hj:j=i
        · subst hj
          cases b with
          | false=>simp [setT]
          | true=>simp [setT,hr]
        · have:¬ i=j:=fun h=>hj h.symm
          simp [hj,hr,this]
    · rw [e3]
      obtain⟨j,b⟩:=f
      by_cases hr:(i,true)∈r
      · simp [hr]
      · rw [if_neg hr]
        by_cases hj:j=i
        · subst hj
          cases b with
          | true=>simp [setT]
          | false=>simp [setT,hr]
        · have:¬ i=j:=fun h=>hj h.symm
          simp [hj,hr,this]
theorem lead_ok {lab lab':List (List Int)} {N:List Gn} {op X:List (Nat×Bool)} {H:List Int} {to:Nat} (hlen:lab.length=N.length) (hn:∀ i g l,N[i]?=some g→lab[i]?=some l→NodeOk lab (op++X) i g l) (ho:∀ f∈op,Pnd lab N H f) (hl:lab <+: lab') (ht:lab'[to]?=some H) :
    ∀ i g l,(leadL op to N)[i]?=some g→lab'[i]?=some l→NodeOk lab' X i g l:=by
  intro i g' l hg hl'
  obtain⟨g,h1,e1,e2,e3⟩:=lead_get to op N i g' hg
  have hlt:i<lab.length:=by rw [hlen];exact(List.getElem?_eq_some_iff.1 h1).1
  have hl0:lab[i]?=some l:=by
    have h3:=List.getElem?_eq_getElem hlt
    rw [pre_get hl h3] at hl'
    rw [h3];exact hl'
  obtain⟨q1,q2,q3,q4,q5⟩:=hn i g l h1 hl0
  refine⟨okA_ky q1 e1,fun hk=>?_,fun hk=>?_,fun hk=>?_,fun hk=>?_⟩
  · rw [e3]
    rw [if_neg]
    · exact q2 (by rw [← k_ky e1];exact hk)
    · intro hm
      obtain⟨g2,l2,r1,-,-,-,r5⟩:=ho _ hm
      rw [h1] at r1
      cases r1
      exact hk (by rw [k_ky e1];exact r5 rfl)
  · rw [e2]
    rw [if_neg]
    · exact q3 (by rw [← k_ky e1];exact hk)
    · intro hm
      obtain⟨g2,l2,r1,-,-,r4,-⟩:=ho _ hm
      rw [h1] at r1
      cases r1
      exact r4 (by rw [← k_ky e1];exact hk)
  · rw [e2,aft_ky e1]
    by_cases hm:(i,false)∈op
    · rw [if_pos hm]
      obtain⟨g2,l2,r1,r2,r3,-⟩:=ho _ hm
      rw [h1] at r1
      rw [hl0] at r2
      cases r1;cases r2
      exact .inr (by rw [r3];exact ht)
    · rw [if_neg hm]
      rcases q4 (by rw [← k_ky e1];exact hk) with h|h
      · exact .inl ((List.mem_append.1 h).resolve_left hm)
      · exact .inr (pre_get hl h)
  · rw [e3,aft_ky e1]
    by_cases hm:(i,true)∈op
    · rw [if_pos hm]
      obtain⟨g2,l2,r1,r2,r3,-⟩:=ho _ hm
      rw [h1] at r1
      rw [hl0] at r2
      cases r1;cases r2
      exact .inr (by rw [r3];exact ht)
    · rw [if_neg hm]
      rcases q5 (by rw [← k_ky e1];exact hk) with h|h
      · exact .inl ((List.mem_append.1 h).resolve_left hm)
      · exact .inr (pre_get hl h)
theorem NodeOk.wide {lab:List (List Int)} {X Y:List (Nat×Bool)} {i:Nat} {g:Gn} {l:List Int} (h:NodeOk lab X i g l) (hX:∀ f∈X,f∈Y):NodeOk lab Y i g l:=⟨h.1,h.2.1,h.2.2.1,fun k=>(h.2.2.2.1 k).imp (hX _) id,fun k=>(h.2.2.2.2 k).imp (hX _) id⟩
theorem Fl.put {lab:List (List Int)} {st:LS} {H:List Int} {X X':List (Nat×Bool)} {k op sl th:Int} {a b:Vl} (h:Fl lab st H X) (ho:(putL (mkG k op sl th a b) st).ov=false) (hk:k≠9) (h6:k=6→H.getLast?=some th) (hX:∀ f∈X,f∈X') (h8:k=8→(st.N.length,true)∈X') :
    Fl (lab++[H]) (putL (mkG k op sl th a b) st) (aft (mkG k op sl th a b) H) X'∧Gr lab st (lab++[H]) (putL (mkG k op sl th a b) st):=by
  obtain⟨-,-,e⟩:=put_ov ho
  rw [e]
  have hp:lab <+: lab++[H]:=List.prefix_append _ _
  have ht:(lab++[H])[st.N.length]?=some H:=by rw [← h.len];simp
  have hle:=leadL_len st.op st.N.length st.N
  have hkp:st.N.map ky <+: (leadL st.op st.N.length st.N++[mkG k op sl th a b]).map ky:=by
    rw [List.map_append,leadL_ky];exact List.prefix_append _ _
  refine⟨⟨by simp [leadL_len,h.len],fun hN=>by simp at hN,fun l hl=>?_,fun i g l hg hl=>?_,fun f hf=>?_⟩,hp,hkp⟩
  · by_cases h0:lab=[]
    · subst h0
      simp at hl
      have hN:st.N=[]:=List.length_eq_zero_iff.1 (by rw [← h.len];rfl)
      rw [← hl];exact h.emp hN
    · have hlt:0<lab.length:=List.length_pos_iff.2 h0
      rw [List.getElem?_append_left hlt] at hl
      exact h.fst l hl
  · by_cases hi:i<st.N.length
    · rw [List.getElem?_append_left (by rw [hle];exact hi)] at hg
      exact(lead_ok h.len h.node h.opn hp ht i g l hg hl).wide fun f hf=>List.mem_append.2 (.inr (hX f hf))
    · have hi2:i=st.N.length:=by
        have:=(List.getElem?_eq_some_iff.1 hg).1
        simp [leadL_len] at this
        omega
      subst hi2
      rw [List.getElem?_append_right (by rw [hle];exact Nat.le_refl _),hle,Nat.sub_self] at hg
      simp at hg
      subst hg
      rw [ht] at hl
      cases hl
      exact⟨⟨h6,fun h=>absurd h hk⟩,fun _=>rfl,fun h=>absurd h hk,fun _=>.inl (List.mem_append.2 (.inl (.head _))),fun h=>.inl (List.mem_append.2 (.inr (h8 h)))⟩
  · simp only [List.mem_singleton] at hf
    subst hf
    refine⟨_,H,by rw [List.getElem?_append_right (by rw [hle];exact Nat.le_refl _),hle,Nat.sub_self];rfl,ht,rfl,hk,fun h=>by cases h⟩
theorem Fl.slot {lab:List (List Int)} {st:LS} {H:List Int} {X:List (Nat×Bool)} (h:Fl lab st H X):Fl lab (slotL st) H X:=⟨h.len,h.emp,h.fst,h.node,h.opn⟩
theorem Gr.slot {lab lab':List (List Int)} {st st':LS} (h:Gr lab (slotL st) lab' st'):Gr lab st lab' st':=⟨h.lab,h.N⟩
section
variable {lo sh lk:List Dc}
theorem va_fl {X:List (Nat×Bool)} {H:List Int}:∀ (n:Nat) (e:Ex),SizeOf.sizeOf e=n→∀ lab st,Fl lab st H X→(vaL lo sh e st).2.ov=false→∃ m,Fl (lab++List.replicate m H) (vaL lo sh e st).2 H X∧Gr lab st (lab++List.replicate m H) (vaL lo sh e st).2:=by
  intro n
  refine Nat.strongRecOn n fun n ih=>?_
  rintro ⟨k,op,wd,nm,kids,a⟩ hn lab st h ho
  have stay:∃ m,Fl (lab++List.replicate m H) st H X∧Gr lab st (lab++List.replicate m H) st:=⟨0,by simpa using h,by simpa using Gr.refl lab st⟩
  by_cases k1:k=1
  · subst k1;rw [va_1];exact stay
  by_cases k2:k=2
  · subst k2
    rw [va_2] at ho ⊢
    cases hi:idxO lo nm with
    | some i=>exact stay
    | none=>
      rw [hi] at ho
      obtain⟨f1,g1⟩:=h.slot.put (X':=X) ho (by decide) (fun h=>by cases h) (fun f hf=>hf) (fun h=>by cases h)
      exact⟨1,f1,g1.slot⟩
  match kids,hn,ho with
  | [x],hn,ho=>
    rw [va_u _ _ k1 k2] at ho ⊢
    obtain⟨m,f1,g1⟩:=ih _ (by rw [← hn];simp;omega) x rfl lab st h (put_ov ho).1
    obtain⟨f2,g2⟩:=f1.slot.put (X':=X) ho (by decide) (fun h=>by cases h) (fun f hf=>hf) (fun h=>by cases h)
    refine⟨m+1,?_⟩
    rw [List.replicate_succ',← List.append_assoc]
    exact⟨f2,g1.trans g2.slot⟩
  | [x,y],hn,ho=>
    rw [va_b _ _ k1 k2] at ho ⊢
    obtain⟨m,f1,g1⟩:=ih _ (by rw [← hn];simp;omega) x rfl lab st h (va_ov y _ (put_ov ho).1)
    obtain⟨m2,f2,g2⟩:=ih _ (by rw [← hn];simp;omega) y rfl _ _ f1 (put_ov ho).1
    obtain⟨f3,g3⟩:=f2.slot.put (X':=X) ho (by decide) (fun h=>by cases h) (fun f hf=>hf) (fun h=>by cases h)
    refine⟨m+m2+1,?_⟩
    rw [List.replicate_succ',← List.replicate_append_replicate,← List.append_assoc,← List.append_assoc]
    exact⟨f3,(g1.trans g2).trans g3.slot⟩
  | [],hn,ho=>rw [va_0 _ _ k1 k2 _ _ _ _ _ _ (by simp) (by simp)];exact stay
  | _::_::_::_,hn,ho=>rw [va_0 _ _ k1 k2 _ _ _ _ _ _ (by simp) (by simp)];exact stay
theorem gi_fl {X:List (Nat×Bool)} {H:List Int} {nm:Wd} {v:Vl} {lab:List (List Int)} {st:LS} (h:Fl lab st H X) (ho:(giL lo sh nm v st).ov=false):∃ lab',Fl lab' (giL lo sh nm v st) H X∧Gr lab st lab' (giL lo sh nm v st):=by
  cases hi:idxO lo nm with
  | some i=>
    simp only [giL,hi] at ho ⊢
    exact⟨_,h.put ho (by decide) (fun h=>by cases h) (fun f hf=>hf) (fun h=>by cases h)⟩
  | none=>
    simp only [giL,hi] at ho ⊢
    exact⟨_,h.put ho (by decide) (fun h=>by cases h) (fun f hf=>hf) (fun h=>by cases h)⟩
theorem sw_fl {X:List (Nat×Bool)} {H:List Int} {nm other:Wd} {v:Vl} {lab:List (List Int)} {st:LS} (h:Fl lab st H X) (ho:(swL lo sh nm other v st).ov=false):∃ lab',Fl lab' (swL lo sh nm other v st) H X∧Gr lab st lab' (swL lo sh nm other v st):=by
  cases hi:idxO lo nm with
  | some i=>
    simp only [swL,hi] at ho ⊢
    exact⟨_,h.put ho (by decide) (fun h=>by cases h) (fun f hf=>hf) (fun h=>by cases h)⟩
  | none=>
    simp only [swL,hi] at ho ⊢
    obtain⟨f1,g1⟩:=h.slot.put (X':=X) (gi_ov ho) (by decide) (fun h=>by cases h) (fun f hf=>hf) (fun h=>by cases h)
    obtain⟨l2,f2,g2⟩:=gi_fl f1 ho
    exact⟨l2,f2,g1.slot.trans g2⟩
theorem Fl.turn {lab:List (List Int)} {st:LS} {H:List Int} {X op' Y:List (Nat×Bool)} (h:Fl lab st H X) (hX:∀ f∈st.op++X,f∈op'++Y) (ho:∀ f∈op',Pnd lab st.N H f):Fl lab {st with op:=op'} H Y:=
  ⟨h.len,h.emp,h.fst,fun i g l a b=>(h.node i g l a b).wide hX,ho⟩
theorem br_at {v:Vl} {st:LS} (ho:(brL v st).ov=false):putAt st=st.N.length:=by unfold putAt;rw [if_neg (by have:=(put_ov ho).2.1;omega)]
theorem br_fl {X:List (Nat×Bool)} {H:List Int} {x:Ex} {lab:List (List Int)} {st:LS} (h:Fl lab st H X) (ho:(brL (vaL lo sh x st).1 (vaL lo sh x st).2).ov=false) :
    ∃ lab',Fl lab' (brL (vaL lo sh x st).1 (vaL lo sh x st).2) H ((putAt (vaL lo sh x st).2,true)::X)∧Gr lab st lab' (brL (vaL lo sh x st).1 (vaL lo sh x st).2)∧lab'[st.N.length]?=some H∧Pnd lab' (brL (vaL lo sh x st).1 (vaL lo sh x st).2).N H (putAt (vaL lo sh x st).2,true):=by
  obtain⟨m,f1,g1⟩:=va_fl (lo:=lo) (sh:=sh) _ x rfl lab st h (put_ov ho).1
  obtain⟨f2,g2⟩:=f1.put (X':=(putAt (vaL lo sh x st).2,true)::X) ho (by decide) (fun h=>by cases h) (fun f hf=>.tail _ hf) (fun _=>by rw [br_at ho];exact .head _)
  refine⟨_,f2,g1.trans g2,?_,?_⟩
  · rw [List.append_assoc,List.getElem?_append_right (by rw [h.len];exact Nat.le_refl _),h.len,Nat.sub_self,← List.replicate_succ']
    simp
  · have hop:(putAt (vaL lo sh x st).2,false)∈(brL (vaL lo sh x st).1 (vaL lo sh x st).2).op:=by
      rw [br_at ho];unfold brL;rw [(put_ov ho).2.2];exact .head _
    obtain⟨g,l,r1,r2,r3,r4,-⟩:=f2.opn _ hop
    refine⟨g,l,r1,r2,r3,r4,fun _=>?_⟩
    rw [(put_ov ho).2.2] at r1
    rw [br_at ho] at r1
    dsimp only at r1
    rw [List.getElem?_append_right (by rw [leadL_len];exact Nat.le_refl _),leadL_len,Nat.sub_self] at r1
    simp at r1
    rw [← r1]
mutual
theorem sm_fl:∀ (s:Sm) (lab:List (List Int)) (st:LS) (H:List Int) (X:List (Nat×Bool)),Fl lab st H X→(smL lo sh lk s st).ov=false→∃ lab',Fl lab' (smL lo sh lk s st) H X∧Gr lab st lab' (smL lo sh lk s st)
  | .mk k nm other e body els a,lab,st,H,X=>by
    intro h ho
    by_cases he:e.length=1
    · obtain⟨x,rfl⟩:=List.length_eq_one_iff.1 he
      by_cases k1:k=1
      · subst k1
        rw [sm_e1] at ho ⊢
        obtain⟨m,f1,g1⟩:=va_fl (lo:=lo) (sh:=sh) _ x rfl lab st h (gi_ov ho)
        obtain⟨l2,f2,g2⟩:=gi_fl f1 ho
        exact⟨l2,f2,g1.trans g2⟩
      by_cases k2:k=2
      · subst k2
        rw [sm_e2] at ho ⊢
        obtain⟨m,f1,g1⟩:=va_fl (lo:=lo) (sh:=sh) _ x rfl lab st h (sw_ov ho)
        obtain⟨l2,f2,g2⟩:=sw_fl f1 ho
        exact⟨l2,f2,g1.trans g2⟩
      by_cases k3:k=3
      · subst k3
        rw [sm_e3] at ho ⊢
        have h3:(c3L (lo:=lo) (sh:=sh) (lk:=lk) body els (vaL lo sh x st)).ov=false:=ho
        have h2:(c2L (lo:=lo) (sh:=sh) (lk:=lk) body (vaL lo sh x st)).ov=false:=bl_ov els {c2L (lo:=lo) (sh:=sh) (lk:=lk) body (vaL lo sh x st) with op:=[(putAt (vaL lo sh x st).2,true)]} h3
        obtain⟨l1,f1,g1,-,p1⟩:=br_fl h (bl_ov _ _ h2)
        obtain⟨l2,f2,g2⟩:=bl_fl body l1 _ H _ f1 h2
        have f2':=f2.turn (op':=[(putAt (vaL lo sh x st).2,true)]) (Y:=(c2L (lo:=lo) (sh:=sh) (lk:=lk) body (vaL lo sh x st)).op++X) (fun f hf=>by
          simp only [List.mem_append,List.mem_cons,List.not_mem_nil,or_false] at hf ⊢
          rcases hf with hf|hf|hf
          · exact .inr (.inl hf)
          · exact .inl hf
          · exact .inr (.inr hf)) (fun f hf=>by
          simp only [List.mem_singleton] at hf
          subst hf
          exact p1.keep g2.lab g2.N)
        obtain⟨l3,f3,g3⟩:=bl_fl els l2 _ H _ f2' h3
        refine⟨l3,f3.turn (op':=(c2L (lo:=lo) (sh:=sh) (lk:=lk) body (vaL lo sh x st)).op++(c3L (lo:=lo) (sh:=sh) (lk:=lk) body els (vaL lo sh x st)).op) (Y:=X) (fun f hf=>?_) (fun f hf=>?_),(g1.trans g2).trans ⟨g3.lab,g3.N⟩⟩
        · simp only [List.mem_append] at hf ⊢
          rcases hf with hf|hf|hf
          · exact .inl (.inr hf)
          · exact .inl (.inl hf)
          · exact .inr hf
        · rcases List.mem_append.1 hf with hf|hf
          · exact(f2.opn f hf).keep g3.lab g3.N
          · exact f3.opn f hf
      by_cases k4:k=4
      · subst k4
        rw [sm_e4] at ho ⊢
        have h2:(c2L (lo:=lo) (sh:=sh) (lk:=lk) body (vaL lo sh x st)).ov=false:=by
          split at ho <;> exact ho
        rw [if_neg (by rw [h2];simp)]
        obtain⟨l1,f1,g1,hf1,p1⟩:=br_fl h (bl_ov _ _ h2)
        obtain⟨l2,f2,g2⟩:=bl_fl body l1 _ H _ f1 h2
        have hl:=leadL_ky (c2L (lo:=lo) (sh:=sh) (lk:=lk) body (vaL lo sh x st)).op st.N.length (c2L (lo:=lo) (sh:=sh) (lk:=lk) body (vaL lo sh x st)).N
        have hN:(c2L (lo:=lo) (sh:=sh) (lk:=lk) body (vaL lo sh x st)).N.map ky <+: (leadL (c2L (lo:=lo) (sh:=sh) (lk:=lk) body (vaL lo sh x st)).op st.N.length (c2L (lo:=lo) (sh:=sh) (lk:=lk) body (vaL lo sh x st)).N).map ky:=by rw [hl];exact List.prefix_refl _
        refine⟨l2,⟨by rw [leadL_len];exact f2.len,fun hn=>f2.emp (List.length_eq_zero_iff.1 (by rw [← leadL_len (c2L (lo:=lo) (sh:=sh) (lk:=lk) body (vaL lo sh x st)).op st.N.length];exact List.length_eq_zero_iff.2 hn)),f2.fst,fun i g l hg hl'=>?_,fun f hf=>?_⟩,(g1.trans g2).trans ⟨List.prefix_refl _,hN⟩⟩
        · exact lead_ok f2.len f2.node f2.opn (List.prefix_refl _) (pre_get g2.lab hf1) i g l hg hl'
        · simp only [List.mem_singleton] at hf
          subst hf
          exact(p1.keep g2.lab g2.N).keep (List.prefix_refl _) hN
      rw [sm_e6 k1 k2 k3 k4] at ho ⊢
      obtain⟨m,f1,g1⟩:=va_fl (lo:=lo) (sh:=sh) _ x rfl lab st h (put_ov ho).1
      obtain⟨f2,g2⟩:=f1.put (X':=X) ho (by decide) (fun h=>by cases h) (fun f hf=>hf) (fun h=>by cases h)
      exact⟨_,f2,g1.trans g2⟩
    · by_cases k5:k=5
      · subst k5
        rw [sm_e5 _ _ _ _ _ _ _ he] at ho ⊢
        have h2:=(put_ov ho).1
        obtain⟨f1,g1⟩:=h.put (X':=X) (bl_ov _ _ h2) (by decide) (fun h=>by cases h) (fun f hf=>hf) (fun h=>by cases h)
        obtain⟨l2,f2,g2⟩:=bl_fl body _ _ _ X f1 h2
        have ha:aft (mkG 5 0 0 (idxI lk nm) (.num 0) (.num 0)) H=H++[idxI lk nm]:=rfl
        rw [ha] at f2
        obtain⟨f3,g3⟩:=f2.put (X':=X) ho (by decide) (fun _=>by simp) (fun f hf=>hf) (fun h=>by cases h)
        have hb:aft (mkG 6 0 0 (idxI lk nm) (.num 0) (.num 0)) (H++[idxI lk nm])=H:=by simp [aft]
        rw [hb] at f3
        exact⟨_,f3,(g1.trans g2).trans g3⟩
      · rw [sm_e7 k5 _ _ _ _ _ _ _ he]
        exact⟨lab,h,.refl _ _⟩
termination_by structural s=>s
theorem bl_fl:∀ (l:List Sm) (lab:List (List Int)) (st:LS) (H:List Int) (X:List (Nat×Bool)),Fl lab st H X→(blL lo sh lk l st).ov=false→∃ lab',Fl lab' (blL lo sh lk l st) H X∧Gr lab st lab' (blL lo sh lk l st)
  | [],lab,st,H,X=>by
    intro h ho
    rw [blL]
    exact⟨lab,h,.refl _ _⟩
  | s::r,lab,st,H,X=>by
    intro h ho
    have e:=bl_cons _ _ _ ho
    rw [e] at ho ⊢
    obtain⟨l1,f1,g1⟩:=sm_fl s lab st H X h (bl_ov _ _ ho)
    obtain⟨l2,f2,g2⟩:=bl_fl r l1 _ H X f1 ho
    exact⟨l2,f2,g1.trans g2⟩
termination_by structural l=>l
end
end
end ParS
/- A thread's graph is right. -/
namespace ParS
open Sx LexS Go Go.RowKit
structure GrOk (nS nL nl:Nat) (N:List Gn) (s:Nat) (lab:List (List Int)):Prop where
  len:lab.length=N.length
  pos:0<N.length
  le:N.length≤4096
  fst:lab[0]?=some []
  node:∀ i g l,N[i]?=some g→lab[i]?=some l→NodeOk lab [] i g l
  ok:∀ g∈N,okG nS nL s g
  lo:nl≤s
  sl:s≤nl+4096
section
variable {lo sh lk:List Dc} {nS nL:Nat} {V W G:Wd→Bool}
theorem gr_some {body:List Sm} {N:List Gn} {s:Nat} (h:grL lo sh lk body=some (N,s)):∃ st:LS,st=blL lo sh lk body ⟨[],lo.length,[],false⟩∧(putL (mkG 9 0 0 0 (.num 0) (.num 0)) st).ov=false∧N=(putL (mkG 9 0 0 0 (.num 0) (.num 0)) st).N∧s=(putL (mkG 9 0 0 0 (.num 0) (.num 0)) st).s:=by
  unfold grL at h
  refine⟨_,rfl,?_⟩
  dsimp only at h
  split at h
  · cases h
  · split at h
    · cases h
    · rename_i h1
      simp only [Option.some.injEq,Prod.mk.injEq] at h
      exact⟨by simpa using h1,h.1.symm,h.2.symm⟩
theorem gr_ok (hV:VOk lo sh nS V) (hW:WOk sh nS W) (hG:WOk lk nL G) {body:List Sm} {d:Nat} (hr:rightSs body d=true) (hc:ckSs V W G body=true) {N:List Gn} {s:Nat} (h:grL lo sh lk body=some (N,s)) :
    (∃ lab,GrOk nS nL lo.length N s lab)∧N.map kt=kSs lo sh lk body++[(9,0)]:=by
  obtain⟨st,hst,ho,rfl,rfl⟩:=gr_some h
  have hov:=(put_ov ho).1
  have ha:=bl_adv hV hW hG body d hr hc ⟨[],lo.length,[],false⟩ (Nat.le_refl _) (by rw [← hst];exact hov)
  rw [← hst] at ha
  have hf0:Fl [] (⟨[],lo.length,[],false⟩:LS) [] []:=⟨rfl,fun _=>rfl,fun l hl=>by simp at hl,fun i g l hg=>by simp at hg,fun f hf=>by simp at hf⟩
  obtain⟨lab,hf,-⟩:=bl_fl (lo:=lo) (sh:=sh) (lk:=lk) body [] _ [] [] hf0 (by rw [← hst];exact hov)
  rw [← hst] at hf
  have hg9:okG nS nL st.s (mkG 9 0 0 0 (.num 0) (.num 0)):=.inr (.inr (.inr (.inr (.inr (.inr ⟨rfl,rfl,rfl,rfl,rfl,rfl⟩)))))
  have ha2:=put_adv0 ho hg9
  have ha3:=ha.trans ha2
  obtain⟨-,hlt,e⟩:=put_ov ho
  refine⟨⟨lab++[[]],?_⟩,by simpa [kt] using ha3.kt⟩
  have hp:lab <+: lab++[[]]:=List.prefix_append _ _
  have ht:(lab++[[]])[st.N.length]?=some []:=by rw [← hf.len];simp
  have hle:=leadL_len st.op st.N.length st.N
  have hNe:(putL (mkG 9 0 0 0 (.num 0) (.num 0)) st).N=leadL st.op st.N.length st.N++[mkG 9 0 0 0 (.num 0) (.num 0)]:=by rw [e]
  have hcnt:=ha3.cnt
  simp only [List.length_nil,Nat.add_zero] at hcnt
  have hlen:(putL (mkG 9 0 0 0 (.num 0) (.num 0)) st).N.length=st.N.length+1:=by rw [hNe];simp [leadL_len]
  refine⟨by rw [hlen];simp [hf.len],by omega,by omega,?_,fun i g l hg hl=>?_,ha3.ok (fun g hg=>by simp at hg),ha3.s,by omega⟩
  · by_cases h0:lab=[]
    · subst h0;rfl
    · have h1:0<lab.length:=List.length_pos_iff.2 h0
      have h2:=List.getElem?_eq_getElem h1
      rw [pre_get hp h2,hf.fst _ h2]
  · rw [hNe] at hg
    by_cases hi:i<st.N.length
    · rw [List.getElem?_append_left (by rw [hle];exact hi)] at hg
      exact lead_ok hf.len hf.node hf.opn hp ht i g l hg hl
    · have hi2:i=st.N.length:=by
        have:=(List.getElem?_eq_some_iff.1 hg).1
        simp [leadL_len] at this
        omega
      subst hi2
      rw [List.getElem?_append_right (by rw [hle];exact Nat.le_refl _),hle,Nat.sub_self] at hg
      simp at hg
      subst hg
      rw [ht] at hl
      cases hl
      exact⟨⟨fun h=>(by cases h),fun _=>rfl⟩,fun _=>rfl,fun _=>rfl,fun h=>absurd rfl h,fun h=>(by cases h)⟩
end
section
variable (lo sh lk:List Dc)
mutual
def rdE:Ex→List Wd
  | .mk k op wd nm kids a=>(if k=2 then [nm] else [])++rdEs kids
termination_by structural e=>e
def rdEs:List Ex→List Wd
  | []=>[]
  | e::r=>rdE e++rdEs r
termination_by structural l=>l
end
mutual
def rdS:Sm→List Wd
  | .mk k nm other e body els a=>(if k=2 then [other] else [])++(rdEs e++(rdSs body++rdSs els))
termination_by structural s=>s
def rdSs:List Sm→List Wd
  | []=>[]
  | s::r=>rdS s++rdSs r
termination_by structural l=>l
end
mutual
def wrS:Sm→List Wd
  | .mk k nm other e body els a=>(if k=2 then [other,nm] else if k=1 then [nm] else [])++(wrSs body++wrSs els)
termination_by structural s=>s
def wrSs:List Sm→List Wd
  | []=>[]
  | s::r=>wrS s++wrSs r
termination_by structural l=>l
end
end
def Tch (lo sh:List Dc) (l:List Wd) (t:Int):Prop:=∃ nm∈l,idxO lo nm=none∧idxI sh nm=t
theorem Tch.app {lo sh:List Dc} {l m:List Wd} {t:Int}:Tch lo sh (l++m) t↔Tch lo sh l t∨Tch lo sh m t:=by
  constructor
  · rintro ⟨nm,h,r⟩
    rcases List.mem_append.1 h with h|h
    · exact .inl ⟨nm,h,r⟩
    · exact .inr ⟨nm,h,r⟩
  · rintro (⟨nm,h,r⟩|⟨nm,h,r⟩)
    · exact⟨nm,List.mem_append.2 (.inl h),r⟩
    · exact⟨nm,List.mem_append.2 (.inr h),r⟩
theorem Tch.nil {lo sh:List Dc} {t:Int}:¬ Tch lo sh [] t:=by rintro ⟨nm,h,-⟩;simp at h
theorem Tch.one {lo sh:List Dc} {nm:Wd} {t:Int}:Tch lo sh [nm] t↔idxO lo nm=none∧idxI sh nm=t:=by
  constructor
  · rintro ⟨n,h,r⟩
    simp only [List.mem_singleton] at h
    subst h;exact r
  · exact fun r=>⟨nm,.head _,r⟩
def Rd (ks:List (Int×Int)) (t:Int):Prop:=(2,t)∈ks∨(4,t)∈ks
def Wr (ks:List (Int×Int)) (t:Int):Prop:=(3,t)∈ks∨(4,t)∈ks
theorem Rd.app {k l:List (Int×Int)} {t:Int}:Rd (k++l) t↔Rd k t∨Rd l t:=by
  unfold Rd;simp only [List.mem_append]
  constructor
  · rintro ((h|h)|h|h) <;> simp [h]
  · rintro ((h|h)|h|h) <;> simp [h]
theorem Wr.app {k l:List (Int×Int)} {t:Int}:Wr (k++l) t↔Wr k t∨Wr l t:=by
  unfold Wr;simp only [List.mem_append]
  constructor
  · rintro ((h|h)|h|h) <;> simp [h]
  · rintro ((h|h)|h|h) <;> simp [h]
section
variable {lo sh lk:List Dc}
theorem kE_rd (t:Int):∀ (n:Nat) (e:Ex),SizeOf.sizeOf e=n→∀ d,rightE e d=true→(Rd (kE lo sh e) t↔Tch lo sh (rdE e) t):=by
  intro n
  refine Nat.strongRecOn n fun n ih=>?_
  rintro ⟨k,op,wd,nm,kids,a⟩ hn d hr
  obtain⟨-,hr⟩:=rightE_iff.1 hr
  simp only [Ex.k,Ex.op,Ex.wd,Ex.nm,Ex.kids] at hr
  rcases hr with ⟨rfl,-,-,-,rfl⟩|⟨rfl,-,-,-,rfl⟩|⟨rfl,hop,-,-,x,rfl,hx⟩|⟨rfl,hop,-,-,x,y,rfl,hx,hy⟩
  · rw [kE_1]
    simp [rdE,rdEs,Rd,Tch]
  · rw [kE_2]
    simp only [rdE,rdEs,if_true,List.append_nil,Tch.one]
    cases hi:idxO lo nm with
    | some i=>simp [Rd]
    | none=>simp [Rd];exact⟨fun h=>h.symm,fun h=>h.symm⟩
  · rw [show kE lo sh (.mk 3 op wd nm [x] a)=kE lo sh x++[(1,0)] by simp [kE],show rdE (.mk 3 op wd nm [x] a)=rdE x by simp [rdE,rdEs],Rd.app,ih _ (by rw [← hn];simp;omega) x rfl _ hx]
    simp [Rd]
  · rw [show kE lo sh (.mk 4 op wd nm [x,y] a)=(kE lo sh x++kE lo sh y)++[(1,0)] by simp [kE],show rdE (.mk 4 op wd nm [x,y] a)=rdE x++rdE y by simp [rdE,rdEs],Rd.app,Rd.app,Tch.app,ih _ (by rw [← hn];simp;omega) x rfl _ hx,ih _ (by rw [← hn];simp;omega) y rfl _ hy]
    simp [Rd]
theorem kE_wr (t:Int):∀ (n:Nat) (e:Ex),SizeOf.sizeOf e=n→¬ Wr (kE lo sh e) t:=by
  intro n
  refine Nat.strongRecOn n fun n ih=>?_
  rintro ⟨k,op,wd,nm,kids,a⟩ hn
  by_cases k1:k=1
  · subst k1;rw [kE_1];simp [Wr]
  by_cases k2:k=2
  · subst k2;rw [kE_2];split <;> simp [Wr]
  match kids,hn with
  | [x],hn=>
    rw [show kE lo sh (.mk k op wd nm [x] a)=kE lo sh x++[(1,0)] by simp [kE,k1,k2],Wr.app]
    rintro (h|h)
    · exact ih _ (by rw [← hn];simp;omega) x rfl h
    · simp [Wr] at h
  | [x,y],hn=>
    rw [show kE lo sh (.mk k op wd nm [x,y] a)=(kE lo sh x++kE lo sh y)++[(1,0)] by simp [kE,k1,k2],Wr.app,Wr.app]
    rintro ((h|h)|h)
    · exact ih _ (by rw [← hn];simp;omega) x rfl h
    · exact ih _ (by rw [← hn];simp;omega) y rfl h
    · simp [Wr] at h
  | [],hn=>simp [kE,k1,k2,Wr]
  | _::_::_::_,hn=>simp [kE,k1,k2,Wr]
variable {V W G:Wd→Bool}
theorem gi_rd {nm:Wd} {t:Int}:¬ Rd (giK lo sh nm) t:=by unfold giK;split <;> simp [Rd]
theorem gi_wr {nm:Wd} {t:Int}:Wr (giK lo sh nm) t↔idxO lo nm=none∧idxI sh nm=t:=by
  unfold giK
  cases hi:idxO lo nm with
  | some i=>simp [Wr]
  | none=>simp [Wr];exact⟨fun h=>h.symm,fun h=>h.symm⟩
theorem sw_rd {nm other:Wd} {t:Int}:Rd (swK lo sh nm other) t↔idxI sh other=t:=by
  unfold swK
  cases hi:idxO lo nm with
  | some i=>simp [Rd];exact⟨fun h=>h.symm,fun h=>h.symm⟩
  | none=>
    rw [Rd.app]
    simp only [gi_rd,or_false]
    simp [Rd];exact⟨fun h=>h.symm,fun h=>h.symm⟩
theorem sw_wr {nm other:Wd} {t:Int}:Wr (swK lo sh nm other) t↔idxI sh other=t∨(idxO lo nm=none∧idxI sh nm=t):=by
  unfold swK
  cases hi:idxO lo nm with
  | some i=>simp [Wr];exact⟨fun h=>h.symm,fun h=>h.symm⟩
  | none=>
    rw [Wr.app,gi_wr,hi]
    simp [Wr]
    constructor
    · rintro (h|h)
      · exact .inl h.symm
      · exact .inr h
    · rintro (h|h)
      · exact .inl h.symm
      · exact .inr h
theorem rd_lit {k:Int} (h2:k≠2) (h4:k≠4) {u t:Int}:¬ Rd [(k,u)] t:=by
  unfold Rd
  simp only [List.mem_singleton,Prod.mk.injEq]
  rintro (⟨h,-⟩|⟨h,-⟩)
  · exact h2 h.symm
  · exact h4 h.symm
theorem wr_lit {k:Int} (h2:k≠3) (h4:k≠4) {u t:Int}:¬ Wr [(k,u)] t:=by
  unfold Wr
  simp only [List.mem_singleton,Prod.mk.injEq]
  rintro (⟨h,-⟩|⟨h,-⟩)
  · exact h2 h.symm
  · exact h4 h.symm
def WNo (lo:List Dc) (W:Wd→Bool):Prop:=∀ nm,W nm=true→idxO lo nm=none
mutual
theorem kS_tch (hW:WNo lo W) (t:Int):∀ (s:Sm) (d:Nat),rightS s d=true→ckS V W G s=true→(Rd (kS lo sh lk s) t↔Tch lo sh (rdS s) t)∧(Wr (kS lo sh lk s) t↔Tch lo sh (wrS s) t)
  | .mk k nm other e body els a,d=>by
    intro hr hc
    simp only [rightS,Bool.and_eq_true,decide_eq_true_eq,Bool.or_eq_true] at hr
    obtain⟨⟨⟨⟨⟨⟨⟨⟨hk,-⟩,-⟩,hx⟩,hbd⟩,hel⟩,-⟩,hb⟩,hels⟩:=hr
    simp only [ckS,Bool.and_eq_true,Bool.or_eq_true,Bool.not_eq_true',decide_eq_false_iff_not] at hc
    obtain⟨⟨⟨⟨⟨-,c2⟩,-⟩,-⟩,cb⟩,cel⟩:=hc
    obtain⟨b1,b2⟩:=kSs_tch hW t body _ hb cb
    obtain⟨e1,e2⟩:=kSs_tch hW t els _ hels cel
    have nob:hasB k=false→body=[]:=fun h=>by
      rcases hbd with h'|h'
      · rw [h] at h';cases h'
      · exact List.length_eq_zero_iff.1 h'
    have noe:k≠3→els=[]:=fun h=>by
      rcases hel with h'|h'
      · exact absurd h' h
      · exact List.length_eq_zero_iff.1 h'
    unfold rightX at hx
    by_cases hE:hasE k=true
    · rw [if_pos hE] at hx
      match e,hx with
      | [x],hx=>
        have hrd:=kE_rd (lo:=lo) (sh:=sh) t _ x rfl _ hx
        have hwr:=kE_wr (lo:=lo) (sh:=sh) t _ x rfl
        have hrx:rdEs [x]=rdE x:=by simp [rdEs]
        simp only [hasE,decide_eq_true_eq] at hE
        rcases hE with rfl|rfl|rfl|rfl|rfl
        · have hb0:=nob (by decide);have he0:=noe (by decide);subst hb0;subst he0
          rw [show kS lo sh lk (.mk 1 nm other [x] [] [] a)=kE lo sh x++giK lo sh nm by simp [kS]]
          constructor
          · rw [Rd.app,hrd];simp [rdS,rdEs,rdSs,gi_rd]
          · rw [Wr.app,gi_wr];simp only [hwr,false_or];simp [wrS,wrSs,Tch.one]
        · have hb0:=nob (by decide);have he0:=noe (by decide);subst hb0;subst he0
          have hwo:=hW _ (c2.resolve_left (by simp)).2
          rw [show kS lo sh lk (.mk 2 nm other [x] [] [] a)=kE lo sh x++swK lo sh nm other by simp [kS]]
          constructor
          · rw [Rd.app,hrd,sw_rd,show rdS (.mk 2 nm other [x] [] [] a)=[other]++rdE x by simp [rdS,rdEs,rdSs],Tch.app,Tch.one,hwo]
            simp [or_comm]
          · rw [Wr.app,sw_wr,show wrS (.mk 2 nm other [x] [] [] a)=[other]++[nm] by simp [wrS,wrSs],Tch.app,Tch.one,Tch.one,hwo]
            simp [hwr]
        · rw [show kS lo sh lk (.mk 3 nm other [x] body els a)=((kE lo sh x++[(8,0)])++kSs lo sh lk body)++kSs lo sh lk els by simp [kS]]
          constructor
          · rw [Rd.app,Rd.app,Rd.app,hrd,b1,e1,show rdS (.mk 3 nm other [x] body els a)=(rdE x++rdSs body)++rdSs els by simp [rdS,rdEs],Tch.app,Tch.app]
            simp only [rd_lit (by decide:(8:Int)≠2) (by decide),or_false]
          · rw [Wr.app,Wr.app,Wr.app,b2,e2,show wrS (.mk 3 nm other [x] body els a)=wrSs body++wrSs els by simp [wrS],Tch.app]
            simp only [hwr,wr_lit (by decide:(8:Int)≠3) (by decide),or_false,false_or]
        · have he0:=noe (by decide);subst he0
          rw [show kS lo sh lk (.mk 4 nm other [x] body [] a)=(kE lo sh x++[(8,0)])++kSs lo sh lk body by simp [kS]]
          constructor
          · rw [Rd.app,Rd.app,hrd,b1,show rdS (.mk 4 nm other [x] body [] a)=rdE x++rdSs body by simp [rdS,rdEs,rdSs],Tch.app]
            simp only [rd_lit (by decide:(8:Int)≠2) (by decide),or_false]
          · rw [Wr.app,Wr.app,b2,show wrS (.mk 4 nm other [x] body [] a)=wrSs body by simp [wrS,wrSs]]
            simp only [hwr,wr_lit (by decide:(8:Int)≠3) (by decide),or_false,false_or]
        · have hb0:=nob (by decide);have he0:=noe (by decide);subst hb0;subst he0
          rw [show kS lo sh lk (.mk 6 nm other [x] [] [] a)=kE lo sh x++[(7,0)] by simp [kS]]
          constructor
          · rw [Rd.app,hrd];simp [rdS,rdEs,rdSs,rd_lit (by decide:(7:Int)≠2) (by decide)]
          · rw [Wr.app];simp only [hwr,wr_lit (by decide:(7:Int)≠3) (by decide),or_false,false_iff];simp [wrS,wrSs,Tch.nil]
    · rw [if_neg hE] at hx
      have he0:e=[]:=List.length_eq_zero_iff.1 (by simpa using hx)
      subst he0
      have hk3:k≠3:=fun h=>hE (by rw [h];decide)
      have hk2:k≠2:=fun h=>hE (by rw [h];decide)
      have hk1:k≠1:=fun h=>hE (by rw [h];decide)
      have hels0:=noe hk3;subst hels0
      by_cases k5:k=5
      · subst k5
        rw [show kS lo sh lk (.mk 5 nm other [] body [] a)=([(5,idxI lk nm)]++kSs lo sh lk body)++[(6,idxI lk nm)] by simp [kS]]
        constructor
        · rw [Rd.app,Rd.app,b1]
          simp only [rd_lit (by decide:(5:Int)≠2) (by decide),rd_lit (by decide:(6:Int)≠2) (by decide),or_false,false_or]
          simp [rdS,rdEs,rdSs]
        · rw [Wr.app,Wr.app,b2]
          simp only [wr_lit (by decide:(5:Int)≠3) (by decide),wr_lit (by decide:(6:Int)≠3) (by decide),or_false,false_or]
          simp [wrS,wrSs]
      · have hb0:body=[]:=nob (by
          unfold hasB
          rw [decide_eq_false_iff_not]
          rintro (h|h|h)
          · exact hk3 h
          · exact hE (by rw [h];decide)
          · exact k5 h)
        subst hb0
        rw [show kS lo sh lk (.mk k nm other [] [] [] a)=[] by simp [kS,k5]]
        constructor
        · simp [rdS,rdEs,rdSs,hk2,Rd,Tch]
        · simp [wrS,wrSs,hk2,hk1,Wr,Tch]
termination_by structural s=>s
theorem kSs_tch (hW:WNo lo W) (t:Int):∀ (l:List Sm) (d:Nat),rightSs l d=true→ckSs V W G l=true→(Rd (kSs lo sh lk l) t↔Tch lo sh (rdSs l) t)∧(Wr (kSs lo sh lk l) t↔Tch lo sh (wrSs l) t)
  | [],d=>by
    intro _ _
    simp [kSs,rdSs,wrSs,Rd,Wr,Tch]
  | s::r,d=>by
    intro hr hc
    rw [rightSs,Bool.and_eq_true] at hr
    rw [ckSs,Bool.and_eq_true] at hc
    obtain⟨a1,a2⟩:=kS_tch hW t s d hr.1 hc.1
    obtain⟨b1,b2⟩:=kSs_tch hW t r d hr.2 hc.2
    rw [kSs,rdSs,wrSs,Rd.app,Wr.app,Tch.app,Tch.app,a1,a2,b1,b2]
    exact⟨Iff.rfl,Iff.rfl⟩
termination_by structural l=>l
end
end
end ParS
