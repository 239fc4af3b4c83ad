/- A part of the proof: contracts of functions and plain laws; each theorem says its own conditions. -/
import Derived.Test.YtkhpdpenlnhbiaaGreatDoorTopLoweredK20
import Derived.Test.YtkhpdpenlnhbiaaGreatDoorTopLoweredK19
set_option linter.unusedVariables false
set_option linter.unusedSimpArgs false
/- What lowering does: nodes come behind nodes;which they are;each is right but for where it leads. -/
namespace ParS
open Sx LexS Go Go.RowKit
def kt (g:Gn):Int×Int:=(g.k,g.th)
def okG (nS nL s:Nat) (g:Gn):Prop:=
  (g.k=1∧0≤g.op∧g.op<19∧(0≤g.sl∧g.sl<s)∧g.th=0∧inV s g.a∧inV s g.b∧(twoOp g.op=false→g.b=.num 0))∨
  (g.k=2∧g.op=0∧(0≤g.sl∧g.sl<s)∧(0≤g.th∧g.th<nS)∧g.a=.num 0∧g.b=.num 0)∨
  (g.k=3∧g.op=0∧g.sl=0∧(0≤g.th∧g.th<nS)∧inV s g.a∧g.b=.num 0)∨
  (g.k=4∧g.op=0∧(0≤g.sl∧g.sl<s)∧(0≤g.th∧g.th<nS)∧inV s g.a∧g.b=.num 0)∨
  ((g.k=5∨g.k=6)∧g.op=0∧g.sl=0∧(0≤g.th∧g.th<nL)∧g.a=.num 0∧g.b=.num 0)∨
  ((g.k=7∨g.k=8)∧g.op=0∧g.sl=0∧g.th=0∧inV s g.a∧g.b=.num 0)∨
  (g.k=9∧g.op=0∧g.sl=0∧g.th=0∧g.a=.num 0∧g.b=.num 0)
theorem okG.ky {nS nL s:Nat} {g g':Gn} (h:okG nS nL s g) (e:ky g'=ky g):okG nS nL s g':=by
  simp only [ParS.ky,Prod.mk.injEq] at e
  obtain⟨e1,e2,e3,e4,e5,e6⟩:=e
  unfold okG at h ⊢
  rw [e1,e2,e3,e4,e5,e6]
  exact h
theorem okG.mono {nS nL s s':Nat} {g:Gn} (h:okG nS nL s g) (hs:s≤s'):okG nS nL s' g:=by
  have hi:(s:Int)≤s':=by omega
  rcases h with ⟨h1,h2,h3,h4,h5,h6,h7,h8⟩|⟨h1,h2,h4,h5,h6⟩|⟨h1,h2,h4,h5,h6,h7⟩|⟨h1,h2,h4,h5,h6,h7⟩|h|⟨h1,h2,h3,h4,h5,h6⟩|h
  · exact .inl ⟨h1,h2,h3,⟨h4.1,by omega⟩,h5,h6.mono hs,h7.mono hs,h8⟩
  · exact .inr (.inl ⟨h1,h2,⟨h4.1,by omega⟩,h5,h6⟩)
  · exact .inr (.inr (.inl ⟨h1,h2,h4,h5,h6.mono hs,h7⟩))
  · exact .inr (.inr (.inr (.inl ⟨h1,h2,⟨h4.1,by omega⟩,h5,h6.mono hs,h7⟩)))
  · exact .inr (.inr (.inr (.inr (.inl h))))
  · exact .inr (.inr (.inr (.inr (.inr (.inl ⟨h1,h2,h3,h4,h5.mono hs,h6⟩)))))
  · exact .inr (.inr (.inr (.inr (.inr (.inr h)))))
theorem okG_ld {nS nL s:Nat} {t:Int} (h:0≤t∧t<nS):okG nS nL (s+1) (mkG 2 0 s t (.num 0) (.num 0)):=.inr (.inl ⟨rfl,rfl,⟨by simp,by simp;omega⟩,h,rfl,rfl⟩)
structure Adv (nS nL:Nat) (st st':LS) (ks:List (Int×Int)):Prop where
  ov:st.ov=false
  kt:st'.N.map kt=st.N.map kt++ks
  s:st.s≤st'.s
  cnt:st'.s+st.N.length≤st.s+st'.N.length
  ok:(∀ g∈st.N,okG nS nL st.s g)→∀ g∈st'.N,okG nS nL st'.s g
theorem Adv.refl {nS nL:Nat} {st:LS} (h:st.ov=false):Adv nS nL st st []:=⟨h,by simp,Nat.le_refl _,Nat.le_refl _,fun h=>h⟩
theorem Adv.trans {nS nL:Nat} {a b c:LS} {k l:List (Int×Int)} (h:Adv nS nL a b k) (g:Adv nS nL b c l):Adv nS nL a c (k++l):=
  ⟨h.ov,by rw [g.kt,h.kt,List.append_assoc],Nat.le_trans h.s g.s,by have:=h.cnt;have:=g.cnt;omega,fun x=>g.ok (h.ok x)⟩
theorem kt_of_ky {N N':List Gn} (h:N.map ky=N'.map ky):N.map ParS.kt=N'.map ParS.kt:=by
  have e:∀ l:List Gn,l.map ParS.kt=(l.map ky).map (fun t=>(t.1,t.2.2.2.1)):=fun l=>by simp [ParS.kt,ky,Function.comp_def]
  rw [e,e,h]
theorem mem_ky {N N':List Gn} (h:N'.map ky=N.map ky) {g:Gn} (hg:g∈N'):∃ g0∈N,ky g=ky g0:=by
  have:ky g∈N.map ky:=by rw [← h];exact List.mem_map_of_mem hg
  obtain⟨g0,h0,e⟩:=List.mem_map.1 this
  exact⟨g0,h0,e.symm⟩
theorem put_ov {g:Gn} {st:LS} (h:(putL g st).ov=false):st.ov=false∧st.N.length<4096∧putL g st=⟨leadL st.op st.N.length st.N++[g],st.s,[(st.N.length,false)],st.ov⟩:=by
  unfold putL at h
  by_cases hf:4096≤st.N.length
  · rw [if_pos hf] at h;simp at h
  · rw [if_neg hf] at h
    exact⟨h,by omega,by unfold putL;rw [if_neg hf]⟩
theorem put_adv {nS nL:Nat} {g:Gn} {st:LS} (d:Nat) (hd:d≤1) (h:(putL g {st with s:=st.s+d}).ov=false) (hg:okG nS nL (st.s+d) g):Adv nS nL st (putL g {st with s:=st.s+d}) [ParS.kt g]:=by
  obtain⟨h1,h2,h3⟩:=put_ov h
  rw [h3]
  refine⟨h1,?_,by simp,by simp [leadL_len];omega,fun hN g0 h0=>?_⟩
  · simp only [List.map_append,List.map_cons,List.map_nil]
    rw [kt_of_ky (leadL_ky _ _ _)]
  · rcases List.mem_append.1 h0 with h0|h0
    · obtain⟨g1,h1,e⟩:=mem_ky (leadL_ky _ _ _) h0
      exact((hN g1 h1).mono (by simp)).ky e
    · simp only [List.mem_singleton] at h0
      subst h0
      exact hg
section
variable (lo sh lk:List Dc)
def kE:Ex→List (Int×Int)
  | .mk k op wd nm kids a=>if k=1 then [] else if k=2 then (match idxO lo nm with
      | some i=>[]
      | none=>[(2,idxI sh nm)]) else match kids with
    | [x]=>kE x++[(1,0)]
    | [x,y]=>(kE x++kE y)++[(1,0)]
    | _=>[]
theorem kE_1 (op wd:Int) (nm:Wd) (kids:List Ex) (a:Int):kE lo sh (.mk 1 op wd nm kids a)=[]:=by
  match kids with
  | []=>simp [kE]
  | [x]=>simp [kE]
  | [x,y]=>simp [kE]
  | x::y::z::r=>simp [kE]
theorem kE_2 (op wd:Int) (nm:Wd) (kids:List Ex) (a:Int):kE lo sh (.mk 2 op wd nm kids a)=(match idxO lo nm with
      | some i=>[]
      | none=>[(2,idxI sh nm)]):=by
  match kids with
  | []=>simp [kE]
  | [x]=>simp [kE]
  | [x,y]=>simp [kE]
  | x::y::z::r=>simp [kE]
def giK (nm:Wd):List (Int×Int):=match idxO lo nm with
  | some i=>[(1,0)]
  | none=>[(3,idxI sh nm)]
def swK (nm other:Wd):List (Int×Int):=match idxO lo nm with
  | some i=>[(4,idxI sh other)]
  | none=>[(4,idxI sh other)]++giK lo sh nm
mutual
def kS:Sm→List (Int×Int)
  | .mk k nm other e body els a=>match e with
    | [x]=>if k=1 then kE lo sh x++giK lo sh nm
      else if k=2 then kE lo sh x++swK lo sh nm other
      else if k=3 then ((kE lo sh x++[(8,0)])++kSs body)++kSs els
      else if k=4 then (kE lo sh x++[(8,0)])++kSs body
      else kE lo sh x++[(7,0)]
    | _=>if k=5 then ([(5,idxI lk nm)]++kSs body)++[(6,idxI lk nm)] else []
termination_by structural s=>s
def kSs:List Sm→List (Int×Int)
  | []=>[]
  | s::r=>kS s++kSs r
termination_by structural l=>l
end
end
section
variable {lo sh lk:List Dc} {V W G:Wd→Bool} {nS nL:Nat}
def VOk (lo sh:List Dc) (nS:Nat) (V:Wd→Bool):Prop:=∀ nm,V nm=true→idxO lo nm=none→0≤idxI sh nm∧idxI sh nm<nS
theorem idxO_lt {l:List Dc} {nm:Wd} {i:Nat} (h:idxO l nm=some i):i<l.length:=by
  unfold idxO at h
  exact(List.findIdx?_eq_some_iff_getElem.1 h).1
theorem va_ov:∀ (e:Ex) (st:LS),(vaL lo sh e st).2.ov=false→st.ov=false:=by
  have:∀ (n:Nat) (e:Ex),SizeOf.sizeOf e=n→∀ st,(vaL lo sh e st).2.ov=false→st.ov=false:=by
    intro n
    refine Nat.strongRecOn n fun n ih=>?_
    rintro ⟨k,op,wd,nm,kids,a⟩ hn st ho
    by_cases k1:k=1
    · subst k1;rw [va_1] at ho;exact ho
    by_cases k2:k=2
    · subst k2
      rw [va_2] at ho
      cases hi:idxO lo nm with
      | some i=>rw [hi] at ho;exact ho
      | none=>rw [hi] at ho;exact(put_ov ho).1
    match kids,hn,ho with
    | [x],hn,ho=>
      rw [va_u _ _ k1 k2] at ho
      exact ih _ (by rw [← hn];simp;omega) x rfl st (put_ov ho).1
    | [x,y],hn,ho=>
      rw [va_b _ _ k1 k2] at ho
      exact ih _ (by rw [← hn];simp;omega) x rfl st (ih _ (by rw [← hn];simp;omega) y rfl _ (put_ov ho).1)
    | [],hn,ho=>rw [va_0 _ _ k1 k2 _ _ _ _ _ _ (by simp) (by simp)] at ho;exact ho
    | _::_::_::_,hn,ho=>rw [va_0 _ _ k1 k2 _ _ _ _ _ _ (by simp) (by simp)] at ho;exact ho
  exact fun e st=>this _ e rfl st
theorem va_adv (hV:VOk lo sh nS V):∀ (n:Nat) (e:Ex),SizeOf.sizeOf e=n→∀ d d',rightE e d=true→ckE V e d'=true→∀ st,lo.length≤st.s→(vaL lo sh e st).2.ov=false→
    Adv nS nL st (vaL lo sh e st).2 (kE lo sh e)∧inV (vaL lo sh e st).2.s (vaL lo sh e st).1:=by
  intro n
  refine Nat.strongRecOn n fun n ih=>?_
  rintro ⟨k,op,wd,nm,kids,a⟩ hn d d' hr hc st hl ho
  obtain⟨-,hr⟩:=rightE_iff.1 hr
  simp only [Ex.k,Ex.op,Ex.wd,Ex.nm,Ex.kids] at hr
  rw [ckE] at hc
  simp only [Bool.and_eq_true,Bool.or_eq_true,Bool.not_eq_true',decide_eq_false_iff_not,decide_eq_true_eq] at hc
  obtain⟨⟨hc1,-⟩,hc2⟩:=hc
  rcases hr with ⟨rfl,-⟩|⟨rfl,-⟩|⟨rfl,hop,-,-,x,rfl,hx⟩|⟨rfl,hop,-,-,x,y,rfl,hx,hy⟩
  · rw [va_1] at ho ⊢
    rw [kE_1]
    exact⟨.refl ho,trivial⟩
  · rw [va_2] at ho ⊢
    rw [kE_2]
    cases hi:idxO lo nm with
    | some i=>
      rw [hi] at ho
      exact⟨.refl ho,Nat.lt_of_lt_of_le (idxO_lt hi) hl⟩
    | none=>
      rw [hi] at ho
      have hv:=hV nm (hc1.resolve_left (by simp)) hi
      refine⟨put_adv 1 (by omega) ho (okG_ld hv),?_⟩
      obtain⟨-,-,e⟩:=put_ov ho
      show inV (putL _ (slotL st)).s _
      rw [e]
      exact Nat.lt_succ_self _
  · simp only [ckEs,Bool.and_true] at hc2
    rw [va_u _ _ (by decide) (by decide)] at ho ⊢
    rw [show kE lo sh (.mk 3 op wd nm [x] a)=kE lo sh x++[(1,0)] by simp [kE]]
    have hp:=put_ov ho
    obtain⟨a1,v1⟩:=ih _ (by rw [← hn];simp;omega) x rfl _ _ hx hc2 st hl hp.1
    have hop2:0<op∧op<19∧twoOp op=false:=by
      simp only [oneOp,decide_eq_true_eq] at hop
      rcases hop with rfl|rfl <;> decide
    refine⟨a1.trans (put_adv 1 (by omega) ho (.inl ⟨rfl,by show (0:Int)≤op;omega,hop2.2.1,⟨by simp,by simp;omega⟩,rfl,v1.mono (by simp),trivial,fun _=>rfl⟩)),?_⟩
    show inV (putL _ (slotL _)).s _
    rw [hp.2.2]
    exact Nat.lt_succ_self _
  · simp only [ckEs,Bool.and_true,Bool.and_eq_true] at hc2
    rw [va_b _ _ (by decide) (by decide)] at ho ⊢
    rw [show kE lo sh (.mk 4 op wd nm [x,y] a)=(kE lo sh x++kE lo sh y)++[(1,0)] by simp [kE]]
    have hp:=put_ov ho
    obtain⟨a1,v1⟩:=ih _ (by rw [← hn];simp;omega) x rfl _ _ hx hc2.1 st hl (va_ov y _ hp.1)
    obtain⟨a2,v2⟩:=ih _ (by rw [← hn];simp;omega) y rfl _ _ hy hc2.2 _ (Nat.le_trans hl a1.s) hp.1
    have hop2:0<op∧op<19:=by simp only [twoOp,decide_eq_true_eq] at hop;omega
    refine⟨(a1.trans a2).trans (put_adv 1 (by omega) ho (.inl ⟨rfl,by show (0:Int)≤op;omega,hop2.2,⟨by simp,by simp;omega⟩,rfl,v1.mono (Nat.le_succ_of_le a2.s),v2.mono (by simp),fun h=>absurd hop (by rw [show twoOp op=false from h];simp)⟩)),?_⟩
    show inV (putL _ (slotL _)).s _
    rw [hp.2.2]
    exact Nat.lt_succ_self _
end
end ParS
/- What lowering does with statements. -/
namespace ParS
open Sx LexS Go Go.RowKit
section
variable {lo sh lk:List Dc}
theorem gi_ov {nm:Wd} {v:Vl} {st:LS} (h:(giL lo sh nm v st).ov=false):st.ov=false:=by
  unfold giL at h
  split at h <;> exact(put_ov h).1
theorem sw_ov {nm other:Wd} {v:Vl} {st:LS} (h:(swL lo sh nm other v st).ov=false):st.ov=false:=by
  unfold swL at h
  split at h
  · exact(put_ov h).1
  · exact(put_ov (gi_ov h)).1
theorem sm_e1 (nm other:Wd) (x:Ex) (body els:List Sm) (a:Int) (st:LS):smL lo sh lk (.mk 1 nm other [x] body els a) st=giL lo sh nm (vaL lo sh x st).1 (vaL lo sh x st).2:=by simp [smL]
theorem sm_e2 (nm other:Wd) (x:Ex) (body els:List Sm) (a:Int) (st:LS):smL lo sh lk (.mk 2 nm other [x] body els a) st=swL lo sh nm other (vaL lo sh x st).1 (vaL lo sh x st).2:=by simp [smL]
def c2L (body:List Sm) (r:Vl×LS):LS:=blL lo sh lk body (brL r.1 r.2)
def c3L (body els:List Sm) (r:Vl×LS):LS:=blL lo sh lk els {c2L (lo:=lo) (sh:=sh) (lk:=lk) body r with op:=[(putAt r.2,true)]}
theorem sm_e3 (nm other:Wd) (x:Ex) (body els:List Sm) (a:Int) (st:LS):smL lo sh lk (.mk 3 nm other [x] body els a) st={c3L (lo:=lo) (sh:=sh) (lk:=lk) body els (vaL lo sh x st) with op:=(c2L (lo:=lo) (sh:=sh) (lk:=lk) body (vaL lo sh x st)).op++(c3L (lo:=lo) (sh:=sh) (lk:=lk) body els (vaL lo sh x st)).op}:=by simp [smL,c2L,c3L]
theorem sm_e4 (nm other:Wd) (x:Ex) (body els:List Sm) (a:Int) (st:LS):smL lo sh lk (.mk 4 nm other [x] body els a) st=if (c2L (lo:=lo) (sh:=sh) (lk:=lk) body (vaL lo sh x st)).ov=true then c2L (lo:=lo) (sh:=sh) (lk:=lk) body (vaL lo sh x st) else {c2L (lo:=lo) (sh:=sh) (lk:=lk) body (vaL lo sh x st) with N:=leadL (c2L (lo:=lo) (sh:=sh) (lk:=lk) body (vaL lo sh x st)).op st.N.length (c2L (lo:=lo) (sh:=sh) (lk:=lk) body (vaL lo sh x st)).N,op:=[(putAt (vaL lo sh x st).2,true)]}:=by
  simp only [smL,c2L]
  rfl
theorem sm_e6 {k:Int} (h1:k≠1) (h2:k≠2) (h3:k≠3) (h4:k≠4) (nm other:Wd) (x:Ex) (body els:List Sm) (a:Int) (st:LS):smL lo sh lk (.mk k nm other [x] body els a) st=putL (mkG 7 0 0 0 (vaL lo sh x st).1 (.num 0)) (vaL lo sh x st).2:=by simp [smL,h1,h2,h3,h4]
theorem sm_e5 (nm other:Wd) (e:List Ex) (body els:List Sm) (a:Int) (st:LS) (he:e.length≠1):smL lo sh lk (.mk 5 nm other e body els a) st=putL (mkG 6 0 0 (idxI lk nm) (.num 0) (.num 0)) (blL lo sh lk body (putL (mkG 5 0 0 (idxI lk nm) (.num 0) (.num 0)) st)):=by
  match e,he with
  | [],_=>simp [smL]
  | [x],h=>simp at h
  | x::y::r,_=>simp [smL]
theorem sm_e7 {k:Int} (h5:k≠5) (nm other:Wd) (e:List Ex) (body els:List Sm) (a:Int) (st:LS) (he:e.length≠1):smL lo sh lk (.mk k nm other e body els a) st=st:=by
  match e,he with
  | [],_=>simp [smL,h5]
  | [x],h=>simp at h
  | x::y::r,_=>simp [smL,h5]
mutual
theorem sm_ov:∀ (s:Sm) (st:LS),(smL lo sh lk s st).ov=false→st.ov=false
  | .mk k nm other e body els a,st=>by
    intro h
    by_cases he:e.length=1
    · obtain⟨x,rfl⟩:=List.length_eq_one_iff.1 he
      have c2:(c2L (lo:=lo) (sh:=sh) (lk:=lk) body (vaL lo sh x st)).ov=false→st.ov=false:=fun h=>va_ov x st (put_ov (bl_ov body _ h)).1
      by_cases k1:k=1
      · subst k1;rw [sm_e1] at h;exact va_ov x st (gi_ov h)
      by_cases k2:k=2
      · subst k2;rw [sm_e2] at h;exact va_ov x st (sw_ov h)
      by_cases k3:k=3
      · subst k3;rw [sm_e3] at h;exact c2 (bl_ov els {c2L (lo:=lo) (sh:=sh) (lk:=lk) body (vaL lo sh x st) with op:=[(putAt (vaL lo sh x st).2,true)]} h)
      by_cases k4:k=4
      · subst k4;rw [sm_e4] at h
        split at h
        · exact c2 h
        · exact c2 h
      rw [sm_e6 k1 k2 k3 k4] at h
      exact va_ov x st (put_ov h).1
    · by_cases k5:k=5
      · subst k5;rw [sm_e5 _ _ _ _ _ _ _ he] at h;exact(put_ov (bl_ov body _ (put_ov h).1)).1
      · rw [sm_e7 k5 _ _ _ _ _ _ _ he] at h;exact h
termination_by structural s=>s
theorem bl_ov:∀ (l:List Sm) (st:LS),(blL lo sh lk l st).ov=false→st.ov=false
  | [],st=>fun h=>by rw [blL] at h;exact h
  | s::r,st=>by
    intro h
    rw [blL] at h
    split at h
    · exact h
    · exact sm_ov s st (bl_ov r _ h)
termination_by structural l=>l
end
theorem bl_cons (s:Sm) (r:List Sm) (st:LS) (h:(blL lo sh lk (s::r) st).ov=false):blL lo sh lk (s::r) st=blL lo sh lk r (smL lo sh lk s st):=by
  have ho:=bl_ov _ _ h
  rw [blL,if_neg (by rw [ho];simp)]
variable {nS nL:Nat} {V W G:Wd→Bool}
theorem put_adv0 {g:Gn} {st:LS} (h:(putL g st).ov=false) (hg:okG nS nL st.s g):Adv nS nL st (putL g st) [kt g]:=put_adv (st:=st) 0 (by omega) h hg
theorem put_s {g:Gn} {st:LS} (h:(putL g st).ov=false):(putL g st).s=st.s:=by rw [(put_ov h).2.2]
theorem okG_gi {s:Nat} {i:Nat} {v:Vl} (hi:i<s) (hv:inV s v):okG nS nL s (mkG 1 0 i 0 v (.num 0)):=.inl ⟨rfl,by show (0:Int)≤0;omega,by show (0:Int)<19;omega,⟨by show (0:Int)≤i;omega,by show (i:Int)<s;omega⟩,rfl,hv,trivial,fun _=>rfl⟩
theorem okG_st {s:Nat} {t:Int} {v:Vl} (h:0≤t∧t<nS) (hv:inV s v):okG nS nL s (mkG 3 0 0 t v (.num 0)):=.inr (.inr (.inl ⟨rfl,rfl,rfl,h,hv,rfl⟩))
theorem okG_sw {s:Nat} {i:Nat} {t:Int} {v:Vl} (hi:i<s) (h:0≤t∧t<nS) (hv:inV s v):okG nS nL s (mkG 4 0 i t v (.num 0)):=.inr (.inr (.inr (.inl ⟨rfl,rfl,⟨by show (0:Int)≤i;omega,by show (i:Int)<s;omega⟩,h,hv,rfl⟩)))
theorem okG_lk {s:Nat} {k t:Int} (hk:k=5∨k=6) (h:0≤t∧t<nL):okG nS nL s (mkG k 0 0 t (.num 0) (.num 0)):=.inr (.inr (.inr (.inr (.inl ⟨hk,rfl,rfl,h,rfl,rfl⟩))))
theorem okG_pr {s:Nat} {k:Int} {v:Vl} (hk:k=7∨k=8) (hv:inV s v):okG nS nL s (mkG k 0 0 0 v (.num 0)):=.inr (.inr (.inr (.inr (.inr (.inl ⟨hk,rfl,rfl,rfl,hv,rfl⟩)))))
theorem gi_adv (hV:VOk lo sh nS V) {nm:Wd} (hn:V nm=true) {v:Vl} {st:LS} (hl:lo.length≤st.s) (hv:inV st.s v) (h:(giL lo sh nm v st).ov=false):Adv nS nL st (giL lo sh nm v st) (giK lo sh nm):=by
  cases hi:idxO lo nm with
  | some i=>
    simp only [giL,giK,hi] at h ⊢
    exact put_adv0 h (okG_gi (Nat.lt_of_lt_of_le (idxO_lt hi) hl) hv)
  | none=>
    simp only [giL,giK,hi] at h ⊢
    exact put_adv0 h (okG_st (hV nm hn hi) hv)
theorem sw_adv (hV:VOk lo sh nS V) {nm other:Wd} (hn:V nm=true) (ho:0≤idxI sh other∧idxI sh other<nS) {v:Vl} {st:LS} (hl:lo.length≤st.s) (hv:inV st.s v) (h:(swL lo sh nm other v st).ov=false):Adv nS nL st (swL lo sh nm other v st) (swK lo sh nm other):=by
  cases hi:idxO lo nm with
  | some i=>
    simp only [swL,swK,hi] at h ⊢
    exact put_adv0 h (okG_sw (Nat.lt_of_lt_of_le (idxO_lt hi) hl) ho hv)
  | none=>
    simp only [swL,swK,hi] at h ⊢
    have hp:=gi_ov h
    have e:=put_s hp
    have a1:=put_adv (nS:=nS) (nL:=nL) (st:=st) 1 (by omega) hp (okG_sw (i:=st.s) (by omega) ho (hv.mono (by omega)))
    have hs:(putL (mkG 4 0 st.s (idxI sh other) v (.num 0)) (slotL st)).s=st.s+1:=e
    exact a1.trans (gi_adv (st:=putL (mkG 4 0 st.s (idxI sh other) v (.num 0)) (slotL st)) hV hn (by rw [hs];omega) (by rw [hs];exact Nat.lt_succ_self _) h)
theorem Adv.op {a b:LS} {k:List (Int×Int)} (h:Adv nS nL a b k) (o:List (Nat×Bool)):Adv nS nL a {b with op:=o} k:=⟨h.ov,h.kt,h.s,h.cnt,h.ok⟩
theorem Adv.op' {a b:LS} {k:List (Int×Int)} {o:List (Nat×Bool)} (h:Adv nS nL {a with op:=o} b k):Adv nS nL a b k:=⟨h.ov,h.kt,h.s,h.cnt,h.ok⟩
theorem Adv.lead {a b:LS} {k:List (Int×Int)} (h:Adv nS nL a b k) (o o':List (Nat×Bool)) (t:Nat):Adv nS nL a {b with N:=leadL o t b.N,op:=o'} k:=
  ⟨h.ov,by rw [← h.kt];exact kt_of_ky (leadL_ky _ _ _),h.s,by simp only [leadL_len];exact h.cnt,fun hN g hg=>by
    obtain⟨g0,h0,e⟩:=mem_ky (leadL_ky _ _ _) hg
    exact(h.ok hN g0 h0).ky e⟩
def WOk (l:List Dc) (n:Nat) (W:Wd→Bool):Prop:=∀ nm,W nm=true→0≤idxI l nm∧idxI l nm<n
mutual
theorem sm_adv (hV:VOk lo sh nS V) (hW:WOk sh nS W) (hG:WOk lk nL G):∀ (s:Sm) (d:Nat),rightS s d=true→ckS V W G s=true→∀ st,lo.length≤st.s→(smL lo sh lk s st).ov=false→Adv nS nL st (smL lo sh lk s st) (kS lo sh lk s)
  | .mk k nm other e body els a,d=>by
    intro hr hc st hl h
    simp only [rightS,Bool.and_eq_true,decide_eq_true_eq] at hr
    obtain⟨⟨⟨⟨⟨⟨⟨⟨hk,-⟩,-⟩,hx⟩,-⟩,-⟩,-⟩,hb⟩,hels⟩:=hr
    simp only [ckS,Bool.and_eq_true,Bool.or_eq_true,Bool.not_eq_true',decide_eq_false_iff_not] at hc
    obtain⟨⟨⟨⟨⟨c1,c2⟩,c5⟩,ce⟩,cb⟩,cel⟩:=hc
    by_cases he:e.length=1
    · obtain⟨x,rfl⟩:=List.length_eq_one_iff.1 he
      have hx2:rightE x 0=true:=by
        unfold rightX at hx
        split at hx
        · exact hx
        · simp at hx
      simp only [ckEs,Bool.and_true] at ce
      have hva:=fun ho=>va_adv (nL:=nL) hV _ x rfl _ _ hx2 ce st hl ho
      have hbr:(brL (vaL lo sh x st).1 (vaL lo sh x st).2).ov=false→Adv nS nL st (brL (vaL lo sh x st).1 (vaL lo sh x st).2) (kE lo sh x++[(8,0)]):=fun ho=>
        (hva (put_ov ho).1).1.trans (put_adv0 ho (okG_pr (.inr rfl) (hva (put_ov ho).1).2))
      have hc2:(c2L (lo:=lo) (sh:=sh) (lk:=lk) body (vaL lo sh x st)).ov=false→Adv nS nL st (c2L (lo:=lo) (sh:=sh) (lk:=lk) body (vaL lo sh x st)) ((kE lo sh x++[(8,0)])++kSs lo sh lk body):=fun ho=>
        (hbr (bl_ov _ _ ho)).trans (bl_adv hV hW hG body _ hb cb _ (Nat.le_trans hl (hbr (bl_ov _ _ ho)).s) ho)
      by_cases k1:k=1
      · subst k1
        rw [sm_e1] at h ⊢
        rw [show kS lo sh lk (.mk 1 nm other [x] body els a)=kE lo sh x++giK lo sh nm by simp [kS]]
        obtain⟨a1,v1⟩:=hva (gi_ov h)
        exact a1.trans (gi_adv hV (c1.resolve_left (by simp)) (Nat.le_trans hl a1.s) v1 h)
      by_cases k2:k=2
      · subst k2
        rw [sm_e2] at h ⊢
        rw [show kS lo sh lk (.mk 2 nm other [x] body els a)=kE lo sh x++swK lo sh nm other by simp [kS]]
        obtain⟨a1,v1⟩:=hva (sw_ov h)
        have c2':=c2.resolve_left (by simp)
        exact a1.trans (sw_adv hV c2'.1 (hW _ c2'.2) (Nat.le_trans hl a1.s) v1 h)
      by_cases k3:k=3
      · subst k3
        rw [sm_e3] at h ⊢
        rw [show kS lo sh lk (.mk 3 nm other [x] body els a)=((kE lo sh x++[(8,0)])++kSs lo sh lk body)++kSs lo sh lk els by simp [kS]]
        have h3:(c3L (lo:=lo) (sh:=sh) (lk:=lk) body els (vaL lo sh x st)).ov=false:=h
        have a2:=hc2 (bl_ov els {c2L (lo:=lo) (sh:=sh) (lk:=lk) body (vaL lo sh x st) with op:=[(putAt (vaL lo sh x st).2,true)]} h3)
        exact(a2.trans (bl_adv hV hW hG els _ hels cel {c2L (lo:=lo) (sh:=sh) (lk:=lk) body (vaL lo sh x st) with op:=[(putAt (vaL lo sh x st).2,true)]} (Nat.le_trans hl a2.s) h3).op').op _
      by_cases k4:k=4
      · subst k4
        rw [sm_e4] at h ⊢
        rw [show kS lo sh lk (.mk 4 nm other [x] body els a)=(kE lo sh x++[(8,0)])++kSs lo sh lk body by simp [kS]]
        have ho:(c2L (lo:=lo) (sh:=sh) (lk:=lk) body (vaL lo sh x st)).ov=false:=by
          split at h <;> exact h
        rw [if_neg (by rw [ho];simp)]
        exact(hc2 ho).lead _ _ _
      rw [sm_e6 k1 k2 k3 k4] at h ⊢
      rw [show kS lo sh lk (.mk k nm other [x] body els a)=kE lo sh x++[(7,0)] by simp [kS,k1,k2,k3,k4]]
      obtain⟨a1,v1⟩:=hva (put_ov h).1
      exact a1.trans (put_adv0 h (okG_pr (.inl rfl) v1))
    · by_cases k5:k=5
      · subst k5
        rw [sm_e5 _ _ _ _ _ _ _ he] at h ⊢
        rw [show kS lo sh lk (.mk 5 nm other e body els a)=([(5,idxI lk nm)]++kSs lo sh lk body)++[(6,idxI lk nm)] by
          match e,he with
          | [],_=>simp [kS]
          | [x],h=>simp at h
          | x::y::r,_=>simp [kS]]
        have hg:=hG _ (c5.resolve_left (by simp))
        have h2:=(put_ov h).1
        have h1:=bl_ov _ _ h2
        have a1:=put_adv0 (nS:=nS) (nL:=nL) h1 (okG_lk (.inl rfl) hg)
        exact(a1.trans (bl_adv hV hW hG body _ hb cb _ (Nat.le_trans hl a1.s) h2)).trans (put_adv0 h (okG_lk (.inr rfl) hg))
      · rw [sm_e7 k5 _ _ _ _ _ _ _ he] at h ⊢
        rw [show kS lo sh lk (.mk k nm other e body els a)=[] by
          match e,he with
          | [],_=>simp [kS,k5]
          | [x],h=>simp at h
          | x::y::r,_=>simp [kS,k5]]
        exact .refl h
termination_by structural s=>s
theorem bl_adv (hV:VOk lo sh nS V) (hW:WOk sh nS W) (hG:WOk lk nL G):∀ (l:List Sm) (d:Nat),rightSs l d=true→ckSs V W G l=true→∀ st,lo.length≤st.s→(blL lo sh lk l st).ov=false→Adv nS nL st (blL lo sh lk l st) (kSs lo sh lk l)
  | [],d=>by
    intro hr hc st hl h
    rw [blL] at h ⊢
    rw [kSs]
    exact .refl h
  | s::r,d=>by
    intro hr hc st hl h
    rw [rightSs,Bool.and_eq_true] at hr
    rw [ckSs,Bool.and_eq_true] at hc
    have e:=bl_cons _ _ _ h
    rw [e] at h ⊢
    rw [kSs]
    have a1:=sm_adv hV hW hG s d hr.1 hc.1 st hl (bl_ov _ _ h)
    exact a1.trans (bl_adv hV hW hG r d hr.2 hc.2 _ (Nat.le_trans hl a1.s) h)
termination_by structural l=>l
end
end
end ParS
