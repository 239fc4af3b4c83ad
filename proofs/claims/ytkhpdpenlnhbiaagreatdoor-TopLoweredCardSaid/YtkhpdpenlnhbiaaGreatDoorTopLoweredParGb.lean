/- A part of the proof: contracts of functions and plain laws; each theorem says its own conditions. -/
import Derived.Test.YtkhpdpenlnhbiaaGreatDoorTopLoweredK28
set_option linter.unusedVariables false
set_option linter.unusedSimpArgs false
/- Lowering: slots and what is open stay few. -/
namespace ParS
open Sx LexS Go Go.RowKit
def Few (k:Nat) (st st':LS):Prop:=st'.s≤st.s+k∧max st'.op.length 1≤max st.op.length 1+k
theorem Few.refl (st:LS):Few 0 st st:=⟨Nat.le_refl _,Nat.le_refl _⟩
theorem Few.trans {j k:Nat} {a b c:LS} (h:Few j a b) (g:Few k b c):Few (j+k) a c:=⟨by have:=h.1;have:=g.1;omega,by have:=h.2;have:=g.2;omega⟩
theorem Few.mono {j k:Nat} {a b:LS} (h:Few j a b) (hk:j≤k):Few k a b:=⟨Nat.le_trans h.1 (by omega),Nat.le_trans h.2 (by omega)⟩
theorem put_few (g:Gn) (st:LS):Few 0 st (putL g st):=by
  unfold putL
  split
  · exact⟨Nat.le_refl _,Nat.le_refl _⟩
  · exact⟨Nat.le_refl _,by simp;omega⟩
theorem slot_few (st:LS):Few 1 st (slotL st):=⟨Nat.le_refl _,Nat.le_succ _⟩
section
variable {lo sh lk:List Dc}
theorem va_few:∀ (n:Nat) (e:Ex),SizeOf.sizeOf e=n→∀ st,Few (szE e) st (vaL lo sh e st).2:=by
  intro n
  refine Nat.strongRecOn n fun n ih=>?_
  rintro ⟨k,op,wd,nm,kids,a⟩ hn st
  by_cases k1:k=1
  · subst k1;rw [va_1];exact(Few.refl _).mono (Nat.zero_le _)
  by_cases k2:k=2
  · subst k2
    rw [va_2]
    cases hi:idxO lo nm with
    | some i=>exact(Few.refl _).mono (Nat.zero_le _)
    | none=>exact((slot_few st).trans (put_few _ _)).mono (by simp [szE])
  match kids,hn with
  | [x],hn=>
    rw [va_u _ _ k1 k2]
    exact(((ih _ (by rw [← hn];simp;omega) x rfl st).trans (slot_few _)).trans (put_few _ _)).mono (by simp [szE,szEs] <;> omega)
  | [x,y],hn=>
    rw [va_b _ _ k1 k2]
    exact((((ih _ (by rw [← hn];simp;omega) x rfl st).trans (ih _ (by rw [← hn];simp;omega) y rfl _)).trans (slot_few _)).trans (put_few _ _)).mono (by simp [szE,szEs] <;> omega)
  | [],hn=>rw [va_0 _ _ k1 k2 _ _ _ _ _ _ (by simp) (by simp)];exact(Few.refl _).mono (Nat.zero_le _)
  | _::_::_::_,hn=>rw [va_0 _ _ k1 k2 _ _ _ _ _ _ (by simp) (by simp)];exact(Few.refl _).mono (Nat.zero_le _)
theorem va_few' (e:Ex) (st:LS):Few (szE e) st (vaL lo sh e st).2:=va_few _ e rfl st
theorem gi_few (nm:Wd) (v:Vl) (st:LS):Few 0 st (giL lo sh nm v st):=by
  unfold giL
  split <;> exact put_few _ _
theorem sw_few (nm other:Wd) (v:Vl) (st:LS):Few 1 st (swL lo sh nm other v st):=by
  unfold swL
  split
  · exact(put_few _ _).mono (by omega)
  · exact(((slot_few st).trans (put_few _ _)).trans (gi_few _ _ _)).mono (by omega)
mutual
theorem sm_few:∀ (s:Sm) (st:LS),Few (szS s) st (smL lo sh lk s st)
  | .mk k nm other e body els a,st=>by
    by_cases he:e.length=1
    · obtain⟨x,rfl⟩:=List.length_eq_one_iff.1 he
      have hx:=va_few' (lo:=lo) (sh:=sh) x st
      have h2:Few (szE x+szSs body) st (c2L (lo:=lo) (sh:=sh) (lk:=lk) body (vaL lo sh x st)):=(hx.trans (put_few _ _)).trans (bl_few body _)
      by_cases k1:k=1
      · subst k1;rw [sm_e1];exact(hx.trans (gi_few _ _ _)).mono (by simp only [szS,szEs];omega)
      by_cases k2:k=2
      · subst k2;rw [sm_e2];exact(hx.trans (sw_few _ _ _ _)).mono (by simp only [szS,szEs];omega)
      by_cases k3:k=3
      · subst k3;rw [sm_e3]
        have h3:Few (szSs els) {c2L (lo:=lo) (sh:=sh) (lk:=lk) body (vaL lo sh x st) with op:=[(putAt (vaL lo sh x st).2,true)]} (c3L (lo:=lo) (sh:=sh) (lk:=lk) body els (vaL lo sh x st)):=bl_few els {c2L (lo:=lo) (sh:=sh) (lk:=lk) body (vaL lo sh x st) with op:=[(putAt (vaL lo sh x st).2,true)]}
        generalize c3L (lo:=lo) (sh:=sh) (lk:=lk) body els (vaL lo sh x st)=z3 at h3 ⊢
        generalize c2L (lo:=lo) (sh:=sh) (lk:=lk) body (vaL lo sh x st)=z2 at h2 h3 ⊢
        refine⟨?_,?_⟩
        · have a:=h2.1
          have b:z3.s≤z2.s+szSs els:=h3.1
          simp only [szS,szEs]
          omega
        · have a:=h2.2
          have b:=h3.2
          simp only [List.length_append,szS,szEs] at b ⊢
          simp only [List.length_singleton] at b
          omega
      by_cases k4:k=4
      · subst k4;rw [sm_e4]
        split
        · exact h2.mono (by simp only [szS,szEs];omega)
        · refine⟨Nat.le_trans h2.1 (by simp only [szS,szEs];omega),?_⟩
          simp only [List.length_singleton]
          omega
      rw [sm_e6 k1 k2 k3 k4];exact(hx.trans (put_few _ _)).mono (by simp only [szS,szEs];omega)
    · by_cases k5:k=5
      · subst k5
        rw [sm_e5 _ _ _ _ _ _ _ he]
        exact(((put_few _ _).trans (bl_few body _)).trans (put_few _ _)).mono (by simp only [szS];omega)
      · rw [sm_e7 k5 _ _ _ _ _ _ _ he];exact(Few.refl _).mono (Nat.zero_le _)
termination_by structural s=>s
theorem bl_few:∀ (l:List Sm) (st:LS),Few (szSs l) st (blL lo sh lk l st)
  | [],st=>by rw [blL];exact(Few.refl _).mono (Nat.zero_le _)
  | s::r,st=>by
    rw [blL]
    split
    · exact(Few.refl _).mono (Nat.zero_le _)
    · exact((sm_few s st).trans (bl_few r _)).mono (by simp only [szSs];omega)
termination_by structural l=>l
end
end
end ParS
namespace ParS
open Sx LexS Go Go.RowKit
theorem put_nlen (g:Gn) (st:LS):st.N.length≤(putL g st).N.length:=by
  unfold putL
  split
  · exact Nat.le_refl _
  · simp [leadL_len]
theorem putAt_lt (g:Gn) (st:LS):putAt st<(putL g st).N.length:=by
  unfold putAt putL
  by_cases h:4096≤st.N.length
  · rw [if_pos h,if_pos h];show 0<st.N.length;omega
  · rw [if_neg h,if_neg h];simp [leadL_len]
theorem slot_nlen (st:LS):st.N.length≤(slotL st).N.length:=Nat.le_refl _
section
variable {lo sh lk:List Dc}
theorem va_nlen:∀ (n:Nat) (e:Ex),SizeOf.sizeOf e=n→∀ st,st.N.length≤(vaL lo sh e st).2.N.length:=by
  intro n
  refine Nat.strongRecOn n fun n ih=>?_
  rintro ⟨k,op,wd,nm,kids,a⟩ hn st
  by_cases k1:k=1
  · subst k1;rw [va_1];exact Nat.le_refl _
  by_cases k2:k=2
  · subst k2
    rw [va_2]
    cases hi:idxO lo nm with
    | some i=>exact Nat.le_refl _
    | none=>exact Nat.le_trans (slot_nlen st) (put_nlen _ _)
  match kids,hn with
  | [x],hn=>
    rw [va_u _ _ k1 k2]
    exact Nat.le_trans (ih _ (by rw [← hn];simp;omega) x rfl st) (Nat.le_trans (slot_nlen _) (put_nlen _ _))
  | [x,y],hn=>
    rw [va_b _ _ k1 k2]
    exact Nat.le_trans (Nat.le_trans (ih _ (by rw [← hn];simp;omega) x rfl st) (ih _ (by rw [← hn];simp;omega) y rfl _)) (Nat.le_trans (slot_nlen _) (put_nlen _ _))
  | [],hn=>rw [va_0 _ _ k1 k2 _ _ _ _ _ _ (by simp) (by simp)];exact Nat.le_refl _
  | _::_::_::_,hn=>rw [va_0 _ _ k1 k2 _ _ _ _ _ _ (by simp) (by simp)];exact Nat.le_refl _
theorem va_nlen' (e:Ex) (st:LS):st.N.length≤(vaL lo sh e st).2.N.length:=va_nlen _ e rfl st
theorem gi_nlen (nm:Wd) (v:Vl) (st:LS):st.N.length≤(giL lo sh nm v st).N.length:=by
  unfold giL
  split <;> exact put_nlen _ _
theorem sw_nlen (nm other:Wd) (v:Vl) (st:LS):st.N.length≤(swL lo sh nm other v st).N.length:=by
  unfold swL
  split
  · exact put_nlen _ _
  · exact Nat.le_trans (Nat.le_trans (slot_nlen st) (put_nlen _ _)) (gi_nlen _ _ _)
mutual
theorem sm_nlen:∀ (s:Sm) (st:LS),st.N.length≤(smL lo sh lk s st).N.length
  | .mk k nm other e body els a,st=>by
    by_cases he:e.length=1
    · obtain⟨x,rfl⟩:=List.length_eq_one_iff.1 he
      have hx:=va_nlen' (lo:=lo) (sh:=sh) x st
      have h2:st.N.length≤(c2L (lo:=lo) (sh:=sh) (lk:=lk) body (vaL lo sh x st)).N.length:=Nat.le_trans (Nat.le_trans hx (put_nlen _ _)) (bl_nlen body _)
      by_cases k1:k=1
      · subst k1;rw [sm_e1];exact Nat.le_trans hx (gi_nlen _ _ _)
      by_cases k2:k=2
      · subst k2;rw [sm_e2];exact Nat.le_trans hx (sw_nlen _ _ _ _)
      by_cases k3:k=3
      · subst k3;rw [sm_e3]
        exact Nat.le_trans h2 (bl_nlen els {c2L (lo:=lo) (sh:=sh) (lk:=lk) body (vaL lo sh x st) with op:=[(putAt (vaL lo sh x st).2,true)]})
      by_cases k4:k=4
      · subst k4;rw [sm_e4]
        split
        · exact h2
        · simp only [leadL_len];exact h2
      rw [sm_e6 k1 k2 k3 k4];exact Nat.le_trans hx (put_nlen _ _)
    · by_cases k5:k=5
      · subst k5
        rw [sm_e5 _ _ _ _ _ _ _ he]
        exact Nat.le_trans (Nat.le_trans (put_nlen _ _) (bl_nlen body _)) (put_nlen _ _)
      · rw [sm_e7 k5 _ _ _ _ _ _ _ he];exact Nat.le_refl _
termination_by structural s=>s
theorem bl_nlen:∀ (l:List Sm) (st:LS),st.N.length≤(blL lo sh lk l st).N.length
  | [],st=>by rw [blL];exact Nat.le_refl _
  | s::r,st=>by
    rw [blL]
    split
    · exact Nat.le_refl _
    · exact Nat.le_trans (sm_nlen s st) (bl_nlen r _)
termination_by structural l=>l
end
theorem sm1 {s:Sm} {x:Ex} (h:s.k=1) (he:s.e=[x]) (st:LS):smL lo sh lk s st=giL lo sh s.nm (vaL lo sh x st).1 (vaL lo sh x st).2:=by
  cases s;simp only [Sm.k,Sm.e] at h he;subst h he;exact sm_e1 ..
theorem sm2 {s:Sm} {x:Ex} (h:s.k=2) (he:s.e=[x]) (st:LS):smL lo sh lk s st=swL lo sh s.nm s.other (vaL lo sh x st).1 (vaL lo sh x st).2:=by
  cases s;simp only [Sm.k,Sm.e] at h he;subst h he;exact sm_e2 ..
theorem sm3 {s:Sm} {x:Ex} (h:s.k=3) (he:s.e=[x]) (st:LS):smL lo sh lk s st={c3L (lo:=lo) (sh:=sh) (lk:=lk) s.body s.els (vaL lo sh x st) with op:=(c2L (lo:=lo) (sh:=sh) (lk:=lk) s.body (vaL lo sh x st)).op++(c3L (lo:=lo) (sh:=sh) (lk:=lk) s.body s.els (vaL lo sh x st)).op}:=by
  cases s;simp only [Sm.k,Sm.e] at h he;subst h he;exact sm_e3 ..
theorem sm4 {s:Sm} {x:Ex} (h:s.k=4) (he:s.e=[x]) (st:LS):smL lo sh lk s st=if (c2L (lo:=lo) (sh:=sh) (lk:=lk) s.body (vaL lo sh x st)).ov=true then c2L (lo:=lo) (sh:=sh) (lk:=lk) s.body (vaL lo sh x st) else {c2L (lo:=lo) (sh:=sh) (lk:=lk) s.body (vaL lo sh x st) with N:=leadL (c2L (lo:=lo) (sh:=sh) (lk:=lk) s.body (vaL lo sh x st)).op st.N.length (c2L (lo:=lo) (sh:=sh) (lk:=lk) s.body (vaL lo sh x st)).N,op:=[(putAt (vaL lo sh x st).2,true)]}:=by
  cases s;simp only [Sm.k,Sm.e] at h he;subst h he;exact sm_e4 ..
theorem sm5 {s:Sm} (h:s.k=5) (he:s.e=[]) (st:LS):smL lo sh lk s st=putL (mkG 6 0 0 (idxI lk s.nm) (.num 0) (.num 0)) (blL lo sh lk s.body (putL (mkG 5 0 0 (idxI lk s.nm) (.num 0) (.num 0)) st)):=by
  cases s;simp only [Sm.k,Sm.e] at h he;subst h he;exact sm_e5 _ _ _ _ _ _ _ (by simp)
theorem sm6 {s:Sm} {x:Ex} (h:s.k=6) (he:s.e=[x]) (st:LS):smL lo sh lk s st=putL (mkG 7 0 0 0 (vaL lo sh x st).1 (.num 0)) (vaL lo sh x st).2:=by
  cases s;simp only [Sm.k,Sm.e] at h he;subst h he;exact sm_e6 (by decide) (by decide) (by decide) (by decide) ..
theorem sm7 {s:Sm} (h:s.k=7) (he:s.e=[]) (st:LS):smL lo sh lk s st=st:=by
  cases s;simp only [Sm.k,Sm.e] at h he;subst h he;exact sm_e7 (by decide) _ _ _ _ _ _ _ (by simp)
end
end ParS
