/- A part of the proof: contracts of functions and plain laws; each theorem says its own conditions. -/
import Derived.Maps.RangeRun
import Derived.Recover
import Derived.Test.YtkhpdpenlnhbiaaGreatDoorTopLoweredK5
set_option linter.unusedVariables false
set_option linter.unusedSimpArgs false
/- The engine,twenty-first part: trees that are written over in their own places. -/
namespace Sx
open Go Go.RowKit
def RowS {α:Type} (V:World→α→List Value→List Nat→Prop) (w:World):List α→List Value→List Nat→Prop
  | [],xs,S=>xs=[]∧S=[]
  | e::r,xs,S=>∃ v S1 xr Sr,xs=v++xr∧S=S1++Sr∧V w e v S1∧RowS V w r xr Sr
theorem exSs_row {tE:Nat} {w:World}:∀ {es:List Ex} {xs:List Value} {S:List Nat},ExSs tE w es xs S↔RowS (ExS tE) w es xs S
  | [],xs,S=>by simp only [ExSs,RowS]
  | e::r,xs,S=>by simp only [ExSs,RowS,exSs_row (es:=r)]
theorem smSs_row {tE tS:Nat} {w:World}:∀ {es:List Sm} {xs:List Value} {S:List Nat},SmSs tE tS w es xs S↔RowS (SmS tE tS) w es xs S
  | [],xs,S=>by simp only [SmSs,RowS]
  | e::r,xs,S=>by simp only [SmSs,RowS,smSs_row (es:=r)]
theorem thSs_row {tE tS tD:Nat} {w:World}:∀ {es:List Th} {xs:List Value} {S:List Nat},ThSs tE tS tD w es xs S↔RowS (ThS tE tS tD) w es xs S
  | [],xs,S=>by simp only [ThSs,RowS]
  | e::r,xs,S=>by simp only [ThSs,RowS,thSs_row (es:=r)]
section
variable {α:Type} {V:World→α→List Value→List Nat→Prop} {w w':World} {sz:Nat}
theorem RowS.kept (hV:∀ w w' x v S,V w x v S→(∀ b∈S,w'.heap[b]?=w.heap[b]?)→V w' x v S):∀ {es:List α} {xs:List Value} {S:List Nat},RowS V w es xs S→(∀ b∈S,w'.heap[b]?=w.heap[b]?)→RowS V w' es xs S
  | [],xs,S,h,hk=>h
  | e::r,xs,S,h,hk=>by
    obtain⟨v,S1,xr,Sr,rfl,rfl,h1,h2⟩:=h
    exact⟨v,S1,xr,Sr,rfl,rfl,hV _ _ _ _ _ h1 (fun b hb=>hk b (List.mem_append.2 (.inl hb))),RowS.kept hV h2 (fun b hb=>hk b (List.mem_append.2 (.inr hb)))⟩
theorem RowS.focus (hlen:∀ w x v S,V w x v S→v.length=sz) (hV:∀ w w' x v S,V w x v S→(∀ b∈S,w'.heap[b]?=w.heap[b]?)→V w' x v S):∀ {es:List α} {xs:List Value} {S:List Nat} {j:Nat} {e:α},RowS V w es xs S→es[j]?=some e→
    ∃ v Sj S1 S2 xa xb,xs=xa++v++xb∧xa.length=j*sz∧S=S1++Sj++S2∧V w e v Sj∧
      ∀ (w':World) (e':α) (v':List Value),V w' e' v' Sj→(∀ b∈S1++S2,w'.heap[b]?=w.heap[b]?)→RowS V w' (es.set j e') (xa++v'++xb) S
  | [],xs,S,j,e,h,hj=>by simp at hj
  | x::r,xs,S,0,e,h,hj=>by
    obtain⟨v,S1,xr,Sr,rfl,rfl,h1,h2⟩:=h
    simp only [List.getElem?_cons_zero,Option.some.injEq] at hj
    subst hj
    refine⟨v,S1,[],Sr,[],xr,by simp,by simp,by simp,h1,fun w' e' v' hv' hk=>?_⟩
    refine⟨v',S1,xr,Sr,by simp,rfl,hv',RowS.kept hV h2 fun b hb=>hk b (by simpa using hb)⟩
  | x::r,xs,S,j+1,e,h,hj=>by
    obtain⟨v,S1,xr,Sr,rfl,rfl,h1,h2⟩:=h
    obtain⟨u,Sj,T1,T2,xa,xb,rfl,h3,rfl,h4,h5⟩:=RowS.focus hlen hV h2 (by simpa using hj)
    refine⟨u,Sj,S1++T1,T2,v++xa,xb,by simp,by rw [List.length_append,hlen _ _ _ _ h1,h3,Nat.succ_mul];omega,by simp,h4,fun w' e' v' hv' hk=>?_⟩
    refine⟨v,S1,xa++v'++xb,T1++Sj++T2,by simp,by simp,hV _ _ _ _ _ h1 fun b hb=>hk b (by simp [hb]),?_⟩
    exact h5 w' e' v' hv' fun b hb=>hk b (by simp only [List.mem_append] at hb ⊢;rcases hb with h|h;exact .inl (.inr h);exact .inr h)
def RowT {α:Type} (V:World→α→List Value→List Nat→Prop) (E sz:Nat) (w:World) (oa:Option Addr) (cap:Nat) (es:List α) (S:List Nat):Prop:=∃ xs S',w.ownsRow 0 E sz (.slice oa es.length cap) es.length xs∧S=obk oa++S'∧RowS V w es xs S'
theorem RowT.focus {E:Nat} (hsz:0<sz) (hlen:∀ w x v S,V w x v S→v.length=sz) (hV:∀ w w' x v S,V w x v S→(∀ b∈S,w'.heap[b]?=w.heap[b]?)→V w' x v S) {oa:Option Addr} {cap:Nat} {es:List α} {S:List Nat} {j:Nat} {e:α} (h:RowT V E sz w oa cap es S) (hS:S.Nodup) (hj:es[j]?=some e) :
    ∃ b v Sj S1 S2,oa=some ⟨b,0,none⟩∧b<w.heap.size∧S=[b]++(S1++Sj++S2)∧V w e v Sj∧(∀ i u,v[i]?=some u→w.cell? ⟨b,j*sz+i,none⟩=some u)∧(∀ i,w.frozen? ⟨b,i,none⟩=false)∧
      (∀ (i:Nat) (u:Value) (e':α),i<sz→V w e' (v.set i u) Sj→RowT V E sz (w.setCell ⟨b,j*sz+i,none⟩ u) oa cap (es.set j e') S)∧
      (∀ (w':World) (e':α),V w' e' v Sj→w.heap.size≤w'.heap.size→(∀ k,k<w.heap.size→k∉Sj→w'.heap[k]?=w.heap[k]?)→(∀ k∈S,k<w.heap.size)→RowT V E sz w' oa cap (es.set j e') S):=by
  obtain⟨xs,S',ho,rfl,hr⟩:=h
  obtain⟨v,Sj,S1,S2,xa,xb,rfl,hxa,rfl,hv,hput⟩:=RowS.focus hlen hV hr hj
  have hjl:=(List.getElem?_eq_some_iff.1 hj).1
  obtain⟨b,c,e0,-⟩:=own_form ho (by omega)
  simp only [Value.slice.injEq] at e0
  obtain⟨rfl,-,rfl⟩:=e0
  have hvl:=hlen _ _ _ _ hv
  have hnd:=List.nodup_append.1 hS
  have hbn:b∉S1++Sj++S2:=fun hb=>hnd.2.2 b (by simp [obk]) b hb rfl
  have hSj:∀ k∈Sj,k∉S1++S2:=by
    have h2:=hnd.2.1
    rw [List.nodup_append,List.nodup_append] at h2
    obtain⟨⟨-,-,q1⟩,-,q2⟩:=h2
    intro k hk hk'
    rcases List.mem_append.1 hk' with h|h
    · exact q1 k h k hk rfl
    · exact q2 k (List.mem_append.2 (.inr hk)) k h rfl
  refine⟨b,v,Sj,S1,S2,rfl,(owns_lt ho b (by simp [obk])).2,rfl,hv,fun i u hi=>?_,fun i=>World.ownsRow.frozenAt ho i,fun i u e' hi hv'=>?_,fun w' e' hv' hle hk hlt=>?_⟩
  · have hil:=(List.getElem?_eq_some_iff.1 hi).1
    refine own_cell ho ?_
    rw [List.append_assoc,List.getElem?_append_right (by omega),hxa,Nat.add_sub_cancel_left,List.getElem?_append_left hil]
    exact hi
  · have hst:=World.ownsRow.stored ho (j*sz+i) u
    refine⟨xa++v.set i u++xb,S1++Sj++S2,?_,rfl,?_⟩
    · rw [List.length_set]
      have e1:(xa++v++xb).set (j*sz+i) u=xa++v.set i u++xb:=by
        rw [List.append_assoc,List.set_append_right _ _ (by omega),hxa,Nat.add_sub_cancel_left,List.set_append_left _ _ (by omega),← List.append_assoc]
      rw [← e1]
      exact hst.1
    · have same:∀ k∈S1++Sj++S2,(w.setCell ⟨b,j*sz+i,none⟩ u).heap[k]?=w.heap[k]?:=fun k hk=>Below.heap_setCell w _ u k (by rintro rfl;exact hbn hk)
      exact hput _ e' _ (hV _ _ _ _ _ hv' fun k hk=>same k (by simp [hk])) fun k hk=>same k (by simp only [List.mem_append] at hk ⊢;rcases hk with h|h;exact .inl (.inl h);exact .inr h)
  · have same:∀ k∈[b]++(S1++S2),w'.heap[k]?=w.heap[k]?:=fun k hkm=>by
      have hin:k∈obk (some (⟨b,0,none⟩:Addr))++(S1++Sj++S2):=by
        simp only [obk,List.mem_append,List.mem_singleton] at hkm ⊢
        rcases hkm with h|h|h
        · exact .inl h
        · exact .inr (.inl (.inl h))
        · exact .inr (.inr h)
      refine hk k (hlt k hin) fun hkj=>?_
      simp only [List.mem_append,List.mem_singleton] at hkm
      rcases hkm with rfl|h
      · exact hbn (by simp [hkj])
      · exact hSj k hkj (by simpa using h)
    refine⟨xa++v++xb,S1++Sj++S2,?_,rfl,?_⟩
    · rw [List.length_set]
      exact owns_kept ho fun k hk=>same k (by simp [obk] at hk;simp [hk])
    · exact hput w' e' v hv' fun k hk=>same k (by simp at hk ⊢;exact .inr hk)
end
theorem exR_row {tE:Nat} {w:World} {oa:Option Addr} {cap:Nat} {es:List Ex} {S:List Nat}:ExR tE w oa cap es S↔RowT (ExS tE) tE 6 w oa cap es S:=by
  simp only [ExR,RowT,exSs_row]
theorem smR_row {tE tS:Nat} {w:World} {oa:Option Addr} {cap:Nat} {es:List Sm} {S:List Nat}:SmR tE tS w oa cap es S↔RowT (SmS tE tS) tS 7 w oa cap es S:=by
  simp only [SmR,RowT,smSs_row]
theorem thR_row {tE tS tD tT:Nat} {w:World} {oa:Option Addr} {cap:Nat} {es:List Th} {S:List Nat}:ThR tE tS tD tT w oa cap es S↔RowT (ThS tE tS tD) tT 4 w oa cap es S:=by
  simp only [ThR,RowT,thSs_row]
section
variable {w0 w w':World} {M:List Nat} {hs:List Res}
variable {P:Program} {n:Fr} {L:List Oper} {Q:Exit→Act→World→Prop} {kn:Kn} {N:Act→World→Prop}
variable {d ty:Nat} {pos:String} {aft:Array Edge} {g:Option (Nat×Bool)}
theorem e_stT (st:St w0 M hs w) (i:Nat) {x y:Operand} {T b off:Nat} {v:Value} {S:List Nat} {φ ψ:World→Prop} (hw:gd L kn g=some true) (hx:evO kn x=some (.pointer (some ⟨b,off,none⟩)))
    (hy:evO kn y=some v) (h1:v.oneCell'=true) (hsz:∀ w,(Go.sizeOf T).run P w=.ok 1 w) (hi:nth hs i=some (.tree S φ)) (hb:b∈S) (hm:b∈M∨w0.heap.size≤b)
    (hc:∃ u,w.cell? ⟨b,off,none⟩=some u) (hf:w.frozen? ⟨b,off,none⟩=false) (hψ:ψ (w.setCell ⟨b,off,none⟩ v)) (hψl:Loc S ψ)
    (next:∀ w',St w0 M (setNth hs i (.tree S ψ)) w'→vN n N kn w'):vS P n L Q (⟨none,.store T x y,ty,pos,aft,g⟩) N kn w:=by
  obtain⟨u,hc⟩:=hc
  have hcs:v.cells=#[v]:=by cases v <;> first|rfl|(simp [Value.oneCell'] at h1)
  have hc9:=Chg.setCell w ⟨b,off,none⟩ v
  have hlt:∀ k∈S,k<w.heap.size:=(st.res hi).2.1
  refine e_do hw rfl (w':=w.setCell ⟨b,off,none⟩ v) (fun a ha=>?_) (next _ (st.swap hi hc9 (fun k hk=>by simp at hk;subst hk;exact hb) (fun k hk=>by simp at hk;subst hk;exact hm) (fun k hk=>.inl hk) ⟨hψ,fun k hk=>Nat.lt_of_lt_of_le (hlt k hk) hc9.size,hψl⟩))
  simp only [execOp,ha.ev hx,ha.ev hy]
  have hst:(store ⟨b,off,none⟩ v).run P w=.ok () (w.setCell ⟨b,off,none⟩ v):=by
    cases v <;> first|(simp [Value.oneCell'] at h1;done)|simp [store,Sem.run,hc,hf]
  have key:(storeVar T ⟨b,off,none⟩ v).run P w=.ok () (w.setCell ⟨b,off,none⟩ v):=by
    simp only [storeVar,Sem.run_bind,hsz,Result.andThen_ok,hcs]
    simp [storeCells,addr_add0,hst]
  simp only [Instr.storeAt,Instr.sureAddr,Sem.run_bind,Sem.run_pure,Result.andThen_ok,key]
end
end Sx
/- The engine,twenty-third part: the rows of the language's trees,one of a row written over. -/
namespace Sx
open Go Go.RowKit
def Ex.setNm (s:List UInt8):Ex→Ex | .mk k op wd _ kids a=>.mk k op wd s kids a
def Ex.setAt (a:Int):Ex→Ex | .mk k op wd nm kids _=>.mk k op wd nm kids a
def Ex.setKids (kids:List Ex):Ex→Ex | .mk k op wd nm _ a=>.mk k op wd nm kids a
def Sm.setNm (s:List UInt8):Sm→Sm | .mk k _ o e b l a=>.mk k s o e b l a
def Sm.setOther (s:List UInt8):Sm→Sm | .mk k n _ e b l a=>.mk k n s e b l a
def Sm.setE (x:List Ex):Sm→Sm | .mk k n o _ b l a=>.mk k n o x b l a
def Sm.setBody (x:List Sm):Sm→Sm | .mk k n o e _ l a=>.mk k n o e x l a
def Sm.setEls (x:List Sm):Sm→Sm | .mk k n o e b _ a=>.mk k n o e b x a
def Sm.setAt (a:Int):Sm→Sm | .mk k n o e b l _=>.mk k n o e b l a
def Th.setNm (s:List UInt8) (t:Th):Th:={t with nm:=s}
def Th.setAt (a:Int) (t:Th):Th:={t with a:=a}
def Th.setLocals (l:List Dc) (t:Th):Th:={t with locals:=l}
def Th.setBody (b:List Sm) (t:Th):Th:={t with body:=b}
section
variable {tE tS tD tT:Nat} {w w':World}
structure RowAt (w:World) (b:Nat) (S:List Nat):Prop where
  mem:b∈S
  lt:b<w.heap.size
  fz:∀ i,w.frozen? ⟨b,i,none⟩=false
theorem exR_focus {oa:Option Addr} {cap:Nat} {es:List Ex} {S:List Nat} {j:Nat} {e:Ex} (h:ExR tE w oa cap es S) (hS:S.Nodup) (hj:es[j]?=some e) :
    ∃ b o c Sj,oa=some ⟨b,0,none⟩∧RowAt w b S∧(∀ i u,([.int .u8 e.k,.int .u8 e.op,.int .i64 e.wd,str e.nm,.slice o e.kids.length c,.int .i64 e.a]:List Value)[i]?=some u→w.cell? ⟨b,j*6+i,none⟩=some u)∧ExR tE w o c e.kids Sj∧Sj.Nodup∧(∀ k∈Sj,k∈S)∧
      (∀ s,ExR tE (w.setCell ⟨b,j*6+3,none⟩ (str s)) oa cap (es.set j (e.setNm s)) S)∧(∀ a,ExR tE (w.setCell ⟨b,j*6+5,none⟩ (.int .i64 a)) oa cap (es.set j (e.setAt a)) S)∧
      (∀ (w':World) kids,kids.length=e.kids.length→ExR tE w' o c kids Sj→Chg Sj w w'→ExR tE w' oa cap (es.set j (e.setKids kids)) S):=by
  have hlt:∀ k∈S,k<w.heap.size:=h.lt
  obtain⟨b,v,Sj,S1,S2,ho,hbl,hSe,hv,hcell,hfz,hset,hsub⟩:=RowT.focus (V:=ExS tE) (by omega) (fun w x v S h=>h.len) (fun w w' x v S h hk=>h.kept hk) (exR_row.1 h) hS hj
  obtain⟨o,c,rfl,hk⟩:=ExS_iff.1 hv
  subst hSe
  have hSj:Sj.Nodup:=by
    have:=(List.nodup_append.1 hS).2.1
    exact(List.nodup_append.1 (List.nodup_append.1 this).1).2.1
  refine⟨b,o,c,Sj,ho,⟨by simp,hbl,hfz⟩,hcell,hk,hSj,fun k hk=>by simp [hk],fun s=>?_,fun a=>?_,fun w' kids hl hk' hc=>?_⟩
  · refine exR_row.2 (hset 3 _ _ (by omega) (ExS_iff.2 ?_))
    cases e;exact⟨o,c,rfl,hk⟩
  · refine exR_row.2 (hset 5 _ _ (by omega) (ExS_iff.2 ?_))
    cases e;exact⟨o,c,rfl,hk⟩
  · refine exR_row.2 (hsub w' _ (ExS_iff.2 ?_) hc.size (fun k hk hn=>hc.block k hk hn) hlt)
    cases e with
    | mk k op wd nm ks a=>
      simp only [Ex.kids] at hl
      refine⟨o,c,?_,hk'⟩
      simp only [Ex.setKids,Ex.k,Ex.op,Ex.wd,Ex.nm,Ex.kids,Ex.a,hl]
theorem smR_focus {oa:Option Addr} {cap:Nat} {es:List Sm} {S:List Nat} {j:Nat} {e:Sm} (h:SmR tE tS w oa cap es S) (hS:S.Nodup) (hj:es[j]?=some e) :
    ∃ b oe ce ob cb ol cl Se Sb Sl,oa=some ⟨b,0,none⟩∧RowAt w b S∧(∀ i u,([.int .u8 e.k,str e.nm,str e.other,.slice oe e.e.length ce,.slice ob e.body.length cb,.slice ol e.els.length cl,.int .i64 e.a]:List Value)[i]?=some u→w.cell? ⟨b,j*7+i,none⟩=some u)∧
      ExR tE w oe ce e.e Se∧SmR tE tS w ob cb e.body Sb∧SmR tE tS w ol cl e.els Sl∧Se.Nodup∧Sb.Nodup∧Sl.Nodup∧(∀ k∈Se,k∈S)∧(∀ k∈Sb,k∈S)∧(∀ k∈Sl,k∈S)∧
      (∀ s,SmR tE tS (w.setCell ⟨b,j*7+1,none⟩ (str s)) oa cap (es.set j (e.setNm s)) S)∧(∀ s,SmR tE tS (w.setCell ⟨b,j*7+2,none⟩ (str s)) oa cap (es.set j (e.setOther s)) S)∧(∀ a,SmR tE tS (w.setCell ⟨b,j*7+6,none⟩ (.int .i64 a)) oa cap (es.set j (e.setAt a)) S)∧
      (∀ (w':World) x,x.length=e.e.length→ExR tE w' oe ce x Se→Chg Se w w'→SmR tE tS w' oa cap (es.set j (e.setE x)) S)∧
      (∀ (w':World) x,x.length=e.body.length→SmR tE tS w' ob cb x Sb→Chg Sb w w'→SmR tE tS w' oa cap (es.set j (e.setBody x)) S)∧
      (∀ (w':World) x,x.length=e.els.length→SmR tE tS w' ol cl x Sl→Chg Sl w w'→SmR tE tS w' oa cap (es.set j (e.setEls x)) S):=by
  have hlt:∀ k∈S,k<w.heap.size:=h.lt
  obtain⟨b,v,Sj,S1,S2,ho,hbl,hSe,hv,hcell,hfz,hset,hsub⟩:=RowT.focus (V:=SmS tE tS) (by omega) (fun w x v S h=>h.len) (fun w w' x v S h hk=>h.kept hk) (smR_row.1 h) hS hj
  obtain⟨oe,ce,ob,cb,ol,cl,Se,Sb,Sl,rfl,he,hb,hl,rfl⟩:=SmS_iff.1 hv
  subst hSe
  have hn1:=(List.nodup_append.1 (List.nodup_append.1 (List.nodup_append.1 hS).2.1).1).2.1
  obtain⟨ne,hn2,d1⟩:=List.nodup_append.1 hn1
  obtain⟨nb,nl,d2⟩:=List.nodup_append.1 hn2
  have len2:∀ {A B:List Nat},(∀ a∈A,∀ b∈B,a≠b)→∀ k∈B,k∉A:=fun h k hk hk'=>h k hk' k hk rfl
  refine⟨b,oe,ce,ob,cb,ol,cl,Se,Sb,Sl,ho,⟨by simp,hbl,hfz⟩,hcell,he,hb,hl,ne,nb,nl,fun k hk=>by simp [hk],fun k hk=>by simp [hk],fun k hk=>by simp [hk],fun s=>?_,fun s=>?_,fun a=>?_,fun w' x hx hx' hc=>?_,fun w' x hx hx' hc=>?_,fun w' x hx hx' hc=>?_⟩
  · refine smR_row.2 (hset 1 _ _ (by omega) (SmS_iff.2 ?_))
    cases e;exact⟨oe,ce,ob,cb,ol,cl,Se,Sb,Sl,rfl,he,hb,hl,rfl⟩
  · refine smR_row.2 (hset 2 _ _ (by omega) (SmS_iff.2 ?_))
    cases e;exact⟨oe,ce,ob,cb,ol,cl,Se,Sb,Sl,rfl,he,hb,hl,rfl⟩
  · refine smR_row.2 (hset 6 _ _ (by omega) (SmS_iff.2 ?_))
    cases e;exact⟨oe,ce,ob,cb,ol,cl,Se,Sb,Sl,rfl,he,hb,hl,rfl⟩
  · have hb':=hb.kept (w':=w') fun k hk=>hc.block k (hb.lt k hk) (fun hk'=>d1 k hk' k (by simp [hk]) rfl)
    have hl':=hl.kept (w':=w') fun k hk=>hc.block k (hl.lt k hk) (fun hk'=>d1 k hk' k (by simp [hk]) rfl)
    refine smR_row.2 (hsub w' _ (SmS_iff.2 ?_) hc.size (fun k hk hn=>hc.block k hk (fun h=>hn (by simp [h]))) hlt)
    cases e with
    | mk k nm other xe bd el a=>
      simp only [Sm.e] at hx
      refine⟨oe,ce,ob,cb,ol,cl,Se,Sb,Sl,?_,hx',hb',hl',rfl⟩
      simp only [Sm.setE,Sm.k,Sm.nm,Sm.other,Sm.e,Sm.body,Sm.els,Sm.a,hx]
  · have he':=he.kept (w':=w') fun k hk=>hc.block k (he.lt k hk) (fun hk'=>d1 k hk k (by simp [hk']) rfl)
    have hl':=hl.kept (w':=w') fun k hk=>hc.block k (hl.lt k hk) (fun hk'=>d2 k hk' k hk rfl)
    refine smR_row.2 (hsub w' _ (SmS_iff.2 ?_) hc.size (fun k hk hn=>hc.block k hk (fun h=>hn (by simp [h]))) hlt)
    cases e with
    | mk k nm other xe bd el a=>
      simp only [Sm.body] at hx
      refine⟨oe,ce,ob,cb,ol,cl,Se,Sb,Sl,?_,he',hx',hl',rfl⟩
      simp only [Sm.setBody,Sm.k,Sm.nm,Sm.other,Sm.e,Sm.body,Sm.els,Sm.a,hx]
  · have he':=he.kept (w':=w') fun k hk=>hc.block k (he.lt k hk) (fun hk'=>d1 k hk k (by simp [hk']) rfl)
    have hb':=hb.kept (w':=w') fun k hk=>hc.block k (hb.lt k hk) (fun hk'=>d2 k hk k hk' rfl)
    refine smR_row.2 (hsub w' _ (SmS_iff.2 ?_) hc.size (fun k hk hn=>hc.block k hk (fun h=>hn (by simp [h]))) hlt)
    cases e with
    | mk k nm other xe bd el a=>
      simp only [Sm.els] at hx
      refine⟨oe,ce,ob,cb,ol,cl,Se,Sb,Sl,?_,he',hb',hx',rfl⟩
      simp only [Sm.setEls,Sm.k,Sm.nm,Sm.other,Sm.e,Sm.body,Sm.els,Sm.a,hx]
theorem thR_focus {oa:Option Addr} {cap:Nat} {es:List Th} {S:List Nat} {j:Nat} {e:Th} (h:ThR tE tS tD tT w oa cap es S) (hS:S.Nodup) (hj:es[j]?=some e) :
    ∃ b ol cl ob cb Sl Sb,oa=some ⟨b,0,none⟩∧RowAt w b S∧(∀ i u,([str e.nm,.slice ol e.locals.length cl,.slice ob e.body.length cb,.int .i64 e.a]:List Value)[i]?=some u→w.cell? ⟨b,j*4+i,none⟩=some u)∧
      DcR tD w ol cl e.locals Sl∧SmR tE tS w ob cb e.body Sb∧Sl.Nodup∧Sb.Nodup∧(∀ k∈Sl,k∈S)∧(∀ k∈Sb,k∈S)∧
      (∀ s,ThR tE tS tD tT (w.setCell ⟨b,j*4+0,none⟩ (str s)) oa cap (es.set j (e.setNm s)) S)∧(∀ a,ThR tE tS tD tT (w.setCell ⟨b,j*4+3,none⟩ (.int .i64 a)) oa cap (es.set j (e.setAt a)) S)∧
      (∀ (w':World) x,x.length=e.locals.length→DcR tD w' ol cl x Sl→Chg Sl w w'→ThR tE tS tD tT w' oa cap (es.set j (e.setLocals x)) S)∧
      (∀ (w':World) x,x.length=e.body.length→SmR tE tS w' ob cb x Sb→Chg Sb w w'→ThR tE tS tD tT w' oa cap (es.set j (e.setBody x)) S):=by
  have hlt:∀ k∈S,k<w.heap.size:=h.lt
  obtain⟨b,v,Sj,S1,S2,ho,hbl,hSe,hv,hcell,hfz,hset,hsub⟩:=RowT.focus (V:=ThS tE tS tD) (by omega) (fun w x v S h=>h.len) (fun w w' x v S h hk=>h.kept hk) (thR_row.1 h) hS hj
  obtain⟨ol,cl,ob,cb,Sl,Sb,rfl,hl,hb,rfl⟩:=hv
  subst hSe
  have hn1:=(List.nodup_append.1 (List.nodup_append.1 (List.nodup_append.1 hS).2.1).1).2.1
  obtain⟨nl,nb,d1⟩:=List.nodup_append.1 hn1
  refine⟨b,ol,cl,ob,cb,Sl,Sb,ho,⟨by simp,hbl,hfz⟩,hcell,hl,hb,nl,nb,fun k hk=>by simp [hk],fun k hk=>by simp [hk],fun s=>?_,fun a=>?_,fun w' x hx hx' hc=>?_,fun w' x hx hx' hc=>?_⟩
  · exact thR_row.2 (hset 0 _ _ (by omega) ⟨ol,cl,ob,cb,Sl,Sb,rfl,hl,hb,rfl⟩)
  · exact thR_row.2 (hset 3 _ _ (by omega) ⟨ol,cl,ob,cb,Sl,Sb,rfl,hl,hb,rfl⟩)
  · have hb':=hb.kept (w':=w') fun k hk=>hc.block k (hb.lt k hk) (fun hk'=>d1 k hk' k hk rfl)
    refine thR_row.2 (hsub w' (e.setLocals x) ⟨ol,cl,ob,cb,Sl,Sb,?_,hx',hb',rfl⟩ hc.size (fun k hk hn=>hc.block k hk (fun h=>hn (by simp [h]))) hlt)
    simp only [Th.setLocals,hx]
  · have hl':=hl.kept (w':=w') fun k hk=>hc.block k (hl.lt k hk) (fun hk'=>d1 k hk k hk' rfl)
    refine thR_row.2 (hsub w' (e.setBody x) ⟨ol,cl,ob,cb,Sl,Sb,?_,hl',hx',rfl⟩ hc.size (fun k hk hn=>hc.block k hk (fun h=>hn (by simp [h]))) hlt)
    simp only [Th.setBody,hx]
theorem dcs_set {ds:List Dc} {j i:Nat} {d:Dc} {u:Value} {d':Dc} (hj:ds[j]?=some d) (hi:i<3) (he:(dcL d).set i u=dcL d'):(ds.flatMap dcL).set (j*3+i) u=(ds.set j d').flatMap dcL:=by
  induction ds generalizing j with
  | nil=>simp at hj
  | cons x r ih=>
    rw [List.flatMap_cons]
    have h3:(dcL x).length=3:=rfl
    cases j with
    | zero=>
      simp only [List.getElem?_cons_zero,Option.some.injEq] at hj
      subst hj
      rw [show 0*3+i=i by omega,List.set_append_left _ _ (by omega),he];rfl
    | succ j=>
      rw [show (j+1)*3+i=(dcL x).length+(j*3+i) by omega,List.set_append_right _ _ (by omega),Nat.add_sub_cancel_left,ih (by simpa using hj)];rfl
theorem dcR_focus {oa:Option Addr} {cap:Nat} {es:List Dc} {S:List Nat} {j:Nat} {e:Dc} (h:DcR tD w oa cap es S) (hj:es[j]?=some e) :
    ∃ b,oa=some ⟨b,0,none⟩∧RowAt w b S∧(∀ i u,(dcL e)[i]?=some u→w.cell? ⟨b,j*3+i,none⟩=some u)∧
      (∀ s,DcR tD (w.setCell ⟨b,j*3+0,none⟩ (str s)) oa cap (es.set j {e with nm:=s}) S)∧(∀ a,DcR tD (w.setCell ⟨b,j*3+2,none⟩ (.int .i64 a)) oa cap (es.set j {e with a:=a}) S):=by
  obtain⟨ho,rfl⟩:=h
  have hjl:=(List.getElem?_eq_some_iff.1 hj).1
  obtain⟨b,c,e0,-⟩:=own_form ho (by omega)
  simp only [Value.slice.injEq] at e0
  obtain⟨rfl,-,rfl⟩:=e0
  have put:∀ (i:Nat) (u:Value) (e':Dc),i<3→(dcL e).set i u=dcL e'→DcR tD (w.setCell ⟨b,j*3+i,none⟩ u) (some ⟨b,0,none⟩) cap (es.set j e') (obk (some ⟨b,0,none⟩)):=fun i u e' hi he=>by
    have hst:=(World.ownsRow.stored ho (j*3+i) u).1
    rw [dcs_set hj hi he] at hst
    refine⟨?_,rfl⟩
    rw [List.length_set];exact hst
  refine⟨b,rfl,⟨by simp [obk],(owns_lt ho b (by simp [obk])).2,fun i=>World.ownsRow.frozenAt ho i⟩,fun i u hi=>?_,fun s=>put 0 _ _ (by omega) rfl,fun a=>put 2 _ _ (by omega) rfl⟩
  have hr:=rowC_own (S:=fun _=>True) ho (fun _ _=>trivial)
  rcases hr with h0|⟨b',off,e1,-,-,hc⟩
  · omega
  · simp only [Option.some.injEq,Addr.mk.injEq,and_true] at e1
    obtain⟨rfl,rfl⟩:=e1
    have:=(hc j hjl).2 i u (by dsimp only;rw [dcs_chunk hj];exact hi)
    rwa [Nat.zero_add] at this
end
theorem St.within {w0 w w':World} {M S Sj:List Nat} {hs:List Res} {φ ψ:World→Prop} (st:St w0 M (.tree S φ::hs) w) (c:Chg Sj w w') (hj:∀ k∈Sj,k∈S) (hM:∀ k∈S,k∈M∨w0.heap.size≤k) (hψ:ψ w') (hl:Sx.Loc S ψ):St w0 M (.tree S ψ::hs) w':=by
  have h:=st.res (i:=0) rfl
  exact st.swap (i:=0) (r':=.tree S ψ) rfl c hj (fun k hk=>hM k (hj k hk)) (fun k hk=>.inl hk) ⟨hψ,fun k hk=>Nat.lt_of_lt_of_le (h.2.1 k hk) c.size,hl⟩
theorem St.split {w0 w:World} {M S T:List Nat} {hs:List Res} {χ φ ψ:World→Prop} (st:St w0 M (.tree (S++T) χ::hs) w) (hn:(S++T).Nodup) (h1:φ w) (h2:ψ w) (k1:Sx.Loc S φ) (k2:Sx.Loc T ψ):St w0 M (.tree S φ::.tree T ψ::hs) w:=by
  have h:=st.res (i:=0) rfl
  have hnd:=List.pairwise_cons.1 st.nodup
  refine⟨st.chg,List.pairwise_cons.2 ⟨fun x hx=>?_,List.pairwise_cons.2 ⟨fun x hx k hk=>hnd.1 x hx k (List.mem_append.2 (.inr hk)),hnd.2⟩⟩,fun x hx=>?_⟩
  · rcases List.mem_cons.1 hx with rfl|hx
    · exact fun k hk hk'=>(List.nodup_append.1 hn).2.2 k hk k hk' rfl
    · exact fun k hk=>hnd.1 x hx k (List.mem_append.2 (.inl hk))
  · rcases List.mem_cons.1 hx with rfl|hx
    · exact⟨h1,fun k hk=>h.2.1 k (List.mem_append.2 (.inl hk)),k1⟩
    · rcases List.mem_cons.1 hx with rfl|hx
      · exact⟨h2,fun k hk=>h.2.1 k (List.mem_append.2 (.inr hk)),k2⟩
      · exact st.here x (.tail _ hx)
end Sx
/- A map that counts words: its keys in the order of their birth;a range over it. -/
namespace Sx
open Go Go.RowKit
abbrev Wd:=List UInt8
structure Ents (es:List MapEntry) (ks:List Wd):Prop where
  key:es.map (·.key)=ks.map str
  val:∀ e∈es,∃ c,e.val=.int .i64 c
  born:∀ (i:Nat) (e:MapEntry),es[i]?=some e→e.born=i
theorem bytes_beq (s t:Wd):((⟨s.toArray⟩:ByteArray) == ⟨t.toArray⟩)=decide (s=t):=by
  show (s.toArray == t.toArray)=_
  rw [Bool.eq_iff_iff];simp
section
variable {P:Program} {n:Fr} {L:List Oper} {Q:Exit→Act→World→Prop} {kn:Kn} {w0 w:World} {M:List Nat} {hs:List Res} {N:Act→World→Prop}
variable {d ty:Nat} {pos:String} {aft:Array Edge} {g:Option (Nat×Bool)}
theorem checkKey_str {k:Nat} (hk:P.underlying k=some .string) (em:Bool) (s:Wd) (w:World):(Instr.checkKey em 10000 k (str s)).run P w=.ok () w:=by
  show (Instr.checkKey em (9999+1) k (str s)).run P w=_
  unfold Instr.checkKey
  simp [Sem.run_bind,underlying,Sem.run,hk,Result.andThen,str]
theorem findKey_str {k:Nat} (hk:P.underlying k=some .string) {s:Wd} {es:List MapEntry} {r:Option (Nat×Value)} (h:Instr.findNow .string (str s) es 0=some r) (w:World):(Instr.findKey k (str s) es).run P w=.ok r w:=by
  simp [Instr.findKey,Sem.run_bind,underlying,Sem.run,hk,Result.andThen,h]
theorem setObj_chg {b:Nat} {o o':Obj} (hb:w.heap[b]?=some o) (hn:∀ c e f,o≠.cells c e f):(setObj b o').run P w=.ok () (ChangeMaps.setBlock w b o')∧Chg [b] w (ChangeMaps.setBlock w b o')∧(ChangeMaps.setBlock w b o').heap[b]?=some o':=by
  have hlt:=(Array.getElem?_eq_some_iff.1 hb).1
  refine⟨?_,⟨rfl,rfl,rfl,by simp [ChangeMaps.setBlock],fun i _ hi=>?_⟩,?_⟩
  · simp only [setObj,Sem.run,hb,ChangeMaps.setBlock]
    try (cases o <;> first|rfl|exact absurd rfl (hn _ _ _))
  · simp only [ChangeMaps.setBlock];rw [Array.getElem?_setIfInBounds_ne (fun e=>hi (by simp [e]))]
  · simp only [ChangeMaps.setBlock];rw [Array.getElem?_setIfInBounds_self_of_lt hlt]
end
end Sx
/- Calls that return or panic;what a caller hands on;a function that defers;a deferred closure that recovers. -/
namespace Sx
open Go Go.RowKit
abbrev pch (v:Value):List PanicEntry:=[{v:=v,recovered:=false}]
def RetP (P:Program) (f:FuncId) (vals:List Value) (w:World) (Φ Ψ:Value→World→Prop):Prop:=
  Calls P f vals.toArray w fun e w'=>(∃ v,e=.returned v∧Φ v w')∨∃ v,e=.panicked (pch v)∧Ψ v w'
section
variable {P:Program} {n:Fr} {L:List Oper} {Q:Exit→Act→World→Prop} {kn:Kn} {w w0:World} {M:List Nat} {hs:List Res} {rest:List Oper}
variable {d ty:Nat} {pos:String} {aft:Array Edge} {g:Option (Nat×Bool)}
variable {N:Act→World→Prop}
abbrev PanQ (n:Fr) (Q:Exit→Act→World→Prop) (v:Value) (w:World):Prop:=∀ a:Act,a.defers=n.2→Q (.panic (pch v)) a w
theorem e_callp' {o:Oper} {f:FuncId} {vals:List Value} {Φ Ψ:Value→World→Prop} (hw:gd L kn o.guard=some true) (hd:okDst n o.dst=true)
    (hrun:∀ a,K n kn a→(execOp a.eval o).run P w=.ok (.enter f vals.toArray) w)
    (c:RetP P f vals w Φ Ψ) (pan:∀ v w',Ψ v w'→PanQ n Q v w') (next:∀ v w',Φ v w'→vN n N (put o.dst v kn) w'):vS P n L Q o N kn w:=by
  intro a ha
  rw [if_pos (ha.gd hw)]
  refine .inl ?_
  unfold Oper.wp
  rw [hrun a ha]
  refine Calls.mono c ?_
  rintro e w' (⟨v,rfl,hv⟩|⟨v,rfl,hv⟩)
  · exact next v w' hv _ (ha.put hd v)
  · exact pan v w' hv a ha.defers
theorem e_callp {f:FuncId} {args:Array Operand} {tys:Array TypeId} (vals:List Value) {Φ Ψ:Value→World→Prop} (hw:gd L kn g=some true) (hd:okDst n (some d)=true)
    (hcall:∀ (az:Array Value) w,(callFunc f az).run P w=.ok (.enter f az) w)
    (hv:args.toList.map (evO kn)=vals.map some)
    (c:RetP P f vals w Φ Ψ) (pan:∀ v w',Ψ v w'→PanQ n Q v w') (next:∀ v w',Φ v w'→vN n N ((d,v)::kn) w') :
    vS P n L Q ⟨some d,.call ⟨.value (.func f),args,tys⟩,ty,pos,aft,g⟩ N kn w:=
  e_callp' (f:=f) (vals:=vals) hw hd (fun a ha=>by
    have hargs:=evs_map ha hv
    simp only [execOp,resolve,hargs,Act.eval]
    simp [Deferred.ofValue,invoke,hcall]) c pan next
theorem e_callvp {f:FuncId} {x:Operand} {first captured:List Value} {args:Array Operand} {tys:Array TypeId} (vals:List Value) {Φ Ψ:Value→World→Prop} (hw:gd L kn g=some true) (hd:okDst n (some d)=true)
    (hx:evO kn x=some (.func (.func f) first.toArray captured.toArray))
    (hcall:∀ (az:Array Value) w,(callFunc f az).run P w=.ok (.enter f az) w)
    (hv:args.toList.map (evO kn)=vals.map some)
    (c:RetP P f (first++vals++captured) w Φ Ψ) (pan:∀ v w',Ψ v w'→PanQ n Q v w') (next:∀ v w',Φ v w'→vN n N ((d,v)::kn) w') :
    vS P n L Q ⟨some d,.call ⟨.value x,args,tys⟩,ty,pos,aft,g⟩ N kn w:=
  e_callp' (f:=f) (vals:=first++vals++captured) hw hd (fun a ha=>by
    have hargs:=evs_map ha hv
    simp only [execOp,resolve,hargs,ha.ev hx]
    simp [Deferred.ofValue,invoke,hcall]) c pan next
theorem e_panic {o:Oper} {v:Value} (hw:gd L kn o.guard=some true) (hrun:∀ a,K n kn a→(execOp a.eval o).run P w=.halt (.panic v) w) (pan:PanQ n Q v w):vS P n L Q o N kn w:=by
  intro a ha
  rw [if_pos (ha.gd hw)]
  refine .inl ?_
  unfold Oper.wp
  rw [hrun a ha]
  exact pan a ha.defers
theorem e_panicI {x:Operand} {T:Nat} {v:Value} (hw:gd L kn g=some true) (hx:evO kn x=some (.iface T v)) (pan:PanQ n Q (.iface T v) w) {dst:Option Nat}:vS P n L Q ⟨dst,.panic x,ty,pos,aft,g⟩ N kn w:=
  e_panic hw (fun a ha=>by simp only [execOp,ha.ev hx];simp [Instr.panic,goPanic,Sem.run];try rfl) pan
theorem retp_of {m:Nat} {f:FuncId} {fn:Func} {c:Code} (vals:List Value) {Φ Ψ:Value→World→Prop} (hf:P.funcs[f]?=some fn) (hb:fn.body=some c) (hn:fn.ntmps=m) (hle:Nat.ble vals.length m=true)
    (h:vcC P (m,[]) c (bodyPost P fn fun e w'=>(∃ v,e=.returned v∧Φ v w')∨∃ v,e=.panicked (pch v)∧Ψ v w') (enumKn 0 vals) w):RetP P f vals w Φ Ψ:=vc_enter hf hb hn hle h
theorem y_mki {T:Nat} {x:Operand} {v:Value} {fs:Array Field} (hx:evO kn x=some v) (ht:P.underlying T=some (.struct fs)):Y P n kn w ⟨some d,.makeInterface T x,ty,pos,aft,g⟩ (.iface T v):=fun a ha=>by
  simp only [execOp,ha.ev hx]
  simp [Instr.makeInterface,run_underlying ht]
theorem e_defer {o:Oper} {D:Deferred} {m:Nat} {ds:List Deferred} (hn:n=(m,ds)) (hw:gd L kn o.guard=some true) (hd:o.dst=none)
    (hrun:∀ a,K n kn a→(execOp a.eval o).run P w=.ok (.defer D) w) (next:vN (m,D::ds) N kn w):vS P n L Q o N kn w:=by
  subst hn
  intro a ha
  rw [if_pos (ha.gd hw)]
  refine .inl ?_
  unfold Oper.wp
  rw [hrun a ha]
  have h:=next {a with defers:=D::a.defers} ⟨by simp [ha.defers],ha.size,fun t v ht=>ha.get t v ht⟩
  simpa [Oper.upon,Act.put,hd] using h
theorem vcd_enter {m:Nat} {f:FuncId} {fn:Func} {c:Code} {vals:List Value} {R:Ending→World→Prop} (hf:P.funcs[f]?=some fn) (hb:fn.body=some c) (hn:fn.ntmps=m) (hle:Nat.ble vals.length m=true)
    (h:vcC P (m,[]) c (bodyPostD P fn R) (enumKn 0 vals) w):Calls P f vals.toArray w R:=by
  refine calls_of_wp_defers hf hb (h _ ?_)
  have hle':vals.length≤m:=by simpa [Nat.ble_eq] using hle
  refine⟨rfl,?_,?_⟩
  · simp only [Array.size_append,List.size_toArray,Array.size_replicate,hn];omega
  · intro t v ht
    obtain⟨h1,h2⟩:=find_enumKn vals 0 t v ht
    have hlt:t<vals.length:=by
      simp only [Nat.sub_zero] at h2
      exact(List.getElem?_eq_some_iff.1 h2).1
    simp only [Nat.sub_zero] at h2
    rw [Array.getElem?_append_left (by simpa using hlt)]
    simpa using h2
def DefIdle (P:Program) (f:FuncId) (args:Array Value) (w:World) (Φ:World→Prop):Prop:=
  CallsD P f args .returning w fun e u' w'=>(∃ v,e=.returned v)∧u'=.returning∧Φ w'
def DefCatch (P:Program) (f:FuncId) (args:Array Value) (v:Value) (w:World) (Φ:World→Prop):Prop:=
  CallsD P f args (.panicking (pch v)) w fun e u' w'=>(∃ v,e=.returned v)∧u'=.panicking [{v:=v,recovered:=true}]∧Φ w'
theorem vqd_ret {m:Nat} {fn:Func} {R:Ending→World→Prop} {e:Exit} {f:FuncId} {cap:List Value} {Φ:World→Prop} (he:e=.ret∨e=.normal)
    (hcall:∀ (az:Array Value) w,(callFunc f az).run P w=.ok (.enter f az) w)
    (h:DefIdle P f cap.toArray w Φ) (hres:∀ w',Φ w'→∃ v,(∀ a,K (m,[⟨.fn (.func f) cap.toArray,#[]⟩]) kn a→(results fn a.tmps).run P w'=.ok v w')∧R (.returned v) w') :
    vcQ (m,[⟨.fn (.func f) cap.toArray,#[]⟩]) (bodyPostD P fn R) e kn w:=by
  intro a ha
  have key:Leaves P fn a.tmps R a.defers .returning w:=by
    rw [ha.defers]
    refine leaves_cons (f:=f) (args:=cap.toArray) (by simp) (by simp [invoke,hcall]) (h.mono ?_)
    rintro e u' w' ⟨⟨v,rfl⟩,rfl,hΦ⟩
    obtain⟨r,h1,h2⟩:=hres w' hΦ
    exact⟨r,h1 a ha,h2⟩
  rcases he with rfl|rfl <;> exact key
abbrev entF (kvs:List (Wd×Value)):List MapEntry:=kvs.zipIdx.map fun p=>{key:=str p.1.1,val:=p.1.2,born:=p.2}
abbrev mapF (kvs:List (Wd×Value)):Obj:=.map (entF kvs).toArray kvs.length
def getF:List (Wd×Value)→Wd→Option Value
  | [],_=>none
  | (k,v)::r,s=>if s=k then some v else getF r s
theorem findNow_F (s:Wd):∀ (kvs:List (Wd×Value)) (j i:Nat),∃ m,Instr.findNow .string (str s) ((kvs.zipIdx j).map fun p=>({key:=str p.1.1,val:=p.1.2,born:=p.2}:MapEntry)) i=some ((getF kvs s).map fun v=>(m,v))
  | [],j,i=>⟨0,rfl⟩
  | (k,v)::r,j,i=>by
    by_cases hk:s=k
    · subst hk
      exact⟨i,by simp [Instr.findNow,Instr.sameNow,bytes_beq,getF]⟩
    · obtain⟨m,hm⟩:=findNow_F s r (j+1) (i+1)
      refine⟨m,?_⟩
      simp only [List.zipIdx_cons,List.map_cons,Instr.findNow,Instr.sameNow,bytes_beq,hk,decide_false,getF,if_false]
      exact hm
theorem e_mkF (st:St w0 M hs w) {T:Nat} (hw:gd L kn g=some true) (hd:okDst n (some d)=true)
    (next:∀ b w',w0.heap.size≤b→St w0 M (.blk b (mapF [])::hs) w'→vN n N ((d,.map (some b))::kn) w'):vS P n L Q (⟨some d,.makeMap T none,ty,pos,aft,g⟩) N kn w:=
  e_run (v:=.map (some w.heap.size)) (w':=w.alloc (.map #[] 0)) hw hd (fun a ha=>by
    simp only [execOp,Option.map_none];rfl) (next _ _ st.chg.size (st.pushR (Chg.alloc w _) (heap_alloc w _) (by simp [Res.at?])))
theorem e_muF (st:St w0 M hs w) (i:Nat) {T k e b:Nat} {x y z:Operand} {s:Wd} {v:Value} {kvs:List (Wd×Value)} (hw:gd L kn g=some true) (hx:evO kn x=some (.map (some b))) (hy:evO kn y=some (str s)) (hv:evO kn z=some v)
    (hi:nth hs i=some (.blk b (mapF kvs))) (hm:b∈M∨w0.heap.size≤b) (ht:P.underlying T=some (.map k e)) (hk:P.underlying k=some .string) (hno:getF kvs s=none)
    (next:∀ w',St w0 M (setNth hs i (.blk b (mapF (kvs++[(s,v)])))) w'→vN n N kn w'):vS P n L Q (⟨none,.mapUpdate T x y z,ty,pos,aft,g⟩) N kn w:=by
  have hb:w.heap[b]?=some (mapF kvs):=st.res hi
  obtain⟨m,hf⟩:=findNow_F s kvs 0 0
  rw [hno] at hf
  simp only [Option.map_none] at hf
  obtain⟨q1,q2,q3⟩:=setObj_chg (P:=P) (o':=mapF (kvs++[(s,v)])) hb (by simp)
  have hent:(entF kvs).toArray.push {key:=str s,val:=v,born:=kvs.length}=(entF (kvs++[(s,v)])).toArray:=by
    simp [entF,List.zipIdx_append]
  refine e_do (w':=ChangeMaps.setBlock w b (mapF (kvs++[(s,v)]))) hw rfl (fun a ha=>?_) (next _ (st.turn hi rfl rfl q2 hm q3))
  have hfk:=findKey_str (P:=P) hk hf w
  have hrun:(Instr.mapUpdate T (.map (some b)) (str s) v).run P w=.ok () (ChangeMaps.setBlock w b (mapF (kvs++[(s,v)]))):=by
    have e1:(kvs++[(s,v)]).length=kvs.length+1:=by simp
    simp only [mapF,← hent,e1] at q1 ⊢
    simp [Instr.mapUpdate,getObj,Sem.run_bind,underlying,Sem.run,ht,hb,Result.andThen,checkKey_str hk,hfk]
    simpa using q1
  simp only [execOp,ha.ev hx,ha.ev hy,ha.ev hv,Sem.run_bind,hrun,Result.andThen_ok];rfl
theorem e_inF (st:St w0 M hs w) (i:Nat) {T k e b:Nat} {x y z:Operand} {s:Wd} {v:Value} {kvs:List (Wd×Value)} (hw:gd L kn g=some true) (hx:evO kn x=some (.map (some b))) (hy:evO kn y=some (str s)) (hv:evO kn z=some v)
    (hi:nth hs i=some (.blk b (mapF kvs))) (hm:b∈M∨w0.heap.size≤b) (ht:P.underlying T=some (.map k e)) (hk:P.underlying k=some .string) (hno:getF kvs s=none)
    (next:∀ w',St w0 M (setNth hs i (.blk b (mapF (kvs++[(s,v)])))) w'→vN n N kn w'):vS P n L Q (⟨none,.insert T x y z,ty,pos,aft,g⟩) N kn w:=by
  have hb:w.heap[b]?=some (mapF kvs):=st.res hi
  obtain⟨m,hf⟩:=findNow_F s kvs 0 0
  rw [hno] at hf
  simp only [Option.map_none] at hf
  obtain⟨q1,q2,q3⟩:=setObj_chg (P:=P) (o':=mapF (kvs++[(s,v)])) hb (by simp)
  have hent:(entF kvs).toArray.push {key:=str s,val:=v,born:=kvs.length}=(entF (kvs++[(s,v)])).toArray:=by
    simp [entF,List.zipIdx_append]
  refine e_do (w':=ChangeMaps.setBlock w b (mapF (kvs++[(s,v)]))) hw rfl (fun a ha=>?_) (next _ (st.turn hi rfl rfl q2 hm q3))
  have hfk:=findKey_str (P:=P) hk hf w
  have hrun:(Instr.mapUpdate T (.map (some b)) (str s) v).run P w=.ok () (ChangeMaps.setBlock w b (mapF (kvs++[(s,v)]))):=by
    have e1:(kvs++[(s,v)]).length=kvs.length+1:=by simp
    simp only [mapF,← hent,e1] at q1 ⊢
    simp [Instr.mapUpdate,getObj,Sem.run_bind,underlying,Sem.run,ht,hb,Result.andThen,checkKey_str hk,hfk]
    simpa using q1
  simp only [execOp,ha.ev hx,ha.ev hy,ha.ev hv,Sem.run_bind,hrun,Result.andThen_ok];rfl
theorem e_lkF (st:St w0 M hs w) (i:Nat) {T k e b:Nat} {x y:Operand} {s:Wd} {z:Value} {kvs:List (Wd×Value)} (hw:gd L kn g=some true) (hd:okDst n (some d)=true) (hx:evO kn x=some (.map (some b))) (hy:evO kn y=some (str s))
    (hi:nth hs i=some (.blk b (mapF kvs))) (ht:P.underlying T=some (.map k e)) (hk:P.underlying k=some .string) (hz:∀ w,(zeroValue e).run P w=.ok z w)
    (next:vN n N ((d,.tuple [(getF kvs s).getD z,.bool (getF kvs s).isSome].toArray)::kn) w):vS P n L Q (⟨some d,.lookup T x y true,ty,pos,aft,g⟩) N kn w:=by
  have hb:w.heap[b]?=some (mapF kvs):=st.res hi
  obtain⟨m,hf⟩:=findNow_F s kvs 0 0
  refine e_run (v:=.tuple [(getF kvs s).getD z,.bool (getF kvs s).isSome].toArray) (w':=w) hw hd (fun a ha=>?_) next
  have hfk:=findKey_str (P:=P) hk hf w
  have hrun:(Instr.lookup T (.map (some b)) (str s) true).run P w=.ok (.tuple [(getF kvs s).getD z,.bool (getF kvs s).isSome].toArray) w:=by
    cases hg:getF kvs s with
    | none=>
      rw [hg] at hfk
      simp [Instr.lookup,getObj,Sem.run_bind,underlying,Sem.run,ht,hb,Result.andThen,checkKey_str hk,hfk,hz]
    | some u=>
      rw [hg] at hfk
      simp [Instr.lookup,getObj,Sem.run_bind,underlying,Sem.run,ht,hb,Result.andThen,checkKey_str hk,hfk]
  simp only [execOp,ha.ev hx,ha.ev hy,Sem.run_bind,hrun,Result.andThen_ok];rfl
end
end Sx
