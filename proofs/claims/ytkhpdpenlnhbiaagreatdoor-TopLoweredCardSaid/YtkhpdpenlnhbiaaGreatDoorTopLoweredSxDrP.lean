/- A part of the proof: contracts of functions and plain laws; each theorem says its own conditions. -/
import Derived.Test.YtkhpdpenlnhbiaaGreatDoorTopLoweredK2
import Derived.Test.YtkhpdpenlnhbiaaGreatDoorTopLoweredK7
/- The engine: drawn statements ahead of a deferred call,one of which may panic. -/
namespace Sx
open Go Go.RowKit
set_option linter.unusedVariables false
set_option linter.unusedSimpArgs false
def okD (L:List Oper) (Q:Exit→Act→World→Prop):Prop:=∀ o∈L,∀ (v:Value) c (a:Act) w,Q (.panic c) (a.put o.dst v) w→Q (.panic c) a w
theorem okD_then {L:List Oper} {K':Act→World→Prop} {Q:Exit→Act→World→Prop} (h:okD L Q):okD L (Exit.then K' Q):=h
theorem okD_block {L:List Oper} {i:Nat} {Q:Exit→Act→World→Prop} (h:okD L Q):okD L (Exit.inBlock i Q):=h
theorem leaves_res {P:Program} {fn:Func} {t t':Array Value} {R:Ending→World→Prop} (hr:∀ w v,(results fn t).run P w=.ok v w→(results fn t').run P w=.ok v w):∀ (ds:List Deferred) (u:FrameMode) (w:World),Leaves P fn t R ds u w→Leaves P fn t' R ds u w:=by
  intro ds
  induction ds with
  | nil=>
    intro u w h
    cases u with
    | run=>exact h.elim
    | returning=>obtain⟨v,h1,h2⟩:=h;exact⟨v,hr w v h1,h2⟩
    | panicking c=>exact h
  | cons d ds ih=>
    intro u w h
    obtain⟨hrun,fv,cap,f,args,htar,hinv,hcall⟩:=h
    refine⟨hrun,fv,cap,f,args,htar,hinv,hcall.mono ?_⟩
    intro e u' w' h
    cases e with
    | returned v=>exact ih _ _ h
    | panicked c=>exact ih _ _ h
    | outgrown=>exact h
theorem okD_bodyD {P:Program} {fn:Func} {R:Ending→World→Prop} {L:List Oper} {k1 k2 T1 T2:Nat} (hf:fn.results=#[.cell k1 T1,.cell k2 T2]) (hd:(L.all fun o=>o.dst != some k1 && o.dst != some k2)=true):okD L (bodyPostD P fn R):=by
  intro o ho v c a w h
  have hx:=List.all_eq_true.1 hd o ho
  simp only [Bool.and_eq_true,bne_iff_ne,ne_eq] at hx
  have hdf:(a.put o.dst v).defers=a.defers:=put_defers _ _ _
  have h':Leaves P fn (a.put o.dst v).tmps R (a.put o.dst v).defers (.panicking c) w:=h
  rw [hdf] at h'
  refine leaves_res (fun w v' hr=>?_) _ _ _ h'
  have key:∀ k T,o.dst≠some k→resOne (a.put o.dst v).tmps (.cell k T)=resOne a.tmps (.cell k T):=by
    intro k T hk
    cases hdst:o.dst with
    | none=>rfl
    | some d=>
      have hne:d≠k:=fun e=>hk (by rw [hdst,e])
      simp only [resOne,Act.put,Array.getD_eq_getD_getElem?,Array.getElem?_setIfInBounds,if_neg hne]
  rw [results_eq,hf] at hr ⊢
  simp only [List.mapM_toArray,List.mapM_cons,List.mapM_nil,key k1 T1 hx.1,key k2 T2 hx.2] at hr ⊢
  exact hr
section
variable {P:Program} {n:Fr} {L:List Oper} {Q:Exit→Act→World→Prop} {kn:Kn} {w:World} {S:World→Prop}
def vDp (P:Program) (n:Fr) (L:List Oper) (Q:Exit→Act→World→Prop) (S:World→Prop) (plan:Pl) (kn:Kn) (w:World):Prop:=
  ∀ a listed,okD L Q→Region.noSelect L.toArray=true→K n kn a→plOK L.toArray plan listed=true→wpAnyH P .any L.toArray Q S plan.len listed a w
def NDp (P:Program) (L:List Oper) (Q:Exit→Act→World→Prop) (S:World→Prop) (plan:Pl) (a:Act) (w:World):Prop:=
  S w∧(okD L Q→Region.noSelect L.toArray=true→∀ listed,plOK L.toArray plan listed=true→wpAnyH P .any L.toArray Q S plan.len listed a w)
theorem vdp_next {plan:Pl} (hS:S w) (h:S w→vDp P n L Q S plan kn w):vN n (NDp P L Q S plan) kn w:=fun a ha=>⟨hS,fun hQ hsel listed hl=>h hS a listed hQ hsel ha hl⟩
theorem vdp_end (h:vcQ n Q .normal kn w):vDp P n L Q S .done kn w:=fun a listed hQ hsel ha hl=>by
  simp only [plOK,List.isEmpty_iff] at hl
  exact⟨hl,h a ha⟩
theorem vdp_take {i:Nat} {o:Oper} {v:Value} {r:Pl} (hi:nth L i=some o) (hw:gd L kn o.guard=some true) (hd:okDst n o.dst=true)
    (hS:S w) (y:∀ w',S w'→Y P n kn w' o v) (next:vDp P n L Q S r (put o.dst v kn) w):vDp P n L Q S (.take i r) kn w:=by
  intro a listed hQ hsel ha hl
  simp only [plOK,Bool.and_eq_true] at hl
  rw [nth_eq] at hi
  exact wpAnyH_take (oi:=o) (v:=v) (by simpa using hi) hsel hl.1.2 hl.1.1 (fun c a w h=>hQ _ (List.mem_of_getElem? hi) _ c a w h)
    (.inl ⟨ha.gd hw,fun w' hS'=>y w' hS' a ha⟩) hS (next _ _ hQ hsel (ha.put hd v) hl.2)
theorem ndp_op {i:Nat} {o:Oper} {r:Pl} {a:Act} {listed:Array Bool} (hi:nth L i=some o) (e:vS P n L Q o (NDp P L Q S r) kn w) (ha:K n kn a) (hQ:okD L Q) (hsel:Region.noSelect L.toArray=true)
    (hl:plOK L.toArray r (listed.setIfInBounds i true)=true):wpOp P L.toArray Q i (fun a' w'=>S w'∧wpAnyH P .any L.toArray Q S r.len (listed.setIfInBounds i true) a' w') a w:=by
  rw [nth_eq] at hi
  have he:=e a ha
  unfold wpOp
  simp only [List.getElem?_toArray,hi]
  split
  · rename_i hw
    rw [if_pos hw] at he
    exact he.imp (Oper.wp_mono (fun a' w' h=>⟨h.1,h.2 hQ hsel _ hl⟩)) id
  · rename_i hw
    rw [if_neg hw] at he
    exact⟨he.1,he.2 hQ hsel _ hl⟩
theorem vdp_do {i:Nat} {o:Oper} {r:Pl} (hi:nth L i=some o) (e:vS P n L Q o (NDp P L Q S r) kn w):vDp P n L Q S (.one i r) kn w:=by
  intro a listed hQ hsel ha hl
  simp only [plOK,Bool.and_eq_true,beq_iff_eq] at hl
  refine wpAnyH_all hl.1 (by simp) (fun j hj=>?_)
  obtain rfl:j=i:=by simpa using hj
  exact ndp_op hi e ha hQ hsel hl.2
theorem vdp_draw {id:Nat} (hm:P.follows .mixedOrders=true) (plan:Pl) (S:World→Prop) (hS0:S w) (hsel:Region.noSelect L.toArray=true) (hQ:okD L Q) (hlen:plan.len=L.length) (hplan:plOK L.toArray plan (Array.replicate L.length false)=true)
    (h:∀ w',Chg [] w w'→vDp P n L Q S plan kn w'):vcC P n (.region id L.toArray true) Q kn w:=by
  intro a ha
  refine wp_region_held (S:=S) hm ?_
  have:=h w.drew (Chg.drew w) a (Array.replicate L.length false) hQ hsel ha hplan
  rw [hlen] at this
  rw [List.size_toArray]
  exact this
end
end Sx
