/- A part of the proof: contracts of functions and plain laws; each theorem says its own conditions. -/
import Derived.Test.YtkhpdpenlnhbiaaGreatDoorTopLoweredSxOps2
set_option linter.unusedVariables false
set_option linter.unusedSimpArgs false
/- The engine,third part: calls,the code's forms,loops,returns. -/
namespace Sx
open Go Go.RowKit
def Ret (P:Program) (f:FuncId) (vals:List Value) (w:World) (Φ:Value→World→Prop):Prop:=
  Calls P f vals.toArray w fun e w'=>∃ v,e=.returned v∧Φ v w'
theorem Ret.mono {P:Program} {f:FuncId} {vals:List Value} {w:World} {Φ Ψ:Value→World→Prop} (h:Ret P f vals w Φ) (hm:∀ v w',Φ v w'→Ψ v w'):Ret P f vals w Ψ:=
  Calls.mono h fun e w' ⟨v,he,hv⟩=>⟨v,he,hm v w' hv⟩
section
variable {P:Program} {n:Fr} {L:List Oper} {Q:Exit→Act→World→Prop} {kn:Kn} {w w0:World} {M:List Nat} {hs:List Res} {rest:List Oper}
variable {d ty:Nat} {pos:String} {aft:Array Edge} {g:Option (Nat×Bool)}
variable {N:Act→World→Prop}
theorem e_call' {o:Oper} {f:FuncId} {vals:List Value} {Φ:Value→World→Prop} (hw:gd L kn o.guard=some true) (hd:okDst n o.dst=true)
    (hrun:∀ a,K n kn a→(execOp a.eval o).run P w=.ok (.enter f vals.toArray) w)
    (c:Ret P f vals w Φ) (next:∀ v w',Φ v w'→vN n N (put o.dst v kn) w'):vS P n L Q o N kn w:=by
  intro a ha
  rw [if_pos (ha.gd hw)]
  refine .inl ?_
  unfold Oper.wp
  rw [hrun a ha]
  refine Calls.mono c ?_
  rintro e w' ⟨v,rfl,hv⟩
  exact next v w' hv _ (ha.put hd v)
theorem e_call {f:FuncId} {args:Array Operand} {tys:Array TypeId} (vals:List Value) {Φ:Value→World→Prop} (hw:gd L kn g=some true) (hd:okDst n (some d)=true)
    (hcall:∀ (az:Array Value) w,(callFunc f az).run P w=.ok (.enter f az) w)
    (hv:args.toList.map (evO kn)=vals.map some)
    (c:Ret P f vals w Φ) (next:∀ v w',Φ v w'→vN n N ((d,v)::kn) w') :
    vS P n L Q ⟨some d,.call ⟨.value (.func f),args,tys⟩,ty,pos,aft,g⟩ N kn w:=
  e_call' (f:=f) (vals:=vals) hw hd (fun a ha=>by
    have hargs:=evs_map ha hv
    simp only [execOp,resolve,hargs,Act.eval]
    simp [Deferred.ofValue,invoke,hcall]) c next
theorem e_callv {f:FuncId} {x:Operand} {first captured:List Value} {args:Array Operand} {tys:Array TypeId} (vals:List Value) {Φ:Value→World→Prop} (hw:gd L kn g=some true) (hd:okDst n (some d)=true)
    (hx:evO kn x=some (.func (.func f) first.toArray captured.toArray))
    (hcall:∀ (az:Array Value) w,(callFunc f az).run P w=.ok (.enter f az) w)
    (hv:args.toList.map (evO kn)=vals.map some)
    (c:Ret P f (first++vals++captured) w Φ) (next:∀ v w',Φ v w'→vN n N ((d,v)::kn) w') :
    vS P n L Q ⟨some d,.call ⟨.value x,args,tys⟩,ty,pos,aft,g⟩ N kn w:=
  e_call' (f:=f) (vals:=first++vals++captured) hw hd (fun a ha=>by
    have hargs:=evs_map ha hv
    simp only [execOp,resolve,hargs,ha.ev hx]
    simp [Deferred.ofValue,invoke,hcall]) c next
theorem vc_seq {x y:Code} (h:vcC P n x (Exit.then (y.wp P Q) Q) kn w):vcC P n (.seq x y) Q kn w:=fun a ha=>wp_seq (h a ha)
theorem vc_region {id:Nat} {L:List Oper} (h:vcL P n L Q L kn w):vcC P n (.region id L.toArray false) Q kn w:=fun a ha=>wp_region_lit (h a ha)
theorem vc_end (h:vcQ n Q .normal kn w):vcL P n L Q [] kn w:=fun a ha=>h a ha
theorem vc_code_skip (h:vcQ n Q .normal kn w):vcC P n .skip Q kn w:=fun a ha=>wp_skip (h a ha)
theorem vc_exit {i:Nat} (h:vcQ n Q (.exit i) kn w):vcC P n (.exit i) Q kn w:=fun a ha=>wp_exit (h a ha)
theorem vc_ret (h:vcQ n Q .ret kn w):vcC P n .ret Q kn w:=fun a ha=>wp_ret (h a ha)
theorem vc_block {i:Nat} {c:Code} (h:vcC P n c (Exit.inBlock i Q) kn w):vcC P n (.block i c) Q kn w:=fun a ha=>wp_block (h a ha)
theorem vc_ift {c:Operand} {x y:Code} (hc:evO kn c=some (.bool true)) (h1:vcC P n x Q kn w):vcC P n (.cond c x y) Q kn w:=
  fun a ha=>wp_cond_true (ha.ev hc) (h1 a ha)
theorem vc_iff {c:Operand} {x y:Code} (hc:evO kn c=some (.bool false)) (h1:vcC P n y Q kn w):vcC P n (.cond c x y) Q kn w:=
  fun a ha=>wp_cond_false (ha.ev hc) (h1 a ha)
theorem vc_ifs {t:Nat} {x y:Code} {b:Bool} (hc:find kn t=some (.bool b)) (h1:b=true→vcC P n x Q ((t,.bool true)::kn) w) (h2:b=false→vcC P n y Q ((t,.bool false)::kn) w):vcC P n (.cond (.tmp t) x y) Q kn w:=by
  intro a ha
  have hk:∀ c:Bool,b=c→K n ((t,.bool c)::kn) a:=fun c e=>⟨ha.defers,ha.size,fun u v hu=>by
    simp only [find] at hu
    split at hu
    · rename_i he
      obtain rfl:t=u:=Nat.eq_of_beq_eq_true he
      rw [← hu,← e];exact ha.get _ _ hc
    · exact ha.get u v hu⟩
  refine wp_cond (ha.ev (x:=.tmp t) hc) ?_
  cases b
  · exact h2 rfl a (hk false rfl)
  · exact h1 rfl a (hk true rfl)
theorem vc_keep {c:Code} (kn':Kn) (hs:Sub kn' kn) (h:vcC P n c Q kn' w):vcC P n c Q kn w:=fun a ha=>h a (ha.sub hs)
theorem vq_then {c:Code} (h:vcC P n c Q kn w):vcQ n (Exit.then (c.wp P Q) Q) .normal kn w:=h
theorem vq_then_exit {K':Act→World→Prop} {i:Nat} (h:vcQ n Q (.exit i) kn w):vcQ n (Exit.then K' Q) (.exit i) kn w:=h
theorem vq_then_ret {K':Act→World→Prop} (h:vcQ n Q .ret kn w):vcQ n (Exit.then K' Q) .ret kn w:=h
theorem vq_block {i:Nat} (h:vcQ n Q .normal kn w):vcQ n (Exit.inBlock i Q) .normal kn w:=h
theorem vq_block_ret {i:Nat} (h:vcQ n Q .ret kn w):vcQ n (Exit.inBlock i Q) .ret kn w:=h
theorem vq_block_exit {i:Nat} (h:vcQ n Q .normal kn w):vcQ n (Exit.inBlock i Q) (.exit i) kn w:=fun a ha=>by
  show (if i=i then Q .normal a w else Q (.exit i) a w)
  rw [if_pos rfl];exact h a ha
theorem vq_block_other {i j:Nat} (hne:Nat.beq j i=false) (h:vcQ n Q (.exit j) kn w):vcQ n (Exit.inBlock i Q) (.exit j) kn w:=fun a ha=>by
  show (if j=i then Q .normal a w else Q (.exit j) a w)
  rw [if_neg (by intro e;subst e;simp at hne)];exact h a ha
def Again {α:Type} (n:Fr) (w0:World) (M:List Nat) (f:α→Kn) (g:α→List Res) (φ:α→World→Prop) (μ:α→Nat) (x:α) (a:Act) (w:World):Prop:=
  ∃ y,μ y<μ x∧φ y w∧St w0 M (g y) w∧K n (f y) a
theorem vc_loop {α:Type} {c:Code} (f:α→Kn) (g:α→List Res) (φ:α→World→Prop) (μ:α→Nat) (x:α) (hk:Sub (f x) kn) (st:St w0 M (g x) w) (h0:φ x w)
    (round:∀ x w,φ x w→St w0 M (g x) w→vcC P n c (Exit.then (Again n w0 M f g φ μ x) Q) (f x) w):vcC P n (.loop c) Q kn w:=by
  intro a ha
  refine Go.wp_loop_ghost (fun k a w=>∃ y,μ y=k∧φ y w∧St w0 M (g y) w∧K n (f y) a) (μ x) ⟨x,rfl,h0,st,ha.sub hk⟩ ?_
  rintro k a w ⟨y,rfl,h1,h2,h3⟩
  refine Go.wp_mono (round y w h1 h2 a h3) ?_
  intro e a' w' hq
  cases e with
  | normal=>
    obtain⟨z,hz,hz1,hz2,hz3⟩:=hq
    exact⟨μ z,hz,z,rfl,hz1,hz2,hz3⟩
  | exit id=>exact hq
  | goto l=>exact hq
  | ret=>exact hq
  | panic ch=>exact hq
  | outgrown=>exact hq
theorem vq_again {α:Type} {f:α→Kn} {g:α→List Res} {φ:α→World→Prop} {μ:α→Nat} {x:α} (y:α) (hk:Sub (f y) kn) (st:St w0 M (g y) w) (h0:φ y w) (hμ:μ y<μ x) :
    vcQ n (Exit.then (Again n w0 M f g φ μ x) Q) .normal kn w:=fun a ha=>⟨y,hμ,h0,st,ha.sub hk⟩
def Meet {α:Type} (n:Fr) (w0:World) (M:List Nat) (f:α→Kn) (g:α→List Res) (φ:α→World→Prop) (a:Act) (w:World):Prop:=
  ∃ y,φ y w∧St w0 M (g y) w∧K n (f y) a
theorem vc_cut {α:Type} {x y:Code} (f:α→Kn) (g:α→List Res) (φ:α→World→Prop) (h1:vcC P n x (Exit.then (Meet n w0 M f g φ) Q) kn w)
    (h2:∀ z w,φ z w→St w0 M (g z) w→vcC P n y Q (f z) w):vcC P n (.seq x y) Q kn w:=by
  intro a ha
  refine wp_seq (Go.wp_mono (h1 a ha) ?_)
  intro e a' w' hq
  cases e with
  | normal=>
    obtain⟨z,hz1,hz2,hz3⟩:=hq
    exact h2 z w' hz1 hz2 a' hz3
  | exit id=>exact hq
  | goto l=>exact hq
  | ret=>exact hq
  | panic ch=>exact hq
  | outgrown=>exact hq
theorem vq_meet {α:Type} {f:α→Kn} {g:α→List Res} {φ:α→World→Prop} (y:α) (hk:Sub (f y) kn) (st:St w0 M (g y) w) (h0:φ y w) :
    vcQ n (Exit.then (Meet n w0 M f g φ) Q) .normal kn w:=fun a ha=>⟨y,h0,st,ha.sub hk⟩
def enumKn:Nat→List Value→Kn
  | _,[]=>[]
  | i,v::r=>(i,v)::enumKn (i+1) r
theorem find_enumKn:∀ (l:List Value) (i t:Nat) (v:Value),find (enumKn i l) t=some v→i≤t∧l[t - i]?=some v
  | [],i,t,v,h=>by simp [enumKn,find] at h
  | x::r,i,t,v,h=>by
    simp only [enumKn,find] at h
    split at h
    · rename_i he
      obtain rfl:i=t:=Nat.eq_of_beq_eq_true he
      simpa using h
    · obtain⟨h1,h2⟩:=find_enumKn r (i+1) t v h
      refine⟨by omega,?_⟩
      rw [show t - i=(t - (i+1))+1 from by omega]
      simpa using h2
theorem vc_enter {m:Nat} {f:FuncId} {fn:Func} {c:Code} {vals:List Value} {R:Ending→World→Prop} (hf:P.funcs[f]?=some fn) (hb:fn.body=some c) (hn:fn.ntmps=m) (hle:Nat.ble vals.length m=true)
    (h:vcC P (m,[]) c (bodyPost P fn R) (enumKn 0 vals) w):Calls P f vals.toArray w R:=by
  refine calls_of_wp hf hb (h _ ?_)
  have hle':vals.length≤m:=by simpa [Nat.ble_eq] using hle
  refine⟨rfl,?_,?_⟩
  · simp only [Array.size_append,List.size_toArray,Array.size_replicate,hn];omega
  · intro t v ht
    obtain⟨h1,h2⟩:=find_enumKn vals 0 t v ht
    have hlt:t<vals.length:=by
      simp only [Nat.sub_zero] at h2
      exact(List.getElem?_eq_some_iff.1 h2).1
    simp only [Nat.sub_zero] at h2
    rw [Array.getElem?_append_left (by simpa using hlt)]
    simpa using h2
theorem ret_of {m:Nat} {f:FuncId} {fn:Func} {c:Code} (vals:List Value) {Φ:Value→World→Prop} (hf:P.funcs[f]?=some fn) (hb:fn.body=some c) (hn:fn.ntmps=m) (hle:Nat.ble vals.length m=true)
    (h:vcC P (m,[]) c (bodyPost P fn fun e w'=>∃ v,e=.returned v∧Φ v w') (enumKn 0 vals) w):Ret P f vals w Φ:=vc_enter hf hb hn hle h
inductive ResV (P:Program) (hs:List Res) (kn:Kn):ResultVar→Value→Prop
  | tmp {t:Nat} {v:Value} (h:find kn t=some v):ResV P hs kn (.tmp t) v
  | cell (i:Nat) {t T b E:Nat} {l:List Value} {fz:Nat×Nat} (h:find kn t=some (.pointer (some ⟨b,0,none⟩))) (hi:nth hs i=some (.blk b (.cells l.toArray E fz)))
      (ha:∀ w,(Go.isAgg T).run P w=.ok true w) (hsz:∀ w,(Go.sizeOf T).run P w=.ok l.length w):ResV P hs kn (.cell t T) (.agg l.toArray)
  | cell1 (i:Nat) {t T b E:Nat} {l:List Value} {v:Value} {fz:Nat×Nat} (h:find kn t=some (.pointer (some ⟨b,0,none⟩))) (hi:nth hs i=some (.blk b (.cells l.toArray E fz)))
      (ha:∀ w,(Go.isAgg T).run P w=.ok false w) (hv:nth l 0=some v):ResV P hs kn (.cell t T) v
def resOne (tmps:Array Value):ResultVar→Sem Value
  | .tmp t=>pure (tmps.getD t undef)
  | .cell a t=>do loadVar t (← asAddr (tmps.getD a undef))
theorem ResV.run (st:St w0 M hs w) {a:Act} (ha:K n kn a) {r:ResultVar} {v:Value} (h:ResV P hs kn r v):(resOne a.tmps r).run P w=.ok v w:=by
  cases h with
  | tmp h=>simp [resOne,ha.get _ _ h]
  | cell i h hi hag hsz=>
    rename_i t T b E l fz
    have hc:=run_loadCells_list (P:=P) (w:=w) ⟨b,0,none⟩ l (fun j v hj=>by rw [addr_add];exact cell_blk (st.res hi) (by rw [nth_eq];simpa using hj))
    simp only [resOne,loadVar,Sem.run_bind]
    unfold loadCells at hc
    simp [ha.get _ _ h,asAddr,hag,hsz,loadCells,hc]
  | cell1 i h hi hag hv=>
    have hc:=cell_blk (st.res hi) hv
    simp only [resOne,loadVar,Sem.run_bind]
    simp [ha.get _ _ h,asAddr,hag,load,Sem.run,hc]
theorem results_eq (fn:Func) (tmps:Array Value):results fn tmps=(do
    let vs ← fn.results.mapM (resOne tmps)
    pure (if h:vs.size=1 then vs[0] else .tuple vs)):=by
  unfold results
  congr 2
section
variable {fn:Func} {R:Ending→World→Prop} {r1 r2 r3 r4:ResultVar} {v1 v2 v3 v4:Value} {e:Exit}
theorem vq_post {m:Nat} {v:Value} (he:e=.ret∨e=.normal) (hr:∀ a,K (m,[]) kn a→(results fn a.tmps).run P w=.ok v w) (hR:R (.returned v) w):vcQ (m,[]) (bodyPost P fn R) e kn w:=by
  intro a ha
  rcases he with rfl|rfl <;> exact⟨ha.defers,v,hr a ha,hR⟩
theorem vq_ret0 {m:Nat} (he:e=.ret∨e=.normal) (hf:fn.results=#[]) (hR:R (.returned (.tuple #[])) w):vcQ (m,[]) (bodyPost P fn R) e kn w:=
  vq_post he (fun a ha=>by simp [results_eq,hf]) hR
theorem vq_ret1 {m:Nat} (st:St w0 M hs w) (he:e=.ret∨e=.normal) (hf:fn.results=#[r1]) (h1:ResV P hs kn r1 v1) (hR:R (.returned v1) w):vcQ (m,[]) (bodyPost P fn R) e kn w:=
  vq_post he (fun a ha=>by simp [results_eq,hf,h1.run st ha]) hR
theorem vq_ret2 {m:Nat} (st:St w0 M hs w) (he:e=.ret∨e=.normal) (hf:fn.results=#[r1,r2]) (h1:ResV P hs kn r1 v1) (h2:ResV P hs kn r2 v2) (hR:R (.returned (.tuple #[v1,v2])) w):vcQ (m,[]) (bodyPost P fn R) e kn w:=
  vq_post he (fun a ha=>by simp [results_eq,hf,h1.run st ha,h2.run st ha]) hR
theorem vq_ret3 {m:Nat} (st:St w0 M hs w) (he:e=.ret∨e=.normal) (hf:fn.results=#[r1,r2,r3]) (h1:ResV P hs kn r1 v1) (h2:ResV P hs kn r2 v2) (h3:ResV P hs kn r3 v3) (hR:R (.returned (.tuple #[v1,v2,v3])) w):vcQ (m,[]) (bodyPost P fn R) e kn w:=
  vq_post he (fun a ha=>by simp [results_eq,hf,h1.run st ha,h2.run st ha,h3.run st ha]) hR
end
end
end Sx
/- The engine,fourth part: a statement whose order is drawn. -/
namespace Sx
open Go Go.RowKit
def okQ (Q:Exit→Act→World→Prop):Prop:=∀ c (a a':Act) w,a.defers=a'.defers→Q (.panic c) a w→Q (.panic c) a' w
theorem okQ_then {K':Act→World→Prop} {Q:Exit→Act→World→Prop} (h:okQ Q):okQ (Exit.then K' Q):=h
theorem okQ_block {i:Nat} {Q:Exit→Act→World→Prop} (h:okQ Q):okQ (Exit.inBlock i Q):=h
theorem okQ_body {P:Program} {fn:Func} {R:Ending→World→Prop}:okQ (bodyPost P fn R):=fun c a a' w h ⟨h1,h2⟩=>⟨h▸h1,h2⟩
def planD (L:Array Oper):List (Nat×Bool)→Array Bool→Bool
  | [],listed=>(Region.ready .any L listed).isEmpty
  | (i,true)::r,listed=>(Region.ready .any L listed).contains i && Region.free .any L listed i && planD L r (listed.setIfInBounds i true)
  | (i,false)::r,listed=>(Region.ready .any L listed == [i]) && planD L r (listed.setIfInBounds i true)
section
variable {P:Program} {n:Fr} {L:List Oper} {Q:Exit→Act→World→Prop} {kn:Kn} {w:World} {S:World→Prop}
def vP (P:Program) (n:Fr) (L:List Oper) (Q:Exit→Act→World→Prop) (S:World→Prop) (plan:List (Nat×Bool)) (kn:Kn) (w:World):Prop:=
  ∀ a listed,okQ Q→Region.noSelect L.toArray=true→K n kn a→planD L.toArray plan listed=true→wpAnyH P .any L.toArray Q S plan.length listed a w
def NP (P:Program) (L:List Oper) (Q:Exit→Act→World→Prop) (S:World→Prop) (plan:List (Nat×Bool)) (a:Act) (w:World):Prop:=
  S w∧(okQ Q→Region.noSelect L.toArray=true→∀ listed,planD L.toArray plan listed=true→wpAnyH P .any L.toArray Q S plan.length listed a w)
theorem vp_next {plan:List (Nat×Bool)} (hS:S w) (h:S w→vP P n L Q S plan kn w):vN n (NP P L Q S plan) kn w:=fun a ha=>⟨hS,fun hQ hsel listed hl=>h hS a listed hQ hsel ha hl⟩
theorem vp_end (h:vcQ n Q .normal kn w):vP P n L Q S [] kn w:=fun a listed hQ hsel ha hl=>by
  simp only [planD,List.isEmpty_iff] at hl
  exact⟨hl,h a ha⟩
theorem put_defers (a:Act) (d:Option Nat) (v:Value):(a.put d v).defers=a.defers:=by cases d <;> rfl
theorem vp_take {i:Nat} {o:Oper} {v:Value} {r:List (Nat×Bool)} (hi:nth L i=some o) (hw:gd L kn o.guard=some true) (hd:okDst n o.dst=true)
    (hS:S w) (y:∀ w',S w'→Y P n kn w' o v) (next:vP P n L Q S r (put o.dst v kn) w):vP P n L Q S ((i,true)::r) kn w:=by
  intro a listed hQ hsel ha hl
  simp only [planD,Bool.and_eq_true] at hl
  rw [nth_eq] at hi
  exact wpAnyH_take (oi:=o) (v:=v) (by simpa using hi) hsel hl.1.2 hl.1.1 (fun c a w h=>hQ c _ _ w (put_defers _ _ _) h)
    (.inl ⟨ha.gd hw,fun w' hS'=>y w' hS' a ha⟩) hS (next _ _ hQ hsel (ha.put hd v) hl.2)
theorem vp_skip {i:Nat} {o:Oper} {r:List (Nat×Bool)} (hi:nth L i=some o) (hw:gd L kn o.guard=some false) (hd:okDst n o.dst=true)
    (hS:S w) (next:vP P n L Q S r (put o.dst undef kn) w):vP P n L Q S ((i,true)::r) kn w:=by
  intro a listed hQ hsel ha hl
  simp only [planD,Bool.and_eq_true] at hl
  rw [nth_eq] at hi
  exact wpAnyH_take (oi:=o) (v:=undef) (by simpa using hi) hsel hl.1.2 hl.1.1 (fun c a w h=>hQ c _ _ w (put_defers _ _ _) h)
    (.inr ⟨ha.gd hw,rfl⟩) hS (next _ _ hQ hsel (ha.put hd undef) hl.2)
theorem vp_part {i d ty:Nat} {pos:String} {aft:Array Edge} {g:Option (Nat×Bool)} {x:Operand} {b:Bool} {r:List (Nat×Bool)}
    (hi:nth L i=some ⟨some d,.move x,ty,pos,aft,g⟩) (hw:gd L kn g=some true) (hd:okDst n (some d)=true) (hS:S w) (hx:evO kn x=some (.bool b))
    (h1:b=true→vP P n L Q S r ((d,.bool true)::kn) w) (h2:b=false→vP P n L Q S r ((d,.bool false)::kn) w):vP P n L Q S ((i,true)::r) kn w:=by
  refine vp_take hi hw hd hS (fun w' _=>y_mv hx) ?_
  cases b
  · exact h2 rfl
  · exact h1 rfl
theorem vp_do {i:Nat} {o:Oper} {r:List (Nat×Bool)} (hi:nth L i=some o) (e:vS P n L Q o (NP P L Q S r) kn w):vP P n L Q S ((i,false)::r) kn w:=by
  intro a listed hQ hsel ha hl
  simp only [planD,Bool.and_eq_true,beq_iff_eq] at hl
  rw [nth_eq] at hi
  refine wpAnyH_all hl.1 (by simp) (fun j hj=>?_)
  obtain rfl:j=i:=by simpa using hj
  have he:=e a ha
  unfold wpOp
  simp only [List.getElem?_toArray,hi]
  split
  · rename_i hw
    rw [if_pos hw] at he
    exact he.imp (Oper.wp_mono (fun a' w' h=>⟨h.1,h.2 hQ hsel _ hl.2⟩)) id
  · rename_i hw
    rw [if_neg hw] at he
    exact⟨he.1,he.2 hQ hsel _ hl.2⟩
theorem vc_draw {id:Nat} (hm:P.follows .mixedOrders=true) (plan:List (Nat×Bool)) (S:World→Prop) (hS0:S w) (hsel:Region.noSelect L.toArray=true) (hQ:okQ Q) (hlen:plan.length=L.length) (hplan:planD L.toArray plan (Array.replicate L.length false)=true)
    (h:∀ w',Chg [] w w'→vP P n L Q S plan kn w'):vcC P n (.region id L.toArray true) Q kn w:=by
  intro a ha
  refine wp_region_held (S:=S) hm ?_
  have:=h w.drew (Chg.drew w) a (Array.replicate L.length false) hQ hsel ha hplan
  rw [hlen] at this
  rw [List.size_toArray]
  exact this
end
end Sx
/- The engine,twenty-second part: a statement whose order is drawn,with stores behind what is read: the condition is asked for only until the first store. -/
namespace Sx
open Go Go.RowKit
section
variable {P:Program} {md:Region.Mode} {ops:Array Oper} {Q:Exit→Act→World→Prop} {S:World→Prop} {s:Nat}
def wpAnyK (P:Program) (md:Region.Mode) (ops:Array Oper) (Q:Exit→Act→World→Prop) (s:Nat) (S:World→Prop):Nat→Array Bool→Act→World→Prop
  | 0,listed,a,w=>Region.ready md ops listed=[]∧Q .normal a w
  | fuel+1,listed,a,w=>(Region.ready md ops listed=[]→Q .normal a w)∧
    ∀ i∈Region.ready md ops listed,wpOp P ops Q i (fun a' w'=>((listed.setIfInBounds i true).getD s false=false→S w')∧wpAnyK P md ops Q s S fuel (listed.setIfInBounds i true) a' w') a w
theorem wpAny_of_K:∀ (fuel:Nat) (listed:Array Bool) (a:Act) (w:World),wpAnyK P md ops Q s S fuel listed a w→wpAny P md ops Q fuel listed a w
  | 0,_,_,_,h=>h
  | fuel+1,_,_,_,h=>⟨h.1,fun i hi=>wpOp_mono (fun a' w' h'=>wpAny_of_K fuel _ a' w' h'.2) (h.2 i hi)⟩
theorem getD_set_self {l:Array Bool} {i s:Nat} (h:i≠s):(l.setIfInBounds i true).getD s false=l.getD s false:=getD_set_ne false h
def DownL (md:Region.Mode) (ops:Array Oper) (listed:Array Bool):Prop:=∀ j oj,ops[j]?=some oj→listed.getD j false=true→∀ e∈oj.after,Region.binds md e=true→listed.getD e.on false=true
theorem DownL.set {listed:Array Bool} (h:DownL md ops listed) {j:Nat} (hj:j∈Region.ready md ops listed):DownL md ops (listed.setIfInBounds j true):=by
  intro k ok hk hl e he hb
  have mono:∀ m,listed.getD m false=true→(listed.setIfInBounds j true).getD m false=true:=fun m hm=>by
    by_cases hmj:j=m
    · subst hmj
      have:j<listed.size:=by
        rcases Nat.lt_or_ge j listed.size with h|h
        · exact h
        · simp [Array.getElem?_eq_none h] at hm
      simp [this]
    · rw [getD_set_ne false hmj];exact hm
  refine mono _ ?_
  by_cases hkj:j=k
  · subst hkj
    obtain⟨-,oj,hoj,hall⟩:=mem_ready.1 hj
    rw [hk] at hoj
    cases hoj
    exact by simpa using hall e he hb
  · rw [getD_set_ne false hkj] at hl
    exact h k ok hk hl e he hb
theorem DownL.none (n:Nat):DownL md ops (Array.replicate n false):=by
  intro j oj _ hl
  rcases Nat.lt_or_ge j n with h|h <;> simp [h] at hl
theorem wpAnyK_firstU {i:Nat} {oi:Oper} {v:Value} (hi:ops[i]?=some oi) (hsel:∀ (j:Nat) (o:Oper) cs b,ops[j]?=some o→o.op≠.select cs b)
    (hQ:∀ c a w,Q (.panic c) (a.put oi.dst v) w→Q (.panic c) a w) (his:i≠s) :
    ∀ (fuel:Nat) (listed:Array Bool) (a:Act) (w:World),
      (∀ j oj,ops[j]?=some oj→j≠i→listed.getD j true=false→(∀ e∈oj.after,Region.binds md e=true→e.on≠i)→oi.apart ops oj=true)→
      i∈Region.ready md ops listed→YieldsIf P ops (fun _=>True) oi v a→(listed.getD s false=false→S w)→
      wpAnyK P md ops Q s S fuel (listed.setIfInBounds i true) (a.put oi.dst v) w→wpAnyK P md ops Q s S (fuel+1) listed a w:=by
  intro fuel
  induction fuel with
  | zero=>
    intro listed a w _ hr hy hS H
    refine⟨fun h=>(by rw [h] at hr;cases hr),fun j hj=>?_⟩
    by_cases hji:j=i
    · subst hji;exact hy.wpOp hi trivial ⟨fun h=>hS (by rwa [getD_set_self his] at h),H⟩
    · have:=ready_mono hj hji
      rw [H.1] at this
      cases this
  | succ fuel ih=>
    intro listed a w hfree hr hy hS H
    refine⟨fun h=>(by rw [h] at hr;cases hr),fun j hj=>?_⟩
    by_cases hji:j=i
    · subst hji;exact hy.wpOp hi trivial ⟨fun h=>hS (by rwa [getD_set_self his] at h),H⟩
    · have h1:=H.2 j (ready_mono hj hji)
      obtain⟨hjun,oj,hoj,hall⟩:=mem_ready.1 hj
      have hnot:∀ e∈oj.after,Region.binds md e=true→e.on≠i:=fun e he hb heq=>by
        have h1:=hall e he hb
        have h0:=(mem_ready.1 hr).1
        rw [heq] at h1
        rcases Nat.lt_or_ge i listed.size with h'|h'
        · simp [h'] at h0 h1;rw [h0] at h1;cases h1
        · simp [Array.getElem?_eq_none h'] at h1
      have h2:=wpOp_putIf hoj (hfree j oj hoj hji hjun hnot) (fun cs b=>hsel i oi cs b hi) (fun cs b=>hsel j oj cs b hoj) hQ hy h1
      have hfree':∀ k ok,ops[k]?=some ok→k≠i→(listed.setIfInBounds j true).getD k true=false→
          (∀ e∈ok.after,Region.binds md e=true→e.on≠i)→oi.apart ops ok=true:=fun k ok hk hki hun hno=>by
        refine hfree k ok hk hki ?_ hno
        by_cases hjk:j=k
        · subst hjk;exact hjun
        · rw [getD_set_ne true hjk] at hun;exact hun
      have hcom:∀ (h:(listed.setIfInBounds j true).getD s false=false),((listed.setIfInBounds i true).setIfInBounds j true).getD s false=false:=fun h=>by
        rw [Array.setIfInBounds_comm _ _ (Ne.symm hji),getD_set_self his];exact h
      refine wpOp_mono (fun a' w' h3=>⟨fun h=>h3.2.1 (hcom h),ih (listed.setIfInBounds j true) a' w' hfree' (ready_mono hr (Ne.symm hji)) h3.1 (fun h=>h3.2.1 (hcom h)) ?_⟩) h2
      rw [Array.setIfInBounds_comm _ _ hji]
      exact h3.2.2
theorem wpAnyK_first {i:Nat} {oi:Oper} {v:Value} (hi:ops[i]?=some oi) (hsel:∀ (j:Nat) (o:Oper) cs b,ops[j]?=some o→o.op≠.select cs b)
    (hQ:∀ c a w,Q (.panic c) (a.put oi.dst v) w→Q (.panic c) a w) (his:i≠s) (hwait:∀ os,ops[s]?=some os→∃ e∈os.after,Region.binds md e=true∧(e.on=i∨∃ om,ops[e.on]?=some om∧∃ e'∈om.after,Region.binds md e'=true∧e'.on=i)) :
    ∀ (fuel:Nat) (listed:Array Bool) (a:Act) (w:World),
      (∀ j oj,ops[j]?=some oj→j≠i→listed.getD j true=false→(∀ e∈oj.after,Region.binds md e=true→e.on≠i)→oi.apart ops oj=true)→
      i∈Region.ready md ops listed→DownL md ops listed→listed.getD s false=false→YieldsIf P ops S oi v a→S w→
      wpAnyK P md ops Q s S fuel (listed.setIfInBounds i true) (a.put oi.dst v) w→wpAnyK P md ops Q s S (fuel+1) listed a w:=by
  intro fuel
  induction fuel with
  | zero=>
    intro listed a w _ hr hdn hl hy hS H
    refine⟨fun h=>(by rw [h] at hr;cases hr),fun j hj=>?_⟩
    by_cases hji:j=i
    · subst hji;exact hy.wpOp hi hS ⟨fun _=>hS,H⟩
    · have:=ready_mono hj hji
      rw [H.1] at this
      cases this
  | succ fuel ih=>
    intro listed a w hfree hr hdn hl hy hS H
    refine⟨fun h=>(by rw [h] at hr;cases hr),fun j hj=>?_⟩
    by_cases hji:j=i
    · subst hji;exact hy.wpOp hi hS ⟨fun _=>hS,H⟩
    · have h1:=H.2 j (ready_mono hj hji)
      obtain⟨hjun,oj,hoj,hall⟩:=mem_ready.1 hj
      have hun:∀ e:Edge,e.on=i→¬ (listed.getD e.on false=true):=fun e heq h1=>by
        have h0:=(mem_ready.1 hr).1
        rw [heq] at h1
        rcases Nat.lt_or_ge i listed.size with h'|h'
        · simp [h'] at h0 h1;rw [h0] at h1;cases h1
        · simp [Array.getElem?_eq_none h'] at h1
      have hnot:∀ e∈oj.after,Region.binds md e=true→e.on≠i:=fun e he hb heq=>hun e heq (by simpa using hall e he hb)
      have hjs:j≠s:=by
        rintro rfl
        obtain⟨e,he,hb,heq|⟨om,hom,e',he',hb',heq⟩⟩:=hwait oj hoj
        · exact hnot e he hb heq
        · exact hun e' heq (hdn _ om hom (by simpa using hall e he hb) e' he' hb')
      have h2:=wpOp_putIf hoj (hfree j oj hoj hji hjun hnot) (fun cs b=>hsel i oi cs b hi) (fun cs b=>hsel j oj cs b hoj) hQ hy h1
      have hfree':∀ k ok,ops[k]?=some ok→k≠i→(listed.setIfInBounds j true).getD k true=false→
          (∀ e∈ok.after,Region.binds md e=true→e.on≠i)→oi.apart ops ok=true:=fun k ok hk hki hun hno=>by
        refine hfree k ok hk hki ?_ hno
        by_cases hjk:j=k
        · subst hjk;exact hjun
        · rw [getD_set_ne true hjk] at hun;exact hun
      have hl1:(listed.setIfInBounds j true).getD s false=false:=by rw [getD_set_self hjs];exact hl
      have hl2:((listed.setIfInBounds i true).setIfInBounds j true).getD s false=false:=by rw [getD_set_self hjs,getD_set_self his];exact hl
      refine wpOp_mono (fun a' w' h3=>⟨fun _=>h3.2.1 hl2,ih (listed.setIfInBounds j true) a' w' hfree' (ready_mono hr (Ne.symm hji)) (hdn.set hj) hl1 h3.1 (h3.2.1 hl2) ?_⟩) h2
      rw [Array.setIfInBounds_comm _ _ hji]
      exact h3.2.2
end
def waitsB (L:Array Oper) (s i:Nat):Bool:=!(Nat.beq i s) && (match L[s]? with|some o=>o.after.toList.any (fun e=>Region.binds .any e && (Nat.beq e.on i || (match L[e.on]? with|some m=>m.after.toList.any (fun e'=>Region.binds .any e' && Nat.beq e'.on i)|none=>false)))|none=>true)
section
variable {P:Program} {n:Fr} {L:List Oper} {Q:Exit→Act→World→Prop} {kn:Kn} {w:World} {S:World→Prop} {s:Nat} {late:Bool}
def vK (P:Program) (n:Fr) (L:List Oper) (Q:Exit→Act→World→Prop) (s:Nat) (S:World→Prop) (late:Bool) (plan:List (Nat×Bool)) (kn:Kn) (w:World):Prop:=
  ∀ a listed,okQ Q→Region.noSelect L.toArray=true→K n kn a→planD L.toArray plan listed=true→listed.getD s false=late→listed.size=L.length→DownL .any L.toArray listed→wpAnyK P .any L.toArray Q s S plan.length listed a w
def NK (P:Program) (L:List Oper) (Q:Exit→Act→World→Prop) (s:Nat) (S:World→Prop) (late:Bool) (plan:List (Nat×Bool)) (a:Act) (w:World):Prop:=
  (late=false→S w)∧(okQ Q→Region.noSelect L.toArray=true→∀ listed,planD L.toArray plan listed=true→listed.getD s false=late→listed.size=L.length→DownL .any L.toArray listed→wpAnyK P .any L.toArray Q s S plan.length listed a w)
theorem vk_next {plan:List (Nat×Bool)} (hS:S w) (h:S w→vK P n L Q s S false plan kn w):vN n (NK P L Q s S false plan) kn w:=fun a ha=>⟨fun _=>hS,fun hQ hsel listed hl hs hz hdn=>h hS a listed hQ hsel ha hl hs hz hdn⟩
theorem vk_late {plan:List (Nat×Bool)} (h:vK P n L Q s S true plan kn w):vN n (NK P L Q s S true plan) kn w:=fun a ha=>⟨(fun h=>by cases h),fun hQ hsel listed hl hs hz hdn=>h a listed hQ hsel ha hl hs hz hdn⟩
theorem vk_end (h:vcQ n Q .normal kn w):vK P n L Q s S late [] kn w:=fun a listed hQ hsel ha hl hs hz hdn=>by
  simp only [planD,List.isEmpty_iff] at hl
  exact⟨hl,h a ha⟩
theorem waits_spec {ops:Array Oper} {s i:Nat} (h:waitsB ops s i=true):i≠s∧∀ os,ops[s]?=some os→∃ e∈os.after,Region.binds .any e=true∧(e.on=i∨∃ om,ops[e.on]?=some om∧∃ e'∈om.after,Region.binds .any e'=true∧e'.on=i):=by
  unfold waitsB at h
  simp only [Bool.and_eq_true,Bool.not_eq_true'] at h
  refine⟨(fun e=>by subst e;simp at h),fun os hos=>?_⟩
  rw [hos] at h
  obtain⟨e,he,h2⟩:=List.any_eq_true.1 h.2
  simp only [Bool.and_eq_true] at h2
  simp only [Bool.or_eq_true] at h2
  refine⟨e,by simpa using he,h2.1,?_⟩
  rcases h2.2 with h3|h3
  · exact .inl (Nat.eq_of_beq_eq_true h3)
  · right
    cases hm:ops[e.on]? with
    | none=>rw [hm] at h3;cases h3
    | some om=>
      rw [hm] at h3
      obtain⟨e',he',h4⟩:=List.any_eq_true.1 h3
      simp only [Bool.and_eq_true] at h4
      exact⟨om,rfl,e',by simpa using he',h4.1,Nat.eq_of_beq_eq_true h4.2⟩
theorem vk_take {i:Nat} {o:Oper} {v:Value} {r:List (Nat×Bool)} (hi:nth L i=some o) (hw:gd L kn o.guard=some true) (hd:okDst n o.dst=true) (hwt:waitsB L.toArray s i=true)
    (hS:S w) (y:∀ w',S w'→Y P n kn w' o v) (next:vK P n L Q s S false r (put o.dst v kn) w):vK P n L Q s S false ((i,true)::r) kn w:=by
  intro a listed hQ hsel ha hl hs hz hdn
  simp only [planD,Bool.and_eq_true] at hl
  rw [nth_eq] at hi
  obtain⟨h1,h2⟩:=waits_spec hwt
  exact wpAnyK_first (oi:=o) (v:=v) (by simpa using hi) (Region.noSelect_spec hsel) (fun c a w h=>hQ c _ _ w (put_defers _ _ _) h) h1 h2 _ listed a w (Region.free_spec (by simpa using hi) hl.1.2) (by simpa using hl.1.1) hdn hs
    (.inl ⟨ha.gd hw,fun w' hS'=>y w' hS' a ha⟩) hS (next _ _ hQ hsel (ha.put hd v) hl.2 (by rw [getD_set_self h1];exact hs) (by simpa using hz) (hdn.set (by simpa using hl.1.1)))
theorem vk_takeU {i:Nat} {o:Oper} {v:Value} {r:List (Nat×Bool)} (hi:nth L i=some o) (hw:gd L kn o.guard=some true) (hd:okDst n o.dst=true) (his:Nat.beq i s=false)
    (hS:late=false→S w) (y:∀ w',Y P n kn w' o v) (next:vK P n L Q s S late r (put o.dst v kn) w):vK P n L Q s S late ((i,true)::r) kn w:=by
  intro a listed hQ hsel ha hl hs hz hdn
  simp only [planD,Bool.and_eq_true] at hl
  rw [nth_eq] at hi
  have h1:i≠s:=fun e=>by subst e;simp at his
  exact wpAnyK_firstU (oi:=o) (v:=v) (by simpa using hi) (Region.noSelect_spec hsel) (fun c a w h=>hQ c _ _ w (put_defers _ _ _) h) h1 _ listed a w (Region.free_spec (by simpa using hi) hl.1.2) (by simpa using hl.1.1)
    (.inl ⟨ha.gd hw,fun w' _=>y w' a ha⟩) (fun h=>hS (by rw [← hs];exact h)) (next _ _ hQ hsel (ha.put hd v) hl.2 (by rw [getD_set_self h1];exact hs) (by simpa using hz) (hdn.set (by simpa using hl.1.1)))
theorem vk_do {i:Nat} {o:Oper} {r:List (Nat×Bool)} (hi:nth L i=some o) (hlt:Nat.blt i L.length=true) (e:vS P n L Q o (NK P L Q s S (late || Nat.beq i s) r) kn w):vK P n L Q s S late ((i,false)::r) kn w:=by
  intro a listed hQ hsel ha hl hs hz hdn
  simp only [planD,Bool.and_eq_true,beq_iff_eq] at hl
  rw [nth_eq] at hi
  refine⟨(fun h=>by rw [hl.1] at h;cases h),fun j hj=>?_⟩
  rw [hl.1] at hj
  obtain rfl:j=i:=by simpa using hj
  have hlate:(listed.setIfInBounds j true).getD s false=(late || Nat.beq j s):=by
    by_cases hjs:j=s
    · subst hjs
      have:j<listed.size:=by rw [hz];simpa [Nat.blt_eq] using hlt
      simp [this]
    · rw [getD_set_self hjs,hs]
      cases h:Nat.beq j s
      · simp
      · exact absurd (Nat.eq_of_beq_eq_true h) hjs
  have he:=e a ha
  unfold wpOp
  simp only [List.getElem?_toArray,hi]
  split
  · rename_i hw
    rw [if_pos hw] at he
    exact he.imp (Oper.wp_mono (fun a' w' h=>⟨fun h2=>h.1 (by rw [← hlate];exact h2),h.2 hQ hsel _ hl.2 hlate (by simpa using hz) (hdn.set (by rw [hl.1];simp))⟩)) id
  · rename_i hw
    rw [if_neg hw] at he
    exact⟨fun h2=>he.1 (by rw [← hlate];exact h2),he.2 hQ hsel _ hl.2 hlate (by simpa using hz) (hdn.set (by rw [hl.1];simp))⟩
theorem vk_draw {id:Nat} (hm:P.follows .mixedOrders=true) (plan:List (Nat×Bool)) (s:Nat) (S:World→Prop) (hS0:S w) (hsel:Region.noSelect L.toArray=true) (hQ:okQ Q) (hlen:plan.length=L.length) (hplan:planD L.toArray plan (Array.replicate L.length false)=true) (hs:Nat.blt s L.length=true)
    (h:∀ w',Chg [] w w'→vK P n L Q s S false plan kn w'):vcC P n (.region id L.toArray true) Q kn w:=by
  intro a ha
  refine wp_region_any hm (wpAny_of_K (s:=s) (S:=S) _ _ _ _ ?_)
  have hs':s<L.length:=by simpa [Nat.blt_eq] using hs
  have:=h w.drew (Chg.drew w) a (Array.replicate L.length false) hQ hsel ha hplan (by simp [hs']) (by simp) (DownL.none _)
  rw [hlen] at this
  rw [List.size_toArray]
  exact this
end
end Sx
/- The engine,eighth part: a statement whose order is drawn,two operations at a time. -/
namespace Sx
open Go Go.RowKit
inductive Pl where
  | done
  | take (i:Nat) (r:Pl)
  | one (i:Nat) (r:Pl)
  | two (i j:Nat) (r s:Pl)
def Pl.len:Pl→Nat
  | .done=>0
  | .take _ r=>r.len+1
  | .one _ r=>r.len+1
  | .two _ _ r _=>r.len+1
def plOK (L:Array Oper):Pl→Array Bool→Bool
  | .done,listed=>(Region.ready .any L listed).isEmpty
  | .take i r,listed=>(Region.ready .any L listed).contains i && Region.free .any L listed i && plOK L r (listed.setIfInBounds i true)
  | .one i r,listed=>(Region.ready .any L listed == [i]) && plOK L r (listed.setIfInBounds i true)
  | .two i j r s,listed=>(Region.ready .any L listed == [i,j]) && (r.len == s.len) && plOK L r (listed.setIfInBounds i true) && plOK L s (listed.setIfInBounds j true)
section
variable {P:Program} {n:Fr} {L:List Oper} {Q:Exit→Act→World→Prop} {kn:Kn} {w:World} {S:World→Prop}
def vD (P:Program) (n:Fr) (L:List Oper) (Q:Exit→Act→World→Prop) (S:World→Prop) (plan:Pl) (kn:Kn) (w:World):Prop:=
  ∀ a listed,okQ Q→Region.noSelect L.toArray=true→K n kn a→plOK L.toArray plan listed=true→wpAnyH P .any L.toArray Q S plan.len listed a w
def ND (P:Program) (L:List Oper) (Q:Exit→Act→World→Prop) (S:World→Prop) (plan:Pl) (a:Act) (w:World):Prop:=
  S w∧(okQ Q→Region.noSelect L.toArray=true→∀ listed,plOK L.toArray plan listed=true→wpAnyH P .any L.toArray Q S plan.len listed a w)
theorem vd_next {plan:Pl} (hS:S w) (h:S w→vD P n L Q S plan kn w):vN n (ND P L Q S plan) kn w:=fun a ha=>⟨hS,fun hQ hsel listed hl=>h hS a listed hQ hsel ha hl⟩
theorem vd_end (h:vcQ n Q .normal kn w):vD P n L Q S .done kn w:=fun a listed hQ hsel ha hl=>by
  simp only [plOK,List.isEmpty_iff] at hl
  exact⟨hl,h a ha⟩
theorem vd_take {i:Nat} {o:Oper} {v:Value} {r:Pl} (hi:nth L i=some o) (hw:gd L kn o.guard=some true) (hd:okDst n o.dst=true)
    (hS:S w) (y:∀ w',S w'→Y P n kn w' o v) (next:vD P n L Q S r (put o.dst v kn) w):vD P n L Q S (.take i r) kn w:=by
  intro a listed hQ hsel ha hl
  simp only [plOK,Bool.and_eq_true] at hl
  rw [nth_eq] at hi
  exact wpAnyH_take (oi:=o) (v:=v) (by simpa using hi) hsel hl.1.2 hl.1.1 (fun c a w h=>hQ c _ _ w (put_defers _ _ _) h)
    (.inl ⟨ha.gd hw,fun w' hS'=>y w' hS' a ha⟩) hS (next _ _ hQ hsel (ha.put hd v) hl.2)
theorem nd_op {i:Nat} {o:Oper} {r:Pl} {a:Act} {listed:Array Bool} (hi:nth L i=some o) (e:vS P n L Q o (ND P L Q S r) kn w) (ha:K n kn a) (hQ:okQ Q) (hsel:Region.noSelect L.toArray=true)
    (hl:plOK L.toArray r (listed.setIfInBounds i true)=true):wpOp P L.toArray Q i (fun a' w'=>S w'∧wpAnyH P .any L.toArray Q S r.len (listed.setIfInBounds i true) a' w') a w:=by
  rw [nth_eq] at hi
  have he:=e a ha
  unfold wpOp
  simp only [List.getElem?_toArray,hi]
  split
  · rename_i hw
    rw [if_pos hw] at he
    exact he.imp (Oper.wp_mono (fun a' w' h=>⟨h.1,h.2 hQ hsel _ hl⟩)) id
  · rename_i hw
    rw [if_neg hw] at he
    exact⟨he.1,he.2 hQ hsel _ hl⟩
theorem vd_do {i:Nat} {o:Oper} {r:Pl} (hi:nth L i=some o) (e:vS P n L Q o (ND P L Q S r) kn w):vD P n L Q S (.one i r) kn w:=by
  intro a listed hQ hsel ha hl
  simp only [plOK,Bool.and_eq_true,beq_iff_eq] at hl
  refine wpAnyH_all hl.1 (by simp) (fun j hj=>?_)
  obtain rfl:j=i:=by simpa using hj
  exact nd_op hi e ha hQ hsel hl.2
theorem vd_two {i j:Nat} {o p:Oper} {r s:Pl} (hi:nth L i=some o) (hj:nth L j=some p) (e:vS P n L Q o (ND P L Q S r) kn w) (f:vS P n L Q p (ND P L Q S s) kn w):vD P n L Q S (.two i j r s) kn w:=by
  intro a listed hQ hsel ha hl
  simp only [plOK,Bool.and_eq_true,beq_iff_eq] at hl
  obtain⟨⟨⟨h1,h2⟩,h3⟩,h4⟩:=hl
  refine wpAnyH_all h1 (by simp) (fun k hk=>?_)
  have hk':k=i∨k=j:=by simpa using hk
  rcases hk' with rfl|rfl
  · exact nd_op hi e ha hQ hsel h3
  · rw [h2];exact nd_op hj f ha hQ hsel h4
theorem vd_draw {id:Nat} (hm:P.follows .mixedOrders=true) (plan:Pl) (S:World→Prop) (hS0:S w) (hsel:Region.noSelect L.toArray=true) (hQ:okQ Q) (hlen:plan.len=L.length) (hplan:plOK L.toArray plan (Array.replicate L.length false)=true)
    (h:∀ w',Chg [] w w'→vD P n L Q S plan kn w'):vcC P n (.region id L.toArray true) Q kn w:=by
  intro a ha
  refine wp_region_held (S:=S) hm ?_
  have:=h w.drew (Chg.drew w) a (Array.replicate L.length false) hQ hsel ha hplan
  rw [hlen] at this
  rw [List.size_toArray]
  exact this
end
end Sx
