/- A part of the proof: contracts of functions and plain laws; each theorem says its own conditions. -/
import Derived.Test.YtkhpdpenlnhbiaaGreatDoorTopLoweredK6
import Derived.Test.YtkhpdpenlnhbiaaGreatDoorTopLoweredK3
import Derived.Test.YtkhpdpenlnhbiaaGreatDoorTopLoweredSxZ
set_option linter.unusedVariables false
set_option linter.unusedSimpArgs false
/- A function that defers a closure that recovers. -/
namespace Sx
open Go Go.RowKit
section
variable {P:Program} {n:Fr} {L:List Oper} {Q:Exit→Act→World→Prop} {kn:Kn} {w w0:World} {M:List Nat} {hs:List Res} {rest:List Oper}
variable {d ty:Nat} {pos:String} {aft:Array Edge} {g:Option (Nat×Bool)}
variable {N:Act→World→Prop}
abbrev PanK (n:Fr) (kn:Kn) (Q:Exit→Act→World→Prop) (v:Value) (w:World):Prop:=∀ a:Act,K n kn a→Q (.panic (pch v)) a w
theorem e_callk {f:FuncId} {args:Array Operand} {tys:Array TypeId} (vals:List Value) {Φ Ψ:Value→World→Prop} (hw:gd L kn g=some true) (hd:okDst n (some d)=true)
    (hcall:∀ (az:Array Value) w,(callFunc f az).run P w=.ok (.enter f az) w)
    (hv:args.toList.map (evO kn)=vals.map some)
    (c:RetP P f vals w Φ Ψ) (pan:∀ v w',Ψ v w'→PanK n kn Q v w') (next:∀ v w',Φ v w'→vN n N ((d,v)::kn) w') :
    vS P n L Q ⟨some d,.call ⟨.value (.func f),args,tys⟩,ty,pos,aft,g⟩ N kn w:=by
  intro a ha
  rw [if_pos (ha.gd hw)]
  refine .inl ?_
  unfold Oper.wp
  have hrun:(execOp a.eval ⟨some d,.call ⟨.value (.func f),args,tys⟩,ty,pos,aft,g⟩).run P w=.ok (.enter f vals.toArray) w:=by
    have hargs:=evs_map ha hv
    simp only [execOp,resolve,hargs,Act.eval]
    simp [Deferred.ofValue,invoke,hcall]
  rw [hrun]
  refine Calls.mono c ?_
  rintro e w' (⟨v,rfl,hv⟩|⟨v,rfl,hv⟩)
  · exact next v w' hv _ (ha.put hd v)
  · exact pan v w' hv a ha
theorem e_deferV {x:Operand} {f:FuncId} {cap:List Value} {tys:Array TypeId} {m:Nat} {ds:List Deferred} (hn:n=(m,ds)) (hw:gd L kn g=some true)
    (hx:evO kn x=some (.func (.func f) #[] cap.toArray)) (next:vN (m,⟨.fn (.func f) cap.toArray,#[]⟩::ds) N kn w) :
    vS P n L Q ⟨none,.defer ⟨.value x,#[],tys⟩,ty,pos,aft,g⟩ N kn w:=
  e_defer hn hw rfl (fun a ha=>by
    simp only [execOp,resolve,ha.ev hx]
    simp [Deferred.ofValue]) next
theorem vqd_post {m:Nat} {fn:Func} {R:Ending→World→Prop} {e:Exit} {v:Value} (he:e=.ret∨e=.normal) (hr:∀ a,K (m,[]) kn a→(results fn a.tmps).run P w=.ok v w) (hR:R (.returned v) w):vcQ (m,[]) (bodyPostD P fn R) e kn w:=by
  intro a ha
  have key:Leaves P fn a.tmps R a.defers .returning w:=by rw [ha.defers];exact⟨v,hr a ha,hR⟩
  rcases he with rfl|rfl <;> exact key
theorem results3 {fn:Func} {r1 r2 r3:ResultVar} {v1 v2 v3:Value} {m:Nat} {ds:List Deferred} (st:St w0 M hs w) (hf:fn.results=#[r1,r2,r3]) (h1:ResV P hs kn r1 v1) (h2:ResV P hs kn r2 v2) (h3:ResV P hs kn r3 v3) :
    ∀ a,K (m,ds) kn a→(results fn a.tmps).run P w=.ok (.tuple #[v1,v2,v3]) w:=fun a ha=>by
  simp [results_eq,hf,h1.run st ha,h2.run st ha,h3.run st ha]
theorem retd_of {m:Nat} {f:FuncId} {fn:Func} {c:Code} (vals:List Value) {Φ:Value→World→Prop} (hf:P.funcs[f]?=some fn) (hb:fn.body=some c) (hn:fn.ntmps=m) (hle:Nat.ble vals.length m=true)
    (h:vcC P (m,[]) c (bodyPostD P fn fun e w'=>∃ v,e=.returned v∧Φ v w') (enumKn 0 vals) w):Ret P f vals w Φ:=vcd_enter hf hb hn hle h
theorem pan_leave {m:Nat} {fn:Func} {R:Ending→World→Prop} {f:FuncId} {cap:List Value} {v:Value} {Φ:World→Prop}
    (hcall:∀ (az:Array Value) w,(callFunc f az).run P w=.ok (.enter f az) w)
    (h:DefCatch P f cap.toArray v w Φ) (hres:∀ w',Φ w'→∃ r,(∀ a,K (m,[⟨.fn (.func f) cap.toArray,#[]⟩]) kn a→(results fn a.tmps).run P w'=.ok r w')∧R (.returned r) w') :
    PanK (m,[⟨.fn (.func f) cap.toArray,#[]⟩]) kn (bodyPostD P fn R) v w:=by
  intro a ha
  show Leaves P fn a.tmps R a.defers (.panicking (pch v)) w
  rw [ha.defers]
  refine leaves_cons (f:=f) (args:=cap.toArray) (by simp) (by simp [invoke,hcall]) (h.mono ?_)
  rintro e u' w' ⟨⟨x,rfl⟩,rfl,hΦ⟩
  obtain⟨r,h1,h2⟩:=hres w' hΦ
  exact⟨r,h1 a ha,h2⟩
theorem e_bxn (st:St w0 M hs w) {x:Operand} {T:Nat} {v:Value} {l:List Value} (hw:gd L kn g=some true) (hd:okDst n (some d)=true)
    (hx:evO kn x=some v) (hl:v.cells.toList=l)
    (next:∀ b w',b=w.heap.size→w0.heap.size≤b→St w0 M (.blk b (.cells l.toArray T (0,0))::hs) w'→vN n N ((d,.pointer (some ⟨b,0,none⟩))::kn) w'):vS P n L Q (⟨some d,.box T x,ty,pos,aft,g⟩) N kn w:=
  e_new st (v:=.pointer (some ⟨w.heap.size,0,none⟩)) (l:=l) (E:=T) hw hd (fun a ha=>by
    have:v.cells=l.toArray:=by rw [← hl]
    simp only [execOp,ha.ev hx,Instr.box,← this]
    rfl) (fun b w' e hb st'=>by subst e;exact next _ w' rfl hb st')
theorem y_ta {x:Operand} {T U:Nat} {v:Value} {fs:Array Field} (hx:evO kn x=some (.iface T v)) (ht:P.underlying T=some (.struct fs)):Y P n kn w ⟨some d,.typeAssert x U T false,ty,pos,aft,g⟩ v:=fun a ha=>by
  simp only [execOp,ha.ev hx]
  simp [Instr.typeAssert,run_underlying ht]
theorem y_fldA {T i off sz:Nat} {x:Operand} {cs vs:List Value} {fs:Array Field} {f:Field} (hx:evO kn x=some (.agg cs.toArray)) (ht:P.underlying T=some (.struct fs)) (hf:nth fs.toList i=some f) (ho:f.offset=off)
    (ha:∀ w,(Go.isAgg f.type).run P w=.ok true w) (hs:∀ w,(Go.sizeOf f.type).run P w=.ok sz w) (hv:takeN sz (dropN cs off)=some vs):Y P n kn w ⟨some d,.field T x i,ty,pos,aft,g⟩ (.agg vs.toArray):=fun a hk=>by
  subst ho
  rw [nth_eq] at hf
  have hf':fs[i]?=some f:=by simpa using hf
  simp only [execOp,hk.ev hx]
  simp [Instr.field,run_underlying ht,hf',asAgg,run_partA ha hs hv]
end
theorem okQ_bodyS {P:Program} {fn:Func} {c0:Frame} {cs cs':List Frame} {R:Ending→FrameMode→World→Prop}:okQ (fun e a w=>bodyPostS P fn c0 cs R e a cs' w):=fun c a a' w h hq=>by
  obtain⟨h1,h2⟩:=hq
  exact⟨h▸h1,h2⟩
end Sx
namespace Sx
open Go Go.RowKit
theorem St.of3 {w:World} {b c e:Nat} {o p q:Obj} (M:List Nat) (h:w.heap[b]?=some o) (h':w.heap[c]?=some p) (h'':w.heap[e]?=some q) (h1:b≠c) (h2:b≠e) (h3:c≠e):St w M [.blk b o,.blk c p,.blk e q] w:=
  ⟨Chg.refl M w,List.pairwise_cons.2 ⟨by simp [Res.at?,h1,h2],List.pairwise_cons.2 ⟨by simp [Res.at?,h3],List.pairwise_singleton _ _⟩⟩,by simp [Res.holds,h,h',h'']⟩
theorem K.of {m:Nat} {kn:Kn} {t:Array Value} (hs:t.size=m) (h:∀ i v,find kn i=some v→t[i]?=some v):K (m,[]) kn {tmps:=t,defers:=[]}:=⟨rfl,hs,h⟩
theorem wp_of_vc {P:Program} {n:Fr} {c:Code} {Q:Exit→Act→World→Prop} {kn:Kn} {a:Act} {w:World} (ha:K n kn a) (h:vcC P n c Q kn w):c.wp P Q a w:=h a ha
def noPan (Q:Exit→Act→World→Prop):Exit→Act→World→Prop:=fun e a w=>(match e with | .panic _=>False|_=>True)∧Q e a w
theorem okQ_noPan {Q:Exit→Act→World→Prop}:okQ (noPan Q):=fun _ _ _ _ _ hq=>hq.1.elim
theorem vc_noPan {P:Program} {n:Fr} {c:Code} {Q:Exit→Act→World→Prop} {kn:Kn} {w:World} (h:vcC P n c (noPan Q) kn w):vcC P n c Q kn w:=fun a ha=>Code.wp_mono (fun _ _ _ h=>h.2) (h a ha)
theorem vq_noPan {n:Fr} {Q:Exit→Act→World→Prop} {kn:Kn} {w:World} (h:vcQ n Q .normal kn w):vcQ n (noPan Q) .normal kn w:=fun a ha=>⟨trivial,h a ha⟩
end Sx
/- Short names for the regions that are drawn. -/
namespace Sx
open Go Go.RowKit
abbrev Yt (n:Nat):Nat×Bool:=(n,true)
abbrev Nt (n:Nat):Nat×Bool:=(n,false)
section
variable {P:Program} {n:Fr} {L:List Oper} {Q:Exit→Act→World→Prop} {kn:Kn} {w w0:World} {M:List Nat} {hs':List Res} {id:Nat}
theorem vdr (hm:P.follows .mixedOrders=true) (plan:List (Nat×Bool)) (hs:List Res) (st:St w0 M hs' w) (h:∀ w',St w0 M hs' w'→St w0 M hs w'→vP P n L Q (fun w=>St w0 M hs w) plan kn w')
    (hsub:hs.Sublist hs':=by repeat (first|exact sl0|apply sl1|apply sl2)) (hsel:Region.noSelect L.toArray=true:=by kernel_rfl) (hQ:okQ Q:=by repeat (first|exact okQ_noPan|exact okQ_body|exact okQ_bodyS|refine okQ_then ?_|refine okQ_block ?_)) (hlen:plan.length=L.length:=by exact rfl) (hplan:planD L.toArray plan (Array.replicate L.length false)=true:=by kernel_rfl) :
    vcC P n (.region id L.toArray true) Q kn w:=vc_draw hm plan _ (st.drop hsub) hsel hQ hlen hplan fun w' c=>h w' (st.call0 c) ((st.call0 c).drop hsub)
theorem vdr0 (hm:P.follows .mixedOrders=true) (plan:List (Nat×Bool)) (st:St w0 M hs' w) (h:∀ w',St w0 M hs' w'→St w0 M hs' w'→vP P n L Q (fun w=>St w0 M hs' w) plan kn w')
    (hsel:Region.noSelect L.toArray=true:=by kernel_rfl) (hQ:okQ Q:=by repeat (first|exact okQ_noPan|exact okQ_body|exact okQ_bodyS|refine okQ_then ?_|refine okQ_block ?_)) (hlen:plan.length=L.length:=by exact rfl) (hplan:planD L.toArray plan (Array.replicate L.length false)=true:=by kernel_rfl) :
    vcC P n (.region id L.toArray true) Q kn w:=vc_draw hm plan _ st hsel hQ hlen hplan fun w' c=>h w' (st.call0 c) (st.call0 c)
theorem ddr (hm:P.follows .mixedOrders=true) (plan:Pl) (hs:List Res) (st:St w0 M hs' w) (h:∀ w',St w0 M hs' w'→St w0 M hs w'→vD P n L Q (fun w=>St w0 M hs w) plan kn w')
    (hsub:hs.Sublist hs':=by repeat (first|exact sl0|apply sl1|apply sl2)) (hsel:Region.noSelect L.toArray=true:=by kernel_rfl) (hQ:okQ Q:=by repeat (first|exact okQ_noPan|exact okQ_body|exact okQ_bodyS|refine okQ_then ?_|refine okQ_block ?_)) (hlen:plan.len=L.length:=by exact rfl) (hplan:plOK L.toArray plan (Array.replicate L.length false)=true:=by kernel_rfl) :
    vcC P n (.region id L.toArray true) Q kn w:=vd_draw hm plan _ (st.drop hsub) hsel hQ hlen hplan fun w' c=>h w' (st.call0 c) ((st.call0 c).drop hsub)
theorem ddr0 (hm:P.follows .mixedOrders=true) (plan:Pl) (st:St w0 M hs' w) (h:∀ w',St w0 M hs' w'→St w0 M hs' w'→vD P n L Q (fun w=>St w0 M hs' w) plan kn w')
    (hsel:Region.noSelect L.toArray=true:=by kernel_rfl) (hQ:okQ Q:=by repeat (first|exact okQ_noPan|exact okQ_body|exact okQ_bodyS|refine okQ_then ?_|refine okQ_block ?_)) (hlen:plan.len=L.length:=by exact rfl) (hplan:plOK L.toArray plan (Array.replicate L.length false)=true:=by kernel_rfl) :
    vcC P n (.region id L.toArray true) Q kn w:=vd_draw hm plan _ st hsel hQ hlen hplan fun w' c=>h w' (st.call0 c) (st.call0 c)
theorem kdr (hm:P.follows .mixedOrders=true) (plan:List (Nat×Bool)) (s:Nat) (hs:List Res) (st:St w0 M hs' w) (h:∀ w',St w0 M hs' w'→St w0 M hs w'→vK P n L Q s (fun w=>St w0 M hs w) false plan kn w')
    (hsub:hs.Sublist hs':=by repeat (first|exact sl0|apply sl1|apply sl2)) (hsel:Region.noSelect L.toArray=true:=by kernel_rfl) (hQ:okQ Q:=by repeat (first|exact okQ_noPan|exact okQ_body|exact okQ_bodyS|refine okQ_then ?_|refine okQ_block ?_)) (hlen:plan.length=L.length:=by exact rfl) (hplan:planD L.toArray plan (Array.replicate L.length false)=true:=by kernel_rfl) (hss:Nat.blt s L.length=true:=by exact rfl) :
    vcC P n (.region id L.toArray true) Q kn w:=vk_draw hm plan s _ (st.drop hsub) hsel hQ hlen hplan hss fun w' c=>h w' (st.call0 c) ((st.call0 c).drop hsub)
end
section
variable {w0 w:World} {M:List Nat} {hs:List Res} {P:Program} {n:Fr} {kn:Kn} {d ty:Nat} {pos:String} {aft:Array Edge} {g:Option (Nat×Bool)}
theorem ybd {T:Nat} {parts:Array (Nat×Operand)} (r:Value) (vals:List (Nat×Value)) (hv:parts.toList.map (fun p=>(evO kn p.2).map (p.1,·))=vals.map some:=by exact rfl)
    (hrun:∀ w,(Instr.build T vals.toArray).run P w=.ok r w:=by intro w;simp [Instr.build,go_sem] <;> repeat' constructor):Y P n kn w ⟨some d,.build T parts,ty,pos,aft,g⟩ r:=y_bld r vals hv hrun
theorem yin (z:Int) {x y:Operand} {a b:Int} {T U:Nat} (hx:evO kn x=some (.int .i64 a):=by exact rfl) (hy:evO kn y=some (.int .i64 b):=by exact rfl) (hv:a+b=z:=by omega) (lo:-9223372036854775808≤z:=by omega) (hi:z≤9223372036854775807:=by omega):Y P n kn w ⟨some d,.binOp .add T x y U,ty,pos,aft,g⟩ (.int .i64 z):=y_add hx hy hv lo hi
theorem vr1 {m:Nat} {fn:Func} {r1:ResultVar} {v1:Value} {e:Exit} {Φ:Value→World→Prop} (st:St w0 M hs w) (hf:fn.results=#[r1]) (hR:Φ v1 w) (h1:ResV P hs kn r1 v1:=by exact .tmp rfl) (he:e=.ret∨e=.normal:=by first|exact .inl rfl|exact .inr rfl) :
    vcQ (m,[]) (bodyPost P fn fun e w=>∃ v,e=.returned v∧Φ v w) e kn w:=vq_ret1 st he hf h1 ⟨_,rfl,hR⟩
theorem St.rs (st:St w0 M hs w) (i:Nat) {r:Res} (h:nth hs i=some r:=by exact rfl):r.holds w0.heap.size w:=st.res h
theorem St.sm {S:Nat→Prop} (st:St w0 [] hs w):Same S w0 w:=Same.of_nil st.chg
end
end Sx
/- Runs of steps that need no data: so many of them at once. -/
namespace Sx
open Go Go.RowKit
section
variable {P:Program} {n:Fr} {L:List Oper} {Q:Exit→Act→World→Prop} {kn:Kn} {w:World} {ops:List Oper} {c:Code}
theorem gL (h:vcL P n L Q ops kn w):vcL P n L Q ops kn w:=h
theorem gC (h:vcC P n c Q kn w):vcC P n c Q kn w:=h
end
section
variable {G G':Prop}
theorem a1 (h:G') (s:G'→G:=by intro h;(iterate 1 (first|with_reducible (first|refine vc_seq ?_|refine vc_region ?_|refine vq_then ?_|refine vc_end ?_|refine vc_code_skip ?_|refine vc_block ?_|refine vq_block ?_|refine vc_ret ?_|refine vq_then_ret ?_|refine vq_block_ret ?_|refine vc_exit ?_|refine vq_then_exit ?_|refine vq_block_exit ?_)|(with_reducible refine gL ?_);(first|refine ym ?_|refine ya ?_|refine ypt ?_|refine ypf ?_|refine vsk ?_|refine ynk ?_|refine vy (y_not rfl) ?_|refine vy (y_eqi rfl rfl) ?_|refine vy (y_nei rfl rfl) ?_|refine vy (y_lss rfl rfl) ?_|refine vy (y_leq rfl rfl) ?_|refine vy (y_gtr rfl rfl) ?_|refine vy (y_geq rfl rfl) ?_|refine vy (y_eqs rfl rfl) ?_|refine vy (y_nes rfl rfl) ?_|refine vy (y_ext rfl rfl) ?_)|(with_reducible refine gC ?_);(first|refine vc_ift rfl ?_|refine vc_iff rfl ?_)|refine vq_block_other rfl ?_));exact h):G:=s h
theorem a2 (h:G') (s:G'→G:=by intro h;(iterate 2 (first|with_reducible (first|refine vc_seq ?_|refine vc_region ?_|refine vq_then ?_|refine vc_end ?_|refine vc_code_skip ?_|refine vc_block ?_|refine vq_block ?_|refine vc_ret ?_|refine vq_then_ret ?_|refine vq_block_ret ?_|refine vc_exit ?_|refine vq_then_exit ?_|refine vq_block_exit ?_)|(with_reducible refine gL ?_);(first|refine ym ?_|refine ya ?_|refine ypt ?_|refine ypf ?_|refine vsk ?_|refine ynk ?_|refine vy (y_not rfl) ?_|refine vy (y_eqi rfl rfl) ?_|refine vy (y_nei rfl rfl) ?_|refine vy (y_lss rfl rfl) ?_|refine vy (y_leq rfl rfl) ?_|refine vy (y_gtr rfl rfl) ?_|refine vy (y_geq rfl rfl) ?_|refine vy (y_eqs rfl rfl) ?_|refine vy (y_nes rfl rfl) ?_|refine vy (y_ext rfl rfl) ?_)|(with_reducible refine gC ?_);(first|refine vc_ift rfl ?_|refine vc_iff rfl ?_)|refine vq_block_other rfl ?_));exact h):G:=s h
theorem a3 (h:G') (s:G'→G:=by intro h;(iterate 3 (first|with_reducible (first|refine vc_seq ?_|refine vc_region ?_|refine vq_then ?_|refine vc_end ?_|refine vc_code_skip ?_|refine vc_block ?_|refine vq_block ?_|refine vc_ret ?_|refine vq_then_ret ?_|refine vq_block_ret ?_|refine vc_exit ?_|refine vq_then_exit ?_|refine vq_block_exit ?_)|(with_reducible refine gL ?_);(first|refine ym ?_|refine ya ?_|refine ypt ?_|refine ypf ?_|refine vsk ?_|refine ynk ?_|refine vy (y_not rfl) ?_|refine vy (y_eqi rfl rfl) ?_|refine vy (y_nei rfl rfl) ?_|refine vy (y_lss rfl rfl) ?_|refine vy (y_leq rfl rfl) ?_|refine vy (y_gtr rfl rfl) ?_|refine vy (y_geq rfl rfl) ?_|refine vy (y_eqs rfl rfl) ?_|refine vy (y_nes rfl rfl) ?_|refine vy (y_ext rfl rfl) ?_)|(with_reducible refine gC ?_);(first|refine vc_ift rfl ?_|refine vc_iff rfl ?_)|refine vq_block_other rfl ?_));exact h):G:=s h
theorem a4 (h:G') (s:G'→G:=by intro h;(iterate 4 (first|with_reducible (first|refine vc_seq ?_|refine vc_region ?_|refine vq_then ?_|refine vc_end ?_|refine vc_code_skip ?_|refine vc_block ?_|refine vq_block ?_|refine vc_ret ?_|refine vq_then_ret ?_|refine vq_block_ret ?_|refine vc_exit ?_|refine vq_then_exit ?_|refine vq_block_exit ?_)|(with_reducible refine gL ?_);(first|refine ym ?_|refine ya ?_|refine ypt ?_|refine ypf ?_|refine vsk ?_|refine ynk ?_|refine vy (y_not rfl) ?_|refine vy (y_eqi rfl rfl) ?_|refine vy (y_nei rfl rfl) ?_|refine vy (y_lss rfl rfl) ?_|refine vy (y_leq rfl rfl) ?_|refine vy (y_gtr rfl rfl) ?_|refine vy (y_geq rfl rfl) ?_|refine vy (y_eqs rfl rfl) ?_|refine vy (y_nes rfl rfl) ?_|refine vy (y_ext rfl rfl) ?_)|(with_reducible refine gC ?_);(first|refine vc_ift rfl ?_|refine vc_iff rfl ?_)|refine vq_block_other rfl ?_));exact h):G:=s h
theorem a5 (h:G') (s:G'→G:=by intro h;(iterate 5 (first|with_reducible (first|refine vc_seq ?_|refine vc_region ?_|refine vq_then ?_|refine vc_end ?_|refine vc_code_skip ?_|refine vc_block ?_|refine vq_block ?_|refine vc_ret ?_|refine vq_then_ret ?_|refine vq_block_ret ?_|refine vc_exit ?_|refine vq_then_exit ?_|refine vq_block_exit ?_)|(with_reducible refine gL ?_);(first|refine ym ?_|refine ya ?_|refine ypt ?_|refine ypf ?_|refine vsk ?_|refine ynk ?_|refine vy (y_not rfl) ?_|refine vy (y_eqi rfl rfl) ?_|refine vy (y_nei rfl rfl) ?_|refine vy (y_lss rfl rfl) ?_|refine vy (y_leq rfl rfl) ?_|refine vy (y_gtr rfl rfl) ?_|refine vy (y_geq rfl rfl) ?_|refine vy (y_eqs rfl rfl) ?_|refine vy (y_nes rfl rfl) ?_|refine vy (y_ext rfl rfl) ?_)|(with_reducible refine gC ?_);(first|refine vc_ift rfl ?_|refine vc_iff rfl ?_)|refine vq_block_other rfl ?_));exact h):G:=s h
theorem a6 (h:G') (s:G'→G:=by intro h;(iterate 6 (first|with_reducible (first|refine vc_seq ?_|refine vc_region ?_|refine vq_then ?_|refine vc_end ?_|refine vc_code_skip ?_|refine vc_block ?_|refine vq_block ?_|refine vc_ret ?_|refine vq_then_ret ?_|refine vq_block_ret ?_|refine vc_exit ?_|refine vq_then_exit ?_|refine vq_block_exit ?_)|(with_reducible refine gL ?_);(first|refine ym ?_|refine ya ?_|refine ypt ?_|refine ypf ?_|refine vsk ?_|refine ynk ?_|refine vy (y_not rfl) ?_|refine vy (y_eqi rfl rfl) ?_|refine vy (y_nei rfl rfl) ?_|refine vy (y_lss rfl rfl) ?_|refine vy (y_leq rfl rfl) ?_|refine vy (y_gtr rfl rfl) ?_|refine vy (y_geq rfl rfl) ?_|refine vy (y_eqs rfl rfl) ?_|refine vy (y_nes rfl rfl) ?_|refine vy (y_ext rfl rfl) ?_)|(with_reducible refine gC ?_);(first|refine vc_ift rfl ?_|refine vc_iff rfl ?_)|refine vq_block_other rfl ?_));exact h):G:=s h
theorem a7 (h:G') (s:G'→G:=by intro h;(iterate 7 (first|with_reducible (first|refine vc_seq ?_|refine vc_region ?_|refine vq_then ?_|refine vc_end ?_|refine vc_code_skip ?_|refine vc_block ?_|refine vq_block ?_|refine vc_ret ?_|refine vq_then_ret ?_|refine vq_block_ret ?_|refine vc_exit ?_|refine vq_then_exit ?_|refine vq_block_exit ?_)|(with_reducible refine gL ?_);(first|refine ym ?_|refine ya ?_|refine ypt ?_|refine ypf ?_|refine vsk ?_|refine ynk ?_|refine vy (y_not rfl) ?_|refine vy (y_eqi rfl rfl) ?_|refine vy (y_nei rfl rfl) ?_|refine vy (y_lss rfl rfl) ?_|refine vy (y_leq rfl rfl) ?_|refine vy (y_gtr rfl rfl) ?_|refine vy (y_geq rfl rfl) ?_|refine vy (y_eqs rfl rfl) ?_|refine vy (y_nes rfl rfl) ?_|refine vy (y_ext rfl rfl) ?_)|(with_reducible refine gC ?_);(first|refine vc_ift rfl ?_|refine vc_iff rfl ?_)|refine vq_block_other rfl ?_));exact h):G:=s h
theorem a8 (h:G') (s:G'→G:=by intro h;(iterate 8 (first|with_reducible (first|refine vc_seq ?_|refine vc_region ?_|refine vq_then ?_|refine vc_end ?_|refine vc_code_skip ?_|refine vc_block ?_|refine vq_block ?_|refine vc_ret ?_|refine vq_then_ret ?_|refine vq_block_ret ?_|refine vc_exit ?_|refine vq_then_exit ?_|refine vq_block_exit ?_)|(with_reducible refine gL ?_);(first|refine ym ?_|refine ya ?_|refine ypt ?_|refine ypf ?_|refine vsk ?_|refine ynk ?_|refine vy (y_not rfl) ?_|refine vy (y_eqi rfl rfl) ?_|refine vy (y_nei rfl rfl) ?_|refine vy (y_lss rfl rfl) ?_|refine vy (y_leq rfl rfl) ?_|refine vy (y_gtr rfl rfl) ?_|refine vy (y_geq rfl rfl) ?_|refine vy (y_eqs rfl rfl) ?_|refine vy (y_nes rfl rfl) ?_|refine vy (y_ext rfl rfl) ?_)|(with_reducible refine gC ?_);(first|refine vc_ift rfl ?_|refine vc_iff rfl ?_)|refine vq_block_other rfl ?_));exact h):G:=s h
theorem a9 (h:G') (s:G'→G:=by intro h;(iterate 9 (first|with_reducible (first|refine vc_seq ?_|refine vc_region ?_|refine vq_then ?_|refine vc_end ?_|refine vc_code_skip ?_|refine vc_block ?_|refine vq_block ?_|refine vc_ret ?_|refine vq_then_ret ?_|refine vq_block_ret ?_|refine vc_exit ?_|refine vq_then_exit ?_|refine vq_block_exit ?_)|(with_reducible refine gL ?_);(first|refine ym ?_|refine ya ?_|refine ypt ?_|refine ypf ?_|refine vsk ?_|refine ynk ?_|refine vy (y_not rfl) ?_|refine vy (y_eqi rfl rfl) ?_|refine vy (y_nei rfl rfl) ?_|refine vy (y_lss rfl rfl) ?_|refine vy (y_leq rfl rfl) ?_|refine vy (y_gtr rfl rfl) ?_|refine vy (y_geq rfl rfl) ?_|refine vy (y_eqs rfl rfl) ?_|refine vy (y_nes rfl rfl) ?_|refine vy (y_ext rfl rfl) ?_)|(with_reducible refine gC ?_);(first|refine vc_ift rfl ?_|refine vc_iff rfl ?_)|refine vq_block_other rfl ?_));exact h):G:=s h
theorem a10 (h:G') (s:G'→G:=by intro h;(iterate 10 (first|with_reducible (first|refine vc_seq ?_|refine vc_region ?_|refine vq_then ?_|refine vc_end ?_|refine vc_code_skip ?_|refine vc_block ?_|refine vq_block ?_|refine vc_ret ?_|refine vq_then_ret ?_|refine vq_block_ret ?_|refine vc_exit ?_|refine vq_then_exit ?_|refine vq_block_exit ?_)|(with_reducible refine gL ?_);(first|refine ym ?_|refine ya ?_|refine ypt ?_|refine ypf ?_|refine vsk ?_|refine ynk ?_|refine vy (y_not rfl) ?_|refine vy (y_eqi rfl rfl) ?_|refine vy (y_nei rfl rfl) ?_|refine vy (y_lss rfl rfl) ?_|refine vy (y_leq rfl rfl) ?_|refine vy (y_gtr rfl rfl) ?_|refine vy (y_geq rfl rfl) ?_|refine vy (y_eqs rfl rfl) ?_|refine vy (y_nes rfl rfl) ?_|refine vy (y_ext rfl rfl) ?_)|(with_reducible refine gC ?_);(first|refine vc_ift rfl ?_|refine vc_iff rfl ?_)|refine vq_block_other rfl ?_));exact h):G:=s h
theorem a11 (h:G') (s:G'→G:=by intro h;(iterate 11 (first|with_reducible (first|refine vc_seq ?_|refine vc_region ?_|refine vq_then ?_|refine vc_end ?_|refine vc_code_skip ?_|refine vc_block ?_|refine vq_block ?_|refine vc_ret ?_|refine vq_then_ret ?_|refine vq_block_ret ?_|refine vc_exit ?_|refine vq_then_exit ?_|refine vq_block_exit ?_)|(with_reducible refine gL ?_);(first|refine ym ?_|refine ya ?_|refine ypt ?_|refine ypf ?_|refine vsk ?_|refine ynk ?_|refine vy (y_not rfl) ?_|refine vy (y_eqi rfl rfl) ?_|refine vy (y_nei rfl rfl) ?_|refine vy (y_lss rfl rfl) ?_|refine vy (y_leq rfl rfl) ?_|refine vy (y_gtr rfl rfl) ?_|refine vy (y_geq rfl rfl) ?_|refine vy (y_eqs rfl rfl) ?_|refine vy (y_nes rfl rfl) ?_|refine vy (y_ext rfl rfl) ?_)|(with_reducible refine gC ?_);(first|refine vc_ift rfl ?_|refine vc_iff rfl ?_)|refine vq_block_other rfl ?_));exact h):G:=s h
theorem a12 (h:G') (s:G'→G:=by intro h;(iterate 12 (first|with_reducible (first|refine vc_seq ?_|refine vc_region ?_|refine vq_then ?_|refine vc_end ?_|refine vc_code_skip ?_|refine vc_block ?_|refine vq_block ?_|refine vc_ret ?_|refine vq_then_ret ?_|refine vq_block_ret ?_|refine vc_exit ?_|refine vq_then_exit ?_|refine vq_block_exit ?_)|(with_reducible refine gL ?_);(first|refine ym ?_|refine ya ?_|refine ypt ?_|refine ypf ?_|refine vsk ?_|refine ynk ?_|refine vy (y_not rfl) ?_|refine vy (y_eqi rfl rfl) ?_|refine vy (y_nei rfl rfl) ?_|refine vy (y_lss rfl rfl) ?_|refine vy (y_leq rfl rfl) ?_|refine vy (y_gtr rfl rfl) ?_|refine vy (y_geq rfl rfl) ?_|refine vy (y_eqs rfl rfl) ?_|refine vy (y_nes rfl rfl) ?_|refine vy (y_ext rfl rfl) ?_)|(with_reducible refine gC ?_);(first|refine vc_ift rfl ?_|refine vc_iff rfl ?_)|refine vq_block_other rfl ?_));exact h):G:=s h
theorem a13 (h:G') (s:G'→G:=by intro h;(iterate 13 (first|with_reducible (first|refine vc_seq ?_|refine vc_region ?_|refine vq_then ?_|refine vc_end ?_|refine vc_code_skip ?_|refine vc_block ?_|refine vq_block ?_|refine vc_ret ?_|refine vq_then_ret ?_|refine vq_block_ret ?_|refine vc_exit ?_|refine vq_then_exit ?_|refine vq_block_exit ?_)|(with_reducible refine gL ?_);(first|refine ym ?_|refine ya ?_|refine ypt ?_|refine ypf ?_|refine vsk ?_|refine ynk ?_|refine vy (y_not rfl) ?_|refine vy (y_eqi rfl rfl) ?_|refine vy (y_nei rfl rfl) ?_|refine vy (y_lss rfl rfl) ?_|refine vy (y_leq rfl rfl) ?_|refine vy (y_gtr rfl rfl) ?_|refine vy (y_geq rfl rfl) ?_|refine vy (y_eqs rfl rfl) ?_|refine vy (y_nes rfl rfl) ?_|refine vy (y_ext rfl rfl) ?_)|(with_reducible refine gC ?_);(first|refine vc_ift rfl ?_|refine vc_iff rfl ?_)|refine vq_block_other rfl ?_));exact h):G:=s h
theorem a14 (h:G') (s:G'→G:=by intro h;(iterate 14 (first|with_reducible (first|refine vc_seq ?_|refine vc_region ?_|refine vq_then ?_|refine vc_end ?_|refine vc_code_skip ?_|refine vc_block ?_|refine vq_block ?_|refine vc_ret ?_|refine vq_then_ret ?_|refine vq_block_ret ?_|refine vc_exit ?_|refine vq_then_exit ?_|refine vq_block_exit ?_)|(with_reducible refine gL ?_);(first|refine ym ?_|refine ya ?_|refine ypt ?_|refine ypf ?_|refine vsk ?_|refine ynk ?_|refine vy (y_not rfl) ?_|refine vy (y_eqi rfl rfl) ?_|refine vy (y_nei rfl rfl) ?_|refine vy (y_lss rfl rfl) ?_|refine vy (y_leq rfl rfl) ?_|refine vy (y_gtr rfl rfl) ?_|refine vy (y_geq rfl rfl) ?_|refine vy (y_eqs rfl rfl) ?_|refine vy (y_nes rfl rfl) ?_|refine vy (y_ext rfl rfl) ?_)|(with_reducible refine gC ?_);(first|refine vc_ift rfl ?_|refine vc_iff rfl ?_)|refine vq_block_other rfl ?_));exact h):G:=s h
theorem a15 (h:G') (s:G'→G:=by intro h;(iterate 15 (first|with_reducible (first|refine vc_seq ?_|refine vc_region ?_|refine vq_then ?_|refine vc_end ?_|refine vc_code_skip ?_|refine vc_block ?_|refine vq_block ?_|refine vc_ret ?_|refine vq_then_ret ?_|refine vq_block_ret ?_|refine vc_exit ?_|refine vq_then_exit ?_|refine vq_block_exit ?_)|(with_reducible refine gL ?_);(first|refine ym ?_|refine ya ?_|refine ypt ?_|refine ypf ?_|refine vsk ?_|refine ynk ?_|refine vy (y_not rfl) ?_|refine vy (y_eqi rfl rfl) ?_|refine vy (y_nei rfl rfl) ?_|refine vy (y_lss rfl rfl) ?_|refine vy (y_leq rfl rfl) ?_|refine vy (y_gtr rfl rfl) ?_|refine vy (y_geq rfl rfl) ?_|refine vy (y_eqs rfl rfl) ?_|refine vy (y_nes rfl rfl) ?_|refine vy (y_ext rfl rfl) ?_)|(with_reducible refine gC ?_);(first|refine vc_ift rfl ?_|refine vc_iff rfl ?_)|refine vq_block_other rfl ?_));exact h):G:=s h
theorem a16 (h:G') (s:G'→G:=by intro h;(iterate 16 (first|with_reducible (first|refine vc_seq ?_|refine vc_region ?_|refine vq_then ?_|refine vc_end ?_|refine vc_code_skip ?_|refine vc_block ?_|refine vq_block ?_|refine vc_ret ?_|refine vq_then_ret ?_|refine vq_block_ret ?_|refine vc_exit ?_|refine vq_then_exit ?_|refine vq_block_exit ?_)|(with_reducible refine gL ?_);(first|refine ym ?_|refine ya ?_|refine ypt ?_|refine ypf ?_|refine vsk ?_|refine ynk ?_|refine vy (y_not rfl) ?_|refine vy (y_eqi rfl rfl) ?_|refine vy (y_nei rfl rfl) ?_|refine vy (y_lss rfl rfl) ?_|refine vy (y_leq rfl rfl) ?_|refine vy (y_gtr rfl rfl) ?_|refine vy (y_geq rfl rfl) ?_|refine vy (y_eqs rfl rfl) ?_|refine vy (y_nes rfl rfl) ?_|refine vy (y_ext rfl rfl) ?_)|(with_reducible refine gC ?_);(first|refine vc_ift rfl ?_|refine vc_iff rfl ?_)|refine vq_block_other rfl ?_));exact h):G:=s h
end
end Sx
