/- A part of the proof: contracts of functions and plain laws; each theorem says its own conditions. -/
import Derived.Test.YtkhpdpenlnhbiaaGreatDoorTopLoweredK7
import Derived.Test.YtkhpdpenlnhbiaaGreatDoorTopLoweredLD
import Derived.Test.YtkhpdpenlnhbiaaGreatDoorTopLoweredK8
import Derived.Test.YtkhpdpenlnhbiaaGreatDoorTopLoweredSxDrP
import Derived.Test.YtkhpdpenlnhbiaaGreatDoorTopLoweredK23
set_option linter.unusedVariables false
set_option linter.unusedSimpArgs false
namespace Go.Proofs.YtkhpdpenlnhbiaaGreatDoor
open Go.RowKit Sx LexS ParS _root_.Go.Proofs.Tryz
theorem results2 {P:Program} {fn:Func} {kn:Kn} {w w0:World} {M:List Nat} {hs:List Res} {r1 r2:ResultVar} {v1 v2:Value} {m:Nat} {ds:List Deferred} (st:St w0 M hs w) (hf:fn.results=#[r1,r2]) (h1:ResV P hs kn r1 v1) (h2:ResV P hs kn r2 v2) :
    ∀ a,K (m,ds) kn a→(results fn a.tmps).run P w=.ok (.tuple #[v1,v2]) w:=fun a ha=>by
 simp [results_eq,hf,h1.run st ha,h2.run st ha]
set_option maxHeartbeats 1000000 in
theorem first_catch (b2 b3:Nat) (p r:Int) (l2 l3:List Value) (hl2:l2.length=2) (hl3:l3.length=1) (w:World) (h2:w.heap[b2]?=some (.cells l2.toArray 29 (0,0))) (h3:w.heap[b3]?=some (.cells l3.toArray 4 (0,0)))
    (n1:b2≠b3):DefCatch Tryz.prog 43 [.pointer (some ⟨b2,0,none⟩),.pointer (some ⟨b3,0,none⟩)].toArray (.iface 126 (.agg #[.int .i64 p,.int .i64 r])) w
  (fun w'=>w'.heap[b2]?=some (.cells [.int .i64 p,.int .i64 r].toArray 29 (0,0))∧w'.heap[b3]?=some (.cells [.bool true].toArray 4 (0,0))∧Chg [b2,b3] w w'):=by
 obtain⟨x0,x1,rfl⟩:∃ x0 x1,l2=[x0,x1]:=by
  match l2,hl2 with
  | [x0,x1],_=>exact⟨_,_,rfl⟩
 obtain⟨x2,rfl⟩:∃ x2,l3=[x2]:=by
  match l3,hl3 with
  | [x2],_=>exact⟨_,rfl⟩
 refine callsD_of_wpS func43 rfl fun c₀ cs hu=>?_
 have st:=St.of2 [b2,b3] h2 h3 n1
 apply wpS_seq
 apply wpS_region
 simp [wpOpsS,go_sem,recoverD,hu,ntmps43,Exit.thenS]
 apply wpS_seq
 apply wpS_region
 simp [wpOpsS,go_sem,Exit.thenS]
 refine wpS_cond (t:=true) (by simp [Act.eval,Array.replicate]) ?_
 simp only [if_true]
 refine wpS_of_wp ?_
 refine wp_of_vc (n:=(9,[])) (kn:=[(0,.pointer (some ⟨b2,0,none⟩)),(1,.pointer (some ⟨b3,0,none⟩)),(2,.iface 126 (.agg #[.int .i64 p,.int .i64 r]))]) (K.of (by rfl) ?_) ?_
 ·intro i v hv
  simp only [find] at hv
  repeat' split at hv
  all_goals first|(rename_i hh;have hh':=Nat.eq_of_beq_eq_true hh;subst hh';cases hv;rfl)|simp at hv
 refine vc_region ?_
 refine ym ?_
 refine vy (y_ta rfl underlying126) ?_
 refine vy (y_fldA (vs:=[_,_]) rfl underlying126 rfl rfl isAgg29 sizeOf29 rfl) ?_
 refine vc_e (ests st 0 [_,_] sizeOf29 ?_)
 intro w st;dsimp only [setNth,wr] at st
 refine vc_e (est st 1 sizeOf4 ?_)
 intro w st;dsimp only [setNth,wr] at st
 refine vc_end ?_
 intro a ha
 exact⟨ha.defers,_,rfl,.tuple #[],by simp [results,results43],⟨_,rfl⟩,rfl,st.res (i:=0) rfl,st.res (i:=1) rfl,st.chg⟩
theorem first_idle (args:List Value) (h3:args.length=2) (w:World):DefIdle Tryz.prog 43 args.toArray w (fun w'=>w'=w):=by
 refine callsD_of_wpS func43 rfl fun c₀ cs hu=>?_
 obtain⟨x,y,rfl⟩:∃ x y,args=[x,y]:=by
  match args,h3 with
  | [x,y],_=>exact⟨x,y,rfl⟩
 apply wpS_seq
 apply wpS_region
 simp [wpOpsS,go_sem,recoverD,hu,ntmps43,Exit.thenS]
 apply wpS_seq
 apply wpS_region
 simp [wpOpsS,go_sem,Exit.thenS]
 refine wpS_cond (t:=false) (by simp [Act.eval,Array.replicate]) ?_
 simp only [Bool.false_eq_true,if_false]
 refine wpS_of_wp (wp_skip ?_)
 cases c₀
 simp_all [bodyPostS,results,results43]
theorem first_pan {w0 w:World} {b2 b3:Nat} {p r:Int} {kn:Kn} {c:Bool} (hc:c=false) (h2:w.heap[b2]?=some (.cells [.int .i64 0,.int .i64 0].toArray 29 (0,0))) (h3:w.heap[b3]?=some (.cells [.bool false].toArray 4 (0,0)))
    (n1:b2≠b3) (l2:w0.heap.size≤b2) (l3:w0.heap.size≤b3) (ch:Chg [] w0 w) (k2:find kn 2=some (.pointer (some ⟨b2,0,none⟩))) (k3:find kn 3=some (.pointer (some ⟨b3,0,none⟩))) :
  PanK (121,[⟨.fn (.func 43) (List.toArray [.pointer (some ⟨b2,0,none⟩),.pointer (some ⟨b3,0,none⟩)]),#[]⟩]) kn (bodyPostD Tryz.prog Tryz.f19 fun e w'=>∃ v,e=.returned v∧((∃ (p r:Int),v=.tuple #[.agg #[.int .i64 p,.int .i64 r],.bool (!c)])∧Chg [] w0 w')) (.iface 126 (.agg #[.int .i64 p,.int .i64 r])) w:=by
 refine pan_leave call43 (first_catch b2 b3 p r _ _ rfl rfl w h2 h3 n1) (fun w2 hcc=>?_)
 obtain⟨g2,g3,c2⟩:=hcc
 have st2:=St.of2 [] g2 g3 n1
 subst hc
 exact⟨_,results2 st2 results19 (.cell 0 k2 rfl isAgg29 sizeOf29) (.cell1 1 k3 rfl isAgg4 rfl),_,rfl,⟨_,_,rfl⟩,ch.trans' c2 (by simp [l2,l3])⟩
theorem kv1_get1 (l:List Wd) (s:Wd):∃ a:Int,(getF (kv1 l) s).getD (.int .i64 0)=.int .i64 a∧(a > 0↔s∈l):=by
 obtain⟨a,h1,h2,h3,h4⟩:=kv1_get l s
 refine⟨a,h1,?_⟩
 constructor
 ·intro h
  refine Decidable.byContradiction fun hn=>?_
  have:=h4.2 hn
  omega
 ·intro h
  have:a≠0:=fun e=>h4.1 e h
  omega
theorem ckTs_step {sh lk seen:List Wd} {l:List Th} {j:Nat} {x:Th} (hx:l[j]?=some x):ckTs sh lk (seen++(l.map (·.nm)).take j) (l.drop j) j=(!decide (x.nm∈seen++(l.map (·.nm)).take j) && decide (j≠8) && ckT sh lk x && ckTs sh lk (seen++(l.map (·.nm)).take (j+1)) (l.drop (j+1)) (j+1)):=by
 obtain⟨hj,e⟩:=List.getElem?_eq_some_iff.1 hx
 have h2:(l.map (·.nm)).take (j+1)=(l.map (·.nm)).take j++[x.nm]:=by
  have:(l.map (·.nm))[j]?=some x.nm:=by rw [List.getElem?_map,hx];rfl
  rw [List.take_add_one,this];rfl
 rw [List.drop_eq_getElem_cons hj,e,ckTs,h2,List.append_assoc]
theorem tnm_take {p:Pg} {j:Nat} {x:Th} (hx:p.threads[j]?=some x):(tnm p).take (j+1)=(tnm p).take j++[x.nm]:=by
 have:(tnm p)[j]?=some x.nm:=by rw [List.getElem?_map,hx];rfl
 rw [List.take_add_one,this];rfl
theorem ckP_eq (p:Pg):ckP p=(ckDs 64 [] p.shared 0 && ckDs 16 (nmL p.shared) p.locks 0 && ckTs (nmL p.shared) (nmL p.locks) (nmL p.shared++nmL p.locks) p.threads 0):=rfl
theorem thOk_name {t:Th} (h:thOk t=true):isName t.nm=true:=by
 simp only [thOk,Bool.and_eq_true] at h;exact h.1.1
theorem thOk_lo {t:Th} (h:thOk t=true):t.locals.all (dcOk false)=true:=by
 simp only [thOk,Bool.and_eq_true] at h;exact h.1.2
theorem thOk_body {t:Th} (h:thOk t=true):rightSs t.body 1=true:=by
 simp only [thOk,Bool.and_eq_true] at h;exact h.2
set_option maxHeartbeats 4000000 in
theorem cfirst_any (p:Pg) (n0:Nat) (os ol ot:Option Addr) (cs cl ct:Nat) (hpg:pgOk p=true) (hok:OkP p) (w:World) (hSh:DcRow w (·<n0) os p.shared) (hL:DcRow w (·<n0) ol p.locks) (hT:ThRow w (·<n0) ot p.threads) (hn0:n0≤w.heap.size):Ret Tryz.prog 19 [.agg [.slice os p.shared.length cs,.slice ol p.locks.length cl,.slice ot p.threads.length ct].toArray] w (fun v w'=>(∃ (f r:Int),v=.tuple #[.agg #[.int .i64 f,.int .i64 r],.bool (!ckP p)])∧Chg [] w w'):=by
 refine retd_of [_] func19 rfl ntmps19 rfl ?_
 have st:=St.init w []
 obtain⟨w0,rfl⟩:∃ w0,w0=w:=⟨_,rfl⟩
 obtain⟨⟨hp1,hp2⟩,hp3⟩:(p.shared.all (dcOk true)=true∧p.locks.all (dcOk false)=true)∧p.threads.all thOk=true:=by simpa [pgOk] using hpg
 have ls:=hok.1.1
 have ll:=hok.2.1.1
 have lt:=hok.2.2.1
 refine sr ?_
 refine vc_e (e_bx (l:=[_,_,_]) st rfl rfl rfl rfl ?_)
 intro b1 w hb1 st
 refine vc_e (e_al (l:=[_,_]) st rfl rfl zeroValue29 rfl ?_)
 intro b2 w hb2 st
 refine vc_e (e_al (l:=[_]) st rfl rfl zeroValue4 rfl ?_)
 intro b3 w hb3 st
 refine et (vk3 1 2 3 (sr ?_))
 refine vy (y_mf [] [_,_] rfl rfl) ?_
 refine vc_e (e_deferV rfl rfl rfl ?_)
 refine et (vk3 1 2 3 (vc_seq ?_))
 refine vdp_draw Tryz.mixed (.take 0 (.take 1 (.one 2 (.take 3 (.one 4 (.take 5 .done)))))) (fun w=>St _ _ _ w) st (by kernel_rfl) (by repeat (first|exact okD_bodyD results19 (by kernel_rfl)|refine okD_then ?_|refine okD_block ?_)) rfl (by kernel_rfl) ?_
 intro w cd;replace st:=st.call0 cd;clear cd
 have hS:=st
 iterate 2 refine vdp_take rfl rfl rfl hS (fun w st=>y_lda (vs:=[_,_,_]) st 2 rfl isAgg26 sizeOf26 rfl rfl) ?_
 refine vdp_do rfl (e_call [_] rfl rfl call44 rfl (cdeclared_any p os ol ot cs cl ct n0 _ (hSh.kept st.sm) (hL.kept st.sm) (hT.kept st.sm) ls ll lt) ?_)
 rintro _ w ⟨⟨mb,kv,rfl,hmb,hmk,hkv⟩,cw⟩
 replace st:=st.pushR cw (r:=.blk mb (mapF kv)) hmk (by simpa [blk_at] using hmb)
 refine vdp_next st.dr ?_;intro hS
 refine vdp_take rfl rfl rfl hS (fun w st=>ybd (.agg #[_,_,_,_,_]) [(0,_),(1,_)]) ?_
 refine vdp_do rfl (e_bx (l:=[_,_,_,_,_]) st rfl rfl rfl rfl ?_)
 intro b17 w hb17 st
 refine vdp_next st.dr ?_;intro hS
 refine vdp_take rfl rfl rfl hS (fun w st=>y_as rfl) ?_
 refine vdp_end ?_
 refine vq_then (vk4 1 2 3 4 (sr ?_))
 refine vc_e (e_mkF st rfl rfl ?_)
 intro b18 w hb18 st
 refine ya ?_
 refine et (vk5 1 2 3 4 5 (vc_seq (sr ?_)))
 refine vy (y_fa0 rfl underlying26 rfl rfl sizeOf23 rfl) ?_
 refine yl st 5 isAgg23 ?_
 refine vy (y_lensl rfl underlying23) ?_
 refine ym ?_
 refine et (vk8 1 2 3 4 5 20 21 22 (vc_block ?_))
 refine vc_loop (w0:=w0) (M:=[]) (fun (j:Nat)=>[(1,.pointer (some ⟨b1,0,none⟩)),(2,.pointer (some ⟨b2,0,none⟩)),(3,.pointer (some ⟨b3,0,none⟩)),(4,.pointer (some ⟨b17,0,none⟩)),(5,.map (some b18)),(20,.slice os p.shared.length cs),(21,.int .i64 (p.shared.length:Int)),(22,.int .i64 (j:Int))]) (fun j=>[.blk b18 (mapF (kv1 ([]++(nmL p.shared).take j))),.blk b17 (.cells [.slice os p.shared.length cs,.slice ol p.locks.length cl,.slice ot p.threads.length ct,.map (some mb),.map none].toArray 132 (0,0)),.blk mb (mapF kv),.blk b3 (.cells [.bool false].toArray 4 (0,0)),.blk b2 (.cells [.int .i64 0,.int .i64 0].toArray 29 (0,0)),.blk b1 (.cells [.slice os p.shared.length cs,.slice ol p.locks.length cl,.slice ot p.threads.length ct].toArray 26 (0,0))]) (fun j w'=>j≤p.shared.length∧ckDs 64 ([]) p.shared 0=ckDs 64 ([]++(nmL p.shared).take j) (p.shared.drop j) j) (fun j=>p.shared.length - j) 0 ⟨rfl,rfl,rfl,rfl,rfl,rfl,rfl,rfl,trivial⟩ (by simpa [kv1] using st) ⟨by simp,by simp⟩ ?_
 clear st
 rintro j w ⟨hj,hck⟩ st
 refine sr ?_
 refine vy (y_lss rfl rfl) ?_
 refine et (vk9 1 2 3 4 5 20 21 22 23 (vc_seq ?_))
 refine vif ?_ ?_
 ·intro hc23
  try simp only [dn] at hc23
  have stK:=st
  have hj2:j<p.shared.length:=by omega
  obtain⟨x,hx⟩:∃ x,p.shared[j]?=some x:=⟨_,List.getElem?_eq_getElem hj2⟩
  obtain⟨gb,go,rfl,hgS,hgl,hg⟩:=DcRow.at hSh (by omega)
  have hc:=hg j x hx
  have hdx:=List.all_eq_true.1 hp1 x (List.mem_of_getElem? hx)
  have hdn:=(show isName x.nm=true∧x.wd≠-9223372036854775808 by simpa [dcOk] using hdx)
  obtain⟨a,ha,ha2⟩:=kv1_get1 ([]++(nmL p.shared).take j) x.nm
  have hcs:=ckDs_step (mx:=64) (seen:=[]) hx
  have st:=stK
  refine kt (vk8 1 2 3 4 5 20 21 22 (vc_seq (vc_block (sr ?_))))
  refine ym ?_
  refine vy (y_ia (k:=j) rfl rfl underlying23 sizeOf134 rfl (by omega)) ?_
  refine vy (y_ldca (dcL x) rfl isAgg134 sizeOf134 rfl (fun i v hi=>st.chg.cell (hc i v hi) (by simp))) ?_
  refine vc_e (e_al (l:=[_,_,_]) st rfl rfl zeroValue134 rfl ?_)
  intro b7 w hb7 st
  refine ya ?_
  refine vc_e (ests st 0 [_,_,_] sizeOf134 ?_)
  intro w st;dsimp only [setNth,wr] at st
  refine et (vk10 1 2 3 4 5 6 7 20 21 22 (vc_seq ?_))
  refine vdp_draw Tryz.mixed (.take 0 (.take 1 (.take 2 (.take 3 (.take 7 (.take 8 (.take 9 (.take 10 (.take 11 (.take 13 (.take 14 (.take 16 (.take 17 (.take 18 (.one 4 (.take 5 (.one 6 (.one 12 (.one 15 (.one 19 (.one 20 (.one 21 .done)))))))))))))))))))))) (fun w=>St _ _ _ w) st (by kernel_rfl) (by repeat (first|exact okD_bodyD results19 (by kernel_rfl)|refine okD_then ?_|refine okD_block ?_)) rfl (by kernel_rfl) ?_
  intro w cd;replace st:=st.call0 cd;clear cd
  have hS:=st
  refine vdp_take rfl rfl rfl hS (fun w st=>y_faz (k:=2) rfl underlying134 rfl rfl sizeOf3 rfl) ?_
  refine vdp_take rfl rfl rfl hS (fun w st=>y_ld st 0 rfl isAgg3 rfl rfl) ?_
  refine vdp_take rfl rfl rfl hS (fun w st=>y_fa0 rfl underlying134 rfl rfl sizeOf9 rfl) ?_
  refine vdp_take rfl rfl rfl hS (fun w st=>y_ld st 0 rfl isAgg9 rfl rfl) ?_
  refine vdp_take rfl rfl rfl hS (fun w st=>y_mv rfl) ?_
  refine vdp_take rfl rfl rfl hS (fun w st=>y_fa0 rfl underlying134 rfl rfl sizeOf9 rfl) ?_
  refine vdp_take rfl rfl rfl hS (fun w st=>y_ld st 0 rfl isAgg9 rfl rfl) ?_
  refine vdp_take rfl rfl rfl hS (fun w st=>y_lkF1 (z:=.int .i64 0) st 1 rfl rfl rfl underlying130 underlying9 zeroValue3 ha) ?_
  refine vdp_take rfl rfl rfl hS (fun w st=>y_gtr rfl rfl) ?_
  refine vdp_take rfl rfl rfl hS (fun w st=>y_mv rfl) ?_
  refine vdp_take rfl rfl rfl hS (fun w st=>y_eqi rfl rfl) ?_
  refine vdp_take rfl rfl rfl hS (fun w st=>y_faz (k:=1) rfl underlying134 rfl rfl sizeOf2 rfl) ?_
  refine vdp_take rfl rfl rfl hS (fun w st=>y_ld st 0 rfl isAgg2 rfl rfl) ?_
  refine vdp_take rfl rfl rfl hS (fun w st=>y_eqi rfl rfl) ?_
  refine vdp_do rfl (e_call [_] rfl rfl call27 rfl (name_any _ _) ?_)
  rintro _ _ ⟨rfl,rfl⟩
  refine vdp_next (by exact st) ?_;intro hS
  refine vdp_take rfl rfl rfl hS (fun w st=>y_not rfl) ?_
  refine vdp_do rfl (e_call [_,_] rfl rfl call46 rfl (when_any _ _ _) ?_)
  rintro _ _ ⟨rfl,rfl⟩
  refine vdp_next (by exact st) ?_;intro hS
  refine vdp_do rfl (e_call [_,_] rfl rfl call46 rfl (when_any _ _ _) ?_)
  rintro _ _ ⟨rfl,rfl⟩
  refine vdp_next (by exact st) ?_;intro hS
  refine vdp_do rfl (e_call [_,_] rfl rfl call46 rfl (when_any _ _ _) ?_)
  rintro _ _ ⟨rfl,rfl⟩
  refine vdp_next (by exact st) ?_;intro hS
  refine vdp_do rfl (e_call [_,_] rfl rfl call46 rfl (when_any _ _ _) ?_)
  rintro _ _ ⟨rfl,rfl⟩
  refine vdp_next (by exact st) ?_;intro hS
  refine vdp_do rfl (e_bsn (l:=[(if (!isName x.nm)=true then 1 else 0),(if decide ((a:Int) > 0)=true then 2 else 0),(if decide (((j:Nat):Int)=64)=true then 3 else 0),(if decide ((x.wd:Int)= -9223372036854775808)=true then 4 else 0)].map iV) (E:=3) st [(0,_),(1,_),(2,_),(3,_)] rfl rfl rfl (fun w=>by simp [Instr.buildSlice,run_underlying underlying44,sizeOf3,zeroValue3,Instr.fill,newRow,newObj,Sem.run,go_sem,Value.cells]) ?_)
  intro b47 w hb47 st
  refine vdp_next st.dr ?_;intro hS
  refine vdp_do rfl (e_callk [_,_] rfl rfl call45 rfl (breaks_any _ [(if (!isName x.nm)=true then 1 else 0),(if decide ((a:Int) > 0)=true then 2 else 0),(if decide (((j:Nat):Int)=64)=true then 3 else 0),(if decide ((x.wd:Int)= -9223372036854775808)=true then 4 else 0)] (by intro y hy;simp only [List.mem_cons,List.not_mem_nil,or_false] at hy;rcases hy with rfl|rfl|rfl|rfl <;> split <;> decide) b47 _ _ (fun i v hi=>cell_blk (st.res (i:=0) rfl) (by rw [nth_eq];exact hi)) (by simp)) (by
      rintro _ w' ⟨hno,⟨f,r,rfl⟩,ch⟩
      have st':=st.call0 ch
      exact first_pan (by
        rw [← Bool.not_eq_true]
        intro hT
        rw [ckP_eq,Bool.and_eq_true,Bool.and_eq_true] at hT
        obtain⟨⟨hT0,hT1⟩,hT2⟩:=hT
        rw [hck,hcs] at hT0
        simp only [Bool.and_eq_true,Bool.not_eq_true',decide_eq_false_iff_not,decide_eq_true_eq] at hT0
        have g1:¬ a > 0:=fun h=>hT0.1.1 (ha2.1 h)
        have g2:=hT0.1.2
        refine hno ?_
        intro y hy
        simp only [List.mem_cons,List.not_mem_nil,or_false] at hy
        rcases hy with rfl|rfl|rfl|rfl
        · simp [hdn.1]
        · simp [g1]
        · simp;omega
        · simp [hdn.2]) (st'.res (i:=6) rfl) (st'.res (i:=5) rfl) (st'.bne 6 5 (by decide) rfl rfl) hb2 hb3 st'.chg rfl rfl) ?_)
  rintro _ w ⟨hz,cw⟩
  replace st:=st.call0 cw
  have hz:(!decide (x.nm∈[]++(nmL p.shared).take j))=true∧decide (j≠64)=true:=by
   have h2:=hz _ (.tail _ (.head _))
   have h3:=hz _ (.tail _ (.tail _ (.head _)))
   refine⟨?_,?_⟩
   ·have:¬ a > 0:=by
     intro h
     simp [h] at h2
    simpa using fun h=>this (ha2.2 h)
   ·rw [decide_eq_true_eq]
    intro e
    subst e
    simp at h3
  have hno2:getF (kv1 ([]++(nmL p.shared).take j)) x.nm=none:=kv1_no (by simpa using hz.1)
  refine vdp_next st.dr ?_;intro hS
  refine vdp_end ?_
  refine vq_then (vk9 1 2 3 4 5 7 20 21 22 (vc_region ?_))
  refine ym ?_
  refine vy (y_fa0 rfl underlying134 rfl rfl sizeOf9 rfl) ?_
  refine yl st 1 isAgg9 ?_
  refine vc_e (e_muF st 2 rfl rfl rfl rfl rfl (.inr hb18) underlying130 underlying9 hno2 ?_)
  intro w st;dsimp only [setNth] at st
  refine vc_end (vq_block (vq_then (vk8 1 2 3 4 5 20 21 22 (vc_region ?_))))
  refine vy (y_add rfl rfl (by omega:_=((j+1:Nat):Int)) (by omega) (by omega)) ?_
  refine ym ?_
  refine vc_end ?_
  refine vq_again (j+1)  ⟨rfl,rfl,rfl,rfl,rfl,rfl,rfl,rfl,trivial⟩ (by rw [nm_take hx,← List.append_assoc,kv1_app];exact st.drop (.cons _ (.cons _ (List.Sublist.refl _)))) ?_ ?_
  ·refine⟨by omega,?_⟩
   rw [hck,ckDs_step hx,hz.1,hz.2];rfl
  omega
 intro hc23
 try simp only [dn] at hc23
 have hj2:j=p.shared.length:=by omega
 subst hj2
 rw [List.drop_length] at hck
 replace hck:ckDs 64 ([]) p.shared 0=true:=hck
 rw [List.nil_append,List.take_of_length_le (by simp)] at st
 have hck0:=hck
 refine vc_exit (vq_then_exit (vq_then_exit (vq_block_exit (vq_then (vk5 1 2 3 4 5 (vc_seq (sr ?_)))))))
 refine yfz 1 underlying26 sizeOf23 ?_
 refine yl st 5 isAgg23 ?_
 refine vy (y_lensl rfl underlying23) ?_
 refine ym ?_
 refine et (vk8 1 2 3 4 5 54 55 56 (vc_block ?_))
 refine vc_loop (w0:=w0) (M:=[]) (fun (j:Nat)=>[(1,.pointer (some ⟨b1,0,none⟩)),(2,.pointer (some ⟨b2,0,none⟩)),(3,.pointer (some ⟨b3,0,none⟩)),(4,.pointer (some ⟨b17,0,none⟩)),(5,.map (some b18)),(54,.slice ol p.locks.length cl),(55,.int .i64 (p.locks.length:Int)),(56,.int .i64 (j:Int))]) (fun j=>[.blk b18 (mapF (kv1 (nmL p.shared++(nmL p.locks).take j))),.blk b17 (.cells [.slice os p.shared.length cs,.slice ol p.locks.length cl,.slice ot p.threads.length ct,.map (some mb),.map none].toArray 132 (0,0)),.blk mb (mapF kv),.blk b3 (.cells [.bool false].toArray 4 (0,0)),.blk b2 (.cells [.int .i64 0,.int .i64 0].toArray 29 (0,0)),.blk b1 (.cells [.slice os p.shared.length cs,.slice ol p.locks.length cl,.slice ot p.threads.length ct].toArray 26 (0,0))]) (fun j w'=>j≤p.locks.length∧ckDs 16 (nmL p.shared) p.locks 0=ckDs 16 (nmL p.shared++(nmL p.locks).take j) (p.locks.drop j) j) (fun j=>p.locks.length - j) 0 ⟨rfl,rfl,rfl,rfl,rfl,rfl,rfl,rfl,trivial⟩ (by simpa using st) ⟨by simp,by simp⟩ ?_
 clear st
 rintro j w ⟨hj,hck⟩ st
 refine sr ?_
 refine vy (y_lss rfl rfl) ?_
 refine et (vk9 1 2 3 4 5 54 55 56 57 (vc_seq ?_))
 refine vif ?_ ?_
 ·intro hc57
  try simp only [dn] at hc57
  have stK:=st
  have hj2:j<p.locks.length:=by omega
  obtain⟨x,hx⟩:∃ x,p.locks[j]?=some x:=⟨_,List.getElem?_eq_getElem hj2⟩
  obtain⟨gb,go,rfl,hgS,hgl,hg⟩:=DcRow.at hL (by omega)
  have hc:=hg j x hx
  have hdx:=List.all_eq_true.1 hp2 x (List.mem_of_getElem? hx)
  have hdn:=(show isName x.nm=true∧x.wd=0 by simpa [dcOk] using hdx)
  obtain⟨a,ha,ha2⟩:=kv1_get1 (nmL p.shared++(nmL p.locks).take j) x.nm
  have hcs:=ckDs_step (mx:=16) (seen:=nmL p.shared) hx
  have st:=stK
  refine kt (vk8 1 2 3 4 5 54 55 56 (vc_seq (vc_block (sr ?_))))
  refine ym ?_
  refine vy (y_ia (k:=j) rfl rfl underlying23 sizeOf134 rfl (by omega)) ?_
  refine vy (y_ldca (dcL x) rfl isAgg134 sizeOf134 rfl (fun i v hi=>st.chg.cell (hc i v hi) (by simp))) ?_
  refine vc_e (e_al (l:=[_,_,_]) st rfl rfl zeroValue134 rfl ?_)
  intro b9 w hb9 st
  refine ya ?_
  refine vc_e (ests st 0 [_,_,_] sizeOf134 ?_)
  intro w st;dsimp only [setNth,wr] at st
  refine et (vk10 1 2 3 4 5 8 9 54 55 56 (vc_seq ?_))
  refine vdp_draw Tryz.mixed (.take 0 (.take 1 (.take 2 (.take 3 (.take 7 (.take 8 (.take 9 (.take 10 (.take 11 (.take 13 (.take 14 (.take 16 (.take 17 (.take 18 (.one 4 (.take 5 (.one 6 (.one 12 (.one 15 (.one 19 (.one 20 (.one 21 .done)))))))))))))))))))))) (fun w=>St _ _ _ w) st (by kernel_rfl) (by repeat (first|exact okD_bodyD results19 (by kernel_rfl)|refine okD_then ?_|refine okD_block ?_)) rfl (by kernel_rfl) ?_
  intro w cd;replace st:=st.call0 cd;clear cd
  have hS:=st
  refine vdp_take rfl rfl rfl hS (fun w st=>y_faz (k:=2) rfl underlying134 rfl rfl sizeOf3 rfl) ?_
  refine vdp_take rfl rfl rfl hS (fun w st=>y_ld st 0 rfl isAgg3 rfl rfl) ?_
  refine vdp_take rfl rfl rfl hS (fun w st=>y_fa0 rfl underlying134 rfl rfl sizeOf9 rfl) ?_
  refine vdp_take rfl rfl rfl hS (fun w st=>y_ld st 0 rfl isAgg9 rfl rfl) ?_
  refine vdp_take rfl rfl rfl hS (fun w st=>y_mv rfl) ?_
  refine vdp_take rfl rfl rfl hS (fun w st=>y_fa0 rfl underlying134 rfl rfl sizeOf9 rfl) ?_
  refine vdp_take rfl rfl rfl hS (fun w st=>y_ld st 0 rfl isAgg9 rfl rfl) ?_
  refine vdp_take rfl rfl rfl hS (fun w st=>y_lkF1 (z:=.int .i64 0) st 1 rfl rfl rfl underlying130 underlying9 zeroValue3 ha) ?_
  refine vdp_take rfl rfl rfl hS (fun w st=>y_gtr rfl rfl) ?_
  refine vdp_take rfl rfl rfl hS (fun w st=>y_mv rfl) ?_
  refine vdp_take rfl rfl rfl hS (fun w st=>y_eqi rfl rfl) ?_
  refine vdp_take rfl rfl rfl hS (fun w st=>y_faz (k:=1) rfl underlying134 rfl rfl sizeOf2 rfl) ?_
  refine vdp_take rfl rfl rfl hS (fun w st=>y_ld st 0 rfl isAgg2 rfl rfl) ?_
  refine vdp_take rfl rfl rfl hS (fun w st=>y_nei rfl rfl) ?_
  refine vdp_do rfl (e_call [_] rfl rfl call27 rfl (name_any _ _) ?_)
  rintro _ _ ⟨rfl,rfl⟩
  refine vdp_next (by exact st) ?_;intro hS
  refine vdp_take rfl rfl rfl hS (fun w st=>y_not rfl) ?_
  refine vdp_do rfl (e_call [_,_] rfl rfl call46 rfl (when_any _ _ _) ?_)
  rintro _ _ ⟨rfl,rfl⟩
  refine vdp_next (by exact st) ?_;intro hS
  refine vdp_do rfl (e_call [_,_] rfl rfl call46 rfl (when_any _ _ _) ?_)
  rintro _ _ ⟨rfl,rfl⟩
  refine vdp_next (by exact st) ?_;intro hS
  refine vdp_do rfl (e_call [_,_] rfl rfl call46 rfl (when_any _ _ _) ?_)
  rintro _ _ ⟨rfl,rfl⟩
  refine vdp_next (by exact st) ?_;intro hS
  refine vdp_do rfl (e_call [_,_] rfl rfl call46 rfl (when_any _ _ _) ?_)
  rintro _ _ ⟨rfl,rfl⟩
  refine vdp_next (by exact st) ?_;intro hS
  refine vdp_do rfl (e_bsn (l:=[(if (!isName x.nm)=true then 1 else 0),(if decide ((a:Int) > 0)=true then 2 else 0),(if decide (((j:Nat):Int)=16)=true then 3 else 0),(if (!decide ((x.wd:Int)=0))=true then 4 else 0)].map iV) (E:=3) st [(0,_),(1,_),(2,_),(3,_)] rfl rfl rfl (fun w=>by simp [Instr.buildSlice,run_underlying underlying44,sizeOf3,zeroValue3,Instr.fill,newRow,newObj,Sem.run,go_sem,Value.cells]) ?_)
  intro b81 w hb81 st
  refine vdp_next st.dr ?_;intro hS
  refine vdp_do rfl (e_callk [_,_] rfl rfl call45 rfl (breaks_any _ [(if (!isName x.nm)=true then 1 else 0),(if decide ((a:Int) > 0)=true then 2 else 0),(if decide (((j:Nat):Int)=16)=true then 3 else 0),(if (!decide ((x.wd:Int)=0))=true then 4 else 0)] (by intro y hy;simp only [List.mem_cons,List.not_mem_nil,or_false] at hy;rcases hy with rfl|rfl|rfl|rfl <;> split <;> decide) b81 _ _ (fun i v hi=>cell_blk (st.res (i:=0) rfl) (by rw [nth_eq];exact hi)) (by simp)) (by
      rintro _ w' ⟨hno,⟨f,r,rfl⟩,ch⟩
      have st':=st.call0 ch
      exact first_pan (by
        rw [← Bool.not_eq_true]
        intro hT
        rw [ckP_eq,Bool.and_eq_true,Bool.and_eq_true] at hT
        obtain⟨⟨hT0,hT1⟩,hT2⟩:=hT
        rw [hck,hcs] at hT1
        simp only [Bool.and_eq_true,Bool.not_eq_true',decide_eq_false_iff_not,decide_eq_true_eq] at hT1
        have g1:¬ a > 0:=fun h=>hT1.1.1 (ha2.1 h)
        have g2:=hT1.1.2
        refine hno ?_
        intro y hy
        simp only [List.mem_cons,List.not_mem_nil,or_false] at hy
        rcases hy with rfl|rfl|rfl|rfl
        · simp [hdn.1]
        · simp [g1]
        · simp;omega
        · simp [hdn.2]) (st'.res (i:=6) rfl) (st'.res (i:=5) rfl) (st'.bne 6 5 (by decide) rfl rfl) hb2 hb3 st'.chg rfl rfl) ?_)
  rintro _ w ⟨hz,cw⟩
  replace st:=st.call0 cw
  have hz:(!decide (x.nm∈nmL p.shared++(nmL p.locks).take j))=true∧decide (j≠16)=true:=by
   have h2:=hz _ (.tail _ (.head _))
   have h3:=hz _ (.tail _ (.tail _ (.head _)))
   refine⟨?_,?_⟩
   ·have:¬ a > 0:=by
     intro h
     simp [h] at h2
    simpa using fun h=>this (ha2.2 h)
   ·rw [decide_eq_true_eq]
    intro e
    subst e
    simp at h3
  have hno2:getF (kv1 (nmL p.shared++(nmL p.locks).take j)) x.nm=none:=kv1_no (by simpa using hz.1)
  refine vdp_next st.dr ?_;intro hS
  refine vdp_end ?_
  refine vq_then (vk9 1 2 3 4 5 9 54 55 56 (vc_region ?_))
  refine ym ?_
  refine vy (y_fa0 rfl underlying134 rfl rfl sizeOf9 rfl) ?_
  refine yl st 1 isAgg9 ?_
  refine vc_e (e_muF st 2 rfl rfl rfl rfl rfl (.inr hb18) underlying130 underlying9 hno2 ?_)
  intro w st;dsimp only [setNth] at st
  refine vc_end (vq_block (vq_then (vk8 1 2 3 4 5 54 55 56 (vc_region ?_))))
  refine vy (y_add rfl rfl (by omega:_=((j+1:Nat):Int)) (by omega) (by omega)) ?_
  refine ym ?_
  refine vc_end ?_
  refine vq_again (j+1)  ⟨rfl,rfl,rfl,rfl,rfl,rfl,rfl,rfl,trivial⟩ (by rw [nm_take hx,← List.append_assoc,kv1_app];exact st.drop (.cons _ (.cons _ (List.Sublist.refl _)))) ?_ ?_
  ·refine⟨by omega,?_⟩
   rw [hck,ckDs_step hx,hz.1,hz.2];rfl
  omega
 intro hc57
 try simp only [dn] at hc57
 have hj2:j=p.locks.length:=by omega
 subst hj2
 rw [List.drop_length] at hck
 replace hck:ckDs 16 (nmL p.shared) p.locks 0=true:=hck
 rw [List.take_of_length_le (by simp)] at st
 have hck1:=hck
 have hnd:(nmL p.shared++nmL p.locks).Nodup:=ckDs_nd hck1 (by simpa using ckDs_nd hck0 List.nodup_nil)
 refine vc_exit (vq_then_exit (vq_then_exit (vq_block_exit (vq_then (vk5 1 2 3 4 5 (vc_seq (sr ?_)))))))
 refine yfz 2 underlying26 sizeOf24 ?_
 refine yl st 5 isAgg24 ?_
 refine vy (y_lensl rfl underlying24) ?_
 refine ym ?_
 refine et (vk7 2 3 4 5 88 89 90 (vc_block ?_))
 refine vc_loop (w0:=w0) (M:=[]) (fun (y:Nat×Value)=>[(2,.pointer (some ⟨b2,0,none⟩)),(3,.pointer (some ⟨b3,0,none⟩)),(4,.pointer (some ⟨b17,0,none⟩)),(5,.map (some b18)),(88,.slice ot p.threads.length ct),(89,.int .i64 (p.threads.length:Int)),(90,.int .i64 (y.1:Int))]) (fun y=>[.blk b18 (mapF (kv1 (nmL p.shared++nmL p.locks++(tnm p).take y.1))),.blk b17 (.cells [.slice os p.shared.length cs,.slice ol p.locks.length cl,.slice ot p.threads.length ct,.map (some mb),y.2].toArray 132 (0,0)),.blk mb (mapF kv),.blk b3 (.cells [.bool false].toArray 4 (0,0)),.blk b2 (.cells [.int .i64 0,.int .i64 0].toArray 29 (0,0))]) (fun y w'=>y.1≤p.threads.length∧ckTs (nmL p.shared) (nmL p.locks) (nmL p.shared++nmL p.locks) p.threads 0=ckTs (nmL p.shared) (nmL p.locks) (nmL p.shared++nmL p.locks++(tnm p).take y.1) (p.threads.drop y.1) y.1) (fun y=>p.threads.length - y.1) (0,.map none) ⟨rfl,rfl,rfl,rfl,rfl,rfl,rfl,trivial⟩ (by simpa using st.drop (by repeat (first|exact List.Sublist.slnil|exact List.nil_sublist _|apply List.Sublist.cons_cons))) ⟨by simp,by simp⟩ ?_
 clear st
 rintro ⟨j,lv⟩ w ⟨hj,hck⟩ st
 dsimp only at hj hck st ⊢
 refine sr ?_
 refine vy (y_lss rfl rfl) ?_
 refine et (vk8 2 3 4 5 88 89 90 91 (vc_seq ?_))
 refine vif ?_ ?_
 ·intro hc91
  try simp only [dn] at hc91
  have stK:=st
  have hj2:j<p.threads.length:=by omega
  obtain⟨x,hx⟩:∃ x,p.threads[j]?=some x:=⟨_,List.getElem?_eq_getElem hj2⟩
  obtain⟨gb,go,rfl,hgS,hgl,hg⟩:=ThRow.at hT (by omega)
  obtain⟨tl,tb,tc,td,hCx,hBx,hc⟩:=hg j x hx
  have hdx:=List.all_eq_true.1 hp3 x (List.mem_of_getElem? hx)
  have hdn:isName x.nm=true:=thOk_name hdx
  obtain⟨a,ha,ha2⟩:=kv1_get1 (nmL p.shared++nmL p.locks++(tnm p).take j) x.nm
  have hcs:=ckTs_step (sh:=nmL p.shared) (lk:=nmL p.locks) (seen:=nmL p.shared++nmL p.locks) hx
  have st:=stK
  refine kt (vk7 2 3 4 5 88 89 90 (vc_seq (vc_block (sr ?_))))
  refine ym ?_
  refine vy (y_ia (k:=j) rfl rfl underlying24 sizeOf50 rfl (by omega)) ?_
  refine vy (y_ldca (thL x tl tb tc td) rfl isAgg50 sizeOf50 rfl (fun i v hi=>st.chg.cell (hc i v hi) (by simp))) ?_
  refine vc_e (e_al (l:=[_,_,_,_]) st rfl rfl zeroValue50 rfl ?_)
  intro b11 w hb11 st
  refine ya ?_
  refine vc_e (ests st 0 [_,_,_,_] sizeOf50 ?_)
  intro w st;dsimp only [setNth,wr] at st
  refine et (vk9 2 3 4 5 10 11 88 89 90 (vc_seq ?_))
  refine vdp_draw Tryz.mixed (.take 0 (.take 1 (.take 2 (.take 3 (.take 7 (.take 8 (.take 9 (.take 10 (.take 11 (.take 13 (.take 14 (.one 4 (.take 5 (.one 6 (.one 12 (.one 15 (.one 16 (.one 17 .done)))))))))))))))))) (fun w=>St _ _ _ w) st (by kernel_rfl) (by repeat (first|exact okD_bodyD results19 (by kernel_rfl)|refine okD_then ?_|refine okD_block ?_)) rfl (by kernel_rfl) ?_
  intro w cd;replace st:=st.call0 cd;clear cd
  have hS:=st
  refine vdp_take rfl rfl rfl hS (fun w st=>y_faz (k:=3) rfl underlying50 rfl rfl sizeOf3 rfl) ?_
  refine vdp_take rfl rfl rfl hS (fun w st=>y_ld st 0 rfl isAgg3 rfl rfl) ?_
  refine vdp_take rfl rfl rfl hS (fun w st=>y_fa0 rfl underlying50 rfl rfl sizeOf9 rfl) ?_
  refine vdp_take rfl rfl rfl hS (fun w st=>y_ld st 0 rfl isAgg9 rfl rfl) ?_
  refine vdp_take rfl rfl rfl hS (fun w st=>y_mv rfl) ?_
  refine vdp_take rfl rfl rfl hS (fun w st=>y_fa0 rfl underlying50 rfl rfl sizeOf9 rfl) ?_
  refine vdp_take rfl rfl rfl hS (fun w st=>y_ld st 0 rfl isAgg9 rfl rfl) ?_
  refine vdp_take rfl rfl rfl hS (fun w st=>y_lkF1 (z:=.int .i64 0) st 1 rfl rfl rfl underlying130 underlying9 zeroValue3 ha) ?_
  refine vdp_take rfl rfl rfl hS (fun w st=>y_gtr rfl rfl) ?_
  refine vdp_take rfl rfl rfl hS (fun w st=>y_mv rfl) ?_
  refine vdp_take rfl rfl rfl hS (fun w st=>y_eqi rfl rfl) ?_
  refine vdp_do rfl (e_call [_] rfl rfl call27 rfl (name_any _ _) ?_)
  rintro _ _ ⟨rfl,rfl⟩
  refine vdp_next (by exact st) ?_;intro hS
  refine vdp_take rfl rfl rfl hS (fun w st=>y_not rfl) ?_
  refine vdp_do rfl (e_call [_,_] rfl rfl call46 rfl (when_any _ _ _) ?_)
  rintro _ _ ⟨rfl,rfl⟩
  refine vdp_next (by exact st) ?_;intro hS
  refine vdp_do rfl (e_call [_,_] rfl rfl call46 rfl (when_any _ _ _) ?_)
  rintro _ _ ⟨rfl,rfl⟩
  refine vdp_next (by exact st) ?_;intro hS
  refine vdp_do rfl (e_call [_,_] rfl rfl call46 rfl (when_any _ _ _) ?_)
  rintro _ _ ⟨rfl,rfl⟩
  refine vdp_next (by exact st) ?_;intro hS
  refine vdp_do rfl (e_bsn (l:=[(if (!isName x.nm)=true then 1 else 0),(if decide ((a:Int) > 0)=true then 2 else 0),(if decide (((j:Nat):Int)=8)=true then 3 else 0)].map iV) (E:=3) st [(0,_),(1,_),(2,_)] rfl rfl rfl (fun w=>by simp [Instr.buildSlice,run_underlying underlying44,sizeOf3,zeroValue3,Instr.fill,newRow,newObj,Sem.run,go_sem,Value.cells]) ?_)
  intro b111 w hb111 st
  refine vdp_next st.dr ?_;intro hS
  refine vdp_do rfl (e_callk [_,_] rfl rfl call45 rfl (breaks_any _ [(if (!isName x.nm)=true then 1 else 0),(if decide ((a:Int) > 0)=true then 2 else 0),(if decide (((j:Nat):Int)=8)=true then 3 else 0)] (by intro y hy;simp only [List.mem_cons,List.not_mem_nil,or_false] at hy;rcases hy with rfl|rfl|rfl <;> split <;> decide) b111 _ _ (fun i v hi=>cell_blk (st.res (i:=0) rfl) (by rw [nth_eq];exact hi)) (by simp)) (by
      rintro _ w' ⟨hno,⟨f,r,rfl⟩,ch⟩
      have st':=st.call0 ch
      exact first_pan (by
        rw [← Bool.not_eq_true]
        intro hT
        rw [ckP_eq,Bool.and_eq_true,Bool.and_eq_true] at hT
        obtain⟨⟨hT0,hT1⟩,hT2⟩:=hT
        rw [hck,hcs] at hT2
        simp only [Bool.and_eq_true,Bool.not_eq_true',decide_eq_false_iff_not,decide_eq_true_eq] at hT2
        have g1:¬ a > 0:=fun h=>hT2.1.1.1 (ha2.1 h)
        have g2:=hT2.1.1.2
        refine hno ?_
        intro y hy
        simp only [List.mem_cons,List.not_mem_nil,or_false] at hy
        rcases hy with rfl|rfl|rfl
        · simp [hdn]
        · simp [g1]
        · simp;omega) (st'.res (i:=6) rfl) (st'.res (i:=5) rfl) (st'.bne 6 5 (by decide) rfl rfl) hb2 hb3 st'.chg rfl rfl) ?_)
  rintro _ w ⟨hz,cw⟩
  replace st:=st.call0 cw
  have hz:(!decide (x.nm∈nmL p.shared++nmL p.locks++(tnm p).take j))=true∧decide (j≠8)=true:=by
   have h2:=hz _ (.tail _ (.head _))
   have h3:=hz _ (.tail _ (.tail _ (.head _)))
   refine⟨?_,?_⟩
   ·have:¬ a > 0:=by
     intro h
     simp [h] at h2
    simpa using fun h=>this (ha2.2 h)
   ·rw [decide_eq_true_eq]
    intro e
    subst e
    simp at h3
  have hno2:getF (kv1 (nmL p.shared++nmL p.locks++(tnm p).take j)) x.nm=none:=kv1_no (by simpa using hz.1)
  refine vdp_next st.dr ?_;intro hS
  refine vdp_end ?_
  refine vq_then (vk8 2 3 4 5 11 88 89 90 (sr ?_))
  refine ym ?_
  refine vy (y_fa0 rfl underlying50 rfl rfl sizeOf9 rfl) ?_
  refine yl st 1 isAgg9 ?_
  refine vc_e (e_muF st 2 rfl rfl rfl rfl rfl (.inr hb18) underlying130 underlying9 hno2 ?_)
  intro w st;dsimp only [setNth] at st
  refine et (vk8 2 3 4 5 11 88 89 90 (vc_region ?_))
  refine ym ?_
  refine yla st 1 [_,_,_,_] isAgg50 sizeOf50 ?_
  refine vc_e (e_callk [_,_] rfl rfl call47 rfl (cthread_any p x n0 b17 mb os ol tl tb cs cl tc td _ _ kv hkv hnd (thOk_lo hdx) (thOk_body hdx) (hok.2.2.2 j x hx).2.1 ls ll (hok.2.2.2 j x hx).1.1 _ (hSh.kept st.sm) (hL.kept st.sm) (hCx.kept st.sm) (hBx.kept st.sm) (st.res (i:=3) rfl) (st.res (i:=4) rfl) (st.bne 3 4 (by decide) rfl rfl) (Nat.le_trans hn0 hb17)) (by
      rintro _ w' ⟨hno,⟨f,r,rfl⟩,ch⟩
      have st':=st.lostIf (o:=mapF []) (p:=False) (i:=3) rfl ch (.inr hb17) id
      dsimp only [setNth] at st'
      exact first_pan (by
        rw [ckP_eq,hck,hcs,hno];simp) (st'.res (i:=6) rfl) (st'.res (i:=5) rfl) (st'.bne 6 5 (by decide) rfl rfl) hb2 hb3 st'.chg rfl rfl) ?_)
  rintro _ w ⟨hct,⟨lv',hlv⟩,cw⟩
  replace st:=st.swap (i:=3) (r':=.blk b17 (.cells [.slice os p.shared.length cs,.slice ol p.locks.length cl,.slice (some ⟨gb,go,none⟩) p.threads.length ct,.map (some mb),lv'].toArray 132 (0,0))) rfl cw (fun k hk=>hk) (by simpa using hb17) (fun k hk=>.inl hk) (by exact hlv)
  dsimp only [setNth] at st
  refine vc_end (vq_block (vq_then (vk7 2 3 4 5 88 89 90 (vc_region ?_))))
  refine vy (y_add rfl rfl (by omega:_=((j+1:Nat):Int)) (by omega) (by omega)) ?_
  refine ym ?_
  refine vc_end ?_
  refine vq_again (j+1,lv')  ⟨rfl,rfl,rfl,rfl,rfl,rfl,rfl,trivial⟩ (by rw [tnm_take hx,← List.append_assoc,kv1_app];exact st.drop (.cons _ (.cons _ (List.Sublist.refl _)))) ?_ ?_
  ·refine⟨by dsimp only;omega,?_⟩
   dsimp only
   rw [hck,hcs,hz.1,hz.2,hct];rfl
  dsimp only;omega
 intro hc91
 try simp only [dn] at hc91
 have hj2:j=p.threads.length:=by omega
 subst hj2
 rw [List.drop_length] at hck
 replace hck:ckTs (nmL p.shared) (nmL p.locks) (nmL p.shared++nmL p.locks) p.threads 0=true:=hck
 refine vc_exit (vq_then_exit (vq_then_exit (vq_block_exit (vq_then (vk2 2 3 (sr ?_))))))
 refine vy (ybd (.agg #[_,_]) []) ?_
 refine vc_e (ests st 4 [_,_] sizeOf29 ?_)
 intro w st;dsimp only [setNth,wr] at st
 refine vc_e (est st 3 sizeOf4 ?_)
 intro w st;dsimp only [setNth,wr] at st
 refine et (vk2 2 3 (vc_ret ?_))
 refine vqd_ret (.inl rfl) call43 (first_idle [.pointer (some ⟨b2,0,none⟩),.pointer (some ⟨b3,0,none⟩)] rfl _) (fun w2 e2=>?_)
 subst e2
 exact⟨_,results2 st results19 (.cell 4 rfl rfl isAgg29 sizeOf29) (.cell1 3 rfl rfl isAgg4 rfl),_,rfl,⟨_,_,by rw [ckP_eq,hck0,hck1,hck];rfl⟩,st.chg⟩
theorem ccheck_any (p:Pg) (n0:Nat) (os ol ot:Option Addr) (cs cl ct:Nat) (hpg:pgOk p=true) (hok:OkP p) (w:World) (hSh:DcRow w (·<n0) os p.shared) (hL:DcRow w (·<n0) ol p.locks) (hT:ThRow w (·<n0) ot p.threads) (hn0:n0≤w.heap.size):Ret Tryz.prog 6 [.agg [.slice os p.shared.length cs,.slice ol p.locks.length cl,.slice ot p.threads.length ct].toArray] w (fun v w'=>(∃ (f r:Int),v=.tuple #[.int .i64 (if ckP p=true then 0 else 50),.agg #[.int .i64 f,.int .i64 r]])∧Chg [] w w'):=by
 refine ret_of [_] func6 rfl ntmps6 rfl ?_
 have st:=St.init w []
 obtain⟨w0,rfl⟩:∃ w0,w0=w:=⟨_,rfl⟩
 refine sr ?_
 refine vc_e (e_bx (l:=[_,_,_]) st rfl rfl rfl rfl ?_)
 intro b1 w hb1 st
 refine ya ?_
 refine vc_e (e_al (l:=[_,_]) st rfl rfl zeroValue29 rfl ?_)
 intro b3 w hb3 st
 refine et (vk2 1 3 (vc_seq (sr ?_)))
 refine yla st 1 [_,_,_] isAgg26 sizeOf26 ?_
 refine vc_e (e_call [_] rfl rfl call19 rfl (cfirst_any p n0 os ol ot cs cl ct hpg hok _ (hSh.kept st.sm) (hL.kept st.sm) (hT.kept st.sm) (Nat.le_trans hn0 st.chg.size)) ?_)
 rintro _ w ⟨⟨f,r,rfl⟩,cw⟩
 replace st:=st.call0 cw
 refine ym ?_
 iterate 2 refine vy (y_ext rfl rfl) ?_
 refine vc_e (e_al (l:=[_,_]) st rfl rfl zeroValue29 rfl ?_)
 intro b4 w hb4 st
 refine vc_e (ests st 0 [_,_] sizeOf29 ?_)
 intro w st;dsimp only [setNth,wr] at st
 refine ya ?_
 refine et (vk3 3 4 5 (sr ?_))
 refine ym ?_
 refine et (vk3 3 4 11 ?_)
 refine vif ?_ ?_
 intro hc11
 try simp only [dn] at hc11
 have hcf:ckP p=false:=by simpa using hc11
 refine vc_seq ?_
 refine vdr Tryz.mixed [Yt 0,Yt 1,Nt 2] [.blk b4 (.cells [.int .i64 f,.int .i64 r].toArray 29 (0,0))] st ?_
 clear st;intro w st hS
 refine vp_take rfl rfl rfl hS (fun w st=>y_lda (vs:=[_,_]) st 0 rfl isAgg29 sizeOf29 rfl rfl) ?_
 refine vp_take rfl rfl rfl hS (fun w st=>y_as rfl) ?_
 refine vp_do rfl (ests st 1 [_,_] sizeOf29 ?_)
 intro w st;dsimp only [setNth,wr] at st
 refine vp_next st.dr ?_;intro hS
 refine vp_end (vq_then (vk2 2 3 (vc_ret (vq_then_ret ?_))))
 rotate_left
 intro hc11
 try simp only [dn] at hc11
 have hcf:ckP p=true:=by simpa using hc11
 refine kt (vk1 3 (sr ?_))
 refine vy (ybd (.agg #[_,_]) []) ?_
 refine ya ?_
 refine vc_e (ests st 1 [_,_] sizeOf29 ?_)
 intro w st;dsimp only [setNth,wr] at st
 refine et (vk2 2 3 (vc_ret ?_))
 all_goals
  refine vq_ret2 st (.inl rfl) results6 (.tmp rfl) (by exact .cell 1 rfl rfl isAgg29 sizeOf29) ?_
  refine⟨_,rfl,?_⟩
  exact⟨⟨_,_,by rw [hcf];rfl⟩,st.chg⟩
end Go.Proofs.YtkhpdpenlnhbiaaGreatDoor
/- A graph's nodes as cells. -/
namespace ParS
open Sx LexS Go Go.RowKit
theorem gnL_len:∀ (N:List Gn) (i:Nat),(gnL N i).length=N.length*13
  | [],i=>rfl
  | g::r,i=>by rw [gnL,List.length_append,gnL_len r];simp;omega
theorem gnL_snoc:∀ (N:List Gn) (x:Gn) (i:Nat),gnL (N++[x]) i=gnL N i++gnC x (i+N.length)
  | [],x,i=>by simp [gnL]
  | g::r,x,i=>by
    rw [List.cons_append,gnL,gnL,gnL_snoc r x (i+1),List.append_assoc,show i+1+r.length=i+(g::r).length by rw [List.length_cons];omega]
theorem gnL_set (b:Bool) (to:Nat):∀ (N:List Gn) (i k:Nat),k<N.length→gnL (N.modify k (setT b to)) i=(gnL N i).take (k*13+(if b=true then 11 else 10))++[.int .i64 (to:Int)]++(gnL N i).drop (k*13+(if b=true then 11 else 10)+1)
  | [],i,k,h=>by simp at h
  | g::r,i,0,h=>by
    cases b <;> simp [gnL,setT]
  | g::r,i,k+1,h=>by
    have ih:=gnL_set b to r (i+1) k (by simpa using h)
    rw [List.modify_succ_cons,gnL,gnL,ih]
    generalize hm:(if b=true then 11 else 10:Nat)=m
    have h13:(gnC g i).length=13:=rfl
    have a1:∀ n,(gnC g i).take ((gnC g i).length+n)=gnC g i:=fun n=>List.take_of_length_le (Nat.le_add_right _ _)
    have a2:∀ n,(gnC g i).drop ((gnC g i).length+n)=[]:=fun n=>List.drop_of_length_le (Nat.le_add_right _ _)
    rw [show (k+1)*13+m=(gnC g i).length+(k*13+m) by rw [h13];omega,show (gnC g i).length+(k*13+m)+1=(gnC g i).length+(k*13+m+1) by omega,List.take_append,List.drop_append]
    simp only [Nat.add_sub_cancel_left,List.append_assoc,a1,a2,List.nil_append]
theorem gnL_at:∀ {N:List Gn} {j:Nat} {x:Gn} (i:Nat),N[j]?=some x→((gnL N i).drop (j*13)).take 13=gnC x (i+j)
  | [],j,x,i,h=>by simp at h
  | g::r,0,x,i,h=>by
    simp only [List.getElem?_cons_zero,Option.some.injEq] at h
    subst h
    rw [gnL];rfl
  | g::r,j+1,x,i,h=>by
    rw [List.getElem?_cons_succ] at h
    have h13:(gnC g i).length=13:=rfl
    rw [gnL,show (j+1)*13=(gnC g i).length+j*13 by rw [h13];omega,List.drop_append]
    simp only [Nat.add_sub_cancel_left]
    have a2:∀ n,(gnC g i).drop ((gnC g i).length+n)=[]:=fun n=>List.drop_of_length_le (Nat.le_add_right _ _)
    rw [a2,List.nil_append,gnL_at (i+1) h,show i+1+j=i+(j+1) by omega]
theorem ptc_app (to:Nat) (N:List Gn) (op:List (Nat×Bool)) (f:Nat×Bool):leadL (op++[f]) to N=ptc to (leadL op to N) f:=by simp [leadL,List.foldl_append]
end ParS
